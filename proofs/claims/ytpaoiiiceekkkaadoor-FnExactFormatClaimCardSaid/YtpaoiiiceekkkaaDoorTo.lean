/- The laws' own copies of slices and structs. -/
import Derived.Test.YtpaoiiiceekkkaaDoorTab
import Derived.Deep.Light
namespace Go.Proofs.YtpaoiiiceekkkaaDoor
open Go.RowKit Go.G5

set_option maxHeartbeats 400000 in
theorem toIntS_any (v : Value) (l : List Int) (w : World) (hv : Ints w v l) (hl : l.length ≤ 1048576) :
    Calls Tryd.prog 34 #[v] w fun e w' => ∃ ad n c, e = .returned (.slice ad n c) ∧ OwnI 3 w.heap.size w' (.slice ad n c) l ∧ Below w.heap.size w w' := by
  have hr := hv.inR
  obtain ⟨a, b, off, c, rfl, hlen, hix, hc, hb⟩ := hv.view Tryd.prog 22 3 Tryd.underlying22 intElem
  go_enter Tryd.func34, Tryd.ntmps34
  go_wp2_with (at_make; refine wpList_makeI rfl _ _ _ rfl 3 Tryd.underlying22 intElem l.length _ _ rfl rfl rfl rfl (by omega) ?_; intro w1 hown hg)
  have hb1 : Below w.heap.size w w1 := (Below.refl _ _).grown hg (Nat.le_refl _) (by simp)
  have hsz := hb1.size
  go_loopw [4] (fun i wr => ∃ k : Nat, k ≤ l.length ∧ i = .int .i64 k ∧ OwnI 3 w.heap.size wr (.slice (some ⟨w.heap.size, 0, none⟩) l.length l.length) (l.take k ++ List.replicate (l.length - k) 0) ∧ Below w.heap.size w wr)
    (fun i _ => l.length - (intOf i).toNat)
  case atStart => exact ⟨0, Nat.zero_le _, rfl, by simpa using hown, hb1⟩
  case round =>
    obtain ⟨k, hk, rfl, hownr, hbr⟩ := hrel
    have hcr := cells_below hc hb hbr (Nat.le_refl _)
    by_cases hlt : k < l.length
    · have hown2 := hownr.stored (fill_len l k hk).symm k l[k] (hr _ (List.getElem_mem hlt))
      have hcell : ∃ u, wr.cell? ⟨w.heap.size, k, none⟩ = some u := ⟨_, hownr.cellAt (fill_len l k hk).symm k (by rw [fill_len l k hk]; exact hlt)⟩
      obtain ⟨u, hcell⟩ := hcell
      have hfr := hownr.frozenAt (fill_len l k hk).symm k
      rw [fill_step l k hlt] at hown2
      have H := Lib.hid hown2
      clear hown2 hownr hc hr
      go_wp2
      go_roundw
      case rel => exact ⟨k + 1, by omega, by go_num, H.out.1, hbr.grown H.out.2 hbr.size (by simp)⟩
      case measure => simp [intOf]; omega
    · have hkl : k = l.length := by omega
      subst hkl
      rw [fill_done] at hownr
      go_wp2
      go_ret
      exact ⟨_, _, _, rfl, hownr, hbr⟩

set_option maxHeartbeats 400000 in
theorem toFamily_any (n : Int) (v : Value) (l : List Int) (w : World) (hv : Ints w v l) (hl : l.length ≤ 1048576) :
    Calls Tryd.prog 20 #[.agg #[.int .i64 n, v]] w fun e w' => ∃ ad m c, e = .returned (.agg #[.int .i64 n, .slice ad m c]) ∧ OwnI 3 w.heap.size w' (.slice ad m c) l ∧ Below w.heap.size w w' := by
  obtain ⟨av, cv, rfl⟩ := hv.shape
  go_enter Tryd.func20, Tryd.ntmps20
  go_wp2_with (go_at_call 34; refine (toIntS_any _ l _ (hv.below (((Below.refl _ _).alloc (Nat.le_refl _) _).alloc (by first | omega | (simp; done) | (simp; omega)) _ |>.alloc (by first | omega | (simp; done) | (simp; omega)) _) (Nat.le_refl _)) hl).mono ?_; rintro e w1 ⟨ad, m, c, rfl, hown, hb⟩; obtain ⟨hc, hf⟩ := bcell hb; simp at hb; have hz := hb.size; simp at hz)
  simp at hown
  refine bodyPost_ret (v := .agg #[.int .i64 n, .slice ad m c]) (by simp [results, Tryd.results20, go_sem, hc]) rfl ⟨_, _, _, rfl, ?_, ?_⟩
  · exact ((((hown.setBelow (by first | omega | (simp; done) | (simp; omega)) _).setBelow (by first | omega | (simp; done) | (simp; omega)) _).setBelow (by first | omega | (simp; done) | (simp; omega)) _).mono (by omega))
  · refine Below.setCell (Below.setCell (Below.setCell ?_ (by first | omega | (simp; done) | (simp; omega)) _) (by first | omega | (simp; done) | (simp; omega)) _) (by first | omega | (simp; done) | (simp; omega)) _
    exact Below.trans (((Below.refl _ _).alloc (Nat.le_refl _) _).alloc (by first | omega | (simp; done) | (simp; omega)) _ |>.alloc (by first | omega | (simp; done) | (simp; omega)) _) (hb.mono (by omega))

set_option maxHeartbeats 400000 in
theorem toFunction_any (n : Int) (v : Value) (l : List Int) (w : World) (hv : Ints w v l) (hl : l.length ≤ 1048576) :
    Calls Tryd.prog 15 #[.agg #[.int .i64 n, v]] w fun e w' => ∃ ad m c, e = .returned (.agg #[.int .i64 n, .slice ad m c]) ∧ OwnI 3 w.heap.size w' (.slice ad m c) l ∧ Below w.heap.size w w' := by
  obtain ⟨av, cv, rfl⟩ := hv.shape
  go_enter Tryd.func15, Tryd.ntmps15
  go_wp2_with (go_at_call 34; refine (toIntS_any _ l _ (hv.below (((Below.refl _ _).alloc (Nat.le_refl _) _).alloc (by first | omega | (simp; done) | (simp; omega)) _ |>.alloc (by first | omega | (simp; done) | (simp; omega)) _) (Nat.le_refl _)) hl).mono ?_; rintro e w1 ⟨ad, m, c, rfl, hown, hb⟩; obtain ⟨hc, hf⟩ := bcell hb; simp at hb; have hz := hb.size; simp at hz)
  simp at hown
  refine bodyPost_ret (v := .agg #[.int .i64 n, .slice ad m c]) (by simp [results, Tryd.results15, go_sem, hc]) rfl ⟨_, _, _, rfl, ?_, ?_⟩
  · exact ((((hown.setBelow (by first | omega | (simp; done) | (simp; omega)) _).setBelow (by first | omega | (simp; done) | (simp; omega)) _).setBelow (by first | omega | (simp; done) | (simp; omega)) _).mono (by omega))
  · refine Below.setCell (Below.setCell (Below.setCell ?_ (by first | omega | (simp; done) | (simp; omega)) _) (by first | omega | (simp; done) | (simp; omega)) _) (by first | omega | (simp; done) | (simp; omega)) _
    exact Below.trans (((Below.refl _ _).alloc (Nat.le_refl _) _).alloc (by first | omega | (simp; done) | (simp; omega)) _ |>.alloc (by first | omega | (simp; done) | (simp; omega)) _) (hb.mono (by omega))

end Go.Proofs.YtpaoiiiceekkkaaDoor
