/- Sunflowers: the search of the first program. -/
import Derived.Test.YtelmokapdkepbaaDoorQ33
section
namespace Go.Proofs.YtelmokapdkepbaaDoor
open Go.RowKit Go.G5

set_option maxHeartbeats 4000000 in
set_option maxRecDepth 100000 in
theorem findI_any : ∀ (n : Nat) (sets l : List Int) (sv lv : Value) (K : Int) (w : World) (B : Nat), sets.length = n → Ints w sv sets → OwnI 3 B w lv l → B ≤ w.heap.size → (∀ x ∈ sets, 0 ≤ x ∧ x < 64) → (∀ x ∈ l, 0 ≤ x ∧ x < 64) → l.length + sets.length ≤ 100 → InR K →
    Calls Tryd.prog 59 #[sv, lv, .int .i64 K] w fun e w' => ∃ ad i cp, e = .returned (.tuple #[.slice ad i cp, .bool (findG inFI sets l K).isSome]) ∧ OwnI 3 B w' (.slice ad i cp) ((findG inFI sets l K).getD []) ∧ Below w.heap.size w w' := by
  intro n
  induction n using Nat.strongRecOn with
  | _ n ih =>
    intro sets l sv lv K w B hn hv own hB hms hml hlen hK
    have hv0 := hv
    obtain ⟨a, b, off, c, rfl, hlen', hix, hc, hb⟩ := hv.view Tryd.prog 22 3 Tryd.underlying22 intElem
    obtain ⟨al, cl, rfl⟩ := own.shape
    have HN := Lib.hid hn
    clear hn
    by_cases hk : (l.length : Int) = K
    · have ht : ((l.length : Int) == K) = true := by simpa using hk
      have hr := findG_done inFI sets l K hk
      have HR := Lib.hid hr
      clear hr hk
      go_enter Tryd.func59, Tryd.ntmps59
      go_wp2
      go_ret2
      exact ⟨al, l.length, cl, by rw [HR.out]; rfl, by rw [HR.out]; exact own, Below.refl _ _⟩
    · have ht : ((l.length : Int) == K) = false := by simpa using hk
      have HK := Lib.hid hk
      have IH := Lib.hid ih
      have HMS := Lib.hid hms
      have HML := Lib.hid hml
      clear hk ih hms hml
      go_enter Tryd.func59, Tryd.ntmps59
      go_wp2_with fail
      go_loopw [19] (fun i wr => ∃ k : Nat, k ≤ sets.length ∧ i = .int .i64 k ∧ findG inFI (sets.drop k) l K = findG inFI sets l K ∧ Below w.heap.size w wr) (fun i _ => sets.length - (intOf i).toNat)
      case atStart => exact ⟨0, Nat.zero_le _, rfl, rfl, Below.refl _ _⟩
      case round =>
        obtain ⟨k, hk, rfl, hrest, Bw⟩ := hrel
        have H := Lib.hid hrest
        clear hrest
        have o := own.keep Bw
        by_cases hlt : k < sets.length
        · have hck := cells_below hc hb Bw (Nat.le_refl _) k hlt
          have hmk := HMS.out _ (List.getElem_mem hlt)
          have hdrop : sets.drop k = sets[k] :: sets.drop (k + 1) := List.drop_eq_getElem_cons hlt
          have hfind := findG_cons inFI sets[k] (sets.drop (k + 1)) l K HK.out
          rw [← hdrop, H.out] at hfind
          obtain ⟨x, hx⟩ : ∃ x, x = sets[k] := ⟨_, rfl⟩
          rw [← hx] at hck hmk hfind
          have hT := inFlower_any l _ x wr o.ints HML.out hmk
          have HX := Lib.hid hx
          have hixk := fun W => hix W k hlt
          have HT := Lib.hid hT
          clear hdrop hx hT
          cases hin : inFI l x with
          | false =>
            rw [hin] at hfind
            have HF := Lib.hid hfind
            have HI := Lib.hid hin
            clear hfind hin
            go_wp2_with (go_at_call 77; refine HT.out.mono ?_; rintro e w1 ⟨rfl, hb1⟩; rw [HI.out])
            go_roundw
            case rel => exact ⟨k + 1, by omega, by go_num, by rw [HF.out]; rfl, Bw.after hb1 Bw.size⟩
            case measure => simp [intOf]; omega
          | true =>
            rw [hin] at hfind
            have HI := Lib.hid hin
            have HFI := Lib.hid hfind
            clear hin hfind
            go_wp2_with (go_at_call 77; refine HT.out.mono ?_; rintro e w1 ⟨rfl, hb1⟩; rw [HI.out])
            have hfind := HFI.out
            have ow1 := o.keep hb1
            have Bw1 := Bw.after hb1 Bw.size
            obtain ⟨a', c', d1, d2⟩ := hv0.from 22 3 Tryd.underlying22 intElem (k + 1) hlt
            have hk1 : ((k + 1 : Nat) : Int) = (k : Int) + 1 := by omega
            simp only [hk1, List.length_drop] at d1
            have hdl : (sets.drop (k + 1)).length < n := by have := HN.out; rw [List.length_drop]; omega
            have hll : l.length + [x].length ≤ 17592186044416 := by simp; omega
            have hl2 : l.length ≤ 1048576 := by omega
            have hxr : InR x := ⟨by omega, by omega⟩
            have hmem2 : ∀ y ∈ l ++ [x], 0 ≤ y ∧ y < 64 := by
              intro y hy
              rcases List.mem_append.1 hy with hy | hy
              · exact HML.out y hy
              · rw [List.mem_singleton] at hy; rw [hy]; exact hmk
            have hrec : ∀ (v2 : Value) (w2 : World), OwnI 3 w1.heap.size w2 v2 (l ++ [x]) → Below w1.heap.size w1 w2 → Calls Tryd.prog 59 #[.slice a' (sets.drop (k + 1)).length c', v2, .int .i64 K] w2 fun e w' =>
                ∃ ad i cp, e = .returned (.tuple #[.slice ad i cp, .bool (findG inFI (sets.drop (k + 1)) (l ++ [x]) K).isSome]) ∧ OwnI 3 w1.heap.size w' (.slice ad i cp) ((findG inFI (sets.drop (k + 1)) (l ++ [x]) K).getD []) ∧ Below w2.heap.size w2 w' := fun v2 w2 h1 h2 =>
              IH.out _ hdl (sets.drop (k + 1)) (l ++ [x]) _ v2 K w2 w1.heap.size rfl (d2.below (Bw1.after h2 Bw1.size) (Nat.le_refl _)) h1 h2.size (fun y hy => HMS.out y (List.mem_of_mem_drop hy)) hmem2 (by rw [List.length_append, List.length_singleton, List.length_drop]; omega) hK
            obtain ⟨R, hR⟩ : ∃ R, R = findG inFI (sets.drop (k + 1)) (l ++ [x]) K := ⟨_, rfl⟩
            rw [← hR] at hfind
            simp only [← hR, List.length_drop] at hrec
            have HREC := Lib.hid hrec
            have HL := Lib.hid hl2
            have HLL := Lib.hid hll
            have HXR := Lib.hid hxr
            have hlt1 : (k : Int) + 1 ≤ (sets.length : Int) := by omega
            have yB := Bw1.size
            have hwr : IntKind.i64.wrap ((k : Int) + 1) = (k : Int) + 1 := by rw [IntKind.wrap_i64]; omega
            clear hrec hl2 hll hxr hR hmem2 d2 hdl hck
            cases R with
            | some y =>
              have HF := Lib.hid hfind
              clear hfind
              go_region_held3 (fun _ => True) (trivial)
                (first
                  | (go_at_call 75; refine (clone_any _ l _ ?_ HL.out).mono ?_; (first | (with_reducible exact ow1.ints.drew') | (with_reducible exact (ow1.ints.alloc _).drew')); rintro e1 wc ⟨p1, i1, q1, rfl, oc, bc⟩; first | (have cx := keep bc (cell_newD w1 3 (.int .i64 x)); have bb := (bl1 w1 (.cells #[.int .i64 x] 3)).drew.after bc (bl1 w1 (.cells #[.int .i64 x] 3)).drew.size; have ob := oc.mono (bl1 w1 (.cells #[.int .i64 x] 3)).drew.size) | (have bb := (Below.refl w1.heap.size w1).drew.after bc (Nat.le_refl _); have ob := oc.mono (Nat.le_refl w1.heap.size)))
                  | (refine step_put rfl _ _ _ rfl 3 Tryd.underlying22 intElem w1.heap.size (.slice p1 i1 q1) l rfl (.slice (some ⟨_, 0, none⟩) 1 1) [x] rfl ?_ ?_ HLL.out w1 ?_ (Nat.le_refl _) ?_; (first | (with_reducible exact ob) | (with_reducible exact ob.alloc _)); (refine Ints.one ?_ HXR.out; first | (with_reducible exact cell_new _ _ _ _ _ rfl) | (with_reducible exact cx)); (first | (with_reducible exact bb) | (with_reducible exact bb.alloc bb.size _)); (intro v2 w2 o2 b2 _))
                  | (go_at_call 59; with_reducible refine (HREC.out v2 w2 o2 b2).mono ?_; rintro e3 w3 ⟨p3, i3, q3, rfl, o3, b3⟩)
                )
              all_goals
                go_wp2
                go_ret2
                exact ⟨p3, i3, q3, by rw [HF.out]; rfl, by rw [HF.out]; exact o3.mono (by omega), (Bw1.after b2 Bw1.size).after b3 (Bw1.after b2 Bw1.size).size⟩
            | none =>
              have HF := Lib.hid hfind
              clear hfind
              go_region_held3 (fun _ => True) (trivial)
                (first
                  | (go_at_call 75; refine (clone_any _ l _ ?_ HL.out).mono ?_; (first | (with_reducible exact ow1.ints.drew') | (with_reducible exact (ow1.ints.alloc _).drew')); rintro e1 wc ⟨p1, i1, q1, rfl, oc, bc⟩; first | (have cx := keep bc (cell_newD w1 3 (.int .i64 x)); have bb := (bl1 w1 (.cells #[.int .i64 x] 3)).drew.after bc (bl1 w1 (.cells #[.int .i64 x] 3)).drew.size; have ob := oc.mono (bl1 w1 (.cells #[.int .i64 x] 3)).drew.size) | (have bb := (Below.refl w1.heap.size w1).drew.after bc (Nat.le_refl _); have ob := oc.mono (Nat.le_refl w1.heap.size)))
                  | (refine step_put rfl _ _ _ rfl 3 Tryd.underlying22 intElem w1.heap.size (.slice p1 i1 q1) l rfl (.slice (some ⟨_, 0, none⟩) 1 1) [x] rfl ?_ ?_ HLL.out w1 ?_ (Nat.le_refl _) ?_; (first | (with_reducible exact ob) | (with_reducible exact ob.alloc _)); (refine Ints.one ?_ HXR.out; first | (with_reducible exact cell_new _ _ _ _ _ rfl) | (with_reducible exact cx)); (first | (with_reducible exact bb) | (with_reducible exact bb.alloc bb.size _)); (intro v2 w2 o2 b2 _))
                  | (go_at_call 59; with_reducible refine (HREC.out v2 w2 o2 b2).mono ?_; rintro e3 w3 ⟨p3, i3, q3, rfl, o3, b3⟩)
                )
              all_goals
                go_wp2
                go_roundw
                case rel => exact ⟨k + 1, by omega, by go_num, by rw [HF.out]; rfl, (Bw1.after b2 Bw1.size).after b3 (Bw1.after b2 Bw1.size).size⟩
                case measure => simp [intOf]; omega
        · have hr : findG inFI sets l K = none := by
            rw [← H.out, List.drop_eq_nil_of_le (by omega)]; exact findG_nil _ _ _ HK.out
          have HR := Lib.hid hr
          clear hr
          go_wp2
          go_ret2
          exact ⟨none, 0, 0, by rw [HR.out]; rfl, by rw [HR.out]; exact OwnI.nil _ _ _, Bw⟩
end Go.Proofs.YtelmokapdkepbaaDoor
end
