/- Smallest covers: the reference's. -/
import Derived.Test.YtpaoiiiceekkkaaDoorQ38
import Derived.Deep.RegionHeld3
section
namespace Go.Proofs.YtpaoiiiceekkkaaDoor
open Go.RowKit Go.G5

theorem OwnI.lit1 {E : TypeId} {B : Nat} (w : World) (y : Int) (hy : InR y) (hB : B ≤ w.heap.size) : OwnI E B (w.alloc (.cells #[.int .i64 y] E)) (.slice (some ⟨w.heap.size, 0, none⟩) 1 1) [y] :=
  ⟨World.ownsRow_lit w #[.int .i64 y] 1 hB (by decide) rfl, by intro q hq; simp only [List.mem_singleton] at hq; subst hq; exact hy⟩

theorem isub_is {a b : Int} (h0 : 0 ≤ a) : a - iand a b = idif a b := by
  have := @Nat.and_le_left a.toNat b.toNat
  unfold iand idif ndiff; omega

set_option maxHeartbeats 2000000 in
set_option maxRecDepth 100000 in
theorem l29Cover_any (l : List Int) (hl : l.length ≤ 1048576) (hm : ∀ s ∈ l, 0 ≤ s ∧ s < 64) : ∀ (k : Nat) (_ : k ≤ 60) (K : Int) (_ : K = k) (i : Nat) (_ : i ≤ l.length) (L : Int) (_ : 0 ≤ L) (_ : L < 64) (w : World) (v : Value) (_ : Ints w v l),
    Calls Tryd.prog 138 #[v, .int .i64 (i : Int), .int .i64 L, .int .i64 K] w fun e w' =>
      ∃ ad' i' cp', e = .returned (.tuple #[.slice ad' i' cp', .bool (covS (l.drop i) k L).isSome]) ∧ OwnI 3 w.heap.size w' (.slice ad' i' cp') ((covS (l.drop i) k L).getD []) ∧ Below w.heap.size w w' := by
  intro k
  induction k with
  | zero =>
    intro _ K hK i hi L h0 h1 w v hv
    obtain ⟨a, c, rfl⟩ := hv.shape
    have : K = 0 := hK
    subst this
    clear hK
    by_cases hL : L = 0
    · subst hL
      rw [covS_done]
      clear hm
      go_enter Tryd.func138, Tryd.ntmps138
      go_wp2
      go_ret2
      exact ⟨_, _, _, rfl, OwnI.lit0 w (Nat.le_refl _), (by repeat (first | exact Below.refl _ _ | (with_reducible refine Below.setCell ?_ (by first | omega | (simp; done) | (simp; omega)) _) | (with_reducible refine Below.alloc ?_ (by first | omega | (simp; done) | (simp; omega)) _) | (with_reducible refine Below.drewN' ?_ _) | (with_reducible refine Below.drew ?_) | (with_reducible assumption) | refine Below.trans ?_ (Below.mono (by assumption) (by first | omega | (simp; done) | (simp; omega)))))⟩
    · rw [covS_zero _ _ hL]
      have ht : (L == 0) = false := by simpa using hL
      clear hm hL
      go_enter Tryd.func138, Tryd.ntmps138
      go_wp2
      go_ret2
      exact ⟨_, _, _, rfl, OwnI.lit0 w (Nat.le_refl _), (by repeat (first | exact Below.refl _ _ | (with_reducible refine Below.setCell ?_ (by first | omega | (simp; done) | (simp; omega)) _) | (with_reducible refine Below.alloc ?_ (by first | omega | (simp; done) | (simp; omega)) _) | (with_reducible refine Below.drewN' ?_ _) | (with_reducible refine Below.drew ?_) | (with_reducible assumption) | refine Below.trans ?_ (Below.mono (by assumption) (by first | omega | (simp; done) | (simp; omega)))))⟩
  | succ k ih =>
    intro hk K hK i hi L h0 h1 w v hv
    by_cases hL : L = 0
    · obtain ⟨a, c, rfl⟩ := hv.shape
      subst hL
      rw [covS_done]
      clear hm ih
      go_enter Tryd.func138, Tryd.ntmps138
      go_wp2
      go_ret2
      exact ⟨_, _, _, rfl, OwnI.lit0 w (Nat.le_refl _), (by repeat (first | exact Below.refl _ _ | (with_reducible refine Below.setCell ?_ (by first | omega | (simp; done) | (simp; omega)) _) | (with_reducible refine Below.alloc ?_ (by first | omega | (simp; done) | (simp; omega)) _) | (with_reducible refine Below.drewN' ?_ _) | (with_reducible refine Below.drew ?_) | (with_reducible assumption) | refine Below.trans ?_ (Below.mono (by assumption) (by first | omega | (simp; done) | (simp; omega)))))⟩
    have ht : (L == 0) = false := by simpa using hL
    obtain ⟨a, b, off, c, rfl, hlen', hix, hc, hb⟩ := hv.view Tryd.prog 22 3 Tryd.underlying22 intElem
    have hkt : (K == 0) = false := by simp; omega
    have hKr : 1 ≤ K ∧ K ≤ 60 := by omega
    have hK1 := hKr.1
    have hK2 := hKr.2
    obtain ⟨q, hq⟩ : ∃ q, q = covS (l.drop i) (k + 1) L := ⟨_, rfl⟩
    rw [← hq]
    have HQ := Lib.hid hq
    have HM := Lib.hid hm
    have HK := Lib.hid hK
    have IH := Lib.hid ih
    have HL := Lib.hid hL
    clear hm hK ih hL hKr hq
    go_enter Tryd.func138, Tryd.ntmps138
    go_wp2_with fail
    go_loopw [10] (fun x wr => ∃ j : Nat, i ≤ j ∧ j ≤ l.length ∧ x = .int .i64 j ∧ covS (l.drop j) (k + 1) L = q ∧ Below w.heap.size w wr) (fun x _ => l.length - (intOf x).toNat)
    case atStart => exact ⟨i, Nat.le_refl _, hi, rfl, HQ.out.symm, Below.refl _ _⟩
    case round =>
      obtain ⟨j, hij, hj, rfl, hcv, B⟩ := hrel
      have HCV := Lib.hid hcv
      clear hcv
      have hck := cells_below hc hb B (Nat.le_refl _)
      by_cases hlt : j < l.length
      · have htj := HM.out _ (List.getElem_mem hlt)
        have hcj := hck j hlt
        have hdr : l.drop j = l[j] :: l.drop (j + 1) := List.drop_eq_getElem_cons hlt
        obtain ⟨s, hs⟩ : ∃ s, s = l[j] := ⟨_, rfl⟩
        rw [← hs] at htj hcj hdr
        have hs0 := htj.1
        have hs1 := htj.2
        have HDR := Lib.hid hdr
        have hA := iand_is hs0 (show s < 4611686018427387904 by omega) h0 (by omega)
        have hA2 := iand_is h0 (show L < 4611686018427387904 by omega) hs0 (by omega)
        have hB2 := iand_bd L s 64 h0 h1
        clear hdr hck htj hs
        by_cases hz : iand s L = 0
        · have htz : (iand s L == 0) = true := by simp [hz]
          have hnx : covS (l.drop (j + 1)) (k + 1) L = q := by
            rw [← HCV.out, HDR.out]
            simp only [covS, if_neg HL.out, if_pos hz]
          have HNX := Lib.hid hnx
          clear hnx hz
          go_wp2
          go_roundw
          case rel => exact ⟨j + 1, by omega, by omega, by go_num, HNX.out, B⟩
          case measure => simp [intOf]; omega
        · have htz : (iand s L == 0) = false := by simp [hz]
          obtain ⟨o, ho⟩ : ∃ o, o = covS (l.drop (j + 1)) k (idif L s) := ⟨_, rfl⟩
          have hno : o = none → covS (l.drop (j + 1)) (k + 1) L = q := fun e => by
            rw [← HCV.out, HDR.out]
            simp only [covS, if_neg HL.out, if_neg hz]
            rw [← ho, e]
          have hso : ∀ x, o = some x → q = some (s :: x) := fun x e => by
            rw [← HCV.out, HDR.out]
            simp only [covS, if_neg HL.out, if_neg hz]
            rw [← ho, e]
          have hlo : ∀ x, o = some x → x.length ≤ 60 := fun x e => by
            have := covS_len _ _ _ x (ho.symm.trans e)
            omega
          have HLO := Lib.hid hlo
          have HNO := Lib.hid hno
          have HSO := Lib.hid hso
          have hd := idif_bd L s 64 h0 h1
          have hih : ∀ (W : World), Ints W (.slice a l.length c) l → Calls Tryd.prog 138 #[.slice a l.length c, .int .i64 ((j : Int) + 1), .int .i64 (L - iand L s), .int .i64 (K - 1)] W fun e w' =>
              ∃ ad' i' cp', e = .returned (.tuple #[.slice ad' i' cp', .bool o.isSome]) ∧ OwnI 3 W.heap.size w' (.slice ad' i' cp') (o.getD []) ∧ Below W.heap.size W w' := by
            intro W hW
            have := IH.out (by omega) (K - 1) (by have := HK.out; omega) (j + 1) (by omega) (idif L s) hd.1 hd.2 W _ hW
            rw [← ho] at this
            rw [isub_is h0]
            exact this
          have HIH := Lib.hid hih
          have hvB := hv.below B (Nat.le_refl _)
          clear hno hso hih ho hz hd hlo
          go_wp2_with fail
          refine (HIH.out _ hvB).mono ?_
          rintro e w5 ⟨p5, i5, q5, rfl, o5, hb5⟩
          have B5 := B.after hb5 B.size
          have hcj5 := keep hb5 hcj
          cases o with
          | none =>
            have HN := Lib.hid (HNO.out rfl)
            go_wp2
            go_roundw
            case rel => exact ⟨j + 1, by omega, by omega, by go_num, HN.out, B5⟩
            case measure => simp [intOf]; omega
          | some x =>
            have HS := Lib.hid (HSO.out x rfl)
            have hlen5 := HLO.out x rfl
            have HO5 := Lib.hid o5
            clear hcj o5
            go_wp2_with (at_builtin; refine wpList_appendS rfl _ _ _ rfl 3 Tryd.underlying22 intElem w5.heap.size _ [s] rfl (OwnI.lit1 w5 s ⟨by omega, by omega⟩ (Nat.le_refl _)) _ x rfl (HO5.out.ints.alloc _) (by simp; omega) (by simp) ?_; intro v' w6 hown hgr; obtain ⟨av, nv, cv, rfl⟩ := hown.shape3)
            go_ret2
            have z5 := B5.size
            refine ⟨av, nv, cv, by rw [HS.out]; rfl, by rw [HS.out]; exact hown.mono B5.size, (B5.alloc B5.size _).grown hgr (by first | omega | (simp; done) | (simp; omega)) ?_⟩
            intro r hr
            have hr' : some w5.heap.size = some r := hr
            have := Option.some.inj hr'
            have := B5.size
            omega
      · have hq0 : q = none := by
          rw [← HCV.out, List.drop_eq_nil_of_le (by omega)]
          exact covS_nil _ _ HL.out
        have HQ0 := Lib.hid hq0
        clear hq0
        go_wp2
        go_ret2
        exact ⟨_, _, _, by rw [HQ0.out]; rfl, by rw [HQ0.out]; exact OwnI.lit0 wr B.size, B.alloc B.size _⟩

set_option maxHeartbeats 2000000 in
set_option maxRecDepth 100000 in
theorem smallestS_c (w : World) (g : Int) (v : Value) (l : List Int) (hv : Ints w v l) (hl0 : l.length ≤ 1048576) :
    Calls Tryd.prog 75 #[.agg #[.int .i64 g, v]] w fun e w' => ∃ ad i cp, e = .returned (.tuple #[.slice ad i cp, .bool (smallB g l)]) ∧ OwnI 3 w.heap.size w' (.slice ad i cp) (smallL g l) ∧ Below w.heap.size w w' := by
  obtain ⟨a, c, rfl⟩ := hv.shape
  obtain ⟨d0, d1, B1, z1⟩ := Box2.new w g (.slice a l.length c) 32
  obtain ⟨W0, hW0⟩ : ∃ W, W = w.alloc (.cells #[.int .i64 g, .slice a l.length c] 32) := ⟨_, rfl⟩
  rw [← hW0] at d0 d1 B1 z1
  cases hf : isFamB g l with
  | false =>
    have hx : smallOf g l = none := by unfold smallOf; rw [hf]; rfl
    have hxB : smallB g l = false := by unfold smallB; rw [hx]; rfl
    have hxL : smallL g l = [] := by unfold smallL; rw [hx]; rfl
    have HB := Lib.hid hxB
    have HL := Lib.hid hxL
    have HF := Lib.hid hf
    clear hx hxB hxL hf
    go_enter Tryd.func75, Tryd.ntmps75
    go_wp2
    rw [← hW0]
    clear hW0
    refine wp_loop_rounds 1 ?_
    rw [rounds_succ]
    go_wp2_with fail
    refine (isFamS_any g l _ _ (hv.below B1 (Nat.le_refl _))).mono ?_
    rintro e w2 ⟨rfl, hb2⟩
    rw [HF.out]
    have B2 := B1.after hb2 B1.size
    go_wp2
    go_ret2
    exact ⟨_, _, _, by rw [HB.out]; rfl, by rw [HL.out]; exact OwnI.lit0 w2 B2.size, B2.alloc B2.size _⟩
  | true =>
    obtain ⟨h0, h6, hs, _⟩ := famOk hf
    have hm := fam_mem hf
    obtain ⟨G, rfl⟩ := Int.eq_ofNat_of_zero_le h0
    have hG : G ≤ 6 := by omega
    have hp := two_pow G 6 hG
    have hp1 : (2 : Int) ^ G ≤ 64 := by simpa using hp.1
    have hp2 := hp.2
    obtain ⟨f, hfe⟩ : ∃ f, f = (2 : Int) ^ G - 1 := ⟨_, rfl⟩
    have hfu : ∀ W, Calls Tryd.prog 109 #[.int .i64 G] W fun e w' => e = .returned (.int .i64 f) ∧ W = w' := fun W => by
      rw [hfe]; exact l2Full_any G W (by omega)
    have hsf : smallOf G l = firstK (fun k => covS l k f) 0 (G + 1) := by unfold smallOf; rw [if_pos hf, hfe]; rfl
    obtain ⟨q, hq⟩ : ∃ q, q = firstK (fun k => covS l k f) 0 (G + 1) := ⟨_, rfl⟩
    rw [← hq] at hsf
    have hxB : smallB G l = q.isSome := by unfold smallB; rw [hsf]
    have hxL : smallL G l = q.getD [] := by unfold smallL; rw [hsf]
    have hf0 : 0 ≤ f := by omega
    have hf1 : f < 64 := by omega
    have HM := Lib.hid hm
    have HFU := Lib.hid hfu
    have HB := Lib.hid hxB
    have HL := Lib.hid hxL
    have HQ := Lib.hid hq
    have HF := Lib.hid hf
    clear hm hfu hxB hxL hq hsf hf hfe hs hp
    go_enter Tryd.func75, Tryd.ntmps75
    go_wp2_with fail
    rw [← hW0]
    clear hW0
    go_loopw [4] (fun i wr => ∃ k : Nat, k ≤ G + 1 ∧ i = .int .i64 k ∧ firstK (fun k => covS l k f) k (G + 1 - k) = q ∧ Box2 w wr G (.slice a l.length c)) (fun i _ => G + 1 - (intOf i).toNat)
    case atStart => exact ⟨0, Nat.zero_le _, rfl, HQ.out.symm, ⟨d0, d1, B1, z1⟩⟩
    case round =>
      obtain ⟨k, hk, rfl, hfk, X⟩ := hrel
      clear d0 d1 B1 z1
      have HFK := Lib.hid hfk
      clear hfk
      obtain ⟨d0, d1, B4, z4⟩ := X
      go_wp2_with fail
      refine (isFamS_any G l _ _ (hv.below B4 (Nat.le_refl _))).mono ?_
      rintro e w2 ⟨rfl, hb2⟩
      rw [HF.out]
      have X2 := (Box2.mk d0 d1 B4 z4).after hb2
      clear d0 d1 B4 z4 hb2
      obtain ⟨d0, d1, B4, z4⟩ := X2
      have zw : w.heap.size < w2.heap.size := z4
      clear z4
      by_cases hlt : k ≤ G
      · have hv4 := hv.below B4 (Nat.le_refl _)
        have hnx : firstK (fun k => covS l k f) k (G + 1 - k) = (match covS l k f with | some x => some x | none => firstK (fun k => covS l k f) (k + 1) (G + 1 - (k + 1))) := by
          rw [show G + 1 - k = (G + 1 - (k + 1)) + 1 by omega]; rfl
        have HNX := Lib.hid hnx
        obtain ⟨o, ho⟩ : ∃ o, o = covS l k f := ⟨_, rfl⟩
        have hco : ∀ (W : World), Ints W (.slice a l.length c) l → Calls Tryd.prog 138 #[.slice a l.length c, .int .i64 0, .int .i64 f, .int .i64 k] W fun e w' =>
            ∃ ad' i' cp', e = .returned (.tuple #[.slice ad' i' cp', .bool o.isSome]) ∧ OwnI 3 W.heap.size w' (.slice ad' i' cp') (o.getD []) ∧ Below W.heap.size W w' := fun W hW => by
          have := l29Cover_any l hl0 HM.out k (by omega) k rfl 0 (Nat.zero_le _) f hf0 hf1 W _ hW
          rw [List.drop_zero, ← ho] at this
          exact this
        have HCO := Lib.hid hco
        have HO := Lib.hid ho
        clear hnx hco ho
        go_wp2_with fail
        go_region_held3 (fun w' => w'.cell? ⟨w.heap.size, 0, none⟩ = some (.int .i64 G) ∧ w'.cell? ⟨w.heap.size, 1, none⟩ = some (.slice a l.length c)) (go_keep)
          (first
            | (go_at_call 109; refine (HFU.out _).mono ?_; rintro e w5 ⟨rfl, rfl⟩)
            | (go_at_call 138; refine (HCO.out _ (hv4.below (B := w2.heap.size) (by repeat (first | exact Below.refl _ _ | (with_reducible refine Below.setCell ?_ (by first | omega | (simp; done) | (simp; omega)) _) | (with_reducible refine Below.alloc ?_ (by first | omega | (simp; done) | (simp; omega)) _) | (with_reducible refine Below.drewN' ?_ _) | (with_reducible refine Below.drew ?_) | (with_reducible assumption) | refine Below.trans ?_ (Below.mono (by assumption) (by first | omega | (simp; done) | (simp; omega))))) (Nat.le_refl _))).mono ?_; rintro e w6 ⟨p6, i6, q6, rfl, o6, hb6⟩; obtain ⟨hc6, hf6⟩ := bcellN hb6 w2.heap.size (by first | omega | (simp; done) | (simp; omega)); have z6 := hb6.size; (try simp at z6)))
        have B6 : Below w.heap.size w w6 := (by repeat (first | exact Below.refl _ _ | (with_reducible refine Below.setCell ?_ (by first | omega | (simp; done) | (simp; omega)) _) | (with_reducible refine Below.alloc ?_ (by first | omega | (simp; done) | (simp; omega)) _) | (with_reducible refine Below.drewN' ?_ _) | (with_reducible refine Below.drew ?_) | (with_reducible assumption) | refine Below.trans ?_ (Below.mono (by assumption) (by first | omega | (simp; done) | (simp; omega)))))
        have X6 : Box2 w w6 G (.slice a l.length c) := ⟨(hc6 _ _ zw).trans d0, (hc6 _ _ zw).trans d1, B6, by omega⟩
        have HX6 := Lib.hid X6
        have HO6 := Lib.hid o6
        clear X6 o6 hc6 hf6 d0 d1
        cases o with
        | none =>
          have hn2 : firstK (fun k => covS l k f) (k + 1) (G + 1 - (k + 1)) = q := by
            have h1 := HNX.out
            rw [← HO.out, HFK.out] at h1
            exact h1.symm
          have HN2 := Lib.hid hn2
          clear hn2
          go_wp2
          go_roundw
          case rel => exact ⟨k + 1, by omega, by go_num, HN2.out, HX6.out⟩
          case measure => simp [intOf]; omega
        | some x =>
          have hq2 : q = some x := by
            have h1 := HNX.out
            rw [← HO.out, HFK.out] at h1
            exact h1
          have HQ2 := Lib.hid hq2
          clear hq2
          go_wp2
          go_ret2
          exact ⟨p6, i6, q6, by rw [HB.out, HQ2.out]; rfl, by rw [HL.out, HQ2.out]; exact HO6.out.mono (by first | omega | (simp; done) | (simp; omega)), HX6.out.B⟩
      · have hq2 : q = none := by
          rw [← HFK.out, show G + 1 - k = 0 by omega]; rfl
        have HQ2 := Lib.hid hq2
        clear hq2
        go_wp2
        go_ret2
        exact ⟨_, _, _, by rw [HB.out, HQ2.out]; rfl, by rw [HL.out, HQ2.out]; exact OwnI.lit0 w2 B4.size, B4.alloc B4.size _⟩
end Go.Proofs.YtpaoiiiceekkkaaDoor
end
