/- Claims as texts: the first program. -/
import Derived.Test.YtpaoiiiceekkkaaDoorFmtP
import Derived.Deep.DeepCutAuto
namespace Go.Proofs.YtpaoiiiceekkkaaDoor
open Go.RowKit Go.G5

def listW : ByteArray := ⟨#[108, 105, 115, 116]⟩
def space : ByteArray := ⟨#[32]⟩
def lim (q : Int) : Int := max (-99999) (min 99999 q)
theorem lim_inR (q : Int) : InR (lim q) := by unfold lim; exact ⟨by omega, by omega⟩
def headL (k q : Int) (l : List Int) : List ByteArray := [claimWord k, itoaB (lim q), listW, listTx l]
def claimPs (k n1 : Int) (l1 : List Int) (n2 : Int) (l2 : List Int) (n3 : Int) (l3 : List Int) (q st : Int) (l4 : List Int) : List ByteArray :=
  headL k q l4 ++ partsL k (setTx n1 st) (funTx n1 l1) (funTx n2 l2) (famTx n3 l3)
def claimTx (k n1 : Int) (l1 : List Int) (n2 : Int) (l2 : List Int) (n3 : Int) (l3 : List Int) (q st : Int) (l4 : List Int) : ByteArray :=
  if Lib.containsS (claimPs k n1 l1 n2 l2 n3 l3 q st l4) ByteArray.empty = true then ByteArray.empty else joinB space (claimPs k n1 l1 n2 l2 n3 l3 q st l4)
theorem claimWord_size (k : Int) : (claimWord k).size ≤ 9 := by
  unfold claimWord
  repeat (split; (show _ ≤ 9; decide))
  decide
theorem partsL_size (k : Int) (S F G A : ByteArray) (hS : S.size ≤ 10000) (hF : F.size ≤ 10000) (hG : G.size ≤ 10000) (hA : A.size ≤ 10000) : (∀ x ∈ partsL k S F G A, x.size ≤ 10000) ∧ (partsL k S F G A).length ≤ 6 := by
  have w1 : setW.size ≤ 10000 := by decide
  have w2 : ofW.size ≤ 10000 := by decide
  have w3 : forW.size ≤ 10000 := by decide
  have w4 : andW.size ≤ 10000 := by decide
  unfold partsL
  split
  · simp_all
  · split
    · simp_all
    · split
      · simp_all
      · split <;> simp_all
theorem claimPs_size (k n1 : Int) (l1 : List Int) (n2 : Int) (l2 : List Int) (n3 : Int) (l3 : List Int) (q st : Int) (l4 : List Int) : (∀ x ∈ claimPs k n1 l1 n2 l2 n3 l3 q st l4, x.size ≤ 10000) ∧ (claimPs k n1 l1 n2 l2 n3 l3 q st l4).length ≤ 10 := by
  have hp := partsL_size k (setTx n1 st) (funTx n1 l1) (funTx n2 l2) (famTx n3 l3) (by have := setTx_size n1 st; omega) (by have := funTx_size n1 l1; omega) (by have := funTx_size n2 l2; omega) (famTx_size n3 l3)
  have a1 := claimWord_size k
  have a2 := itoaB_size (lim q) (lim_inR q)
  have a3 : listW.size ≤ 10000 := by decide
  have a4 := listTx_size l4
  unfold claimPs
  refine ⟨fun x hx => ?_, ?_⟩
  · rcases List.mem_append.1 hx with h | h
    · unfold headL at h
      simp only [List.mem_cons, List.not_mem_nil, or_false] at h
      rcases h with rfl | rfl | rfl | rfl
      · omega
      · omega
      · omega
      · omega
    · exact hp.1 x h
  · rw [List.length_append]
    have := hp.2
    show 4 + _ ≤ 10
    omega
theorem partsL_pos (k : Int) (S F G A : ByteArray) : 0 < (partsL k S F G A).length := by
  unfold partsL
  split
  · simp
  · split
    · simp
    · split
      · simp
      · split <;> simp
theorem OwnS.head {E : TypeId} {B : Nat} {w : World} {v : Value} {xs : List ByteArray} (h : OwnS E B w v xs) (hne : 0 < xs.length) : ∃ g n c, v = .slice (some ⟨g, 0, none⟩) n c := by
  rcases h.at with ⟨a, c, _, rfl⟩ | ⟨g, c, rfl, _⟩
  · simp at hne
  · exact ⟨g, _, c, rfl⟩
/-- slices.Contains of an own row -/
theorem contains_own (B : Nat) (w : World) (g n c : Nat) (xs : List ByteArray) (x : ByteArray) (h : OwnS 9 B w (.slice (some ⟨g, 0, none⟩) n c) xs) (hn : xs.length ≤ 1000000) :
    Calls Tryd.prog 39 #[.slice (some ⟨g, 0, none⟩) n c, .string x] w fun e w' => e = .returned (.bool (Lib.containsS xs x)) ∧ w' = w := by
  rcases h.at with ⟨a, c', e, rfl⟩ | ⟨g', c', e, hc, hg, hcell⟩
  · injection e with e1 e2 e3
    subst e2
    exact sh_slices_Contains_string g 0 0 c [] x w (Nat.le_refl _) (by omega) (fun j hj => by simp at hj)
  · injection e with e1 e2 e3
    injection e1 with e1
    injection e1 with e1
    subst e1 e2 e3
    have := sh_slices_Contains_string g 0 xs.length c xs x w (Nat.le_refl _) (by omega) (fun j hj => by
      rw [hcell j xs[j] (List.getElem?_eq_getElem hj)]
      simp [List.getD_eq_getElem?_getD, List.getElem?_eq_getElem hj])
    rw [List.take_length] at this
    exact this
set_option maxHeartbeats 2000000 in
set_option maxRecDepth 100000 in
theorem fmtClaimI_any (k n1 : Int) (v1 : Value) (l1 : List Int) (n2 : Int) (v2 : Value) (l2 : List Int) (n3 : Int) (v3 : Value) (l3 : List Int) (q st : Int) (v4 : Value) (l4 : List Int) (w : World)
    (h1 : Ints w v1 l1) (h2 : Ints w v2 l2) (h3 : Ints w v3 l3) (h4 : Ints w v4 l4) (hp : Pow w) :
    Calls Tryd.prog 11 #[clV k n1 v1 n2 v2 n3 v3 q st v4] w fun e w' => e = .returned (.string (claimTx k n1 l1 n2 l2 n3 l3 q st l4)) ∧ Below w.heap.size w w' := by
  have K0 := Blk.new w 34 (clC k n1 v1 n2 v2 n3 v3 q st v4)
  have hp0 := hp.keep (bl1 w (.cells (clC k n1 v1 n2 v2 n3 v3 q st v4) 34))
  have hs := fmtI_any (lim q) (lim_inR q) _ hp0
  have hlim : max (-99999) (min 99999 q) = lim q := rfl
  have HS := Lib.hid hs
  clear hs
  go_enter Tryd.func11, Tryd.ntmps11
  go_wp2_with fail
  refine HS.out.mono ?_
  rintro e w1 ⟨rfl, b1⟩
  have B1 : Below w.heap.size w w1 := (bl1 _ _).after b1 (by simp)
  have K1 := K0.keep b1
  clear K0 b1 HS hp0
  have G1 := K1.cell
  go_upto_region 2 with fail
  go_cut [4] (fun v wx => ∃ g, v = .slice (some ⟨g, 0, none⟩) 4 4 ∧ OwnS 9 w1.heap.size wx (.slice (some ⟨g, 0, none⟩) 4 4) (headL k q l4) ∧ Below w1.heap.size w1 wx)
  case first =>
    have K1d : Blk w1.drew w.heap.size 34 (clC k n1 v1 n2 v2 n3 v3 q st v4) := K1
    have bd : Below w1.heap.size w1 w1.drew := (Below.refl _ _).drew
    have G1d := K1d.cell
    have h4d := (h4.below B1 (Nat.le_refl _)).keep bd
    have hpd := (hp.keep B1).keep bd
    have HT := Lib.hid (fun (W : World) (h : Below w1.drew.heap.size w1.drew W) => listTextI_any l4 v4 W (h4d.keep h) (hpd.keep h))
    obtain ⟨T, hT⟩ : ∃ T, T = listTx l4 := ⟨_, rfl⟩
    rw [← hT] at HT
    go_region_law
      (first
        | (go_simp; go_at_call 36; with_reducible refine (claimWordI_any k _).mono ?_; rintro e w5 ⟨rfl, b5⟩; have K5 := K1d.keep b5; have G5 := K5.cell)
        | (go_simp; go_at_call 37; with_reducible refine (HT.out w5 b5).mono ?_; rintro e w6 ⟨rfl, b6⟩))
    all_goals
      have B6 := (bd.after b5 bd.size).after b6 (bd.after b5 bd.size).size
      have ol := (OwnS.lit (E := 9) w6 (headL k q l4) 4 rfl (by unfold maxLen; omega) (Nat.le_refl _)).mono B6.size
      have B7 := B6.alloc B6.size (.cells ((headL k q l4).map Value.string).toArray 9)
      go_wp2_with fail
      go_meet
      exact ⟨w6.heap.size, rfl, ol, B7⟩
  case rest =>
    obtain ⟨g, rfl, o4, b4⟩ := hcut
    have B4 := B1.after b4 B1.size
    have K4 := K1.keep b4
    have HCP := Lib.hid (claimParts_any k n1 v1 l1 n2 v2 l2 n3 v3 l3 q st v4 wc (h1.below B4 (Nat.le_refl _)) (h2.below B4 (Nat.le_refl _)) (h3.below B4 (Nat.le_refl _)) (hp.keep B4))
    have hsz := claimPs_size k n1 l1 n2 l2 n3 l3 q st l4
    have htx : claimTx k n1 l1 n2 l2 n3 l3 q st l4 = if Lib.containsS (claimPs k n1 l1 n2 l2 n3 l3 q st l4) ByteArray.empty = true then ByteArray.empty else joinB space (claimPs k n1 l1 n2 l2 n3 l3 q st l4) := rfl
    have hps : claimPs k n1 l1 n2 l2 n3 l3 q st l4 = headL k q l4 ++ partsL k (setTx n1 st) (funTx n1 l1) (funTx n2 l2) (famTx n3 l3) := rfl
    obtain ⟨P, hP⟩ : ∃ P, P = claimPs k n1 l1 n2 l2 n3 l3 q st l4 := ⟨_, rfl⟩
    obtain ⟨Q, hQ⟩ : ∃ Q, Q = partsL k (setTx n1 st) (funTx n1 l1) (funTx n2 l2) (famTx n3 l3) := ⟨_, rfl⟩
    obtain ⟨R, hR⟩ : ∃ R, R = headL k q l4 := ⟨_, rfl⟩
    rw [← hP] at hsz htx hps
    rw [← hQ] at HCP
    rw [← hQ, ← hR] at hps
    rw [← hR] at o4
    have hRl : R.length = 4 := by rw [hR]; rfl
    have hQn : Q.length ≤ 6 := by
      have := hsz.2
      rw [hps, List.length_append] at this
      omega
    have HTX := Lib.hid htx
    have HPS := Lib.hid hps
    have HSZ := Lib.hid hsz
    have HRL := Lib.hid hRl
    have hQ0 : 0 < Q.length := by rw [hQ]; exact partsL_pos ..
    clear htx hps hsz hP hQ hR hRl K1 G1 h1 h2 h3 h4 hlim
    have G4 := K4.cell
    go_wp2_with fail
    refine HCP.out.mono ?_
    rintro e w5 ⟨p5, i5, c5, rfl, o5, b5⟩
    have B5 := B4.after b5 B4.size
    have o4 := o4.keep b5
    have z5 : w1.heap.size ≤ w5.heap.size := Nat.le_trans b4.size b5.size
    have zw : w.heap.size ≤ w1.heap.size := B1.size
    rcases o5.at with ⟨a, c', e, hq⟩ | ⟨g5, c', e, hc5, hg5, hcell5⟩
    · rw [hq] at hQ0; simp at hQ0
    · injection e with e1 e2 e3
      subst e1 e2 e3
      have HCE := Lib.hid hcell5
      clear hcell5 G4
      go_wp2_with (at_builtin; refine wpList_appendT rfl _ _ _ rfl 9 Tryd.underlying53 strElem w1.heap.size (.slice (some ⟨g, 0, none⟩) 4 4) R Q g5 Q.length _ rfl rfl rfl HCE.out o4 (by rw [HRL.out]; omega) z5 ?_; intro v7 w7 o7 g7; obtain ⟨p7, i7, q7, rfl⟩ := OwnS.head o7 (by rw [List.length_append]; omega))
      rw [← HPS.out] at o7
      have rr := o4.lt
      have B7 := B5.grown g7 B5.size (fun q hq => by have := (rr q hq).1; omega)
      have HCO := contains_own _ w7 _ _ _ P ByteArray.empty o7 (by have := HSZ.out.2; omega)
      cases hcon : Lib.containsS P ByteArray.empty with
      | true =>
        have hr : claimTx k n1 l1 n2 l2 n3 l3 q st l4 = ByteArray.empty := by rw [HTX.out, if_pos hcon]
        rw [hcon] at HCO
        have HCO := Lib.hid HCO
        have HR := Lib.hid hr
        clear hr hcon
        go_wp2_with fail
        refine HCO.out.mono ?_
        rintro e w8 ⟨rfl, rfl⟩
        go_wp2
        go_ret
        exact ⟨ret_str HR.out.symm, B7⟩
      | false =>
        have hr : claimTx k n1 l1 n2 l2 n3 l3 q st l4 = joinB space P := by rw [HTX.out, if_neg (by rw [hcon]; simp)]
        rw [hcon] at HCO
        have HCO := Lib.hid HCO
        have HR := Lib.hid hr
        have HJ := Lib.hid (join_own _ w7 _ P space o7 (by
          have h1 := joinB_size space 10000 P HSZ.out.1
          have h2 := HSZ.out.2
          have h3 : space.size = 1 := rfl
          rw [h3] at h1
          omega) (by have := HSZ.out.2; omega))
        clear hr hcon
        go_wp2_with fail
        refine HCO.out.mono ?_
        rintro e w8 ⟨rfl, rfl⟩
        go_wp2_with fail
        refine HJ.out.mono ?_
        rintro e w9 ⟨rfl, b9⟩
        go_wp2
        go_ret
        exact ⟨ret_str HR.out.symm, B7.after b9 B7.size⟩
end Go.Proofs.YtpaoiiiceekkkaaDoor
