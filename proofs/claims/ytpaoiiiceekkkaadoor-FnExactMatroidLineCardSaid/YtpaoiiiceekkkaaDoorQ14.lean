/- The parts of a claim's text: the first program. Claims as texts: the first program. Claims as texts, in the second program's words: what is computed. -/
import Derived.Test.YtpaoiiiceekkkaaDoorQ13
import Derived.Deep.DeepCutAuto
section
namespace Go.Proofs.YtpaoiiiceekkkaaDoor
open Go.RowKit Go.G5

def setW : ByteArray := ⟨#[115, 101, 116]⟩
def ofW : ByteArray := ⟨#[111, 102]⟩
def forW : ByteArray := ⟨#[102, 111, 114]⟩
def andW : ByteArray := ⟨#[97, 110, 100]⟩
def partsL (k : Int) (S F G A : ByteArray) : List ByteArray :=
  if k = 1 ∨ k = 5 then [setW, S, ofW, F] else if k = 2 then [ofW, F] else if k = 3 then [ofW, F, forW, G] else if k = 4 then [setW, S, ofW, F, andW, G] else [ofW, A]

set_option maxHeartbeats 2000000 in
set_option maxRecDepth 100000 in
theorem claimParts_any (k n1 : Int) (v1 : Value) (l1 : List Int) (n2 : Int) (v2 : Value) (l2 : List Int) (n3 : Int) (v3 : Value) (l3 : List Int) (q st : Int) (v4 : Value) (w : World)
    (h1 : Ints w v1 l1) (h2 : Ints w v2 l2) (h3 : Ints w v3 l3) (hp : Pow w) :
    Calls Tryd.prog 38 #[clV k n1 v1 n2 v2 n3 v3 q st v4] w fun e w' => ∃ ad i cp, e = .returned (.slice ad i cp) ∧ OwnS 9 w.heap.size w' (.slice ad i cp) (partsL k (setTx n1 st) (funTx n1 l1) (funTx n2 l2) (famTx n3 l3)) ∧ Below w.heap.size w w' := by
  have K0 := Blk.new w 34 (clC k n1 v1 n2 v2 n3 v3 q st v4)
  have hp0 := hp.keep (bl1 w (.cells (clC k n1 v1 n2 v2 n3 v3 q st v4) 34))
  have hs := fmtSetI_any n1 st _ hp0
  obtain ⟨S, hS⟩ : ∃ S, S = setTx n1 st := ⟨_, rfl⟩
  obtain ⟨F, hF⟩ : ∃ F, F = funTx n1 l1 := ⟨_, rfl⟩
  obtain ⟨G, hG⟩ : ∃ G, G = funTx n2 l2 := ⟨_, rfl⟩
  obtain ⟨A, hA⟩ : ∃ A, A = famTx n3 l3 := ⟨_, rfl⟩
  rw [← hS] at hs
  rw [← hS, ← hF, ← hG, ← hA]
  have HS := Lib.hid hs
  have HF := Lib.hid hF
  have HG := Lib.hid hG
  have HA := Lib.hid hA
  clear hs hS hF hG hA
  go_enter Tryd.func38, Tryd.ntmps38
  go_wp2_with fail
  refine HS.out.mono ?_
  rintro e w1 ⟨rfl, b1⟩
  have B1 : Below w.heap.size w w1 := (bl1 _ _).after b1 (by simp)
  have K1 := K0.keep b1
  clear K0 b1 HS
  have G1 := K1.cell
  have c0 := G1 0
  have c1 := G1 1
  have c2 := G1 2
  have c3 := G1 3
  have c4 := G1 4
  simp only [clC, List.getElem?_toArray, List.getElem?_cons_zero, List.getElem?_cons_succ] at c0 c1 c2 c3 c4
  have q1 : ∀ y : Ext w1, y.w.cell? ⟨w.heap.size, 1, none⟩ = some (.int .i64 n1) := fun y => y.cell c1
  have q2 : ∀ y : Ext w1, y.w.cell? ⟨w.heap.size, 2, none⟩ = some v1 := fun y => y.cell c2
  have q3 : ∀ y : Ext w1, y.w.cell? ⟨w.heap.size, 3, none⟩ = some (.int .i64 n2) := fun y => y.cell c3
  have q4 : ∀ y : Ext w1, y.w.cell? ⟨w.heap.size, 4, none⟩ = some v2 := fun y => y.cell c4
  have hp1 := hp.keep B1
  have QF := fun y : Ext w1 => fmtFunI_any n1 l1 v1 y.w ((h1.below B1 (Nat.le_refl _)).keep y.b) (hp1.keep y.b)
  rw [← HF.out] at QF
  have QF := Lib.hid QF
  have QG := fun y : Ext w1 => fmtFunI_any n2 l2 v2 y.w ((h2.below B1 (Nat.le_refl _)).keep y.b) (hp1.keep y.b)
  rw [← HG.out] at QG
  have QG := Lib.hid QG
  clear c0 c1 c2 c3 c4 G1 hp0
  go_wp2_with fail
  refine wp_region_ext _ (by kernel_rfl) (by kernel_rfl) ?_
  repeat (first | go_big_quiet_skip | (go_big_quiet_want; go_big_quiet_op; first | go_big_quiet_on | (apply Exists.intro; refine ⟨fun _ => ?_, ?_⟩; (first | (go_at_call 58; with_reducible exact ext_call (QF.out _)) | (go_at_call 58; with_reducible exact ext_call (QG.out _))); go_big_quiet_on)))
  refine wpQuiet_nil ?_
  rintro w2 ⟨⟨w2, b2⟩, rfl⟩
  try dsimp only
  have B2 := B1.after b2 B1.size
  have K2 := K1.keep b2
  have h32 := h3.below B2 (Nat.le_refl _)
  have hp2 := hp.keep B2
  clear QF QG q1 q2 q3 q4 K1 b2 B1 hp1 h1 h2 h3
  have G2 := K2.cell
  by_cases k1 : k = 1
  · subst k1
    have HP := Lib.hid (show partsL 1 S F G A = [setW, S, ofW, F] from rfl)
    go_wp2
    go_ret
    exact ⟨_, _, _, rfl, by rw [HP.out]; exact (OwnS.lit w2 _ _ rfl (by simp only [List.length_cons, List.length_nil]; unfold maxLen; omega) (Nat.le_refl _)).mono B2.size, B2.alloc B2.size _⟩
  · by_cases k5 : k = 5
    · subst k5
      have HP := Lib.hid (show partsL 5 S F G A = [setW, S, ofW, F] from rfl)
      go_wp2
      go_ret
      exact ⟨_, _, _, rfl, by rw [HP.out]; exact (OwnS.lit w2 _ _ rfl (by simp only [List.length_cons, List.length_nil]; unfold maxLen; omega) (Nat.le_refl _)).mono B2.size, B2.alloc B2.size _⟩
    · by_cases k2 : k = 2
      · subst k2
        have HP := Lib.hid (show partsL 2 S F G A = [ofW, F] from rfl)
        go_wp2
        go_ret
        exact ⟨_, _, _, rfl, by rw [HP.out]; exact (OwnS.lit w2 _ _ rfl (by simp only [List.length_cons, List.length_nil]; unfold maxLen; omega) (Nat.le_refl _)).mono B2.size, B2.alloc B2.size _⟩
      · by_cases k3 : k = 3
        · subst k3
          have HP := Lib.hid (show partsL 3 S F G A = [ofW, F, forW, G] from rfl)
          go_wp2
          go_ret
          exact ⟨_, _, _, rfl, by rw [HP.out]; exact (OwnS.lit w2 _ _ rfl (by simp only [List.length_cons, List.length_nil]; unfold maxLen; omega) (Nat.le_refl _)).mono B2.size, B2.alloc B2.size _⟩
        · by_cases k4 : k = 4
          · subst k4
            have HP := Lib.hid (show partsL 4 S F G A = [setW, S, ofW, F, andW, G] from rfl)
            go_wp2
            go_ret
            exact ⟨_, _, _, rfl, by rw [HP.out]; exact (OwnS.lit w2 _ _ rfl (by simp only [List.length_cons, List.length_nil]; unfold maxLen; omega) (Nat.le_refl _)).mono B2.size, B2.alloc B2.size _⟩
          · have hx : partsL k S F G A = [ofW, A] := by
              unfold partsL
              rw [if_neg (by omega), if_neg k2, if_neg k3, if_neg k4]
            have e1 : (k == 1) = false := by simpa using k1
            have e5 : (k == 5) = false := by simpa using k5
            have e2 : (k == 2) = false := by simpa using k2
            have e3 : (k == 3) = false := by simpa using k3
            have e4 : (k == 4) = false := by simpa using k4
            have hj := fmtFamI_any n3 l3 v3 w2 h32 hp2
            rw [← HA.out] at hj
            have HP := Lib.hid hx
            have HJ := Lib.hid hj
            clear hx hj k1 k2 k3 k4 k5
            go_wp2_with fail
            refine HJ.out.mono ?_
            rintro e w3 ⟨rfl, b3⟩
            have B3 := B2.after b3 B2.size
            go_wp2
            go_ret
            exact ⟨_, _, _, rfl, by rw [HP.out]; exact (OwnS.lit w3 [ofW, A] 2 rfl (by unfold maxLen; omega) (Nat.le_refl _)).mono B3.size, B3.alloc B3.size _⟩
end Go.Proofs.YtpaoiiiceekkkaaDoor
end
section
namespace Go.Proofs.YtpaoiiiceekkkaaDoor
open Go.RowKit Go.G5

def listW : ByteArray := ⟨#[108, 105, 115, 116]⟩
def space : ByteArray := ⟨#[32]⟩
def lim (q : Int) : Int := max (-99999) (min 99999 q)
theorem lim_inR (q : Int) : InR (lim q) := by unfold lim; exact ⟨by omega, by omega⟩
def headL (k q : Int) (l : List Int) : List ByteArray := [claimWord k, itoaB (lim q), listW, listTx l]
def claimPs (k n1 : Int) (l1 : List Int) (n2 : Int) (l2 : List Int) (n3 : Int) (l3 : List Int) (q st : Int) (l4 : List Int) : List ByteArray :=
  headL k q l4 ++ partsL k (setTx n1 st) (funTx n1 l1) (funTx n2 l2) (famTx n3 l3)
def claimTx (k n1 : Int) (l1 : List Int) (n2 : Int) (l2 : List Int) (n3 : Int) (l3 : List Int) (q st : Int) (l4 : List Int) : ByteArray :=
  if Lib.containsS (claimPs k n1 l1 n2 l2 n3 l3 q st l4) ByteArray.empty = true then ByteArray.empty else joinB space (claimPs k n1 l1 n2 l2 n3 l3 q st l4)
theorem claimWord_size (k : Int) : (claimWord k).size ≤ 9 := by
  unfold claimWord
  repeat (split; (show _ ≤ 9; decide))
  decide
theorem partsL_size (k : Int) (S F G A : ByteArray) (hS : S.size ≤ 10000) (hF : F.size ≤ 10000) (hG : G.size ≤ 10000) (hA : A.size ≤ 10000) : (∀ x ∈ partsL k S F G A, x.size ≤ 10000) ∧ (partsL k S F G A).length ≤ 6 := by
  have w1 : setW.size ≤ 10000 := by decide
  have w2 : ofW.size ≤ 10000 := by decide
  have w3 : forW.size ≤ 10000 := by decide
  have w4 : andW.size ≤ 10000 := by decide
  unfold partsL
  split
  · simp_all
  · split
    · simp_all
    · split
      · simp_all
      · split <;> simp_all
theorem claimPs_size (k n1 : Int) (l1 : List Int) (n2 : Int) (l2 : List Int) (n3 : Int) (l3 : List Int) (q st : Int) (l4 : List Int) : (∀ x ∈ claimPs k n1 l1 n2 l2 n3 l3 q st l4, x.size ≤ 10000) ∧ (claimPs k n1 l1 n2 l2 n3 l3 q st l4).length ≤ 10 := by
  have hp := partsL_size k (setTx n1 st) (funTx n1 l1) (funTx n2 l2) (famTx n3 l3) (by have := setTx_size n1 st; omega) (by have := funTx_size n1 l1; omega) (by have := funTx_size n2 l2; omega) (famTx_size n3 l3)
  have a1 := claimWord_size k
  have a2 := itoaB_size (lim q) (lim_inR q)
  have a3 : listW.size ≤ 10000 := by decide
  have a4 := listTx_size l4
  unfold claimPs
  refine ⟨fun x hx => ?_, ?_⟩
  · rcases List.mem_append.1 hx with h | h
    · unfold headL at h
      simp only [List.mem_cons, List.not_mem_nil, or_false] at h
      rcases h with rfl | rfl | rfl | rfl
      · omega
      · omega
      · omega
      · omega
    · exact hp.1 x h
  · rw [List.length_append]
    have := hp.2
    show 4 + _ ≤ 10
    omega
theorem partsL_pos (k : Int) (S F G A : ByteArray) : 0 < (partsL k S F G A).length := by
  unfold partsL
  split
  · simp
  · split
    · simp
    · split
      · simp
      · split <;> simp
theorem OwnS.head {E : TypeId} {B : Nat} {w : World} {v : Value} {xs : List ByteArray} (h : OwnS E B w v xs) (hne : 0 < xs.length) : ∃ g n c, v = .slice (some ⟨g, 0, none⟩) n c := by
  rcases h.at with ⟨a, c, _, rfl⟩ | ⟨g, c, rfl, _⟩
  · simp at hne
  · exact ⟨g, _, c, rfl⟩
/-- slices.Contains of an own row -/
theorem contains_own (B : Nat) (w : World) (g n c : Nat) (xs : List ByteArray) (x : ByteArray) (h : OwnS 9 B w (.slice (some ⟨g, 0, none⟩) n c) xs) (hn : xs.length ≤ 1000000) :
    Calls Tryd.prog 39 #[.slice (some ⟨g, 0, none⟩) n c, .string x] w fun e w' => e = .returned (.bool (Lib.containsS xs x)) ∧ w' = w := by
  rcases h.at with ⟨a, c', e, rfl⟩ | ⟨g', c', e, hc, hg, hcell⟩
  · injection e with e1 e2 e3
    subst e2
    exact sh_slices_Contains_string g 0 0 c [] x w (Nat.le_refl _) (by omega) (fun j hj => by simp at hj)
  · injection e with e1 e2 e3
    injection e1 with e1
    injection e1 with e1
    subst e1 e2 e3
    have := sh_slices_Contains_string g 0 xs.length c xs x w (Nat.le_refl _) (by omega) (fun j hj => by
      rw [hcell j xs[j] (List.getElem?_eq_getElem hj)]
      simp [List.getD_eq_getElem?_getD, List.getElem?_eq_getElem hj])
    rw [List.take_length] at this
    exact this
set_option maxHeartbeats 2000000 in
set_option maxRecDepth 100000 in
theorem fmtClaimI_any (k n1 : Int) (v1 : Value) (l1 : List Int) (n2 : Int) (v2 : Value) (l2 : List Int) (n3 : Int) (v3 : Value) (l3 : List Int) (q st : Int) (v4 : Value) (l4 : List Int) (w : World)
    (h1 : Ints w v1 l1) (h2 : Ints w v2 l2) (h3 : Ints w v3 l3) (h4 : Ints w v4 l4) (hp : Pow w) :
    Calls Tryd.prog 11 #[clV k n1 v1 n2 v2 n3 v3 q st v4] w fun e w' => e = .returned (.string (claimTx k n1 l1 n2 l2 n3 l3 q st l4)) ∧ Below w.heap.size w w' := by
  have K0 := Blk.new w 34 (clC k n1 v1 n2 v2 n3 v3 q st v4)
  have hp0 := hp.keep (bl1 w (.cells (clC k n1 v1 n2 v2 n3 v3 q st v4) 34))
  have hs := fmtI_any (lim q) (lim_inR q) _ hp0
  have hlim : max (-99999) (min 99999 q) = lim q := rfl
  have HS := Lib.hid hs
  clear hs
  go_enter Tryd.func11, Tryd.ntmps11
  go_wp2_with fail
  refine HS.out.mono ?_
  rintro e w1 ⟨rfl, b1⟩
  have B1 : Below w.heap.size w w1 := (bl1 _ _).after b1 (by simp)
  have K1 := K0.keep b1
  clear K0 b1 HS hp0
  have G1 := K1.cell
  go_upto_region 2 with fail
  go_cut [4] (fun v wx => ∃ g, v = .slice (some ⟨g, 0, none⟩) 4 4 ∧ OwnS 9 w1.heap.size wx (.slice (some ⟨g, 0, none⟩) 4 4) (headL k q l4) ∧ Below w1.heap.size w1 wx)
  case first =>
    have K1d : Blk w1.drew w.heap.size 34 (clC k n1 v1 n2 v2 n3 v3 q st v4) := K1
    have bd : Below w1.heap.size w1 w1.drew := (Below.refl _ _).drew
    have G1d := K1d.cell
    have h4d := (h4.below B1 (Nat.le_refl _)).keep bd
    have hpd := (hp.keep B1).keep bd
    have HT := Lib.hid (fun (W : World) (h : Below w1.drew.heap.size w1.drew W) => listTextI_any l4 v4 W (h4d.keep h) (hpd.keep h))
    obtain ⟨T, hT⟩ : ∃ T, T = listTx l4 := ⟨_, rfl⟩
    rw [← hT] at HT
    go_region_law
      (first
        | (go_simp; go_at_call 36; with_reducible refine (claimWordI_any k _).mono ?_; rintro e w5 ⟨rfl, b5⟩; have K5 := K1d.keep b5; have G5 := K5.cell)
        | (go_simp; go_at_call 37; with_reducible refine (HT.out w5 b5).mono ?_; rintro e w6 ⟨rfl, b6⟩))
    all_goals
      have B6 := (bd.after b5 bd.size).after b6 (bd.after b5 bd.size).size
      have ol := (OwnS.lit (E := 9) w6 (headL k q l4) 4 rfl (by unfold maxLen; omega) (Nat.le_refl _)).mono B6.size
      have B7 := B6.alloc B6.size (.cells ((headL k q l4).map Value.string).toArray 9)
      go_wp2_with fail
      go_meet
      exact ⟨w6.heap.size, rfl, ol, B7⟩
  case rest =>
    obtain ⟨g, rfl, o4, b4⟩ := hcut
    have B4 := B1.after b4 B1.size
    have K4 := K1.keep b4
    have HCP := Lib.hid (claimParts_any k n1 v1 l1 n2 v2 l2 n3 v3 l3 q st v4 wc (h1.below B4 (Nat.le_refl _)) (h2.below B4 (Nat.le_refl _)) (h3.below B4 (Nat.le_refl _)) (hp.keep B4))
    have hsz := claimPs_size k n1 l1 n2 l2 n3 l3 q st l4
    have htx : claimTx k n1 l1 n2 l2 n3 l3 q st l4 = if Lib.containsS (claimPs k n1 l1 n2 l2 n3 l3 q st l4) ByteArray.empty = true then ByteArray.empty else joinB space (claimPs k n1 l1 n2 l2 n3 l3 q st l4) := rfl
    have hps : claimPs k n1 l1 n2 l2 n3 l3 q st l4 = headL k q l4 ++ partsL k (setTx n1 st) (funTx n1 l1) (funTx n2 l2) (famTx n3 l3) := rfl
    obtain ⟨P, hP⟩ : ∃ P, P = claimPs k n1 l1 n2 l2 n3 l3 q st l4 := ⟨_, rfl⟩
    obtain ⟨Q, hQ⟩ : ∃ Q, Q = partsL k (setTx n1 st) (funTx n1 l1) (funTx n2 l2) (famTx n3 l3) := ⟨_, rfl⟩
    obtain ⟨R, hR⟩ : ∃ R, R = headL k q l4 := ⟨_, rfl⟩
    rw [← hP] at hsz htx hps
    rw [← hQ] at HCP
    rw [← hQ, ← hR] at hps
    rw [← hR] at o4
    have hRl : R.length = 4 := by rw [hR]; rfl
    have hQn : Q.length ≤ 6 := by
      have := hsz.2
      rw [hps, List.length_append] at this
      omega
    have HTX := Lib.hid htx
    have HPS := Lib.hid hps
    have HSZ := Lib.hid hsz
    have HRL := Lib.hid hRl
    have hQ0 : 0 < Q.length := by rw [hQ]; exact partsL_pos ..
    clear htx hps hsz hP hQ hR hRl K1 G1 h1 h2 h3 h4 hlim
    have G4 := K4.cell
    go_wp2_with fail
    refine HCP.out.mono ?_
    rintro e w5 ⟨p5, i5, c5, rfl, o5, b5⟩
    have B5 := B4.after b5 B4.size
    have o4 := o4.keep b5
    have z5 : w1.heap.size ≤ w5.heap.size := Nat.le_trans b4.size b5.size
    have zw : w.heap.size ≤ w1.heap.size := B1.size
    rcases o5.at with ⟨a, c', e, hq⟩ | ⟨g5, c', e, hc5, hg5, hcell5⟩
    · rw [hq] at hQ0; simp at hQ0
    · injection e with e1 e2 e3
      subst e1 e2 e3
      have HCE := Lib.hid hcell5
      clear hcell5 G4
      go_wp2_with (at_builtin; refine wpList_appendT rfl _ _ _ rfl 9 Tryd.underlying53 strElem w1.heap.size (.slice (some ⟨g, 0, none⟩) 4 4) R Q g5 Q.length _ rfl rfl rfl HCE.out o4 (by rw [HRL.out]; omega) z5 ?_; intro v7 w7 o7 g7; obtain ⟨p7, i7, q7, rfl⟩ := OwnS.head o7 (by rw [List.length_append]; omega))
      rw [← HPS.out] at o7
      have rr := o4.lt
      have B7 := B5.grown g7 B5.size (fun q hq => by have := (rr q hq).1; omega)
      have HCO := contains_own _ w7 _ _ _ P ByteArray.empty o7 (by have := HSZ.out.2; omega)
      cases hcon : Lib.containsS P ByteArray.empty with
      | true =>
        have hr : claimTx k n1 l1 n2 l2 n3 l3 q st l4 = ByteArray.empty := by rw [HTX.out, if_pos hcon]
        rw [hcon] at HCO
        have HCO := Lib.hid HCO
        have HR := Lib.hid hr
        clear hr hcon
        go_wp2_with fail
        refine HCO.out.mono ?_
        rintro e w8 ⟨rfl, rfl⟩
        go_wp2
        go_ret
        exact ⟨ret_str HR.out.symm, B7⟩
      | false =>
        have hr : claimTx k n1 l1 n2 l2 n3 l3 q st l4 = joinB space P := by rw [HTX.out, if_neg (by rw [hcon]; simp)]
        rw [hcon] at HCO
        have HCO := Lib.hid HCO
        have HR := Lib.hid hr
        have HJ := Lib.hid (join_own _ w7 _ P space o7 (by
          have h1 := joinB_size space 10000 P HSZ.out.1
          have h2 := HSZ.out.2
          have h3 : space.size = 1 := rfl
          rw [h3] at h1
          omega) (by have := HSZ.out.2; omega))
        clear hr hcon
        go_wp2_with fail
        refine HCO.out.mono ?_
        rintro e w8 ⟨rfl, rfl⟩
        go_wp2_with fail
        refine HJ.out.mono ?_
        rintro e w9 ⟨rfl, b9⟩
        go_wp2
        go_ret
        exact ⟨ret_str HR.out.symm, B7.after b9 B7.size⟩
end Go.Proofs.YtpaoiiiceekkkaaDoor
end
section
namespace Go.Proofs.YtpaoiiiceekkkaaDoor
open Go.RowKit Go.G5

theorem joinB_cons2 (sep x y : ByteArray) (r : List ByteArray) : joinB sep (x :: y :: r) = x ++ sep ++ joinB sep (y :: r) := by
  refine ba_ext ?_
  rw [ba_app, ba_app]
  show Lib.join ((x :: y :: r).map (·.data.toList)) sep.data.toList = x.data.toList ++ sep.data.toList ++ Lib.join ((y :: r).map (·.data.toList)) sep.data.toList
  rw [List.map_cons, List.map_cons, Lib.join_cons, Lib.join_cons]
  simp [Lib.joinTail, List.append_assoc]
def listS : ByteArray := ⟨#[32, 108, 105, 115, 116, 32]⟩
def ofS : ByteArray := ⟨#[32, 111, 102, 32]⟩
def forS : ByteArray := ⟨#[32, 102, 111, 114, 32]⟩
def andS : ByteArray := ⟨#[32, 97, 110, 100, 32]⟩
def setS : ByteArray := ⟨#[32, 115, 101, 116, 32]⟩
def headTx (k q : Int) (l : List Int) : ByteArray := claimWord k ++ space ++ itoaB (lim q) ++ listS ++ listTx l
theorem d1 : space.data.toList = [32] := rfl
theorem d2 : ofW.data.toList = [111, 102] := rfl
theorem d3 : forW.data.toList = [102, 111, 114] := rfl
theorem d4 : andW.data.toList = [97, 110, 100] := rfl
theorem d5 : setW.data.toList = [115, 101, 116] := rfl
theorem d6 : listW.data.toList = [108, 105, 115, 116] := rfl
theorem d7 : listS.data.toList = [32, 108, 105, 115, 116, 32] := rfl
theorem d8 : ofS.data.toList = [32, 111, 102, 32] := rfl
theorem d9 : forS.data.toList = [32, 102, 111, 114, 32] := rfl
theorem d10 : andS.data.toList = [32, 97, 110, 100, 32] := rfl
theorem d11 : setS.data.toList = [32, 115, 101, 116, 32] := rfl
theorem join_of (k q : Int) (l : List Int) (F : ByteArray) : joinB space (headL k q l ++ [ofW, F]) = headTx k q l ++ ofS ++ F := by
  unfold headL headTx
  simp only [List.cons_append, List.nil_append, joinB_cons2, joinB_one]
  refine ba_ext ?_
  simp [d1, d2, d6, d7, d8]
theorem join_for (k q : Int) (l : List Int) (F G : ByteArray) : joinB space (headL k q l ++ [ofW, F, forW, G]) = headTx k q l ++ ofS ++ F ++ forS ++ G := by
  unfold headL headTx
  simp only [List.cons_append, List.nil_append, joinB_cons2, joinB_one]
  refine ba_ext ?_
  simp [d1, d2, d3, d6, d7, d8, d9]
theorem join_set (k q : Int) (l : List Int) (S F : ByteArray) : joinB space (headL k q l ++ [setW, S, ofW, F]) = headTx k q l ++ setS ++ S ++ ofS ++ F := by
  unfold headL headTx
  simp only [List.cons_append, List.nil_append, joinB_cons2, joinB_one]
  refine ba_ext ?_
  simp [d1, d2, d5, d6, d7, d8, d11]
theorem join_and (k q : Int) (l : List Int) (S F G : ByteArray) : joinB space (headL k q l ++ [setW, S, ofW, F, andW, G]) = headTx k q l ++ setS ++ S ++ ofS ++ F ++ andS ++ G := by
  unfold headL headTx
  simp only [List.cons_append, List.nil_append, joinB_cons2, joinB_one]
  refine ba_ext ?_
  simp [d1, d2, d4, d5, d6, d7, d8, d10, d11]
theorem word_ne (k : Int) (h : 1 ≤ k ∧ k ≤ 7) : claimWord k ≠ ByteArray.empty := by
  have : (claimWord k).size ≠ 0 := by
    rcases (show k = 1 ∨ k = 2 ∨ k = 3 ∨ k = 4 ∨ k = 5 ∨ k = 6 ∨ k = 7 by omega) with rfl | rfl | rfl | rfl | rfl | rfl | rfl <;> decide
  intro e
  exact this (ba_emp.2 e)
theorem word_emp (k : Int) (h : ¬ (1 ≤ k ∧ k ≤ 7)) : claimWord k = ByteArray.empty := by
  unfold claimWord
  rw [if_neg (by omega), if_neg (by omega), if_neg (by omega), if_neg (by omega), if_neg (by omega), if_neg (by omega), if_neg (by omega)]; rfl
theorem emp_ne (b : ByteArray) (h : b.size ≠ 0) : ¬ ByteArray.empty = b := fun e => h (by rw [← e]; rfl)
theorem head_mem (k q : Int) (l : List Int) (r : List ByteArray) : ByteArray.empty ∈ headL k q l ++ r ↔ (ByteArray.empty = claimWord k ∨ ByteArray.empty ∈ r) := by
  have a2 : ¬ ByteArray.empty = itoaB (lim q) := fun e => itoaB_ne _ e.symm
  have a3 : ¬ ByteArray.empty = listW := emp_ne _ (by decide)
  have a4 : ¬ ByteArray.empty = listTx l := fun e => listTx_ne _ e.symm
  simp [headL, a2, a3, a4]
theorem claimTx_is (k n1 : Int) (l1 : List Int) (n2 : Int) (l2 : List Int) (n3 : Int) (l3 : List Int) (q st : Int) (l4 : List Int) (hk : 1 ≤ k ∧ k ≤ 7) (r : List ByteArray) (hr : partsL k (setTx n1 st) (funTx n1 l1) (funTx n2 l2) (famTx n3 l3) = r) :
    claimTx k n1 l1 n2 l2 n3 l3 q st l4 = if Lib.containsS r ByteArray.empty = true then ByteArray.empty else joinB space (headL k q l4 ++ r) := by
  have hps : claimPs k n1 l1 n2 l2 n3 l3 q st l4 = headL k q l4 ++ r := by unfold claimPs; rw [hr]
  unfold claimTx
  rw [hps]
  have hw : ¬ ByteArray.empty = claimWord k := fun e => word_ne k hk e.symm
  by_cases hm : Lib.containsS r ByteArray.empty = true
  · rw [if_pos hm, if_pos ((Lib.containsS_iff _ _).2 ((head_mem k q l4 r).2 (.inr ((Lib.containsS_iff _ _).1 hm))))]
  · rw [if_neg hm, if_neg (fun h => ((head_mem k q l4 r).1 ((Lib.containsS_iff _ _).1 h)).elim hw (fun h => hm ((Lib.containsS_iff _ _).2 h)))]
theorem of_ne : ¬ ByteArray.empty = ofW := emp_ne _ (by decide)
theorem for_ne : ¬ ByteArray.empty = forW := emp_ne _ (by decide)
theorem and_ne : ¬ ByteArray.empty = andW := emp_ne _ (by decide)
theorem set_ne : ¬ ByteArray.empty = setW := emp_ne _ (by decide)
end Go.Proofs.YtpaoiiiceekkkaaDoor
end
