/- Claims as texts: the first program. Claims as texts, in the second program's words: what is computed. append, told with where the result lies. -/
import Derived.Test.YtipejodijbjpcaaGreatDoorQ12
import Derived.Deep.DeepCutAuto
section
namespace Go.Proofs.YtipejodijbjpcaaGreatDoor
open Go.RowKit Go.G5

def listW : ByteArray := ⟨#[108, 105, 115, 116]⟩
def space : ByteArray := ⟨#[32]⟩
def lim (q : Int) : Int := max (-99999) (min 99999 q)
theorem lim_inR (q : Int) : InR (lim q) := by unfold lim; exact ⟨by omega, by omega⟩
def headL (k q : Int) (l : List Int) : List ByteArray := [claimWord k, itoaB (lim q), listW, listTx l]
def claimPs (k n1 : Int) (l1 : List Int) (n2 : Int) (l2 : List Int) (n3 : Int) (l3 : List Int) (q st : Int) (l4 : List Int) : List ByteArray :=
  headL k q l4 ++ partsL k (setTx n1 st) (funTx n1 l1) (funTx n2 l2) (famTx n3 l3)
def claimTx (k n1 : Int) (l1 : List Int) (n2 : Int) (l2 : List Int) (n3 : Int) (l3 : List Int) (q st : Int) (l4 : List Int) : ByteArray :=
  if Lib.containsS (claimPs k n1 l1 n2 l2 n3 l3 q st l4) ByteArray.empty = true then ByteArray.empty else joinB space (claimPs k n1 l1 n2 l2 n3 l3 q st l4)
theorem claimWord_size (k : Int) : (claimWord k).size ≤ 9 := by
  unfold claimWord
  repeat (split; (show _ ≤ 9; decide))
  decide
theorem partsL_size (k : Int) (S F G A : ByteArray) (hS : S.size ≤ 10000) (hF : F.size ≤ 10000) (hG : G.size ≤ 10000) (hA : A.size ≤ 10000) : (∀ x ∈ partsL k S F G A, x.size ≤ 10000) ∧ (partsL k S F G A).length ≤ 6 := by
  have w1 : setW.size ≤ 10000 := by decide
  have w2 : ofW.size ≤ 10000 := by decide
  have w3 : forW.size ≤ 10000 := by decide
  have w4 : andW.size ≤ 10000 := by decide
  unfold partsL
  split
  · simp_all
  · split
    · simp_all
    · split
      · simp_all
      · split <;> simp_all
theorem claimPs_size (k n1 : Int) (l1 : List Int) (n2 : Int) (l2 : List Int) (n3 : Int) (l3 : List Int) (q st : Int) (l4 : List Int) : (∀ x ∈ claimPs k n1 l1 n2 l2 n3 l3 q st l4, x.size ≤ 10000) ∧ (claimPs k n1 l1 n2 l2 n3 l3 q st l4).length ≤ 10 := by
  have hp := partsL_size k (setTx n1 st) (funTx n1 l1) (funTx n2 l2) (famTx n3 l3) (by have := setTx_size n1 st; omega) (by have := funTx_size n1 l1; omega) (by have := funTx_size n2 l2; omega) (famTx_size n3 l3)
  have a1 := claimWord_size k
  have a2 := itoaB_size (lim q) (lim_inR q)
  have a3 : listW.size ≤ 10000 := by decide
  have a4 := listTx_size l4
  unfold claimPs
  refine ⟨fun x hx => ?_, ?_⟩
  · rcases List.mem_append.1 hx with h | h
    · unfold headL at h
      simp only [List.mem_cons, List.not_mem_nil, or_false] at h
      rcases h with rfl | rfl | rfl | rfl
      · omega
      · omega
      · omega
      · omega
    · exact hp.1 x h
  · rw [List.length_append]
    have := hp.2
    show 4 + _ ≤ 10
    omega
theorem partsL_pos (k : Int) (S F G A : ByteArray) : 0 < (partsL k S F G A).length := by
  unfold partsL
  split
  · simp
  · split
    · simp
    · split
      · simp
      · split <;> simp
theorem OwnS.head {E : TypeId} {B : Nat} {w : World} {v : Value} {xs : List ByteArray} (h : OwnS E B w v xs) (hne : 0 < xs.length) : ∃ g n c, v = .slice (some ⟨g, 0, none⟩) n c := by
  rcases h.at with ⟨a, c, _, rfl⟩ | ⟨g, c, rfl, _⟩
  · simp at hne
  · exact ⟨g, _, c, rfl⟩
/-- slices.Contains of an own row -/
theorem contains_own (B : Nat) (w : World) (g n c : Nat) (xs : List ByteArray) (x : ByteArray) (h : OwnS 9 B w (.slice (some ⟨g, 0, none⟩) n c) xs) (hn : xs.length ≤ 1000000) :
    Calls Tryz.prog 209 #[.slice (some ⟨g, 0, none⟩) n c, .string x] w fun e w' => e = .returned (.bool (Lib.containsS xs x)) ∧ w' = w := by
  rcases h.at with ⟨a, c', e, rfl⟩ | ⟨g', c', e, hc, hg, hcell⟩
  · injection e with e1 e2 e3
    subst e2
    exact sh_slices_Contains_string g 0 0 c [] x w (Nat.le_refl _) (by omega) (fun j hj => by simp at hj)
  · injection e with e1 e2 e3
    injection e1 with e1
    injection e1 with e1
    subst e1 e2 e3
    have := sh_slices_Contains_string g 0 xs.length c xs x w (Nat.le_refl _) (by omega) (fun j hj => by
      rw [hcell j xs[j] (List.getElem?_eq_getElem hj)]
      simp [List.getD_eq_getElem?_getD, List.getElem?_eq_getElem hj])
    rw [List.take_length] at this
    exact this
set_option maxHeartbeats 2000000 in
set_option maxRecDepth 100000 in
theorem fmtClaimI_any (k n1 : Int) (v1 : Value) (l1 : List Int) (n2 : Int) (v2 : Value) (l2 : List Int) (n3 : Int) (v3 : Value) (l3 : List Int) (q st : Int) (v4 : Value) (l4 : List Int) (w : World)
    (h1 : Ints w v1 l1) (h2 : Ints w v2 l2) (h3 : Ints w v3 l3) (h4 : Ints w v4 l4) (hp : Pow w) :
    Calls Tryz.prog 66 #[clV k n1 v1 n2 v2 n3 v3 q st v4] w fun e w' => e = .returned (.string (claimTx k n1 l1 n2 l2 n3 l3 q st l4)) ∧ Below w.heap.size w w' := by
  have K0 := Blk.new w 49 (clC k n1 v1 n2 v2 n3 v3 q st v4)
  have hp0 := hp.keep (bl1 w (.cells (clC k n1 v1 n2 v2 n3 v3 q st v4) 49))
  have hs := fmtI_any (lim q) (lim_inR q) _ hp0
  have hlim : max (-99999) (min 99999 q) = lim q := rfl
  have HS := Lib.hid hs
  clear hs
  go_enter Tryz.func66, Tryz.ntmps66
  go_wp2_with fail
  refine HS.out.mono ?_
  rintro e w1 ⟨rfl, b1⟩
  have B1 : Below w.heap.size w w1 := (bl1 _ _).after b1 (by simp)
  have K1 := K0.keep b1
  clear K0 b1 HS hp0
  have G1 := K1.cell
  go_upto_region 2 with fail
  go_cut [4] (fun v wx => ∃ g, v = .slice (some ⟨g, 0, none⟩) 4 4 ∧ OwnS 9 w1.heap.size wx (.slice (some ⟨g, 0, none⟩) 4 4) (headL k q l4) ∧ Below w1.heap.size w1 wx)
  case first =>
    have K1d : Blk w1.drew w.heap.size 49 (clC k n1 v1 n2 v2 n3 v3 q st v4) := K1
    have bd : Below w1.heap.size w1 w1.drew := (Below.refl _ _).drew
    have G1d := K1d.cell
    have h4d := (h4.below B1 (Nat.le_refl _)).keep bd
    have hpd := (hp.keep B1).keep bd
    have HT := Lib.hid (fun (W : World) (h : Below w1.drew.heap.size w1.drew W) => listTextI_any l4 v4 W (h4d.keep h) (hpd.keep h))
    obtain ⟨T, hT⟩ : ∃ T, T = listTx l4 := ⟨_, rfl⟩
    rw [← hT] at HT
    go_region_law
      (first
        | (go_simp; go_at_call 69; with_reducible refine (claimWordI_any k _).mono ?_; rintro e w5 ⟨rfl, b5⟩; have K5 := K1d.keep b5; have G5 := K5.cell)
        | (go_simp; go_at_call 207; with_reducible refine (HT.out w5 b5).mono ?_; rintro e w6 ⟨rfl, b6⟩))
    all_goals
      have B6 := (bd.after b5 bd.size).after b6 (bd.after b5 bd.size).size
      have ol := (OwnS.lit (E := 9) w6 (headL k q l4) 4 rfl (by unfold maxLen; omega) (Nat.le_refl _)).mono B6.size
      have B7 := B6.alloc B6.size (.cells ((headL k q l4).map Value.string).toArray 9)
      go_wp2_with fail
      go_meet
      exact ⟨w6.heap.size, rfl, ol, B7⟩
  case rest =>
    obtain ⟨g, rfl, o4, b4⟩ := hcut
    have B4 := B1.after b4 B1.size
    have K4 := K1.keep b4
    have HCP := Lib.hid (claimParts_any k n1 v1 l1 n2 v2 l2 n3 v3 l3 q st v4 wc (h1.below B4 (Nat.le_refl _)) (h2.below B4 (Nat.le_refl _)) (h3.below B4 (Nat.le_refl _)) (hp.keep B4))
    have hsz := claimPs_size k n1 l1 n2 l2 n3 l3 q st l4
    have htx : claimTx k n1 l1 n2 l2 n3 l3 q st l4 = if Lib.containsS (claimPs k n1 l1 n2 l2 n3 l3 q st l4) ByteArray.empty = true then ByteArray.empty else joinB space (claimPs k n1 l1 n2 l2 n3 l3 q st l4) := rfl
    have hps : claimPs k n1 l1 n2 l2 n3 l3 q st l4 = headL k q l4 ++ partsL k (setTx n1 st) (funTx n1 l1) (funTx n2 l2) (famTx n3 l3) := rfl
    obtain ⟨P, hP⟩ : ∃ P, P = claimPs k n1 l1 n2 l2 n3 l3 q st l4 := ⟨_, rfl⟩
    obtain ⟨Q, hQ⟩ : ∃ Q, Q = partsL k (setTx n1 st) (funTx n1 l1) (funTx n2 l2) (famTx n3 l3) := ⟨_, rfl⟩
    obtain ⟨R, hR⟩ : ∃ R, R = headL k q l4 := ⟨_, rfl⟩
    rw [← hP] at hsz htx hps
    rw [← hQ] at HCP
    rw [← hQ, ← hR] at hps
    rw [← hR] at o4
    have hRl : R.length = 4 := by rw [hR]; rfl
    have hQn : Q.length ≤ 6 := by
      have := hsz.2
      rw [hps, List.length_append] at this
      omega
    have HTX := Lib.hid htx
    have HPS := Lib.hid hps
    have HSZ := Lib.hid hsz
    have HRL := Lib.hid hRl
    have hQ0 : 0 < Q.length := by rw [hQ]; exact partsL_pos ..
    clear htx hps hsz hP hQ hR hRl K1 G1 h1 h2 h3 h4 hlim
    have G4 := K4.cell
    go_wp2_with fail
    refine HCP.out.mono ?_
    rintro e w5 ⟨p5, i5, c5, rfl, o5, b5⟩
    have B5 := B4.after b5 B4.size
    have o4 := o4.keep b5
    have z5 : w1.heap.size ≤ w5.heap.size := Nat.le_trans b4.size b5.size
    have zw : w.heap.size ≤ w1.heap.size := B1.size
    rcases o5.at with ⟨a, c', e, hq⟩ | ⟨g5, c', e, hc5, hg5, hcell5⟩
    · rw [hq] at hQ0; simp at hQ0
    · injection e with e1 e2 e3
      subst e1 e2 e3
      have HCE := Lib.hid hcell5
      clear hcell5 G4
      go_wp2_with (at_builtin; refine wpList_appendT rfl _ _ _ rfl 9 Tryz.underlying94 strElem w1.heap.size (.slice (some ⟨g, 0, none⟩) 4 4) R Q g5 Q.length _ rfl rfl rfl HCE.out o4 (by rw [HRL.out]; omega) z5 ?_; intro v7 w7 o7 g7; obtain ⟨p7, i7, q7, rfl⟩ := OwnS.head o7 (by rw [List.length_append]; omega))
      rw [← HPS.out] at o7
      have rr := o4.lt
      have B7 := B5.grown g7 B5.size (fun q hq => by have := (rr q hq).1; omega)
      have HCO := contains_own _ w7 _ _ _ P ByteArray.empty o7 (by have := HSZ.out.2; omega)
      cases hcon : Lib.containsS P ByteArray.empty with
      | true =>
        have hr : claimTx k n1 l1 n2 l2 n3 l3 q st l4 = ByteArray.empty := by rw [HTX.out, if_pos hcon]
        rw [hcon] at HCO
        have HCO := Lib.hid HCO
        have HR := Lib.hid hr
        clear hr hcon
        go_wp2_with fail
        refine HCO.out.mono ?_
        rintro e w8 ⟨rfl, rfl⟩
        go_wp2
        go_ret
        exact ⟨ret_str HR.out.symm, B7⟩
      | false =>
        have hr : claimTx k n1 l1 n2 l2 n3 l3 q st l4 = joinB space P := by rw [HTX.out, if_neg (by rw [hcon]; simp)]
        rw [hcon] at HCO
        have HCO := Lib.hid HCO
        have HR := Lib.hid hr
        have HJ := Lib.hid (join_own _ w7 _ P space o7 (by
          have h1 := joinB_size space 10000 P HSZ.out.1
          have h2 := HSZ.out.2
          have h3 : space.size = 1 := rfl
          rw [h3] at h1
          omega) (by have := HSZ.out.2; omega))
        clear hr hcon
        go_wp2_with fail
        refine HCO.out.mono ?_
        rintro e w8 ⟨rfl, rfl⟩
        go_wp2_with fail
        refine HJ.out.mono ?_
        rintro e w9 ⟨rfl, b9⟩
        go_wp2
        go_ret
        exact ⟨ret_str HR.out.symm, B7.after b9 B7.size⟩
end Go.Proofs.YtipejodijbjpcaaGreatDoor
end
section
namespace Go.Proofs.YtipejodijbjpcaaGreatDoor
open Go.RowKit Go.G5

theorem joinB_cons2 (sep x y : ByteArray) (r : List ByteArray) : joinB sep (x :: y :: r) = x ++ sep ++ joinB sep (y :: r) := by
  refine ba_ext ?_
  rw [ba_app, ba_app]
  show Lib.join ((x :: y :: r).map (·.data.toList)) sep.data.toList = x.data.toList ++ sep.data.toList ++ Lib.join ((y :: r).map (·.data.toList)) sep.data.toList
  rw [List.map_cons, List.map_cons, Lib.join_cons, Lib.join_cons]
  simp [Lib.joinTail, List.append_assoc]
def listS : ByteArray := ⟨#[32, 108, 105, 115, 116, 32]⟩
def ofS : ByteArray := ⟨#[32, 111, 102, 32]⟩
def forS : ByteArray := ⟨#[32, 102, 111, 114, 32]⟩
def andS : ByteArray := ⟨#[32, 97, 110, 100, 32]⟩
def setS : ByteArray := ⟨#[32, 115, 101, 116, 32]⟩
def headTx (k q : Int) (l : List Int) : ByteArray := claimWord k ++ space ++ itoaB (lim q) ++ listS ++ listTx l
theorem d1 : space.data.toList = [32] := rfl
theorem d2 : ofW.data.toList = [111, 102] := rfl
theorem d3 : forW.data.toList = [102, 111, 114] := rfl
theorem d4 : andW.data.toList = [97, 110, 100] := rfl
theorem d5 : setW.data.toList = [115, 101, 116] := rfl
theorem d6 : listW.data.toList = [108, 105, 115, 116] := rfl
theorem d7 : listS.data.toList = [32, 108, 105, 115, 116, 32] := rfl
theorem d8 : ofS.data.toList = [32, 111, 102, 32] := rfl
theorem d9 : forS.data.toList = [32, 102, 111, 114, 32] := rfl
theorem d10 : andS.data.toList = [32, 97, 110, 100, 32] := rfl
theorem d11 : setS.data.toList = [32, 115, 101, 116, 32] := rfl
theorem join_of (k q : Int) (l : List Int) (F : ByteArray) : joinB space (headL k q l ++ [ofW, F]) = headTx k q l ++ ofS ++ F := by
  unfold headL headTx
  simp only [List.cons_append, List.nil_append, joinB_cons2, joinB_one]
  refine ba_ext ?_
  simp [d1, d2, d6, d7, d8]
theorem join_for (k q : Int) (l : List Int) (F G : ByteArray) : joinB space (headL k q l ++ [ofW, F, forW, G]) = headTx k q l ++ ofS ++ F ++ forS ++ G := by
  unfold headL headTx
  simp only [List.cons_append, List.nil_append, joinB_cons2, joinB_one]
  refine ba_ext ?_
  simp [d1, d2, d3, d6, d7, d8, d9]
theorem join_set (k q : Int) (l : List Int) (S F : ByteArray) : joinB space (headL k q l ++ [setW, S, ofW, F]) = headTx k q l ++ setS ++ S ++ ofS ++ F := by
  unfold headL headTx
  simp only [List.cons_append, List.nil_append, joinB_cons2, joinB_one]
  refine ba_ext ?_
  simp [d1, d2, d5, d6, d7, d8, d11]
theorem join_and (k q : Int) (l : List Int) (S F G : ByteArray) : joinB space (headL k q l ++ [setW, S, ofW, F, andW, G]) = headTx k q l ++ setS ++ S ++ ofS ++ F ++ andS ++ G := by
  unfold headL headTx
  simp only [List.cons_append, List.nil_append, joinB_cons2, joinB_one]
  refine ba_ext ?_
  simp [d1, d2, d4, d5, d6, d7, d8, d10, d11]
theorem word_ne (k : Int) (h : 1 ≤ k ∧ k ≤ 7) : claimWord k ≠ ByteArray.empty := by
  have : (claimWord k).size ≠ 0 := by
    rcases (show k = 1 ∨ k = 2 ∨ k = 3 ∨ k = 4 ∨ k = 5 ∨ k = 6 ∨ k = 7 by omega) with rfl | rfl | rfl | rfl | rfl | rfl | rfl <;> decide
  intro e
  exact this (ba_emp.2 e)
theorem word_emp (k : Int) (h : ¬ (1 ≤ k ∧ k ≤ 7)) : claimWord k = ByteArray.empty := by
  unfold claimWord
  rw [if_neg (by omega), if_neg (by omega), if_neg (by omega), if_neg (by omega), if_neg (by omega), if_neg (by omega), if_neg (by omega)]; rfl
theorem emp_ne (b : ByteArray) (h : b.size ≠ 0) : ¬ ByteArray.empty = b := fun e => h (by rw [← e]; rfl)
theorem head_mem (k q : Int) (l : List Int) (r : List ByteArray) : ByteArray.empty ∈ headL k q l ++ r ↔ (ByteArray.empty = claimWord k ∨ ByteArray.empty ∈ r) := by
  have a2 : ¬ ByteArray.empty = itoaB (lim q) := fun e => itoaB_ne _ e.symm
  have a3 : ¬ ByteArray.empty = listW := emp_ne _ (by decide)
  have a4 : ¬ ByteArray.empty = listTx l := fun e => listTx_ne _ e.symm
  simp [headL, a2, a3, a4]
theorem claimTx_is (k n1 : Int) (l1 : List Int) (n2 : Int) (l2 : List Int) (n3 : Int) (l3 : List Int) (q st : Int) (l4 : List Int) (hk : 1 ≤ k ∧ k ≤ 7) (r : List ByteArray) (hr : partsL k (setTx n1 st) (funTx n1 l1) (funTx n2 l2) (famTx n3 l3) = r) :
    claimTx k n1 l1 n2 l2 n3 l3 q st l4 = if Lib.containsS r ByteArray.empty = true then ByteArray.empty else joinB space (headL k q l4 ++ r) := by
  have hps : claimPs k n1 l1 n2 l2 n3 l3 q st l4 = headL k q l4 ++ r := by unfold claimPs; rw [hr]
  unfold claimTx
  rw [hps]
  have hw : ¬ ByteArray.empty = claimWord k := fun e => word_ne k hk e.symm
  by_cases hm : Lib.containsS r ByteArray.empty = true
  · rw [if_pos hm, if_pos ((Lib.containsS_iff _ _).2 ((head_mem k q l4 r).2 (.inr ((Lib.containsS_iff _ _).1 hm))))]
  · rw [if_neg hm, if_neg (fun h => ((head_mem k q l4 r).1 ((Lib.containsS_iff _ _).1 h)).elim hw (fun h => hm ((Lib.containsS_iff _ _).2 h)))]
theorem of_ne : ¬ ByteArray.empty = ofW := emp_ne _ (by decide)
theorem for_ne : ¬ ByteArray.empty = forW := emp_ne _ (by decide)
theorem and_ne : ¬ ByteArray.empty = andW := emp_ne _ (by decide)
theorem set_ne : ¬ ByteArray.empty = setW := emp_ne _ (by decide)
end Go.Proofs.YtipejodijbjpcaaGreatDoor
end
section
namespace Go.G5
open Go Go.RowKit

section
variable {P : Program} {w : World}
/-- where a result of append lies: where the slice lay, or in a new block -/
def NearBy (w : World) (v v' : Value) : Prop := v'.ownBlock = v.ownBlock ∨ v'.ownBlock = some w.heap.size
theorem run_appendN (T E ty : TypeId) (hT : P.underlying T = some (.slice E)) (hE : IntElem P E) (B : Nat) (v : Value) (l : List Int) (hown : OwnI E B w v l)
    (sv : Value) (m : List Int) (hs : Ints w sv m) (hlen : l.length + m.length ≤ 17592186044416) (hB : B ≤ w.heap.size) :
    ∃ v' w', (Builtin.append_ #[T, T] ty #[v, sv]).run P w = .ok v' w' ∧ OwnI E B w' v' (l ++ m) ∧ w.grownBy w' v.ownBlock ∧ NearBy w v v' := by
  obtain ⟨i, hi, hz, h1, h8⟩ := hE.get
  obtain ⟨ad, c, rfl, hmc, hcm, hr, h4⟩ := hs
  have hall : ∀ q ∈ l ++ m, InR q := fun q hq => (List.mem_append.1 hq).elim (hown.2 q) (hr q)
  have hempty : ad = none → m = [] := by
    intro e
    rcases h4 with h | ⟨b, off, hb, _⟩
    · exact h
    · rw [e] at hb; cases hb
  cases ad with
  | none =>
    have := hempty rfl
    subst this
    refine ⟨v, w, ?_, by simpa using hown, World.grownBy.refl w _, .inl rfl⟩
    rcases hown.1.2 with ⟨rfl, hn⟩ | ⟨g, cap, cur, rfl, _, _, hnc, _⟩
    · simp [Builtin.append_, run_underlying hT, sizeOf, typeInfo, hi, Builtin.lenOf, Builtin.firstCells]
    · simp [Builtin.append_, run_underlying hT, sizeOf, typeInfo, hi, Builtin.lenOf, Builtin.firstCells, hnc, storeCells]
  | some ad =>
    have hcells : ∀ j u, (m.map (Value.int .i64))[j]? = some u → w.cell? (ad.add j) = some u := by
      intro j u hu
      rcases h4 with h | ⟨b, off, hb, _, hc⟩
      · subst h; simp at hu
      · simp only [Option.some.injEq] at hb
        subst hb
        have hj : j < m.length := by
          rcases Nat.lt_or_ge j m.length with h | h
          · exact h
          · rw [List.getElem?_eq_none (by simpa using h)] at hu; cases hu
        have := hc j hj
        have e : (⟨b, off, none⟩ : Addr).add j = ⟨b, off + j, none⟩ := by
          unfold Addr.add; split
          · rename_i h0; rw [h0]; rfl
          · rfl
        rw [e, this]
        rw [List.getElem?_map, List.getElem?_eq_getElem hj] at hu
        exact hu
    obtain ⟨v', w', hrun, h2, h3, _, h5⟩ := run_append_own_at (P := P) w B T ty E i (.int .i64 0) 1 8 hT hi hz h1 h8 rfl (by decide) v l.length (l.map (Value.int .i64)) hown.1 ad m.length c (m.map (Value.int .i64)) (by simp) hcells
      (by intro u hu; obtain ⟨q, _, rfl⟩ := List.mem_map.1 hu; rfl) (by unfold maxLen; omega) (by omega) hB
    exact ⟨v', w', hrun, ⟨by simpa using h2, hall⟩, h3, h5⟩
theorem wp_appendN {o : Oper} {a : Act} {K : Act → World → Prop} {Q : Exit → Act → World → Prop} (s x : Operand) (t : TypeId)
    (ho : o.op = .call { callee := .builtin .append, args := #[s, x], argTypes := #[t, t] })
    (E : TypeId) (hT : P.underlying t = some (.slice E)) (hE : IntElem P E) (B : Nat) (v : Value) (l : List Int) (hs : a.eval s = v) (hown : OwnI E B w v l)
    (sv : Value) (m : List Int) (hx : a.eval x = sv) (hsv : Ints w sv m) (hlen : l.length + m.length ≤ 17592186044416) (hB : B ≤ w.heap.size)
    (h : ∀ v' w', OwnI E B w' v' (l ++ m) → w.grownBy w' v.ownBlock → NearBy w v v' → K (a.put o.dst v') w') : o.wp P a w K Q := by
  obtain ⟨v', w', hrun, h2, h3, h4⟩ := run_appendN (P := P) t E o.type hT hE B v l hown sv m hsv hlen hB
  unfold Oper.wp execOp
  simp only [ho, resolve, invoke, builtin, Sem.run_bind, Sem.run_pure, Result.andThen_ok, List.map_toArray, List.map_cons, List.map_nil, hs, hx, hrun]
  exact h v' w' h2 h3 h4
theorem Ints.one {w : World} {b : Nat} {y : Int} (hy : w.cell? ⟨b, 0, none⟩ = some (.int .i64 y)) (hyr : InR y) : Ints w (.slice (some ⟨b, 0, none⟩) 1 1) [y] :=
  ⟨some ⟨b, 0, none⟩, 1, rfl, Nat.le_refl _, by decide, by intro q hq; simp only [List.mem_singleton] at hq; subst hq; exact hyr,
      .inr ⟨b, 0, rfl, World.block_lt_of_cell? w _ hy, fun k hk => by have : k = 0 := by simpa using hk
                                                                      subst this; exact hy⟩⟩
/-- out = append(out, y) -/
theorem wpList_appendN1 {ops : Array Oper} {rest : List Oper} {o : Oper} {a : Act} {Q : Exit → Act → World → Prop} (hgd : o.guard = none) (s x : Operand) (t : TypeId)
    (ho : o.op = .call { callee := .builtin .append, args := #[s, x], argTypes := #[t, t] })
    (E : TypeId) (hT : P.underlying t = some (.slice E)) (hE : IntElem P E) (B : Nat) (v : Value) (l : List Int) (y : Int) (b : Nat) (hs : a.eval s = v) (hx : a.eval x = .slice (some ⟨b, 0, none⟩) 1 1)
    (hy : w.cell? ⟨b, 0, none⟩ = some (.int .i64 y))
    (hown : OwnI E B w v l) (hyr : InR y) (hlen : l.length < 17592186044415) (hB : B ≤ w.heap.size)
    (h : ∀ v' w', OwnI E B w' v' (l ++ [y]) → w.grownBy w' v.ownBlock → NearBy w v v' → wpList P ops Q rest (a.put o.dst v') w') : wpList P ops Q (o :: rest) a w :=
  wpList_plain hgd fun _ hK => wp_appendN s x t ho E hT hE B v l hs hown _ [y] hx (Ints.one hy hyr) (by simp; omega) hB fun v' w' h2 h3 h4 => hK _ _ (h v' w' h2 h3 h4)
/-- out = append(out, s...) -/
theorem wpList_appendN {ops : Array Oper} {rest : List Oper} {o : Oper} {a : Act} {Q : Exit → Act → World → Prop} (hgd : o.guard = none) (s x : Operand) (t : TypeId)
    (ho : o.op = .call { callee := .builtin .append, args := #[s, x], argTypes := #[t, t] })
    (E : TypeId) (hT : P.underlying t = some (.slice E)) (hE : IntElem P E) (B : Nat) (v : Value) (l : List Int) (hs : a.eval s = v) (hown : OwnI E B w v l)
    (sv : Value) (m : List Int) (hx : a.eval x = sv) (hsv : Ints w sv m) (hlen : l.length + m.length ≤ 17592186044416) (hB : B ≤ w.heap.size)
    (h : ∀ v' w', OwnI E B w' v' (l ++ m) → w.grownBy w' v.ownBlock → NearBy w v v' → wpList P ops Q rest (a.put o.dst v') w') : wpList P ops Q (o :: rest) a w :=
  wpList_plain hgd fun _ hK => wp_appendN s x t ho E hT hE B v l hs hown sv m hx hsv hlen hB fun v' w' h2 h3 h4 => hK _ _ (h v' w' h2 h3 h4)
end
/-- what is known of another own row where append has grown one that lies apart -/
theorem NearBy.apart {w : World} {v v' u : Value} (h : NearBy w v v') (ha : Apart v u) (hu : ∀ k, u.ownBlock = some k → k < w.heap.size) : Apart v' u := by
  intro k hk hku
  rcases h with h | h
  · exact ha k (h ▸ hk) hku
  · rw [h] at hk
    have e : w.heap.size = k := Option.some.inj hk
    have := hu k hku
    omega
theorem OwnI.growA {E : TypeId} {B : Nat} {w w' : World} {u v : Value} {l : List Int} (h : OwnI E B w u l) (hg : w.grownBy w' v.ownBlock) (ha : Apart v u) : OwnI E B w' u l :=
  h.grow hg (fun k hk hu => ha k hk hu)
theorem OwnW.growA {E : TypeId} {B : Nat} {w w' : World} {u v : Value} {l : List Int} (h : OwnW E B w u l) (hg : w.grownBy w' v.ownBlock) (ha : Apart v u) : OwnW E B w' u l :=
  h.grow hg (fun k hk hu => ha k hk hu)
theorem Apart.nil (c d : Nat) (u : Value) : Apart (.slice none c d) u := fun k hk _ => by simp [Value.ownBlock] at hk
theorem Ints.upto {P : Program} {w : World} {a : Option Addr} {c : Nat} {l : List Int} (h : Ints w (.slice a l.length c) l) (T E : TypeId) (hT : P.underlying T = some (.slice E)) (hE : IntElem P E) (k : Nat) (hk : k ≤ l.length) :
    (∀ (kk : IntKind) (w' : World), (Instr.slice T (.slice a l.length c) none (some (.int kk (k : Int))) none).run P w' = .ok (.slice a k c) w') ∧ Ints w (.slice a k c) (l.take k) := by
  obtain ⟨i, hi, _, h1, _⟩ := hE.get
  have hEl : P.elem T = E := by simp [Program.elem, hT]
  obtain ⟨hl, hcl, hcm⟩ := h.capLe
  have hlen : (l.take k).length = k := by simp; omega
  refine ⟨fun kk w' => ?_, ?_⟩
  · rw [run_slice_h w' T a l.length c (by rw [hEl]; exact hT) kk k (by omega) (by omega)]
    simp [sizeOf, typeInfo, hEl, hi, h1, Result.andThen, sliced]
    cases a with
    | none => simp
    | some x => simp [Addr.add]
  · obtain ⟨a1, c1, he, q1, q2, q3, h4⟩ := h
    simp only [Value.slice.injEq] at he
    obtain ⟨rfl, _, rfl⟩ := he
    refine ⟨a, c, by rw [hlen], by omega, q2, fun x hx => q3 x (List.mem_of_mem_take hx), ?_⟩
    rcases h4 with e | ⟨b, off, rfl, hb, hk'⟩
    · rw [e]; exact .inl (by simp)
    · exact .inr ⟨b, off, rfl, hb, fun j hj => by rw [hk' j (by omega), List.getElem_take]⟩
theorem OwnI.drew' {E : TypeId} {B : Nat} {w : World} {v : Value} {l : List Int} (h : OwnI E B w v l) : OwnI E B w.drew v l := h.drewN 1
theorem Ints.drew' {w : World} {v : Value} {l : List Int} (h : Ints w v l) : Ints w.drew v l := h.drewN 1

/-- a step of a region that draws its order: append of a slice, told of the world in which the walk began -/
theorem step_put {P : Program} {w : World} {ops : Array Oper} {o : Oper} {a : Act} {K : Act → World → Prop} {Q : Exit → Act → World → Prop} {F : Prop} (hgd : o.guard = none) (s x : Operand) (t : TypeId)
    (ho : o.op = .call { callee := .builtin .append, args := #[s, x], argTypes := #[t, t] })
    (E : TypeId) (hT : P.underlying t = some (.slice E)) (hE : IntElem P E) (B : Nat) (v : Value) (l : List Int) (hs : a.eval s = v)
    (sv : Value) (m : List Int) (hx : a.eval x = sv) (hown : OwnI E B w v l) (hsv : Ints w sv m) (hlen : l.length + m.length ≤ 17592186044416) (w0 : World) (hb : Below B w0 w) (hB0 : B ≤ w0.heap.size)
    (h : ∀ v' w', OwnI E B w' v' (l ++ m) → Below B w0 w' → (∀ b u, w.cell? ⟨b, 0, none⟩ = some u → some b ≠ v.ownBlock → w'.cell? ⟨b, 0, none⟩ = some u) → K (a.put o.dst v') w') : if Region.wanted o (yielded ops a.tmps) = true then Oper.wp P o a w K Q else F := by
  have hB := Nat.le_trans hB0 hb.size
  refine step_appendS hgd s x t ho E hT hE B v l hs hown sv m hx hsv hlen hB fun v' w' h1 h2 => h v' w' h1 (hb.grown h2 hB (fun q hq => (hown.lt q hq).1)) fun b u hc hne => ?_
  have hlt := World.block_lt_of_cell? w _ hc
  have e := h2.block b hlt hne
  unfold World.cell? at hc ⊢
  simp only at hc ⊢
  rw [e]; exact hc
theorem cell_newD (w : World) (T : TypeId) (u : Value) : (w.alloc (.cells #[u] T)).drew.cell? ⟨w.heap.size, 0, none⟩ = some u := cell_new w #[u] T 0 u rfl
theorem cell_second (w : World) (o : Obj) (T : TypeId) (u : Value) : ((w.alloc o).alloc (.cells #[u] T)).drew.cell? ⟨w.heap.size + 1, 0, none⟩ = some u := by
  have h := cell_new (w.alloc o) #[u] T 0 u rfl
  have e : (w.alloc o).heap.size = w.heap.size + 1 := by simp
  rw [e] at h
  exact h
theorem cell_first (w : World) (o : Obj) (T : TypeId) (u : Value) : ((w.alloc (.cells #[u] T)).alloc o).drew.cell? ⟨w.heap.size, 0, none⟩ = some u := cell_old (cell_new w #[u] T 0 u rfl) o
theorem own_ne1 (n : Nat) (a b : Nat) : some (n + 1) ≠ (Value.slice (some ⟨n, 0, none⟩) a b).ownBlock := by intro e; have h : n + 1 = n := Option.some.inj e; omega
theorem own_ne2 (n : Nat) (a b : Nat) : some n ≠ (Value.slice (some ⟨n + 1, 0, none⟩) a b).ownBlock := by intro e; have h : n = n + 1 := Option.some.inj e; omega
theorem OwnI.lit0' {E : TypeId} (w : World) (o : Obj) : OwnI E w.heap.size ((w.alloc o).alloc (.cells #[] E)) (.slice (some ⟨w.heap.size + 1, 0, none⟩) 0 0) [] := by
  have := OwnI.lit0 (E := E) (B := w.heap.size) (w.alloc o) (by simp)
  simpa using this
/-- as step_put; whole blocks apart from the row are as they were -/
theorem step_putB {P : Program} {w : World} {ops : Array Oper} {o : Oper} {a : Act} {K : Act → World → Prop} {Q : Exit → Act → World → Prop} {F : Prop} (hgd : o.guard = none) (s x : Operand) (t : TypeId)
    (ho : o.op = .call { callee := .builtin .append, args := #[s, x], argTypes := #[t, t] })
    (E : TypeId) (hT : P.underlying t = some (.slice E)) (hE : IntElem P E) (B : Nat) (v : Value) (l : List Int) (hs : a.eval s = v)
    (sv : Value) (m : List Int) (hx : a.eval x = sv) (hown : OwnI E B w v l) (hsv : Ints w sv m) (hlen : l.length + m.length ≤ 17592186044416) (w0 : World) (hb : Below B w0 w) (hB0 : B ≤ w0.heap.size)
    (h : ∀ v' w', OwnI E B w' v' (l ++ m) → Below B w0 w' → (∀ b t cs, Blk w b t cs → some b ≠ v.ownBlock → Blk w' b t cs ∧ v'.ownBlock ≠ some b) → K (a.put o.dst v') w') : if Region.wanted o (yielded ops a.tmps) = true then Oper.wp P o a w K Q else F := by
  have hB := Nat.le_trans hB0 hb.size
  have hw : Region.wanted o (yielded ops a.tmps) = true := by simp [Region.wanted, hgd]
  rw [if_pos hw]
  refine wp_appendN s x t ho E hT hE B v l hs hown sv m hx hsv hlen hB fun v' w' h1 h2 h3 => h v' w' h1 (hb.grown h2 hB (fun q hq => (hown.lt q hq).1)) fun b t cs hc hne => ⟨hc.grow h2 (fun e => hne e.symm), ?_⟩
  rcases h3 with h3 | h3
  · rw [h3]; exact fun e => hne e.symm
  · rw [h3]; intro e; have := Option.some.inj e; have := hc.lt; omega
theorem grown_setCell (w : World) (a : Addr) (u : Value) : w.grownBy (w.setCell a u) (some a.block) :=
  ⟨rfl, rfl, rfl, by simp, fun b _ hne => Below.heap_setCell w _ _ b (fun e => hne (by rw [e]))⟩
theorem grow_set {w w' : World} {g : Nat} (h : w.grownBy w' (some g)) (i : Nat) (u : Value) : w.grownBy (w'.setCell ⟨g, i, none⟩ u) (some g) := gr_trans h (grown_setCell w' ⟨g, i, none⟩ u)
theorem OwnI.setFar {E : TypeId} {B : Nat} {w : World} {v : Value} {l : List Int} (h : OwnI E B w v l) (a : Addr) (ha : v.ownBlock ≠ some a.block) (u : Value) : OwnI E B (w.setCell a u) v l :=
  h.grow (grown_setCell w a u) (fun _ hk hv => ha (hv.trans hk.symm))
theorem far_of {v v' : Value} {F n : Nat} (h : ∀ k, v'.ownBlock = some k → v.ownBlock = some k ∨ n ≤ k) (h1 : v.ownBlock ≠ some F) (h2 : F < n) : v'.ownBlock ≠ some F := fun e => by
  rcases h F e with h | h
  · exact h1 h
  · omega
theorem own_neF {E : TypeId} {B F : Nat} {w : World} {v : Value} {l : List Int} (h : OwnI E B w v l) (hF : w.heap.size ≤ F) : v.ownBlock ≠ some F := fun e => by have := (h.lt F e).2; omega
theorem size_ne {B g : Nat} {w w' : World} (h : Below B w w') (hg : g < w.heap.size) : ¬ w'.heap.size = g := by have := h.size; omega
theorem Blk.drew' {w : World} {g : Nat} {t : TypeId} {cs : Array Value} (h : Blk w g t cs) : Blk w.drew g t cs := h
theorem Blk.second (w : World) (o : Obj) (t : TypeId) (cs : Array Value) : Blk ((w.alloc o).alloc (.cells cs t)).drew (w.heap.size + 1) t cs := by
  have h := Blk.new (w.alloc o) t cs
  have e : (w.alloc o).heap.size = w.heap.size + 1 := by simp
  rw [e] at h
  exact h
theorem Blk.first (w : World) (o : Obj) (t : TypeId) (cs : Array Value) : Blk ((w.alloc (.cells cs t)).alloc o).drew w.heap.size t cs := (Blk.new w t cs).alloc o
end Go.G5
end
