/- Games: the facts that the law asks for. Powers of elements. -/
import Derived.Test.YtgdkeaooipmgbaaQ34
import Derived.StillTailTactics
section
namespace Go.Proofs.Ytgdkeaooipmgbaa
open Go.RowKit Go.G5

theorem coreOk_true (l x : List Int) : ∀ m, (∀ k : Nat, k < m → slackOf l x k ≤ 0) → coreOkTo l x m = true := by
  intro m
  induction m with
  | zero => intro _; rfl
  | succ m ih =>
    intro h
    rw [coreOkTo, ih (fun k hk => h k (by omega)), decide_eq_true (h m (by omega))]; rfl
theorem gr_zero {n : Int} {l : List Int} (h : isGrB n l = true) : l.getD 0 0 = 0 := by
  unfold isGrB at h
  rw [Bool.and_eq_true, decide_eq_true_eq] at h
  exact h.2
theorem core_corner (n : Int) (l o : List Int) (hg : isGrB n l = true) (hs : supB n l = true) (ho : (o.length : Int) = n) (hd : Dist o.length o) : inCoreB n l (cornerL l o) = true := by
  obtain ⟨N, rfl, hN5, hl2, hl32, hlb⟩ := fun_nat (grOk hg)
  have hN : o.length = N := by omega
  rw [hN] at hd
  have hp : Perm N o := ⟨hN, hd⟩
  have h0 := gr_zero hg
  have hsu := (sup_iff N l (grOk hg)).1 hs
  have hlen : (cornerL l o).length = N := by unfold cornerL; rw [cornerTo_len]; exact hN
  have hbd := cornerTo_bd l o (by rw [hN]; exact hl2) hlb (by rw [hN]; exact hd.bd) o.length (Nat.le_refl _)
  have hlong : isLongB (N : Int) (cornerL l o) = true := by
    unfold isLongB allIn
    rw [hlen, decide_eq_true rfl, Bool.true_and, List.all_eq_true]
    intro y hy
    have := hbd y hy
    exact inB_true.2 ⟨by omega, by omega⟩
  have hge : ∀ s : Nat, s < 2 ^ N → l.getD s 0 ≤ wt (cornerL l o) s := by
    intro s hs2
    have := corner_ge hp l hsu s N (Nat.le_refl _)
    rw [pref_full hp hN5, h0] at this
    have hand : s &&& (2 ^ N - 1) = s := by rw [Nat.and_two_pow_sub_one_eq_mod]; exact Nat.mod_eq_of_lt hs2
    rw [hand] at this
    unfold cornerL
    rw [hN]
    omega
  have heq := corner_eq hp l N (Nat.le_refl _)
  rw [pref_full hp hN5, h0] at heq
  have hpn := Nat.two_pow_pos N
  have hcast : ((2 ^ N - 1 : Nat) : Int) = (2 : Int) ^ N - 1 := by rw [Int.ofNat_sub hpn]; simp
  have hok : coreOkTo l (cornerL l o) l.length = true := coreOk_true _ _ _ (fun k hk => by
    have := hge k (by omega)
    unfold slackOf
    rw [Int.toNat_natCast]; omega)
  have hsl : slackOf l (cornerL l o) (2 ^ (N : Int).toNat - 1) = 0 := by
    unfold slackOf
    rw [Int.toNat_natCast, ← hcast, Int.toNat_natCast]
    unfold cornerL
    rw [hN, heq]; omega
  unfold inCoreB
  rw [hg, hlong, hok, hsl]; rfl

/-! the core and the bases of the opposite -/
def negX (x : List Int) : List Int := x.map fun y => -y
theorem negX_len (x : List Int) : (negX x).length = x.length := by unfold negX; simp
theorem negX_getD (x : List Int) (k : Nat) : (negX x).getD k 0 = -(x.getD k 0) := by
  unfold negX
  rw [List.getD_eq_getElem?_getD, List.getElem?_map, List.getD_eq_getElem?_getD]
  cases x[k]? <;> rfl
theorem wt_neg (x : List Int) (s : Int) : wt (negX x) s = - wt x s := by
  unfold wt
  rw [negX_len]
  have : ∀ k, wtTo (negX x) s k = - wtTo x s k := by
    intro k
    induction k with
    | zero => rfl
    | succ k ih =>
      rw [wtTo, wtTo, ih, negX_getD]
      split <;> omega
  exact this _
theorem slack_neg (l x : List Int) (s : Int) : slackOf (negL l) (negX x) s = - slackOf l x s := by
  unfold slackOf
  rw [negL_getD, wt_neg]; omega
theorem long_neg (n : Int) (x : List Int) : isLongB n (negX x) = isLongB n x := by
  unfold isLongB allIn
  rw [negX_len]
  congr 1
  unfold negX
  rw [List.all_map]
  apply List.all_congr rfl
  intro y
  have h1 : inB (-y) (-5000) 5000 = true ↔ inB y (-5000) 5000 = true := by rw [inB_true, inB_true]; omega
  cases h2 : inB y (-5000) 5000 with
  | true => exact h1.2 h2
  | false =>
    cases h3 : inB (-y) (-5000) 5000 with
    | true => rw [h1.1 h3] at h2; cases h2
    | false => exact h3
theorem gr_neg (n : Int) (l : List Int) (h : isGrB n l = true) : isGrB n (negL l) = true := by
  have h0 := gr_zero h
  unfold isGrB
  rw [neg_fun n l (grOk h), negL_getD, h0]; rfl
theorem core_base (n : Int) (l x : List Int) (h : isGrB n l = true) : baseB n (negL l) (negX x) = inCoreB n l x := by
  unfold baseB belB inCoreB
  rw [gr_neg n l h, h, long_neg, negL_len, slack_neg]
  have hok : ∀ m, belOkTo (negL l) (negX x) m = coreOkTo l x m := by
    intro m
    induction m with
    | zero => rfl
    | succ m ih =>
      rw [belOkTo, coreOkTo, ih, slack_neg]
      congr 1
      exact decide_eq_decide.2 ⟨fun q => by omega, fun q => by omega⟩
  rw [hok]
  have hz : (-slackOf l x (2 ^ n.toNat - 1) == 0) = (slackOf l x (2 ^ n.toNat - 1) == 0) := by
    cases hq : (slackOf l x (2 ^ n.toNat - 1) == 0) with
    | true => rw [beq_iff_eq] at hq ⊢; omega
    | false =>
      cases hr : (-slackOf l x (2 ^ n.toNat - 1) == 0) with
      | true => rw [beq_iff_eq] at hr; have : slackOf l x (2 ^ n.toNat - 1) = 0 := by omega
                rw [this] at hq; cases hq
      | false => rfl
  rw [hz]

/-! nonnegative masses -/
def exT (s i k : Nat) : List (Int × Nat) :=
  (wholeT (setBit s i ||| setBit s k) ((setBit s i ||| setBit s k) + 1) ++ wholeT s (s + 1)) ++ (negT (wholeT (setBit s i) (setBit s i + 1)) ++ negT (wholeT (setBit s k) (setBit s k + 1)))
def gaT (s e : Nat) : List (Int × Nat) := wholeT (setBit s e) (setBit s e + 1) ++ negT (wholeT s (s + 1))
def posT (n : Nat) (ts : List (Int × Nat)) : Bool := ts.all (fun t => decide (t.2 < n)) && ((cof 0 ts == 0) && (List.range n).all fun j => decide (0 ≤ cof j ts))
def exOk (N : Nat) : Bool := (List.range (2 ^ N)).all fun s => (List.range N).all fun i => (List.range N).all fun k => (nbit s i || nbit s k) || (decide (k ≤ i) || posT (2 ^ N) (exT s i k))
def gaOk (N : Nat) : Bool := (List.range (2 ^ N)).all fun s => (List.range N).all fun e => posT (2 ^ N) (gaT s e)
theorem ex_ok : ∀ N, N ≤ 5 → exOk N = true := by decide +kernel
theorem ga_ok : ∀ N, N ≤ 5 → gaOk N = true := by decide +kernel
theorem pos_dot (m : List Int) (n : Nat) (ts : List (Int × Nat)) (h : posT n ts = true) (hm : ∀ j, 1 ≤ j → 0 ≤ m.getD j 0) : 0 ≤ dot m ts := by
  unfold posT at h
  simp only [Bool.and_eq_true, List.all_eq_true, decide_eq_true_eq, List.mem_range, beq_iff_eq] at h
  rw [dot_cof m n ts h.1]
  apply sumN_nonneg
  intro j hj
  by_cases h0 : j = 0
  · subst h0; rw [h.2.1]; omega
  · exact Int.mul_nonneg (h.2.2 j hj) (hm j (by omega))
theorem pos_masses {n : Int} {l : List Int} (h : onlyPosB n l = true) : ∀ j, 1 ≤ j → 0 ≤ (masses l).getD j 0 := by
  intro j hj
  unfold onlyPosB at h
  rw [Bool.and_eq_true] at h
  by_cases hl : j < (masses l).length
  · have h2 := h.2
    unfold allIn at h2
    rw [List.all_eq_true] at h2
    have hm : (masses l)[j] ∈ (masses l).drop 1 := by
      rw [List.mem_iff_getElem]
      exact ⟨j - 1, by rw [List.length_drop]; omega, by rw [List.getElem_drop]; congr 1; omega⟩
    rw [getD_at _ j hl]
    exact (inB_true.1 (h2 _ hm)).1
  · rw [List.getD_eq_getElem?_getD, List.getElem?_eq_none (by omega)]; simp
theorem val_dot (l : List Int) (hl : l.length ≤ 32) (s : Nat) (hs : s < l.length) : l.getD s 0 = dot (masses l) (wholeT s (s + 1)) := by
  rw [← sumTo_dot, mass_back l hl s hs]
theorem allTo_game {p : Nat → Bool} : ∀ {n : Nat}, (∀ k, k < n → p k = true) → allTo p n = true := by
  intro n
  induction n with
  | zero => intro _; rfl
  | succ n ih => intro h; exact allTo_succ (ih (fun k hk => h k (by omega))) (h n (by omega))
theorem pos_super (n : Int) (l : List Int) (h : onlyPosB n l = true) : supB n l = true ∧ incB n l = true := by
  have hf : isFunB n l = true := by unfold onlyPosB at h; rw [Bool.and_eq_true] at h; exact h.1
  have hm := pos_masses h
  obtain ⟨N, rfl, hN5, hl2, hl32, hlb⟩ := fun_nat hf
  constructor
  · rw [sup_iff N l hf]
    intro s i k hs hik hk h1 h2
    have he := ex_ok N hN5
    unfold exOk at he
    simp only [List.all_eq_true, List.mem_range] at he
    have he := he s hs i (by omega) k hk
    rw [h1, h2, decide_eq_false (by omega)] at he
    simp only [Bool.or_self, Bool.false_or] at he
    have hp := pos_dot (masses l) _ _ he hm
    have e1 := setBit_lt s i N hs (by omega)
    have e2 := setBit_lt s k N hs hk
    have e3 : setBit s i ||| setBit s k < 2 ^ N := Nat.or_lt_two_pow e1 e2
    unfold exT at hp
    rw [dot_app, dot_app, dot_app, dot_neg, dot_neg, ← val_dot l hl32 (setBit s i ||| setBit s k) (by omega), ← val_dot l hl32 s (by omega), ← val_dot l hl32 (setBit s i) (by omega), ← val_dot l hl32 (setBit s k) (by omega)] at hp
    unfold exL
    omega
  · unfold incB
    rw [hf, Bool.true_and, Int.toNat_natCast]
    apply allTo_game
    intro s hs
    apply allTo_game
    intro e he
    have hg := ga_ok N hN5
    unfold gaOk at hg
    simp only [List.all_eq_true, List.mem_range] at hg
    have hp := pos_dot (masses l) _ _ (hg s (by omega) e he) hm
    have e1 := setBit_lt s e N (by omega) he
    unfold gaT at hp
    rw [dot_app, dot_neg, ← val_dot l hl32 (setBit s e) (by omega), ← val_dot l hl32 s (by omega)] at hp
    unfold upB gainL
    rw [decide_eq_false (by omega)]; rfl
end Go.Proofs.Ytgdkeaooipmgbaa
end
section
namespace Go.Proofs.Ytgdkeaooipmgbaa
open Go.RowKit Go.G5

theorem cornerL_bd (l o : List Int) (hl : l.length = 2 ^ o.length) (hlb : ∀ k, (hk : k < l.length) → -1000 ≤ l[k] ∧ l[k] ≤ 1000) (ho : ∀ x ∈ o, 0 ≤ x ∧ x < o.length) :
    ∀ x ∈ cornerL l o, -2000 ≤ x ∧ x ≤ 2000 := by
  have h : ∀ k, k ≤ o.length → ∀ x ∈ cornerTo l o k, -2000 ≤ x ∧ x ≤ 2000 := by
    intro k
    induction k with
    | zero =>
      intro _ x hx
      have := List.eq_of_mem_replicate hx
      omega
    | succ k ih =>
      intro hk x hx
      rw [cornerTo] at hx
      rcases List.mem_or_eq_of_mem_set hx with hx | hx
      · exact ih (by omega) x hx
      · rw [hx]
        have hlt : k < o.length := by omega
        have hm := ho _ (List.getElem_mem hlt)
        have hp := prefS_lt o o.length k ho (by omega)
        rw [List.getD_eq_getElem?_getD, List.getElem?_eq_getElem hlt, Option.getD_some]
        refine gainL_bd l _ _ (by omega) ?_ hlb
        rw [hl]
        exact setBit_lt _ _ _ hp (by omega)
  exact h o.length (Nat.le_refl _)
theorem getD_bd (l : List Int) (h : ∀ x ∈ l, -2000 ≤ x ∧ x ≤ 2000) (e : Nat) : -2000 ≤ l.getD e 0 ∧ l.getD e 0 ≤ 2000 := by
  rw [List.getD_eq_getElem?_getD]
  by_cases he : e < l.length
  · rw [List.getElem?_eq_getElem he]; exact h _ (List.getElem_mem he)
  · rw [List.getElem?_eq_none (by omega)]; decide
theorem tot_bd (l : List Int) (os : List (List Int)) (n : Nat) (hl : l.length = 2 ^ n) (hlb : ∀ k, (hk : k < l.length) → -1000 ≤ l[k] ∧ l[k] ≤ 1000) (hos : ∀ o ∈ os, o.length = n ∧ ∀ x ∈ o, 0 ≤ x ∧ x < n) (e j : Nat) (hj : j ≤ os.length) :
    -2000 * (j : Int) ≤ tot l os e j ∧ tot l os e j ≤ 2000 * (j : Int) := by
  induction j with
  | zero => simp [tot]
  | succ j ih =>
    have h1 := ih (by omega)
    have ho := hos _ (List.getElem_mem (show j < os.length by omega))
    have hb := getD_bd _ (cornerL_bd l os[j] (by rw [ho.1]; exact hl) hlb (by rw [ho.1]; exact ho.2)) e
    rw [tot, show os.getD j [] = os[j] by rw [List.getD_eq_getElem?_getD, List.getElem?_eq_getElem (show j < os.length by omega)]; rfl]
    omega

set_option maxHeartbeats 2000000 in
set_option maxRecDepth 100000 in
theorem shapI_c (w : World) (n : Int) (v : Value) (l : List Int) (hv : Ints w v l) (_ : l.length ≤ 1048576) :
    Calls Try.prog 11 #[.agg #[.int .i64 n, v]] w fun e w' => ∃ ad i cp, e = .returned (.slice ad i cp) ∧ OwnI 3 w.heap.size w' (.slice ad i cp) (shapOf n l) ∧ Below w.heap.size w w' := by
  obtain ⟨a, c, rfl⟩ := hv.shape
  go_enter Try.func11, Try.ntmps11
  go_wp2_with fail
  refine (isFunI_any n l _ _ (hv.alloc _)).mono ?_
  rintro e w1 ⟨rfl, hb1⟩
  have X1 := (Box2.new w n (.slice a l.length c) 26).after hb1
  clear hb1
  cases hf : isFunB n l with
  | false =>
    have hx : shapOf n l = [] := by unfold shapOf; rw [hf]; rfl
    have HX := Lib.hid hx
    obtain ⟨d0, d1, B1, z1⟩ := X1
    clear hx
    go_wp2
    go_ret
    exact ⟨none, 0, 0, rfl, by rw [HX.out]; exact OwnI.nil _ _ _, B1⟩
  | true =>
    obtain ⟨h0, h5, hl, hlb⟩ := funOk hf
    obtain ⟨N, rfl⟩ := Int.eq_ofNat_of_zero_le h0
    have hN : N ≤ 5 := by omega
    have hlN : l.length = 2 ^ N := by
      have : ((l.length : Nat) : Int) = ((2 ^ N : Nat) : Int) := by push_cast; exact hl
      exact_mod_cast this
    have hx : shapOf N l = rowT l (ordersN N N) N (ordersN N N).length := by unfold shapOf; rw [if_pos hf, shap_same N hN]; rfl
    have hol := ordersN_len N hN N
    have h55 : (5 : Nat) ^ N ≤ 5 ^ 5 := Nat.pow_le_pow_right (by decide) hN
    have hmem := ordersN_mem N N
    have hoo := fun W => ordersOf_any N hN W
    obtain ⟨os, hos⟩ : ∃ os, os = ordersN N N := ⟨_, rfl⟩
    rw [← hos] at hx hol hmem hoo
    have hol2 : os.length ≤ 3125 := by omega
    have HX := Lib.hid hx
    have HMEM := Lib.hid hmem
    have HOO := Lib.hid hoo
    have HLB := Lib.hid hlb
    have HLN := Lib.hid hlN
    have hz1 := X1.z
    clear hx hol h55 hmem hoo hos hl hlb hlN hf
    obtain ⟨d0, d1, B1, z1⟩ := X1
    go_wp2_with (at_make; refine wpList_makeI rfl _ _ _ rfl 3 Try.underlying24 intElem N _ _ rfl rfl rfl rfl (by omega) ?_; intro w2 hown hg; have X2 := (Box2.mk d0 d1 B1 z1).grow hg (by simp); have hgs := hg.size; have rO := hown.lt; clear hg d0 d1; obtain ⟨d0, d1, B2, z2⟩ := X2)
    refine (HOO.out _).mono ?_
    rintro e w3 ⟨p3, i3, q3, rfl, oL, hb3⟩
    have X3 := (Box2.mk d0 d1 B2 z2).after hb3
    have hown3 := hown.keep hb3
    obtain ⟨p3', q3', e3, _⟩ := oL.len
    simp only [Value.slice.injEq] at e3
    obtain ⟨rfl, rfl, rfl⟩ := e3
    have z3 := hb3.size
    have hw12 : w1.heap.size < w2.heap.size := (rO _ rfl).2
    clear d0 d1 hown hb3 B2 z2
    go_wp2_with fail
    go_loopw [18] (fun i wr => ∃ j : Nat, j ≤ os.length ∧ i = .int .i64 j ∧ OwnI 3 w1.heap.size wr (.slice (some ⟨w1.heap.size, 0, none⟩) N N) (rowT l os N j) ∧ OwnLL 3 24 w2.heap.size wr (.slice p3 os.length q3) os ∧ Box2 w wr N (.slice a l.length c) ∧ w2.heap.size ≤ wr.heap.size)
      (fun i _ => os.length - (intOf i).toNat)
    case atStart => exact ⟨0, Nat.zero_le _, rfl, by rw [rowT_zero]; exact hown3, oL, X3, z3⟩
    case round =>
      obtain ⟨j, hj, rfl, ow, oL, X, zr⟩ := hrel
      obtain ⟨wo, rfl⟩ : ∃ wo : World, wo = wr := ⟨_, rfl⟩
      clear X3 hown3
      by_cases hlt : j < os.length
      · obtain ⟨g, u, hix, hcell, hu⟩ := oL.view Try.prog 36 Try.underlying36 sliceElem j hlt
        have hmo := HMEM.out _ (List.getElem_mem hlt)
        have hgd : os.getD j [] = os[j] := by rw [List.getD_eq_getElem?_getD, List.getElem?_eq_getElem hlt]; rfl
        obtain ⟨o, ho⟩ : ∃ o, o = os[j] := ⟨_, rfl⟩
        rw [← ho] at hu hmo hgd
        obtain ⟨au, nu, cu, rfl⟩ := hu.shape3
        have hcl : (cornerL l o).length = N := by unfold cornerL; rw [cornerTo_len]; exact hmo.1
        have hcb := cornerL_bd l o (by rw [hmo.1]; exact HLN.out) HLB.out (by rw [hmo.1]; exact hmo.2)
        have hca : ∀ (W : World), Ints W (.slice a l.length c) l → Ints W (.slice au nu cu) o → Calls Try.prog 44 #[.agg #[.int .i64 (N : Int), .slice a l.length c], .slice au nu cu] W fun e w' => ∃ ad i c, e = .returned (.slice ad i c) ∧ OwnI 3 W.heap.size w' (.slice ad i c) (cornerL l o) ∧ Below W.heap.size W w' :=
          fun W h1 h2 => corner_any N l o _ _ W h1 h2 (by rw [hmo.1]; exact hN) (by rw [hmo.1]; exact HLN.out) HLB.out (by rw [hmo.1]; exact hmo.2)
        have htb := fun e j' (h : j' ≤ os.length) => tot_bd l os N HLN.out HLB.out HMEM.out e j' h
        have hts : ∀ e, tot l os e (j + 1) = tot l os e j + (cornerL l o).getD e 0 := fun e => by rw [tot, hgd]
        obtain ⟨C, hC⟩ : ∃ C, C = cornerL l o := ⟨_, rfl⟩
        rw [← hC] at hcl hcb hca hts
        have HCB := Lib.hid hcb
        have HCA := Lib.hid hca
        have HTB := Lib.hid htb
        have HTS := Lib.hid hts
        have HW := Lib.hid ow
        have HOL := Lib.hid oL
        obtain ⟨d0, d1, B3, z3'⟩ := X
        have hvo := hv.below B3 (Nat.le_refl _)
        clear hC hcb hca htb hts ho hmo hgd ow oL
        go_wp2_with fail
        refine (HCA.out _ hvo hu.ints).mono ?_
        rintro e w4 ⟨p4, i4, q4, rfl, oC, hb4⟩
        obtain ⟨p4', q4', e4⟩ := oC.shape
        simp only [Value.slice.injEq] at e4
        obtain ⟨rfl, rfl, rfl⟩ := e4
        rw [hcl] at oC ⊢
        have X4 := (Box2.mk d0 d1 B3 z3').after hb4
        have ow4 := HW.out.keep hb4
        have oL4 := HOL.out.keep hb4
        have z4 := hb4.size
        have rC := oC.lt
        clear d0 d1 hix hcell hu hb4
        go_wp2_with fail
        go_loopw [26] (fun i wr => ∃ e : Nat, e ≤ N ∧ i = .int .i64 e ∧ OwnI 3 w1.heap.size wr (.slice (some ⟨w1.heap.size, 0, none⟩) N N) ((rowT l os N (j + 1)).take e ++ (rowT l os N j).drop e) ∧ OwnI 3 wo.heap.size wr (.slice p4 N q4) C ∧
            OwnLL 3 24 w2.heap.size wr (.slice p3 os.length q3) os ∧ Box2 w wr N (.slice a l.length c) ∧ w2.heap.size ≤ wr.heap.size)
          (fun i _ => N - (intOf i).toNat)
        case atStart => exact ⟨0, Nat.zero_le _, rfl, by simpa using ow4, oC, oL4, X4, by omega⟩
        case round =>
          obtain ⟨e, he, rfl, ow, oC, oL, X, zi⟩ := hrel
          obtain ⟨wi, rfl⟩ : ∃ wi : World, wi = wr := ⟨_, rfl⟩
          clear ow4 oL4 X4
          obtain ⟨d0, d1, B4, z4'⟩ := X
          by_cases hen : e < N
          · have hla : (rowT l os N (j + 1)).length = N := rowT_len _ _ _ _
            have hlb2 : (rowT l os N j).length = N := rowT_len _ _ _ _
            have hml := mix_len (rowT l os N (j + 1)) (rowT l os N j) e (by omega) (by omega)
            have hc1 := ow.cellAt (by rw [hml, hla]) e (by rw [hml, hla]; exact hen)
            rw [mix_get _ _ _ (by omega) (by omega), rowT_get] at hc1
            have hfr := ow.frozenAt (by rw [hml, hla]) e
            obtain ⟨aC, bC, offC, cC, eC, hlenC, hixC, hcC, hbC⟩ := oC.ints.view Try.prog 24 3 Try.underlying24 intElem
            simp only [Value.slice.injEq] at eC
            obtain ⟨rfl, eN, rfl⟩ := eC
            rw [hcl] at hixC
            have hc2 := hcC e (by omega)
            have hgC : C[e] = C.getD e 0 := by rw [List.getD_eq_getElem?_getD, List.getElem?_eq_getElem (show e < C.length by omega)]; rfl
            rw [hgC] at hc2
            have hb2 := getD_bd C HCB.out e
            have hb3 := HTB.out e j hj
            have hts := HTS.out e
            obtain ⟨x, hx⟩ : ∃ x, x = tot l os e j := ⟨_, rfl⟩
            obtain ⟨y, hy⟩ : ∃ y, y = C.getD e 0 := ⟨_, rfl⟩
            rw [← hx] at hc1 hb3 hts
            rw [← hy] at hc2 hb2 hts
            have hst := ow.stored (by rw [hml, hla]) e (x + y) ⟨by omega, by omega⟩
            have hms := mix_step (rowT l os N (j + 1)) (rowT l os N j) e (by omega) (by omega)
            rw [rowT_get, hts] at hms
            rw [hms] at hst
            have HST := Lib.hid hst
            have HCC := Lib.hid oC
            have HLL := Lib.hid oL
            have hixe := hixC
            have he0 : (0 : Int) ≤ (e : Int) := Int.natCast_nonneg _
            have heo1 : (e : Int) < (N : Int) := by omega
            have HCL := Lib.hid hcl
            clear eN hcl hla hlb2 hml ow hx hy hts hms hst oC oL hgC hcC hixC
            go_wp2
            go_roundw
            case rel => exact ⟨e + 1, by omega, by go_num, HST.out.1, HCC.out.grow HST.out.2 (fun q hq hq2 => by cases hq; have := (rC _ hq2).1; have := hw12; omega), HLL.out.growLow HST.out.2 hw12, (Box2.mk d0 d1 B4 z4').grow HST.out.2 (by simp; omega), by have := HST.out.2.size; omega⟩
            case measure => simp [intOf]; omega
          · have hee : e = N := by omega
            subst hee
            have hrr : (rowT l os e (j + 1)).take e ++ (rowT l os e j).drop e = rowT l os e (j + 1) := by
              rw [List.take_of_length_le (by rw [rowT_len]; exact Nat.le_refl _), List.drop_eq_nil_of_le (by rw [rowT_len]; exact Nat.le_refl _), List.append_nil]
            rw [hrr] at ow
            go_wp2
            go_roundw
            case rel => exact ⟨j + 1, by omega, by go_num, ow, oL, ⟨d0, d1, B4, z4'⟩, zi⟩
            case measure => simp [intOf]; omega
      · have hjj : os.length = j := by omega
        obtain ⟨d0, d1, B3, z3'⟩ := X
        rw [← hjj] at ow
        have HW := Lib.hid ow
        clear ow hjj
        go_wp2
        go_ret
        exact ⟨_, _, _, rfl, by rw [HX.out]; exact HW.out.mono B1.size, B3⟩
end Go.Proofs.Ytgdkeaooipmgbaa
end
