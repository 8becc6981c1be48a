/- All corners are bases just if the function is submodular. Corners of all orders: the second program. Corners of all orders: the first program. -/
import Derived.Test.YtipejodijbjpcaaGreatDoorQ26
section
namespace Go.Proofs.YtipejodijbjpcaaGreatDoor
open Go.RowKit Go.G5

theorem nodup_check : ∀ n, n < 5 → (ordersN n n).all (fun o => decide o.Nodup) = true := by decide +kernel
theorem order_perm (N : Nat) (hN : N ≤ 4) (o : List Int) (h : o ∈ ordersN N N) : Perm N o := by
  obtain ⟨h1, h2⟩ := ordersN_mem N N o h
  have h3 := List.all_eq_true.1 (nodup_check N (by omega)) o h
  exact ⟨h1, ⟨h2, of_decide_eq_true h3⟩⟩
theorem neg_neg (l : List Int) : negL (negL l) = l := by
  refine List.ext_getElem (by rw [negL_len, negL_len]) fun i h1 h2 => ?_
  have h3 : i < (negL l).length := by rw [negL_len]; exact h2
  rw [negL_at (negL l) i h3, negL_at l i h2]; omega
theorem corner_neg (l o : List Int) : ∀ k, cornerTo (negL l) o k = negX (cornerTo l o k) := by
  intro k
  induction k with
  | zero =>
    rw [cornerTo, cornerTo]
    unfold negX
    rw [List.map_replicate]; rfl
  | succ k ih =>
    rw [cornerTo, cornerTo, ih]
    unfold negX
    rw [List.map_set]
    congr 1
    unfold gainL
    rw [negL_getD, negL_getD]; omega
theorem negX_twice (x : List Int) : negX (negX x) = x := by
  unfold negX
  rw [List.map_map]
  refine (List.map_congr_left fun y _ => ?_).trans (List.map_id _)
  show - -y = id y
  simp
/-- a corner of a submodular function is a base -/
theorem base_corner (n : Int) (l o : List Int) (hg : isGrB n l = true) (hs : subB n l = true) (ho : (o.length : Int) = n) (hd : Dist o.length o) : baseB n l (cornerL l o) = true := by
  have hgn := gr_neg n l hg
  have hsup : supB n (negL l) = true := by unfold supB; rw [grOk hgn, neg_neg, hs]; rfl
  have h1 := core_corner n (negL l) o hgn hsup ho hd
  have h2 := core_base n (negL l) (cornerL (negL l) o) hgn
  rw [h1, neg_neg] at h2
  have e : negX (cornerL (negL l) o) = cornerL l o := by
    unfold cornerL
    rw [corner_neg, negX_twice]
  rw [e] at h2; exact h2
/-- along an order the corner is as great as the function -/
theorem corner_chain {N : Nat} {o : List Int} (h : Perm N o) (l : List Int) (j : Nat) (hj : j ≤ N) : wt (cornerTo l o N) (prefS o j : Int) = l.getD (prefS o j) 0 - l.getD 0 0 := by
  have sub : ∀ a b, a ≤ b → b ≤ N → ∀ e, (prefS o a).testBit e = true → (prefS o b).testBit e = true := by
    intro a b hab hb e he
    have hl := h.len
    rw [pref_bit o h.nn e a (by omega)] at he
    rw [pref_bit o h.nn e b (by omega)]
    refine decide_eq_true ?_
    have hm := of_decide_eq_true he
    have e2 : o.take a = (o.take b).take a := by rw [List.take_take]; congr 1; omega
    rw [e2] at hm
    exact List.mem_of_mem_take hm
  have h1 : ∀ k, k ≤ j → wt (cornerTo l o k) (prefS o j : Int) = l.getD (prefS o k) 0 - l.getD 0 0 := by
    intro k
    induction k with
    | zero => intro _; rw [corner_start]; simp [prefS]
    | succ k ih =>
      intro hk
      have ih := ih (by omega)
      obtain ⟨e, he, hp, hps, hw⟩ := corner_step h l (prefS o j) k (by omega)
      have hb : (prefS o j).testBit e = true := sub (k + 1) j hk hj e (by rw [hps, tb_setBit]; simp)
      rw [hw, ih, if_pos hb, hps]
      unfold gainL; omega
  have h2 : ∀ k, j ≤ k → k ≤ N → wt (cornerTo l o k) (prefS o j : Int) = l.getD (prefS o j) 0 - l.getD 0 0 := by
    intro k
    induction k with
    | zero => intro hk _; exact h1 0 (by omega) |>.trans (by rw [show j = 0 by omega])
    | succ k ih =>
      intro hk hkN
      by_cases e : j = k + 1
      · rw [← e]; exact h1 j (Nat.le_refl _)
      · have ih := ih (by omega) (by omega)
        obtain ⟨e, he, hp, hps, hw⟩ := corner_step h l (prefS o j) k (by omega)
        have hb : (prefS o j).testBit e = false := by
          cases hq : (prefS o j).testBit e with
          | false => rfl
          | true => rw [sub j k (by omega) (by omega) e hq] at hp; cases hp
        rw [hw, ih, hb]; simp
  exact h2 N hj (Nat.le_refl _)
theorem chain_check : ∀ N, N < 5 → (List.range (2 ^ N)).all (fun s => (List.range N).all fun i => (List.range N).all fun k => (nbit s i || nbit s k || decide (k ≤ i)) || (ordersN N N).any fun o => (List.range N).any fun m => decide (m + 2 ≤ N) && (prefS o m == s && (prefS o (m + 1) == setBit s i && prefS o (m + 2) == setBit (setBit s i) k))) = true := by decide +kernel
theorem chain_of (N : Nat) (hN : N ≤ 4) (s i k : Nat) (hs : s < 2 ^ N) (hik : i < k) (hk : k < N) (h1 : nbit s i = false) (h2 : nbit s k = false) : ∃ o, o ∈ ordersN N N ∧ ∃ m, m + 2 ≤ N ∧ prefS o m = s ∧ prefS o (m + 1) = setBit s i ∧ prefS o (m + 2) = setBit (setBit s i) k := by
  have h := chain_check N (by omega)
  have h3 := List.all_eq_true.1 (List.all_eq_true.1 (List.all_eq_true.1 h s (List.mem_range.2 hs)) i (List.mem_range.2 (by omega))) k (List.mem_range.2 hk)
  rw [h1, h2, decide_eq_false (by omega)] at h3
  simp only [Bool.false_or, List.any_eq_true] at h3
  obtain ⟨o, ho, m, _, h4⟩ := h3
  simp only [Bool.and_eq_true, decide_eq_true_eq, beq_iff_eq] at h4
  exact ⟨o, ho, m, h4.1, h4.2.1, h4.2.2.1, h4.2.2.2⟩
/-- a function that is not submodular has a corner that is no base -/
theorem corner_bad (N : Nat) (hN : N ≤ 4) (l : List Int) (hg : isGrB (N : Int) l = true) (hs : subB (N : Int) l = false) : ∃ o, o ∈ ordersN N N ∧ baseB (N : Int) l (cornerL l o) = false := by
  have hf := grOk hg
  have h0 := gr_zero hg
  obtain ⟨N', hN', _, hl, _⟩ := fun_nat hf
  have : N' = N := by omega
  subst this
  have hno : ¬ ∀ s i k : Nat, s < 2 ^ N' → i < k → k < N' → nbit s i = false → nbit s k = false → exL l s i k ≤ 0 := fun h => by
    rw [(sub_iff N' l hf).2 h] at hs; cases hs
  obtain ⟨s, i, k, hss, hik, hk, b1, b2, hx⟩ : ∃ s i k : Nat, s < 2 ^ N' ∧ i < k ∧ k < N' ∧ nbit s i = false ∧ nbit s k = false ∧ 0 < exL l s i k := by
    refine Classical.byContradiction fun hc => hno fun s i k a b c d e => ?_
    exact Int.not_lt.1 fun q => hc ⟨s, i, k, a, b, c, d, e, q⟩
  obtain ⟨o, ho, m, hm, p0, p1, p2⟩ := chain_of N' hN s i k hss hik hk b1 b2
  refine ⟨o, ho, ?_⟩
  have hp := order_perm N' hN o ho
  have c0 := corner_chain hp l m (by omega)
  have c1 := corner_chain hp l (m + 1) (by omega)
  have c2 := corner_chain hp l (m + 2) hm
  rw [p0] at c0
  rw [p1] at c1
  rw [p2] at c2
  have hx2 : cornerL l o = cornerTo l o N' := by unfold cornerL; rw [hp.len]
  have hwm := wt_mod (cornerTo l o N') (setBit s i) (setBit s k)
  have e1 : setBit s i ||| setBit s k = setBit (setBit s i) k := setBit_or s i k
  have e2 : setBit s i &&& setBit s k = s := by
    apply Nat.eq_of_testBit_eq
    intro j
    rw [Nat.testBit_and, tb_setBit, tb_setBit]
    by_cases hij : i = j
    · subst hij
      have : decide (k = i) = false := decide_eq_false (by omega)
      rw [this]; simp
    · rw [decide_eq_false hij]
      cases s.testBit j <;> simp
  rw [e1, e2] at hwm
  have hlt : setBit s k < 2 ^ N' := setBit_lt s k N' hss hk
  have hsl : slackOf l (cornerL l o) (setBit s k : Int) < 0 := by
    rw [slack_nat, hx2]
    unfold exL at hx
    rw [e1] at hx
    omega
  have hbel : belB (N' : Int) l (cornerL l o) = false := by
    unfold belB
    rw [belOk_false l (cornerL l o) (setBit s k) hsl l.length (by omega)]
    simp
  unfold baseB
  rw [hbel]; rfl
/-- a list of the corners tells whether the function is submodular -/
theorem corners_tell (N : Nat) (hN : N ≤ 4) (l : List Int) (hg : isGrB (N : Int) l = true) (ls : List (List Int)) (h1 : ∀ x ∈ ls, ∃ o, o ∈ ordersN N N ∧ x = cornerL l o) (h2 : ∀ o, o ∈ ordersN N N → cornerL l o ∈ ls) : (ls.all fun x => baseB (N : Int) l x) = subB (N : Int) l := by
  cases hs : subB (N : Int) l with
  | true =>
    rw [List.all_eq_true]
    intro x hx
    obtain ⟨o, ho, rfl⟩ := h1 x hx
    have hp := order_perm N hN o ho
    refine base_corner (N : Int) l o hg hs (by rw [hp.len]) ?_
    rw [hp.len]; exact hp.d
  | false =>
    obtain ⟨o, ho, hb⟩ := corner_bad N hN l hg hs
    cases ha : (ls.all fun x => baseB (N : Int) l x) with
    | false => rfl
    | true =>
      have := List.all_eq_true.1 ha _ (h2 o ho)
      rw [hb] at this; cases this
end Go.Proofs.YtipejodijbjpcaaGreatDoor
end
section
namespace Go.Proofs.YtipejodijbjpcaaGreatDoor
open Go.RowKit Go.G5

end Go.Proofs.YtipejodijbjpcaaGreatDoor
end
section
namespace Go.Proofs.YtipejodijbjpcaaGreatDoor
open Go.RowKit Go.G5

/-! a function value that is asked of the lists of a slice -/
set_option maxHeartbeats 1000000 in
set_option maxRecDepth 100000 in
theorem indexFuncR_any (ls : List (List Int)) (B : Nat) (ad : Option Addr) (nn cp : Nat) (w : World) (ho : OwnLL 3 22 B w (.slice ad nn cp) ls) (c : FuncId) (he : ∀ args w, (callFunc c args).run Tryz.prog w = .ok (.enter c args) w) (g : Nat) (P : List Int → Bool)
    (hw : ∀ (u : Value) (x : List Int) W', x ∈ ls → Below w.heap.size w W' → Ints W' u x → Calls Tryz.prog c #[u, .pointer (some ⟨g, 0, none⟩)] W' fun e w2 => e = .returned (.bool (P x)) ∧ Below W'.heap.size W' w2) (hl : ls.length ≤ 1000000) :
    Calls Tryz.prog 244 #[.slice ad nn cp, .func (.func c) #[] #[.pointer (some ⟨g, 0, none⟩)]] w fun e w' => (∃ i : Int, e = .returned (.int .i64 i) ∧ (0 ≤ i ↔ ls.any P = true) ∧ -1 ≤ i ∧ i ≤ 9223372036854775807) ∧ Below w.heap.size w w' := by
  have hnn : nn = ls.length := by
    obtain ⟨_, _, h, _⟩ := ho.len
    injection h
  subst hnn
  have HW := Lib.hid hw
  have HO := Lib.hid ho
  clear hw ho
  go_enter Tryz.func244, Tryz.ntmps244
  go_wp2_with fail
  go_loopw [8] (fun i wr => ∃ k : Nat, k ≤ ls.length ∧ i = .int .i64 k ∧ (ls.take k).any P = false ∧ Below w.heap.size w wr) (fun i _ => ls.length - (intOf i).toNat)
  case atStart => exact ⟨0, Nat.zero_le _, rfl, by simp, Below.refl _ _⟩
  case round =>
    obtain ⟨k, hk, rfl, hall, B1⟩ := hrel
    have H := Lib.hid hall
    clear hall
    by_cases hlt : k < ls.length
    · have hlt2 : (k : Int) < (ls.length : Int) := by omega
      obtain ⟨gj, uj, hixj, hcj, huj⟩ := (HO.out.keep B1).view Tryz.prog 39 Tryz.underlying39 sliceElem k hlt
      have hcl := HW.out uj ls[k] wr (List.getElem_mem hlt) B1 huj.ints
      have htk : (ls.take (k + 1)).any P = ((ls.take k).any P || P ls[k]) := by rw [List.take_succ_eq_append_getElem hlt, List.any_append]; simp
      obtain ⟨au, nu, cu, rfl⟩ := huj.shape3
      have HTK := Lib.hid htk
      clear htk huj
      cases hP : P ls[k] with
      | true =>
        have hh : ls.any P = true := List.any_eq_true.2 ⟨_, List.getElem_mem hlt, hP⟩
        have HH := Lib.hid hh
        rw [hP] at hcl
        clear hh hP
        go_wp2_with (go_at_fn c; refine hcl.mono ?_; rintro e w2 ⟨rfl, hb2⟩)
        go_ret
        exact ⟨⟨k, rfl, by rw [HH.out]; simp, by omega, by omega⟩, B1.after hb2 B1.size⟩
      | false =>
        have HP := Lib.hid hP
        rw [hP] at hcl
        clear hP
        go_wp2_with (go_at_fn c; refine hcl.mono ?_; rintro e w2 ⟨rfl, hb2⟩)
        go_roundw
        case rel => exact ⟨k + 1, by omega, by go_num, by rw [HTK.out, H.out, HP.out]; rfl, B1.after hb2 B1.size⟩
        case measure => simp [intOf]; omega
    · have hlt2 : ¬ (k : Int) < (ls.length : Int) := by omega
      have hh : ls.any P = false := by have := H.out; rw [List.take_of_length_le (by omega)] at this; exact this
      have HH := Lib.hid hh
      clear hh
      go_wp2
      go_ret
      exact ⟨⟨-1, rfl, ⟨fun h => absurd h (by decide), fun h => absurd (show ls.any P = true by simpa using h) (by rw [HH.out]; decide)⟩, by omega, by omega⟩, B1⟩
set_option maxHeartbeats 1000000 in
set_option maxRecDepth 100000 in
theorem containsFuncR_any (ls : List (List Int)) (B : Nat) (ad : Option Addr) (nn cp : Nat) (w : World) (ho : OwnLL 3 22 B w (.slice ad nn cp) ls) (c : FuncId) (he : ∀ args w, (callFunc c args).run Tryz.prog w = .ok (.enter c args) w) (g : Nat) (P : List Int → Bool)
    (hw : ∀ (u : Value) (x : List Int) W', x ∈ ls → Below w.heap.size w W' → Ints W' u x → Calls Tryz.prog c #[u, .pointer (some ⟨g, 0, none⟩)] W' fun e w2 => e = .returned (.bool (P x)) ∧ Below W'.heap.size W' w2) (hl : ls.length ≤ 1000000) :
    Calls Tryz.prog 122 #[.slice ad nn cp, .func (.func c) #[] #[.pointer (some ⟨g, 0, none⟩)]] w fun e w' => e = .returned (.bool (ls.any P)) ∧ Below w.heap.size w w' := by
  have hcl := indexFuncR_any ls B ad nn cp w ho c he g P hw hl
  clear hw he ho
  go_enter Tryz.func122, Tryz.ntmps122
  go_wp2_with (go_at_call 244; refine hcl.mono ?_; rintro e w' ⟨⟨i, rfl, hi, hi1, hi2⟩, hb⟩; have HI := Lib.hid hi; clear hi)
  go_ret
  refine ⟨ret_bool ?_, hb⟩
  cases hh : ls.any P with
  | true => have := HI.out.2 hh; simpa using this
  | false =>
    have h : ¬ 0 ≤ i := fun h => by rw [HI.out.1 h] at hh; cases hh
    simpa using h
theorem corn_enters : ∀ args w, (callFunc 123 args).run Tryz.prog w = .ok (.enter 123 args) w := enters_of Tryz.func123 (by kernel_rfl) rfl
set_option maxHeartbeats 1000000 in
theorem cornClosure (w : World) (g : Nat) (p : Option Addr) (i q : Nat) (X x : List Int) (u : Value) (d : w.cell? ⟨g, 0, none⟩ = some (.slice p i q)) (hX : Ints w (.slice p i q) X) (hx : Ints w u x) :
    Calls Tryz.prog 123 #[u, .pointer (some ⟨g, 0, none⟩)] w fun e w' => e = .returned (.bool (decide (x = X))) ∧ Below w.heap.size w w' := by
  have hse := slicesEqual_any u (.slice p i q) x X w hx hX
  obtain ⟨au, cu, rfl⟩ := hx.shape
  have HSE := Lib.hid hse
  clear hse hX
  go_enter Tryz.func123, Tryz.ntmps123
  go_wp2_with fail
  refine HSE.out.mono ?_
  rintro e w' ⟨rfl, n, rfl⟩
  go_wp2
  go_ret
  exact ⟨rfl, (Below.refl _ _).drewN' _⟩
set_option maxHeartbeats 2000000 in
set_option maxRecDepth 100000 in
theorem cornersI_any (w : World) (n : Int) (v : Value) (l : List Int) (hv : Ints w v l) (bb : Bool) (hbb : (isGrB n l && decide (n ≤ 4)) = bb) :
    Calls Tryz.prog 16 #[.agg #[.int .i64 n, v]] w fun e w' => ∃ a i c ls, e = .returned (.tuple #[.slice a i c, .bool bb]) ∧ OwnLL 3 22 w.heap.size w' (.slice a i c) ls ∧ ls.length ≤ 1000000 ∧ (bb = true → (∀ x ∈ ls, ∃ o, o ∈ ordersN n.toNat n.toNat ∧ x = cornerL l o) ∧ ∀ o, o ∈ ordersN n.toNat n.toNat → cornerL l o ∈ ls) ∧ Below w.heap.size w w' := by
  obtain ⟨a, c, rfl⟩ := hv.shape
  have K0 := Blk.new w 32 #[.int .i64 n, .slice a l.length c]
  cases hg : isGrB n l with
  | false =>
    have hb0 : bb = false := by rw [← hbb, hg]; rfl
    subst hb0
    have HG := Lib.hid hg
    clear hg hbb
    go_enter Tryz.func16, Tryz.ntmps16
    go_wp2_with fail
    refine (isGrI_any _ l _ _ (hv.alloc _)).mono ?_
    rintro e w1 ⟨rfl, hb1⟩
    rw [HG.out]
    have K1 := K0.keep hb1
    have B1 : Below w.heap.size w w1 := (bl1 _ _).after hb1 (by simp)
    clear K0 hb1
    have G1 := K1.cell
    clear G1
    go_wp2
    go_ret2
    first | exact ⟨none, 0, 0, [], rfl, OwnLL.nil _ _ _ _, by simp, nofun, B1⟩ | exact ⟨_, _, _, rfl, [], OwnLL.nil _ _ _ _, by simp, nofun, B1⟩ | exact ⟨_, _, _, [], rfl, OwnLL.nil _ _ _ _, by simp, B1⟩ | exact ⟨_, _, _, rfl, [], OwnLL.nil _ _ _ _, by simp, B1⟩
  | true =>
    obtain ⟨N, rfl, hN5, hl2, hl32, hlb⟩ := fun_nat (grOk hg)
    by_cases h4 : N ≤ 4
    · have h4i : ¬ (4 : Int) < (N : Int) := by omega
      have hb0 : bb = true := by rw [← hbb, hg, decide_eq_true (by omega)]; rfl
      subst hb0
      have hmem := ordersN_mem N N
      have hlen := ordersN_len N hN5 N
      have h55 : (5 : Nat) ^ N ≤ 5 ^ 5 := Nat.pow_le_pow_right (by decide) hN5
      have hco := fun (o : List Int) (h : o ∈ ordersN N N) (W : World) (u : Value) (h1 : Ints W (.slice a l.length c) l) (h2 : Ints W u o) => by
        obtain ⟨h3, h4⟩ := hmem o h
        exact corner_any (N : Int) l o (.slice a l.length c) u W h1 h2 (by omega) (by rw [h3]; exact hl2) hlb (by rw [h3]; exact h4)
      have hoo := fun W => ordersOf_any N hN5 W
      rw [Int.toNat_natCast]
      obtain ⟨os, hos⟩ : ∃ os, os = ordersN N N := ⟨_, rfl⟩
      simp only [← hos] at hoo hco hlen ⊢
      have HOO := Lib.hid hoo
      have HCO := Lib.hid hco
      have HG := Lib.hid hg
      have hos5 : os.length ≤ 3125 := by omega
      clear hg hbb hmem hlen hoo hco hl2 hlb h55 hos
      go_enter Tryz.func16, Tryz.ntmps16
      go_wp2_with fail
      refine (isGrI_any _ l _ _ (hv.alloc _)).mono ?_
      rintro e w1 ⟨rfl, hb1⟩
      rw [HG.out]
      have K1 := K0.keep hb1
      have B1 : Below w.heap.size w w1 := (bl1 _ _).after hb1 (by simp)
      clear K0 hb1
      have G1 := K1.cell
      go_wp2_with fail
      refine (HOO.out w1).mono ?_
      rintro e w2 ⟨p3, i3, q3, rfl, oo, b2⟩
      have hi3 : i3 = os.length := by
        obtain ⟨_, _, h, _⟩ := oo.len
        injection h
      subst hi3
      have K2 := K1.keep b2
      have B2 := B1.after b2 B1.size
      have oo := oo.mono (B' := w.heap.size + 1) K1.lt
      clear G1 K1 B1 b2
      go_wp2_with fail
      go_loopw [21, 4] (fun i out wr => ∃ (k : Nat) (ad : Option Addr) (nn cp : Nat) (ls : List (List Int)), k ≤ os.length ∧ i = .int .i64 k ∧ out = .slice ad nn cp ∧ OwnLL 3 22 (w.heap.size + 1) wr (.slice ad nn cp) ls ∧ ls.length ≤ k ∧ ((∀ x ∈ ls, ∃ o, o ∈ os ∧ x = cornerL l o) ∧ ∀ j, (h : j < k) → (hj : j < os.length) → cornerL l os[j] ∈ ls) ∧ OwnLL 3 22 (w.heap.size + 1) wr (.slice p3 os.length q3) os ∧ Blk wr w.heap.size 32 #[.int .i64 (N : Int), .slice a l.length c] ∧ Below w.heap.size w wr ∧ Apart (.slice p3 os.length q3) (.slice ad nn cp)) (fun i _ _ => os.length - (intOf i).toNat)
      case atStart => exact ⟨0, none, 0, 0, [], Nat.zero_le _, rfl, rfl, OwnLL.nil _ _ _ _, by simp, ⟨by simp, fun j h => by omega⟩, oo, K2, B2, fun q h1 h2 => by cases h2⟩
      case round =>
        obtain ⟨k, ad, nn, cp, ls, hk, rfl, rfl, o, hll, hls, op, Kr, Bw, ap⟩ := hrel
        clear oo K2 B2
        have hnn : nn = ls.length := by
          obtain ⟨_, _, h, _⟩ := o.len
          injection h
        subst hnn
        have HLS := Lib.hid hls
        clear hls
        by_cases hkl : k < os.length
        · have hkl2 : (k : Int) < (os.length : Int) := by omega
          obtain ⟨g, u, hix, hcell, hu⟩ := op.view Tryz.prog 39 Tryz.underlying39 sliceElem k hkl
          have hcl := fun W (h1 : Ints W (.slice a l.length c) l) (h2 : Ints W u os[k]) => HCO.out os[k] (List.getElem_mem hkl) W u h1 h2
          have hex : os[k] ∈ os ∧ ∀ j, (h : j < os.length) → j = k → os[j] = os[k] := ⟨List.getElem_mem hkl, fun j h e => by subst e; rfl⟩
          obtain ⟨au, nu, cu, rfl⟩ := hu.shape3
          have hu0 := hu.ints
          obtain ⟨O, hO⟩ : ∃ O, O = os[k] := ⟨_, rfl⟩
          rw [← hO] at hcl hu0
          simp only [← hO] at hex
          obtain ⟨X, hX⟩ : ∃ X, X = cornerL l O := ⟨_, rfl⟩
          rw [← hX] at hcl
          have HCL := Lib.hid hcl
          have HEX := Lib.hid hex
          have HX := Lib.hid hX
          have G1 := Kr.cell
          have HOW := Lib.hid o
          have HOP := Lib.hid op
          have HAP := Lib.hid ap
          clear hcl hex hO hX o op ap hu
          go_wp2_with fail
          refine (HCL.out wr (hv.below Bw (Nat.le_refl _)) hu0).mono ?_
          rintro e w4 ⟨p4, i4, q4, rfl, o4, b4⟩
          have hi4 : i4 = X.length := o4.ints.capLe.1
          subst hi4
          have B4 := Bw.after b4 Bw.size
          have K4 := Kr.keep b4
          have ow4 := HOW.out.keep b4
          have op4 := HOP.out.keep b4
          have oX := o4.mono (B' := w.heap.size + 1) Kr.lt
          clear o4 b4 G1 hcell hix hu0 Bw Kr
          have KB := Blk.new w4 22 #[.slice p4 X.length q4]
          have B5 := B4.alloc B4.size (.cells #[.slice p4 X.length q4] 22)
          have K5 := K4.alloc (.cells #[.slice p4 X.length q4] 22)
          have ow5 := ow4.keep (bl1 w4 (.cells #[.slice p4 X.length q4] 22))
          have op5 := op4.keep (bl1 w4 (.cells #[.slice p4 X.length q4] 22))
          have oX5 := oX.alloc (.cells #[.slice p4 X.length q4] 22)
          obtain ⟨gb, hgb⟩ : ∃ gb, gb = w4.heap.size := ⟨_, rfl⟩
          rw [← hgb] at KB
          go_wp2_with fail
          refine calls_named ?_
          intro V5 hV5
          rw [← hV5] at KB B5 K5 ow5 op5 oX5
          rw [← hgb]
          have zgb : w.heap.size < gb := by rw [hgb]; exact K4.lt
          clear hV5 hgb oX B4 K4 ow4 op4
          have zb5 := KB.lt
          have hcf := containsFuncR_any ls (w.heap.size + 1) ad ls.length cp V5 ow5 123 corn_enters gb (fun x => decide (x = X)) (fun u x W' hx hW hu => by
            have KB' := KB.keep hW
            exact cornClosure W' gb p4 X.length q4 X x u (KB'.cell 0) (oX5.keep hW).ints hu) (by omega)
          have hany : ls.any (fun x => decide (x = X)) = true → X ∈ ls := fun h => by
            obtain ⟨x, hx, he⟩ := List.any_eq_true.1 h
            have := of_decide_eq_true he
            subst this; exact hx
          obtain ⟨b, hb⟩ : ∃ b, b = ls.any (fun x => decide (x = X)) := ⟨_, rfl⟩
          rw [← hb] at hcf hany
          have HCF := Lib.hid hcf
          have HANY := Lib.hid hany
          clear hcf hany hb
          cases b with
          | true =>
            refine HCF.out.mono ?_
            rintro e w6 ⟨rfl, b6⟩
            have B6 := B5.after b6 B5.size
            have K6 := K5.keep b6
            have ow6 := ow5.keep b6
            have op6 := op5.keep b6
            have hin := HANY.out rfl
            have HIN := Lib.hid hin
            clear hin B5 K5 ow5 op5 oX5 KB b6
            go_wp2
            go_roundw
            case rel =>
              refine ⟨k + 1, ad, _, cp, ls, by omega, by go_num, rfl, ow6, by omega, ⟨HLS.out.1, fun j h hj => ?_⟩, op6, K6, B6, HAP.out⟩
              by_cases e : j = k
              · rw [HEX.out.2 j hj e, ← HX.out]; exact HIN.out
              · exact HLS.out.2 j (by omega) hj
            case measure => simp [intOf]; omega
          | false =>
            refine HCF.out.mono ?_
            rintro e w6 ⟨rfl, b6⟩
            have B6 := B5.after b6 B5.size
            have K6 := K5.keep b6
            have KB6 := KB.keep b6
            have ow6 := ow5.keep b6
            have op6 := op5.keep b6
            have oX6 := oX5.keep b6
            have G6 := KB6.cell
            have z6 := B6.size
            have yb6 := K6.lt
            clear B5 K5 ow5 op5 oX5 KB b6
            go_wp2_with (at_builtin; refine wpList_appendLL rfl _ _ _ rfl Tryz.underlying39 sliceElem noMeet (w.heap.size + 1) _ ls rfl (ow6.keep (bl1 w6 (.cells #[.slice p4 X.length q4] 22))) (w.heap.size + 1) _ [X] rfl (OwnLL.one oX6 (by omega)) (Nat.le_refl _) (by simp; omega) (by simp; omega) ?_; intro v7 w7 o7 g7 n7)
            obtain ⟨a7, i7, c7, rfl⟩ := o7.shape3
            have ow6a := ow6.keep (bl1 w6 (.cells #[.slice p4 X.length q4] 22))
            have op6a := op6.keep (bl1 w6 (.cells #[.slice p4 X.length q4] 22))
            obtain ⟨vs5, hr5⟩ := ow6a.row
            have op7 := op6a.grow hr5 noMeet g7 (fun q h1 h2 => HAP.out q h2 h1)
            have K7 := (K6.alloc (.cells #[.slice p4 X.length q4] 22)).grow g7 (fun e => by have := (ow6.lt _ e).1; omega)
            have B7 := (B6.after (bl1 w6 (.cells #[.slice p4 X.length q4] 22)) z6).grown g7 (by simp; omega) (fun q hq => by have := (ow6.lt q hq).1; omega)
            have ap7 := (n7.apart (Apart.symm HAP.out) (fun q hq => (op6a.lt q hq).2)).symm
            go_roundw
            case rel =>
              refine ⟨k + 1, a7, i7, c7, ls ++ [X], by omega, by go_num, rfl, o7, by simp; omega, ⟨fun x hx => ?_, fun j h hj => ?_⟩, op7, K7, B7, ap7⟩
              · rcases List.mem_append.1 hx with hx | hx
                · exact HLS.out.1 x hx
                · rw [List.mem_singleton.1 hx]; exact ⟨O, HEX.out.1, HX.out⟩
              · by_cases e : j = k
                · rw [HEX.out.2 j hj e, ← HX.out]; simp
                · exact List.mem_append_left _ (HLS.out.2 j (by omega) hj)
            case measure => simp [intOf]; omega
        · have hkl2 : ¬ (k : Int) < (os.length : Int) := by omega
          have hfin : (∀ x ∈ ls, ∃ o, o ∈ os ∧ x = cornerL l o) ∧ ∀ o, o ∈ os → cornerL l o ∈ ls := ⟨HLS.out.1, fun o ho => by
            obtain ⟨j, hj, rfl⟩ := List.getElem_of_mem ho
            exact HLS.out.2 j (by omega) hj⟩
          have HF := Lib.hid hfin
          clear hfin
          go_wp2
          go_ret2
          first | exact ⟨_, _, _, ls, rfl, o.mono (Nat.le_succ _), by omega, fun _ => HF.out, Bw⟩ | exact ⟨_, _, _, rfl, ls, o.mono (Nat.le_succ _), by omega, fun _ => HF.out, Bw⟩ | exact ⟨_, _, _, ls, rfl, o.mono (Nat.le_succ _), by omega, HF.out, Bw⟩ | exact ⟨_, _, _, rfl, ls, o.mono (Nat.le_succ _), by omega, HF.out, Bw⟩
    · have h4i : (4 : Int) < (N : Int) := by omega
      have hb0 : bb = false := by rw [← hbb, hg, decide_eq_false (by omega)]; rfl
      subst hb0
      have HG := Lib.hid hg
      clear hg hbb hl2 hlb
      go_enter Tryz.func16, Tryz.ntmps16
      go_wp2_with fail
      refine (isGrI_any _ l _ _ (hv.alloc _)).mono ?_
      rintro e w1 ⟨rfl, hb1⟩
      rw [HG.out]
      have K1 := K0.keep hb1
      have B1 : Below w.heap.size w w1 := (bl1 _ _).after hb1 (by simp)
      clear K0 hb1
      have G1 := K1.cell
      go_wp2
      go_ret2
      first | exact ⟨none, 0, 0, [], rfl, OwnLL.nil _ _ _ _, by simp, nofun, B1⟩ | exact ⟨_, _, _, rfl, [], OwnLL.nil _ _ _ _, by simp, nofun, B1⟩ | exact ⟨_, _, _, [], rfl, OwnLL.nil _ _ _ _, by simp, B1⟩ | exact ⟨_, _, _, rfl, [], OwnLL.nil _ _ _ _, by simp, B1⟩
end Go.Proofs.YtipejodijbjpcaaGreatDoor
end
