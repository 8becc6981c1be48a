/- Which lists are representations: both programs. The checks of claims: what is computed. Claims of cuts. -/
import Derived.Test.YtipejodijbjpcaaGreatDoorQ29
section
namespace Go.Proofs.YtipejodijbjpcaaGreatDoor
open Go.RowKit Go.G5

theorem rp_elem {g : Int} {l x : List Int} {k : Nat} (h : rpAt g l x k = true) : 0 ≤ x.getD k 0 ∧ x.getD k 0 < g := by
  unfold rpAt at h
  simp only [Bool.and_eq_true, decide_eq_true_eq] at h
  exact h.1
theorem allTo_at {p : Nat → Bool} : ∀ {n : Nat}, allTo p n = true → ∀ k, k < n → p k = true := by
  intro n h k hk
  cases hp : p k with
  | true => rfl
  | false => rw [allTo_false hk hp] at h; cases h
theorem used_bd {G : Nat} {l x : List Int} {k : Nat} (h : allTo (rpAt (G : Int) l x) k = true) (hG : G ≤ 6) : usedAt x k < 64 :=
  Nat.lt_of_lt_of_le (usedAt_lt x G k (fun i hi => rp_elem (allTo_at h i hi))) (Nat.pow_le_pow_right (n := 2) (by decide) hG)
set_option maxHeartbeats 4000000 in
set_option maxRecDepth 100000 in
theorem isRepI_any (w : World) (g : Int) (v vx : Value) (l x : List Int) (hv : Ints w v l) (hvx : Ints w vx x) :
    Calls Tryz.prog 256 #[.int .i64 g, v, vx] w fun e w' => e = .returned (.bool (isRepB g l x)) ∧ w = w' := by
  have hv0 := hv
  obtain ⟨a, b, off, c, rfl, hlen, hix, hc, hb⟩ := hv.view Tryz.prog 22 3 Tryz.underlying22 intElem
  obtain ⟨ax, bx, offx, cx, rfl, hlenx, hixx, hcx, hbx⟩ := hvx.view Tryz.prog 22 3 Tryz.underlying22 intElem
  cases hf : fewB g l with
  | false =>
    have hx : isRepB g l x = false := by unfold isRepB; rw [hf]; rfl
    have HX := Lib.hid hx
    have HF := Lib.hid hf
    clear hx hf hc hb hix hcx hbx hixx
    go_enter Tryz.func256, Tryz.ntmps256
    go_wp2_with (go_at_call 266; refine (areFew_any g l _ _ hv0).mono ?_; rintro e w1 ⟨rfl, rfl⟩; rw [HF.out])
    go_ret
    exact ⟨ret_bool HX.out.symm, rfl⟩
  | true =>
    obtain ⟨G, rfl, hG, hl6, hm, _⟩ := few_set hf
    by_cases hxl : x.length = l.length
    · have hx : isRepB (G : Int) l x = allTo (rpAt (G : Int) l x) x.length := by unfold isRepB; rw [hf, decide_eq_true hxl]; rfl
      have ht : ((x.length : Int) != (l.length : Int)) = false := by simp; omega
      have HX := Lib.hid hx
      have HF := Lib.hid hf
      have HM := Lib.hid hm
      have HXL := Lib.hid hxl
      clear hx hf hm hb hbx hxl
      go_enter Tryz.func256, Tryz.ntmps256
      go_wp2_with (go_at_call 266; refine (areFew_any (G : Int) l _ _ hv0).mono ?_; rintro e w1 ⟨rfl, rfl⟩; rw [HF.out])
      go_loop [7, 23] (fun u i => ∃ k : Nat, k ≤ x.length ∧ i = .int .i64 k ∧ u = .int .i64 ((usedAt x k : Nat) : Int) ∧ allTo (rpAt (G : Int) l x) k = true) (fun _ i => x.length - (intOf i).toNat)
      case atStart => exact ⟨0, Nat.zero_le _, rfl, rfl, rfl⟩
      case round =>
        obtain ⟨k, hk, rfl, rfl, hall⟩ := hrel
        have hu := used_bd hall hG
        have HA := Lib.hid hall
        clear hall
        by_cases hlt : k < x.length
        · have hkl : k < l.length := by have := HXL.out; omega
          have hck := hc k hkl
          have hixk := fun W => hix W k hkl
          have hcxk := hcx k hlt
          have hixxk := fun W => hixx W k hlt
          have hmk := HM.out _ (List.getElem_mem hkl)
          have hrp : rpAt (G : Int) l x k = ((decide (0 ≤ x[k]) && decide (x[k] < (G : Int))) && (nbit l[k].toNat x[k].toNat && !nbit (usedAt x k) x[k].toNat)) := by unfold rpAt; rw [getD_at l k hkl, getD_at x k hlt]
          have hus : usedAt x (k + 1) = setBit (usedAt x k) x[k].toNat := by rw [usedAt, getD_at x k hlt]
          have hpow : (2 : Int) ^ G ≤ 64 := (two_pow G 6 hG).1
          obtain ⟨u, hue⟩ : ∃ u, u = usedAt x k := ⟨_, rfl⟩
          rw [← hue] at hu hrp hus ⊢
          obtain ⟨y, hy⟩ : ∃ y, y = x[k] := ⟨_, rfl⟩
          rw [← hy] at hcxk hrp hus
          obtain ⟨s, hs⟩ : ∃ s : Nat, l[k] = (s : Int) := ⟨l[k].toNat, by omega⟩
          rw [hs] at hck hmk hrp
          rw [Int.toNat_natCast] at hrp
          have hs64 : s < 64 := by omega
          have hel := isElem_any (G : Int) y w
          obtain ⟨el, hele⟩ : ∃ el, el = (decide (0 ≤ y) && decide (y < (G : Int))) := ⟨_, rfl⟩
          rw [← hele] at hel hrp
          have HEL := Lib.hid hel
          have HUS := Lib.hid hus
          clear hel hus hue hy hs hc hix hcx hixx hpow hmk
          cases el with
          | false =>
            have hno := allTo_false (n := x.length) hlt (hrp.trans rfl)
            have HNO := Lib.hid hno
            clear hno hrp hele
            go_wp2_with (go_at_call 248; refine HEL.out.mono ?_; rintro e w' ⟨rfl, rfl⟩)
            go_ret
            exact ⟨ret_bool (by rw [HX.out, HNO.out]), rfl⟩
          | true =>
            have hyb : 0 ≤ y ∧ y < (G : Int) := by
              have := hele.symm
              simp only [Bool.and_eq_true, decide_eq_true_eq] at this
              exact this
            obtain ⟨e, rfl⟩ := Int.eq_ofNat_of_zero_le hyb.1
            rw [Int.toNat_natCast] at hrp
            have hbx := bit_is (s : Int) e (by omega) (by omega)
            have hbu := bit_is (u : Int) e (by omega) (by omega)
            have hnx := nbit_is s e
            have hnu := nbit_is u e
            have hzx := ibit_zero s e
            have he6 : e < 6 := by omega
            have hset := setBit_is u e (by omega) he6
            have hp := pow2_bd' (e : Int) (by omega)
            rw [Int.toNat_natCast] at hp
            have hp1 := hp.1
            have hp2 := hp.2
            obtain ⟨z1, hz1⟩ : ∃ y, y = ibit (s : Int) e := ⟨_, rfl⟩
            obtain ⟨z2, hz2⟩ : ∃ y, y = ibit (u : Int) e := ⟨_, rfl⟩
            rw [← hz1] at hbx hnx hzx
            rw [← hz2] at hbu hnu
            clear hele hyb hz1 hz2 hp
            cases h1 : nbit s e with
            | false =>
              have t1 : (z1 == 0) = true := by rw [hzx, h1]; rfl
              have hno := allTo_false (n := x.length) hlt (hrp.trans (by rw [h1]; rfl))
              have HNO := Lib.hid hno
              clear hno hrp h1 hnx hnu hzx
              go_wp2_with (go_at_call 248; refine HEL.out.mono ?_; rintro e w' ⟨rfl, rfl⟩)
              go_ret
              exact ⟨ret_bool (by rw [HX.out, HNO.out]), rfl⟩
            | true =>
              have t1 : (z1 == 0) = false := by rw [hzx, h1]; rfl
              cases h2 : nbit u e with
              | true =>
                have t2 : (z2 == 1) = true := by rw [hnu, h2]
                have hno := allTo_false (n := x.length) hlt (hrp.trans (by rw [h1, h2]; rfl))
                have HNO := Lib.hid hno
                clear hno hrp h1 h2 hnx hnu hzx
                go_wp2_with (go_at_call 248; refine HEL.out.mono ?_; rintro e w' ⟨rfl, rfl⟩)
                go_ret
                exact ⟨ret_bool (by rw [HX.out, HNO.out]), rfl⟩
              | false =>
                have t2 : (z2 == 1) = false := by rw [hnu, h2]
                have hyes := allTo_succ HA.out (hrp.trans (by rw [h1, h2]; rfl))
                have HYES := Lib.hid hyes
                obtain ⟨u2, hu2⟩ : ∃ q, q = setBit u e := ⟨_, rfl⟩
                rw [← hu2] at hset
                have HU2 := Lib.hid hu2
                clear hyes hrp h1 h2 hnx hnu hzx hu2
                go_wp2_with (go_at_call 248; refine HEL.out.mono ?_; rintro e w' ⟨rfl, rfl⟩)
                go_round
                case rel => exact ⟨k + 1, by omega, by go_num, by rw [HUS.out, Int.toNat_natCast, ← HU2.out], HYES.out⟩
                case measure => simp [intOf]; omega
        · have hkn : k = x.length := by omega
          have HK := Lib.hid hkn
          clear hkn
          go_wp2
          go_ret
          exact ⟨ret_bool (by rw [HX.out, ← HK.out, HA.out]), rfl⟩
    · have hx : isRepB (G : Int) l x = false := by unfold isRepB; rw [decide_eq_false hxl, Bool.false_and, Bool.and_false]
      have ht : ((x.length : Int) != (l.length : Int)) = true := by simp; omega
      have HX := Lib.hid hx
      have HF := Lib.hid hf
      clear hx hf hc hb hix hcx hbx hixx hxl
      go_enter Tryz.func256, Tryz.ntmps256
      go_wp2_with (go_at_call 266; refine (areFew_any (G : Int) l _ _ hv0).mono ?_; rintro e w1 ⟨rfl, rfl⟩; rw [HF.out])
      go_ret
      exact ⟨ret_bool HX.out.symm, rfl⟩
end Go.Proofs.YtipejodijbjpcaaGreatDoor
end
section
namespace Go.Proofs.YtipejodijbjpcaaGreatDoor
open Go.RowKit Go.G5

/-- the level sets of a vector -/
def lvS (o : List Int) : Nat → Int
  | 0 => 0
  | i + 1 => ior (lvS o i) (2 ^ (o.getD i 0).toNat)
def atO (x o : List Int) (i : Nat) : Int := x.getD (o.getD i 0).toNat 0
def cutL (x o : List Int) (i : Nat) : Bool := i + 1 == o.length || atO x o (i + 1) != atO x o i
def lsToC (x o : List Int) : Nat → List Int
  | 0 => []
  | i + 1 => lsToC x o i ++ (if cutL x o i then [lvS o (i + 1)] else [])
def lsL (x : List Int) : List Int := lsToC x (ordN x x.length) x.length
theorem lvS_bd (o : List Int) (h : ∀ e ∈ o, 0 ≤ e ∧ e < 5) : ∀ i, i ≤ o.length → 0 ≤ lvS o i ∧ lvS o i < 32 := by
  intro i
  induction i with
  | zero => intro _; simp [lvS]
  | succ i ih =>
    intro hi
    have h1 := ih (by omega)
    have h2 := h (o.getD i 0) (by rw [List.getD_eq_getElem?_getD, List.getElem?_eq_getElem (show i < o.length by omega), Option.getD_some]; exact List.getElem_mem _)
    rw [lvS]
    have h3 : (2 : Nat) ^ (o.getD i 0).toNat ≤ 2 ^ 4 := Nat.pow_le_pow_right (by decide) (by omega)
    have h4 : ((2 : Int) ^ (o.getD i 0).toNat) = ((2 ^ (o.getD i 0).toNat : Nat) : Int) := by simp
    rw [h4]
    obtain ⟨P, hP⟩ : ∃ P : Nat, P = 2 ^ (o.getD i 0).toNat := ⟨_, rfl⟩
    rw [← hP] at h3 ⊢
    have := ior_bd (lvS o i) (P : Int) 5 h1.1 (by omega) (by omega) (by omega)
    omega
theorem lvS_lt (N : Nat) (o : List Int) (h : ∀ e ∈ o, 0 ≤ e ∧ e < (N : Int)) : ∀ i, i ≤ o.length → 0 ≤ lvS o i ∧ lvS o i < 2 ^ N := by
  intro i
  induction i with
  | zero => intro _; have := Nat.two_pow_pos N; have e : ((2 : Int) ^ N) = ((2 ^ N : Nat) : Int) := by simp
            rw [e]; simp [lvS]; omega
  | succ i ih =>
    intro hi
    have h1 := ih (by omega)
    have h2 := h (o.getD i 0) (by rw [List.getD_eq_getElem?_getD, List.getElem?_eq_getElem (show i < o.length by omega), Option.getD_some]; exact List.getElem_mem _)
    rw [lvS]
    have h3 : (2 : Nat) ^ (o.getD i 0).toNat < 2 ^ N := Nat.pow_lt_pow_right (by decide) (by omega)
    have h4 : ((2 : Int) ^ (o.getD i 0).toNat) = ((2 ^ (o.getD i 0).toNat : Nat) : Int) := by simp
    have h5 : ((2 : Int) ^ N) = ((2 ^ N : Nat) : Int) := by simp
    rw [h4]
    obtain ⟨P, hP⟩ : ∃ P : Nat, P = 2 ^ (o.getD i 0).toNat := ⟨_, rfl⟩
    rw [← hP] at h3 ⊢
    exact ior_bd (lvS o i) (P : Int) N h1.1 (by omega) h1.2 (by rw [h5]; exact Int.ofNat_lt.2 h3)
theorem lsTo_mem (x o : List Int) : ∀ i, ∀ s ∈ lsToC x o i, ∃ k, k ≤ i ∧ s = lvS o k := by
  intro i
  induction i with
  | zero => intro s hs; simp [lsToC] at hs
  | succ i ih =>
    intro s hs
    rw [lsToC] at hs
    rcases List.mem_append.1 hs with h | h
    · obtain ⟨k, hk, e⟩ := ih s h
      exact ⟨k, by omega, e⟩
    · split at h
      · rw [List.mem_singleton] at h
        exact ⟨i + 1, Nat.le_refl _, h⟩
      · simp at h
theorem lsTo_len (x o : List Int) : ∀ i, (lsToC x o i).length ≤ i := by
  intro i
  induction i with
  | zero => simp [lsToC]
  | succ i ih =>
    rw [lsToC, List.length_append]
    split
    · simp; omega
    · simp; omega
theorem lsL_mem (x : List Int) (N : Nat) (hx : x.length = N) : ∀ s ∈ lsL x, 0 ≤ s ∧ s < 2 ^ N := by
  intro s hs
  obtain ⟨k, hk, rfl⟩ := lsTo_mem _ _ _ s hs
  exact lvS_lt N _ (fun e he => by have := ordN_mem x x.length e he; omega) k (by rw [ordN_len]; exact hk)
def dualV (n : Int) (l x : List Int) : Bool := belB n l x && (x.all (fun y => decide (y ≤ 0)) && wt x (2 ^ n.toNat - 1) == lstN l)
def tightAll (l x : List Int) (ss : List Int) : Bool := ss.all fun s => slackOf l x s == 0
def bestB (n : Int) (l w x : List Int) : Bool := (optB n l w && baseB n l x) && tightAll l x (lsL w)
def sglL (n : Int) (l : List Int) : List Int := (List.range n.toNat).map fun e => l.getD (2 ^ e) 0
def chkMin (n : Int) (l : List Int) (q st : Int) (x : List Int) : Bool := (dualV n l x && isSet n.toNat st) && (l.getD st.toNat 0 == q && wt x (2 ^ n.toNat - 1) == q)
def isElB (n e : Int) : Bool := decide (0 ≤ e) && decide (e < n)
def vioS (n s i k : Int) : Bool := ((isSet n.toNat s && isElB n i) && isElB n k) && i != k
def vioT (l : List Int) (s i k : Int) : Bool := (!nbit s.toNat i.toNat && !nbit s.toNat k.toNat) && badB l (s.toNat, i.toNat, k.toNat)
def chkVio (n : Int) (l x : List Int) : Bool := (isFunB n l && decide (x.length = 3)) && (vioS n (x.getD 0 0) (x.getD 1 0) (x.getD 2 0) && vioT l (x.getD 0 0) (x.getD 1 0) (x.getD 2 0))
def chkBase (n1 : Int) (l1 : List Int) (n2 : Int) (l2 : List Int) (q : Int) (x : List Int) : Bool := ((isGrB n2 l2 && modulB n2 l2) && n2 == n1) && (bestB n1 l1 (sglL n2 l2) x && q == prodTo (sglL n2 l2) x (sglL n2 l2).length)
/-- the number whose bits are these indices, or -1 -/
def idxB (n : Int) (u : Nat) (e : Int) : Bool := isElB n e && !nbit u e.toNat
def idxL (n : Int) : List Int → Nat → Int
  | [], u => (u : Int)
  | e :: r, u => if idxB n u e then idxL n r (setBit u e.toNat) else -1
theorem idx_at (n : Int) (x : List Int) (k : Nat) (h : k < x.length) (u : Nat) : idxL n (x.drop k) u = if idxB n u x[k] then idxL n (x.drop (k + 1)) (setBit u x[k].toNat) else -1 := by
  rw [List.drop_eq_getElem_cons h, idxL]
theorem setBit_64 : ∀ u : Nat, u < 64 → ∀ e : Nat, e < 6 → setBit u e < 64 := by decide +kernel
theorem setBit_pop : ∀ u : Nat, u < 64 → ∀ e : Nat, e < 6 → nbit u e = false → pop (setBit u e) = pop u + 1 := by decide +kernel
theorem setBit_low : ∀ N : Nat, N < 7 → ∀ u : Nat, u < 2 ^ N → ∀ e : Nat, e < 6 → e < N → setBit u e < 2 ^ N := by decide +kernel
theorem idx_ok (N : Nat) (hN : N ≤ 6) : ∀ (x : List Int) (u : Nat), u < 2 ^ N → idxL (N : Int) x u = -1 ∨ ∃ s : Nat, idxL (N : Int) x u = (s : Int) ∧ s < 2 ^ N ∧ pop s = pop u + x.length := by
  intro x
  induction x with
  | nil => intro u hu; exact .inr ⟨u, rfl, hu, by simp⟩
  | cons e r ih =>
    intro u hu
    rw [idxL]
    have h6 : (2 : Nat) ^ N ≤ 2 ^ 6 := Nat.pow_le_pow_right (by decide) hN
    cases hb : idxB (N : Int) u e with
    | false => exact .inl rfl
    | true =>
      unfold idxB isElB at hb
      simp only [Bool.and_eq_true, decide_eq_true_eq, Bool.not_eq_true'] at hb
      obtain ⟨⟨h0, h1⟩, h2⟩ := hb
      rcases ih (setBit u e.toNat) (setBit_low N (by omega) u hu e.toNat (by omega) (by omega)) with h | ⟨s, hs, hs2, hs3⟩
      · exact .inl h
      · refine .inr ⟨s, hs, hs2, ?_⟩
        rw [hs3, setBit_pop u (by omega) e.toNat (by omega) h2, List.length_cons]; omega
def comT (n : Int) (l1 l2 : List Int) (q st s : Int) : Bool := (freeB l1 s.toNat && freeB l2 s.toNat) && l1.getD st.toNat 0 + l2.getD (2 ^ n.toNat - 1 - st).toNat 0 == q
def chkCom (n1 : Int) (l1 : List Int) (n2 : Int) (l2 : List Int) (q st : Int) (x : List Int) : Bool :=
  ((comB n1 l1 n2 l2 && q == (x.length : Int)) && isSet n1.toNat st) && (decide (0 ≤ idxL n1 x 0) && comT n1 l1 l2 q st (idxL n1 x 0))
def chkCut (n : Int) (l : List Int) (q st : Int) : Bool := (fitB n l && cutN n l == q) && ((decide (0 < st) && decide (st < 2 ^ n.toNat - 1)) && l.getD st.toNat 0 == q)
def chkSun (g : Int) (f : List Int) (q : Int) (x : List Int) : Bool := ((isFamB g f && decide (1 ≤ x.length)) && q == (x.length : Int)) && (x.all (has f) && isSunB x)
def hallT (f : List Int) (x : List Int) : Bool := decide (0 < idxL (f.length : Int) x 0) && decide (ipop (unionTo f (idxL (f.length : Int) x 0).toNat f.length) < ipop (idxL (f.length : Int) x 0))
def chkHall (g : Int) (f : List Int) (q : Int) (x : List Int) : Bool := isFamB g f && (if q = 1 then isRepB g f x else (q == 0 && decide (f.length ≤ 6)) && hallT f x)
def chkB (k n1 : Int) (l1 : List Int) (n2 : Int) (l2 : List Int) (n3 : Int) (l3 : List Int) (q st : Int) (l4 : List Int) : Bool :=
  if k = 1 then chkMin n1 l1 q st l4 else if k = 2 then chkVio n1 l1 l4 else if k = 3 then chkBase n1 l1 n2 l2 q l4 else if k = 4 then chkCom n1 l1 n2 l2 q st l4 else if k = 5 then chkCut n1 l1 q st else if k = 6 then chkSun n3 l3 q l4 else if k = 7 then chkHall n3 l3 q l4 else false
end Go.Proofs.YtipejodijbjpcaaGreatDoor
end
section
namespace Go.Proofs.YtipejodijbjpcaaGreatDoor
open Go.RowKit Go.G5

set_option maxHeartbeats 1000000 in
set_option maxRecDepth 100000 in
theorem copyFun_any (w : World) (n : Int) (v : Value) (l : List Int) (hv : Ints w v l) (hl : l.length ≤ 1048576) :
    Calls Tryz.prog 134 #[.agg #[.int .i64 n, v]] w fun e w' => ∃ ad i cp, e = .returned (.agg #[.int .i64 n, .slice ad i cp]) ∧ OwnI 3 w.heap.size w' (.slice ad i cp) l ∧ Below w.heap.size w w' := by
  obtain ⟨a, c, rfl⟩ := hv.shape
  have hll : ([] : List Int).length + l.length ≤ 17592186044416 := by simp; omega
  have HLL := Lib.hid hll
  clear hll
  go_enter Tryz.func134, Tryz.ntmps134
  go_wp2_with fail
  obtain ⟨V, hV⟩ : ∃ V, V = (w.alloc (.cells #[.int .i64 n, .slice a l.length c] 32)).alloc (.cells #[.int .i64 0, .slice none 0 0] 32) := ⟨_, rfl⟩
  rw [← hV]
  have B : Below w.heap.size w V := by rw [hV]; exact bl2 _ _ _
  have K1 : Blk V w.heap.size 32 #[.int .i64 n, .slice a l.length c] := by rw [hV]; exact (Blk.new _ _ _).alloc _
  have K2 : Blk V (w.heap.size + 1) 32 #[.int .i64 0, .slice none 0 0] := by rw [hV]; have := Blk.new (w.alloc (.cells #[.int .i64 n, .slice a l.length c] 32)) 32 #[.int .i64 0, .slice none 0 0]; simpa using this
  clear hV
  have hv1 := hv.below B (Nat.le_refl _)
  have e1 : V.cell? ⟨w.heap.size, 0, none⟩ = some (.int .i64 n) := K1.cell 0
  have e2 : V.cell? ⟨w.heap.size, 1, none⟩ = some (.slice a l.length c) := K1.cell 1
  have z2 := K2.lt
  have z1 := K1.lt
  go_region_held3 (fun w' => w'.cell? ⟨w.heap.size, 0, none⟩ = some (.int .i64 n) ∧ w'.cell? ⟨w.heap.size, 1, none⟩ = some (.slice a l.length c)) (go_keep)
    (first
      | (go_at_call 242; refine (clone_any _ l _ ?_ hl).mono ?_; (with_reducible exact hv1.drew'); rintro e1' w7 ⟨p7, i7, q7, rfl, o7', b7⟩; have o7 : OwnI 3 V.heap.size w7 (.slice p7 i7 q7) l := o7'; have K7 := (K2.drewN 1).keep b7; have G2 := K7.cell; have F2 := K7.frozen; have z7 := K7.lt; obtain ⟨hc1, hf1⟩ := bcellN b7 V.heap.size (Nat.le_refl _)))
  go_wp2
  refine post_named ?_
  intro Wf hWf
  have K2f : Blk Wf (w.heap.size + 1) 32 #[.int .i64 n, .slice p7 i7 q7] := by
    rw [hWf]
    have := (K7.set 0 (.int .i64 n)).set 1 (.slice p7 i7 q7)
    simpa using this
  have hg : w7.grownBy Wf (some (w.heap.size + 1)) := by rw [hWf]; exact grow_set (grow_set (World.grownBy.refl _ _) 0 _) 1 _
  have B7 : Below w.heap.size w w7 := by first | exact B.after b7 B.size | exact (B.drewN' 1).after b7 B.size
  have y7 := B7.size
  have yB := B.size
  have Bf : Below w.heap.size w Wf := B7.grown hg B7.size (fun q hq => by have := Option.some.inj hq; omega)
  have of := (o7.grow hg (fun q hq hq2 => by have := Option.some.inj hq; have := (o7.lt q hq2).1; omega)).mono (B' := w.heap.size) (by omega)
  have Gf := K2f.cell
  clear hWf
  exact bodyPost_ret (v := .agg #[.int .i64 n, .slice p7 i7 q7]) (by simp [results, Tryz.results134, go_sem, Gf]) rfl ⟨p7, i7, q7, rfl, of, Bf⟩
end Go.Proofs.YtipejodijbjpcaaGreatDoor
end
