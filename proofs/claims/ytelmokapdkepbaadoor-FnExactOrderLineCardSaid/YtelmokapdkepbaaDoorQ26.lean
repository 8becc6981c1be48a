/- All orders of up to six elements, one after the other, in both programs. -/
import Derived.Test.YtelmokapdkepbaaDoorQ25
section
namespace Go.Proofs.YtelmokapdkepbaaDoor
open Go.RowKit Go.G5

theorem ordersN_len6 (n : Nat) (hn : n ≤ 6) (r : Nat) : (ordersN n r).length ≤ 6 ^ r := by
  induction r with
  | zero => simp [ordersN]
  | succ r ih =>
    have h1 := nextTo_len n (ordersN n r) (ordersN n r).length
    have h2 : (ordersN n r).length * n ≤ 6 ^ r * 6 := Nat.mul_le_mul ih hn
    rw [ordersN, Nat.pow_succ]; omega
/-- the orders that go on from p with m more elements -/
def ordS (N : Nat) : Nat → List Int → List (List Int)
  | 0, p => [p]
  | m + 1, p => (List.range N).flatMap fun (x : Nat) => if has p (x : Int) then [] else ordS N m (p ++ [(x : Int)])
def ordT (N m : Nat) (p : List Int) (x : Nat) : List (List Int) := (List.range x).flatMap fun (x : Nat) => if has p (x : Int) then [] else ordS N m (p ++ [(x : Int)])
theorem ordT_succ (N m : Nat) (p : List Int) (x : Nat) : ordT N m p (x + 1) = ordT N m p x ++ (if has p (x : Int) then [] else ordS N m (p ++ [(x : Int)])) := by
  unfold ordT
  rw [List.range_succ, List.flatMap_append, List.flatMap_singleton]
theorem ordT_len_of (N m : Nat) (h : ∀ p, (ordS N m p).length ≤ 6 ^ m) (p : List Int) : ∀ x, (ordT N m p x).length ≤ x * 6 ^ m := by
  intro x
  induction x with
  | zero => simp [ordT]
  | succ x ih =>
    rw [ordT_succ, List.length_append, Nat.succ_mul]
    have : (if has p (x : Int) then [] else ordS N m (p ++ [(x : Int)])).length ≤ 6 ^ m := by
      split
      · simp
      · exact h _
    omega
theorem ordS_len (N : Nat) (hN : N ≤ 6) : ∀ m p, (ordS N m p).length ≤ 6 ^ m := by
  intro m
  induction m with
  | zero => intro p; simp [ordS]
  | succ m ih =>
    intro p
    have h := ordT_len_of N m ih p N
    have h2 : N * 6 ^ m ≤ 6 * 6 ^ m := Nat.mul_le_mul_right _ hN
    show (ordT N m p N).length ≤ _
    rw [Nat.pow_succ]; omega
theorem extTo_is (l : List Int) : ∀ e, extTo l e = (List.range e).flatMap fun (x : Nat) => if has l (x : Int) then [] else [l ++ [(x : Int)]] := by
  intro e
  induction e with
  | zero => rfl
  | succ e ih =>
    rw [extTo, List.range_succ, List.flatMap_append, List.flatMap_singleton, ih]
    cases has l (e : Int) <;> simp
theorem nextTo_is (n : Nat) (ls : List (List Int)) : ∀ k, k ≤ ls.length → nextTo n ls k = (ls.take k).flatMap fun l => extTo l n := by
  intro k
  induction k with
  | zero => intro _; rfl
  | succ k ih =>
    intro hk
    rw [nextTo, ih (by omega), List.take_succ_eq_append_getElem (by omega), List.flatMap_append, List.flatMap_singleton, List.getD_eq_getElem?_getD, List.getElem?_eq_getElem (show k < ls.length by omega), Option.getD_some]
theorem ext_ordS (N m : Nat) (l : List Int) : (extTo l N).flatMap (ordS N m) = ordS N (m + 1) l := by
  rw [extTo_is, List.flatMap_assoc]
  show _ = (List.range N).flatMap _
  congr 1
  funext x
  cases has l (x : Int) <;> simp
theorem orders_go (N : Nat) : ∀ m r, (ordersN N r).flatMap (ordS N m) = ordersN N (r + m) := by
  intro m
  induction m with
  | zero =>
    intro r
    show (ordersN N r).flatMap (fun p => [p]) = _
    simp
  | succ m ih =>
    intro r
    rw [show r + (m + 1) = (r + 1) + m by omega, ← ih (r + 1)]
    show _ = List.flatMap (ordS N m) (nextTo N (ordersN N r) (ordersN N r).length)
    rw [nextTo_is _ _ _ (Nat.le_refl _), List.take_length, List.flatMap_assoc]
    congr 1
    funext l
    exact (ext_ordS N m l).symm
theorem ordS_all (N : Nat) : ordS N N [] = ordersN N N := by
  have h := orders_go N N 0
  rw [Nat.zero_add] at h
  rw [← h]
  show _ = List.flatMap (ordS N N) [[]]
  simp
set_option maxHeartbeats 2000000 in
set_option maxRecDepth 100000 in
theorem ordersOf6_any (n : Nat) (hn : n ≤ 6) (w : World) :
    Calls Tryd.prog 55 #[.int .i64 (n : Int)] w fun e w' => ∃ ad i c, e = .returned (.slice ad i c) ∧ OwnLL 3 22 w.heap.size w' (.slice ad i c) (ordersN n n) ∧ Below w.heap.size w w' := by
  have o0 := OwnLL.single (EI := 3) (EO := 22) w (Nat.le_refl w.heap.size)
  go_enter Tryd.func55, Tryd.ntmps55
  go_wp2_with fail
  go_loopw [3, 10] (fun v i wr => ∃ (r : Nat) (ad : Option Addr) (cp : Nat), r ≤ n ∧ i = .int .i64 r ∧ v = .slice ad (ordersN n r).length cp ∧ OwnLL 3 22 w.heap.size wr (.slice ad (ordersN n r).length cp) (ordersN n r) ∧ Below w.heap.size w wr)
    (fun _ i _ => n - (intOf i).toNat)
  case atStart => exact ⟨0, _, _, Nat.zero_le _, rfl, rfl, o0, bl1 _ _⟩
  case round =>
    obtain ⟨r, ad, cp, hr, rfl, rfl, ol, B⟩ := hrel
    obtain ⟨wo, rfl⟩ : ∃ wo : World, wo = wr := ⟨_, rfl⟩
    clear o0
    by_cases hrn : r < n
    · have hmem := ordersN_mem n r
      have hlen := ordersN_len6 n hn r
      have h5 : (6 : Nat) ^ r ≤ 6 ^ 5 := Nat.pow_le_pow_right (by decide) (by omega)
      have hnx : ordersN n (r + 1) = nextTo n (ordersN n r) (ordersN n r).length := rfl
      obtain ⟨ls, hls⟩ : ∃ ls, ls = ordersN n r := ⟨_, rfl⟩
      rw [← hls] at ol hmem hlen hnx ⊢
      have hl625 : ls.length ≤ 7776 := by omega
      have HNX := Lib.hid hnx
      have HMEM := Lib.hid hmem
      have HOL := Lib.hid ol
      clear hls hmem hlen h5 hnx ol
      go_wp2_with fail
      go_loopw [4, 14] (fun v i wm => ∃ (k : Nat) (ad' : Option Addr) (nn' cp' : Nat), k ≤ ls.length ∧ i = .int .i64 k ∧ v = .slice ad' nn' cp' ∧ OwnLL 3 22 wo.heap.size wm (.slice ad' nn' cp') (nextTo n ls k) ∧
          OwnLL 3 22 w.heap.size wm (.slice ad ls.length cp) ls ∧ Below w.heap.size w wm ∧ wo.heap.size ≤ wm.heap.size)
        (fun _ i _ => ls.length - (intOf i).toNat)
      case atStart => exact ⟨0, none, 0, 0, Nat.zero_le _, rfl, rfl, OwnLL.nil _ _ _ _, HOL.out, B, Nat.le_refl _⟩
      case round =>
        obtain ⟨k, ad', nn', cp', hk, rfl, rfl, oN, oL, Bm, zm⟩ := hrel
        obtain ⟨wm, rfl⟩ : ∃ wm : World, wm = wr := ⟨_, rfl⟩
        have rL := HOL.out.lt
        by_cases hkl : k < ls.length
        · obtain ⟨g, u, hix, hcell, hu⟩ := oL.view Tryd.prog 35 Tryd.underlying35 sliceElem k hkl
          have hml := HMEM.out _ (List.getElem_mem hkl)
          have hgd : ls.getD k [] = ls[k] := by rw [List.getD_eq_getElem?_getD, List.getElem?_eq_getElem hkl]; rfl
          have hnk : nextTo n ls (k + 1) = nextTo n ls k ++ extTo ls[k] n := by rw [nextTo, hgd]
          have hnl := nextTo_len n ls k
          have hnl2 : k * n ≤ 7776 * 6 := Nat.mul_le_mul (by omega) hn
          obtain ⟨l, hl⟩ : ∃ l, l = ls[k] := ⟨_, rfl⟩
          rw [← hl] at hu hml hnk
          obtain ⟨N, hN⟩ : ∃ N, N = nextTo n ls k := ⟨_, rfl⟩
          rw [← hN] at hnk hnl oN
          have hll : l.length ≤ 6 := by have := hml.1; omega
          obtain ⟨au, nu, cu, rfl⟩ := hu.shape3
          have HNK := Lib.hid hnk
          have HON := Lib.hid oN
          have HOLm := Lib.hid oL
          have HU := Lib.hid hu
          clear hl hN hml hgd hnk oN oL hu
          go_wp2_with fail
          go_loopw [4, 19] (fun v i wi => ∃ (e : Nat) (ad'' : Option Addr) (nn'' cp'' : Nat), e ≤ n ∧ i = .int .i64 e ∧ v = .slice ad'' nn'' cp'' ∧ OwnLL 3 22 wo.heap.size wi (.slice ad'' nn'' cp'') (N ++ extTo l e) ∧
              OwnLL 3 22 w.heap.size wi (.slice ad ls.length cp) ls ∧ OwnI 3 w.heap.size wi (.slice au nu cu) l ∧ Below w.heap.size w wi ∧ wo.heap.size ≤ wi.heap.size)
            (fun _ i _ => n - (intOf i).toNat)
          case atStart => exact ⟨0, _, _, _, Nat.zero_le _, rfl, rfl, by simpa [extTo] using HON.out, HOLm.out, HU.out, Bm, zm⟩
          case round =>
            obtain ⟨e, ad'', nn'', cp'', he, rfl, rfl, oN, oL, oU, Bi, zi⟩ := hrel
            obtain ⟨wi, rfl⟩ : ∃ wi : World, wi = wr := ⟨_, rfl⟩
            clear hix hcell
            by_cases hen : e < n
            · cases hh : has l (e : Int) with
              | true =>
                have hx : extTo l (e + 1) = extTo l e := by rw [extTo, hh]; rfl
                have HX := Lib.hid hx
                have HH := Lib.hid hh
                clear hx hh
                go_wp2_with (go_at_call 49; refine (slContains_any l _ _ _ oU.ints).mono ?_; rintro e' w' ⟨rfl, rfl⟩; rw [HH.out])
                go_roundw
                case rel => exact ⟨e + 1, ad'', nn'', cp'', by omega, by go_num, rfl, by rw [HX.out]; exact oN, oL, oU, Bi, zi⟩
                case measure => simp [intOf]; omega
              | false =>
                have hx : extTo l (e + 1) = extTo l e ++ [l ++ [(e : Int)]] := by rw [extTo, hh]; rfl
                have hel := extTo_len l e
                have HX := Lib.hid hx
                have HH := Lib.hid hh
                have rN := oN.lt
                have HON2 := Lib.hid oN
                have HOL2 := Lib.hid oL
                have HOU := Lib.hid oU
                have hlenN : (N ++ extTo l e).length ≤ 46700 := by rw [List.length_append]; omega
                clear hx hh oN oL oU hel
                go_wp2_with (first
                  | (go_at_call 49; refine (slContains_any l _ _ _ HOU.out.ints).mono ?_; rintro e' w' ⟨rfl, rfl⟩; rw [HH.out])
                  | (go_at_call 75; refine (clone_any _ l _ HOU.out.ints (by omega)).mono ?_; rintro e' w5 ⟨p5, i5, q5, rfl, o5, hb5⟩; have z5 := hb5.size)
                  | (at_builtin; refine wpList_appendI rfl _ _ _ rfl 3 Tryd.underlying22 intElem wi.heap.size (.slice p5 i5 q5) l (e : Int) w5.heap.size rfl rfl (by simp) (o5.alloc _) ⟨by omega, by omega⟩ (by omega) (by simp; omega) ?_; intro v' w6 hown6 hgr6; obtain ⟨p6, i6, q6, rfl⟩ := hown6.shape3; have b6 : Below wi.heap.size wi w6 := below_grow (Below.after (Below.refl _ _) (hb5.after (bl1 w5 _) hb5.size) (Nat.le_refl _)) hgr6 (by simp; omega) (fun q hq => (o5.lt q hq).1); have z6 := b6.size; obtain ⟨vs6, row6⟩ := (HON2.out.keep b6).row)
                  | (at_builtin; refine wpList_appendL rfl _ _ _ rfl 3 22 noMeet Tryd.underlying35 sliceElem wo.heap.size (.slice ad'' nn'' cp'') (N ++ extTo l e) (.slice p6 i6 q6) (l ++ [(e : Int)]) w6.heap.size rfl rfl (by simp) ((HON2.out.keep b6).keep (bl1 w6 _)) ((hown6.mono (by omega)).alloc _) (by omega) (by simp; omega) ?_; intro v' w7 hown7 hgr7; obtain ⟨p7, i7, q7, rfl⟩ := hown7.shape3))
                have b7 : Below wi.heap.size wi (w6.alloc (.cells #[.slice p6 i6 q6] 22)) := b6.alloc b6.size _
                obtain ⟨vs7, row7⟩ := (HON2.out.keep b7).row
                have oL7 := (HOL2.out.keep b7).grow row7 noMeet hgr7 (fun q hq hq2 => by have := (rN q hq).1; have := (rL q hq2).2; omega)
                have oU7 := (HOU.out.keep b7).growL row7 noMeet hgr7
                have zBi := Bi.size
                have B7 := (Bi.after b7 Bi.size).grown hgr7 (by simp; omega) (fun q hq => by have := (rN q hq).1; have := B.size; omega)
                have z7 := hgr7.size
                go_roundw
                case rel => exact ⟨e + 1, p7, i7, q7, by omega, by go_num, rfl, by rw [HX.out, ← List.append_assoc]; exact hown7, oL7, oU7, B7, by simp at z7; omega⟩
                case measure => simp [intOf]; omega
            · have hee : e = n := by omega
              subst hee
              go_wp2
              go_roundw
              case rel => exact ⟨k + 1, ad'', nn'', cp'', by omega, by go_num, rfl, by rw [HNK.out]; exact oN, oL, Bi, zi⟩
              case measure => simp [intOf]; omega
        · have hkk : k = ls.length := by omega
          subst hkk
          have hsh := oN.len
          obtain ⟨a3, c3, e3, _⟩ := hsh
          simp only [Value.slice.injEq] at e3
          obtain ⟨rfl, rfl, rfl⟩ := e3
          have HON := Lib.hid oN
          clear oN oL
          go_wp2
          go_roundw
          case rel => exact ⟨r + 1, _, _, by omega, by go_num, by rw [HNX.out], by rw [HNX.out]; exact HON.out.mono B.size, Bm⟩
          case measure => simp [intOf]; omega
    · have hrr : r = n := by omega
      subst hrr
      go_wp2
      go_ret
      exact ⟨_, _, _, rfl, ol, B⟩
set_option maxHeartbeats 8000000 in
set_option maxRecDepth 100000 in
theorem l8Orders6_any (N : Nat) (hN : N ≤ 6) : ∀ (m : Nat) (p : List Int) (v : Value) (w : World) (B : Nat), p.length + m = N → OwnI 3 B w v p → B ≤ w.heap.size →
    Calls Tryd.prog 41 #[.int .i64 (N : Int), v] w fun e w' => ∃ a i c, e = .returned (.slice a i c) ∧ OwnLL 3 22 B w' (.slice a i c) (ordS N m p) ∧ Below w.heap.size w w' := by
  intro m
  induction m with
  | zero =>
    intro p v w B hpm hv hB
    obtain ⟨av, cv, rfl⟩ := hv.shape
    have ht : ((p.length : Int) == (N : Int)) = true := by simp; omega
    have o1 := OwnLL.one (EO := 22) hv hB
    have hpn : p.length = N := by omega
    have HP := Lib.hid hpn
    clear hpm hpn
    go_enter Tryd.func41, Tryd.ntmps41
    go_wp2
    go_ret
    exact ⟨_, _, _, rfl, o1, bl1 _ _⟩
  | succ m ih =>
    intro p v w B hpm hv hB
    obtain ⟨av, cv, rfl⟩ := hv.shape
    have ht : ((p.length : Int) == (N : Int)) = false := by simp; omega
    have hp5 : p.length ≤ 6 := by omega
    have IH := Lib.hid ih
    have HPM := Lib.hid hpm
    have HV := Lib.hid hv
    have hm4 : m ≤ 5 := by omega
    have h5m : (6 : Nat) ^ m ≤ 7776 := Nat.le_trans (Nat.pow_le_pow_right (by decide) hm4) (by decide)
    have o0 := OwnLL.lit0 (EI := 3) (EO := 22) (B := w.heap.size) w (Nat.le_refl _)
    clear ih hpm hv
    go_enter Tryd.func41, Tryd.ntmps41
    go_wp2_with fail
    go_loopw [5, 6] (fun out i wr => ∃ (x : Nat) (a : Option Addr) (q c : Nat), x ≤ N ∧ i = .int .i64 x ∧ out = .slice a q c ∧ OwnLL 3 22 w.heap.size wr (.slice a q c) (ordT N m p x) ∧ Below w.heap.size w wr) (fun _ i _ => N - (intOf i).toNat)
    case atStart => exact ⟨0, _, _, _, Nat.zero_le _, rfl, rfl, o0, bl1 _ _⟩
    case round =>
      obtain ⟨x, a, q, c, hx, rfl, rfl, ho, Bw⟩ := hrel
      have hll := ordT_len_of N m (ordS_len N hN m) p x
      have hts := ordT_succ N m p x
      have hsl := ordS_len N hN m (p ++ [(x : Int)])
      have hfin : x = N → ordT N m p x = ordS N (m + 1) p := fun h => by rw [h]; rfl
      have HFIN := Lib.hid hfin
      obtain ⟨ls, hls0⟩ : ∃ ls, ls = ordT N m p x := ⟨_, rfl⟩
      rw [← hls0] at ho hll hts HFIN
      have HO := Lib.hid ho
      have HTS := Lib.hid hts
      have hl5 : ls.length ≤ 46656 := Nat.le_trans hll (Nat.le_trans (Nat.mul_le_mul (show x ≤ 6 by omega) h5m) (by decide))
      have hvr := (HV.out.below Bw (Nat.le_refl _)).ints
      clear o0 ho hls0 hll hts hfin
      obtain ⟨wz, hwz⟩ : ∃ wz : World, wz = wr := ⟨_, rfl⟩
      by_cases hlt : x < N
      · have hlt2 : (x : Int) < (N : Int) := by omega
        obtain ⟨_, b, off, _, hva, _, hix, hc, hb⟩ := hvr.view Tryd.prog 22 3 Tryd.underlying22 intElem
        injection hva with e1 _ e3
        subst e1 e3
        have HC := Lib.hid hc
        have HIX := Lib.hid hix
        clear hc hix hb
        go_wp2_with fail
        go_loop [7, 8] (fun u i => ∃ k : Nat, k ≤ p.length ∧ i = .int .i64 k ∧ u = .bool (decide ((x : Int) ∈ p.take k))) (fun _ i => p.length - (intOf i).toNat)
        case atStart => exact ⟨0, Nat.zero_le _, rfl, by simp⟩
        case round =>
          obtain ⟨k, hk, rfl, rfl⟩ := hrel
          by_cases hkl : k < p.length
          · have hkl2 : (k : Int) < (p.length : Int) := by omega
            have ck := HC.out k hkl
            have ik := fun W => HIX.out W k hkl
            have hsu : decide ((x : Int) ∈ p.take (k + 1)) = (decide ((x : Int) ∈ p.take k) || (p[k] == (x : Int))) := by
              rw [List.take_succ_eq_append_getElem hkl]
              simp only [List.mem_append, List.mem_singleton, Bool.decide_or]
              congr 1
              exact decide_eq_decide.2 ⟨fun e => e.symm, fun e => e.symm⟩
            obtain ⟨y, hy⟩ : ∃ y, y = p[k] := ⟨_, rfl⟩
            rw [← hy] at ck hsu
            have HSU := Lib.hid hsu
            clear hsu hy
            obtain ⟨t, ht2⟩ : ∃ t, decide ((x : Int) ∈ p.take k) = t := ⟨_, rfl⟩
            rw [ht2] at HSU ⊢
            clear ht2
            obtain ⟨t3, ht3⟩ : ∃ t, (y == (x : Int)) = t := ⟨_, rfl⟩
            rw [ht3] at HSU
            cases t with
            | true =>
              go_wp2
              go_round
              case rel => exact ⟨k + 1, by omega, by go_num, by rw [HSU.out]; rfl⟩
              case measure => simp [intOf]; omega
            | false =>
              cases t3 with
              | true =>
                go_wp2
                go_round
                case rel => exact ⟨k + 1, by omega, by go_num, by rw [HSU.out]; rfl⟩
                case measure => simp [intOf]; omega
              | false =>
                go_wp2
                go_round
                case rel => exact ⟨k + 1, by omega, by go_num, by rw [HSU.out]; rfl⟩
                case measure => simp [intOf]; omega
          · have hkp : k = p.length := by omega
            have hkl2 : ¬ (k : Int) < (p.length : Int) := by omega
            obtain ⟨t, ht2⟩ : ∃ t, decide ((x : Int) ∈ p.take k) = t := ⟨_, rfl⟩
            rw [ht2]
            cases t with
            | true =>
              have hhx : has p (x : Int) = true := by rw [← ht2, hkp, List.take_length]; rfl
              have HHX := Lib.hid hhx
              clear ht2 hkp hhx
              go_wp2
              go_roundw
              case rel => exact ⟨x + 1, a, q, c, by omega, by go_num, rfl, by rw [HTS.out, HHX.out]; simpa using HO.out, Bw⟩
              case measure => simp [intOf]; omega
            | false =>
              have hhx : has p (x : Int) = false := by rw [← ht2, hkp, List.take_length]; rfl
              have HHX := Lib.hid hhx
              have hER : InR (x : Int) := ⟨by omega, by omega⟩
              have HER := Lib.hid hER
              have hrec := fun (v6 : Value) (w6 : World) (h1 : OwnI 3 wr.heap.size w6 v6 (([] ++ p) ++ [(x : Int)])) (h2 : wr.heap.size ≤ w6.heap.size) => IH.out (([] ++ p) ++ [(x : Int)]) v6 w6 wr.heap.size (by have := HPM.out; simp; omega) h1 h2
              have HREC := Lib.hid hrec
              clear ht2 hkp hhx hrec hER
              go_wp2_with (first
  | (at_builtin; refine wpList_appendN rfl _ _ _ rfl 3 Tryd.underlying22 intElem wr.heap.size (.slice (some ⟨wr.heap.size, 0, none⟩) 0 0) [] rfl (OwnI.lit0 wr (Nat.le_refl _)) (.slice av p.length cv) p rfl (hvr.alloc _) (by simp; omega) (bl1 wr _).size ?_; intro v5 w5 o5 g5 n5; have b5 := (bl1 wr (.cells #[] 3)).grown g5 (bl1 wr (.cells #[] 3)).size (fun q hq => ((OwnI.lit0 (E := 3) wr (Nat.le_refl wr.heap.size)).lt q hq).1))
  | (at_builtin; refine wpList_appendN1 rfl _ _ _ rfl 3 Tryd.underlying22 intElem wr.heap.size v5 ([] ++ p) (x : Int) w5.heap.size rfl rfl (cell_new _ _ _ _ _ rfl) (o5.alloc _) HER.out (by simp; omega) (b5.alloc b5.size _).size ?_; intro v6 w6 o6 g6 n6; have b6 := (b5.alloc b5.size _).grown g6 (b5.alloc b5.size _).size (fun q hq => (o5.lt q hq).1))
  | (go_at_call 41; refine (HREC.out v6 w6 o6 b6.size).mono ?_; rintro e7 w7 ⟨p7, q7, c7, rfl, o7, b7⟩; have bb := b6.after b7 b6.size; have oo := HO.out.keep bb)
  | (at_builtin; refine wpList_appendLL rfl _ _ _ rfl Tryd.underlying35 sliceElem noMeet w.heap.size _ ls rfl oo wr.heap.size _ (ordS N m (p ++ [(x : Int)])) rfl o7 Bw.size (by omega) (Bw.after bb Bw.size).size ?_; intro v8 w8 o8 g8 _))
              obtain ⟨a8, n8, c8, rfl⟩ := o8.shape3
              have B7 := Bw.after bb Bw.size
              go_roundw
              case rel => exact ⟨x + 1, a8, n8, c8, by omega, by go_num, rfl, by rw [HTS.out, HHX.out]; exact o8, B7.grown g8 B7.size (fun k hk => (oo.lt k hk).1)⟩
              case measure => simp [intOf]; omega
      · have hxN : x = N := by omega
        have hlt2 : ¬ (x : Int) < (N : Int) := by omega
        have hle := HFIN.out hxN
        have HLE := Lib.hid hle
        clear hxN hle
        go_wp2
        go_ret
        exact ⟨a, q, c, rfl, by rw [← HLE.out]; exact HO.out.mono hB, Bw⟩
end Go.Proofs.YtelmokapdkepbaaDoor
end
