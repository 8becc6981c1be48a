/- All orders of some elements. Powers of elements, in plain words. Minimum cuts: what is computed. Minimum cuts: the first program. Minimum cuts: the first program's search, and claims of it. Minimum cuts: the second program. Functions made by a closure over two boxes. -/
import Derived.Test.YtipejodijbjpcaaGreatDoorQ21
import Derived.Deep.RegionHeld3
section
namespace Go.Proofs.YtipejodijbjpcaaGreatDoor
open Go.RowKit Go.G5

def extTo (l : List Int) : Nat → List (List Int)
  | 0 => []
  | e + 1 => if has l (e : Int) then extTo l e else extTo l e ++ [l ++ [(e : Int)]]
def nextTo (n : Nat) (ls : List (List Int)) : Nat → List (List Int)
  | 0 => []
  | k + 1 => nextTo n ls k ++ extTo (ls.getD k []) n
def ordersN (n : Nat) : Nat → List (List Int)
  | 0 => [[]]
  | r + 1 => nextTo n (ordersN n r) (ordersN n r).length
theorem extTo_len (l : List Int) (e : Nat) : (extTo l e).length ≤ e := by
  induction e with
  | zero => exact Nat.le_refl _
  | succ e ih =>
    rw [extTo]
    split
    · omega
    · rw [List.length_append]; simp only [List.length_cons, List.length_nil]; omega
theorem nextTo_len (n : Nat) (ls : List (List Int)) (k : Nat) : (nextTo n ls k).length ≤ k * n := by
  induction k with
  | zero => simp [nextTo]
  | succ k ih =>
    have := extTo_len (ls.getD k []) n
    rw [nextTo, List.length_append, Nat.succ_mul]; omega
theorem ordersN_len (n : Nat) (hn : n ≤ 5) (r : Nat) : (ordersN n r).length ≤ 5 ^ r := by
  induction r with
  | zero => simp [ordersN]
  | succ r ih =>
    have h1 := nextTo_len n (ordersN n r) (ordersN n r).length
    have h2 : (ordersN n r).length * n ≤ 5 ^ r * 5 := Nat.mul_le_mul ih hn
    rw [ordersN, Nat.pow_succ]; omega
theorem extTo_mem (l : List Int) (n e : Nat) (he : e ≤ n) : ∀ x ∈ extTo l e, ∃ j : Nat, j < n ∧ x = l ++ [(j : Int)] := by
  induction e with
  | zero => simp [extTo]
  | succ e ih =>
    intro x hx
    rw [extTo] at hx
    split at hx
    · exact ih (by omega) x hx
    · rcases List.mem_append.1 hx with hx | hx
      · exact ih (by omega) x hx
      · simp only [List.mem_singleton] at hx
        exact ⟨e, by omega, hx⟩
theorem nextTo_mem (n : Nat) (ls : List (List Int)) (k : Nat) (hk : k ≤ ls.length) : ∀ x ∈ nextTo n ls k, ∃ l ∈ ls, ∃ j : Nat, j < n ∧ x = l ++ [(j : Int)] := by
  induction k with
  | zero => simp [nextTo]
  | succ k ih =>
    intro x hx
    rw [nextTo] at hx
    rcases List.mem_append.1 hx with hx | hx
    · exact ih (by omega) x hx
    · obtain ⟨j, hj, e⟩ := extTo_mem _ n n (Nat.le_refl _) x hx
      rw [List.getD_eq_getElem?_getD, List.getElem?_eq_getElem (show k < ls.length by omega), Option.getD_some] at e
      exact ⟨_, List.getElem_mem (show k < ls.length by omega), j, hj, e⟩
theorem ordersN_mem (n r : Nat) : ∀ l ∈ ordersN n r, l.length = r ∧ ∀ x ∈ l, 0 ≤ x ∧ x < n := by
  induction r with
  | zero => intro l hl; simp only [ordersN, List.mem_singleton] at hl; subst hl; simp
  | succ r ih =>
    intro l hl
    obtain ⟨l', hl', j, hj, rfl⟩ := nextTo_mem n _ _ (Nat.le_refl _) l hl
    obtain ⟨h1, h2⟩ := ih l' hl'
    refine ⟨by simp [h1], fun x hx => ?_⟩
    rcases List.mem_append.1 hx with hx | hx
    · exact h2 x hx
    · simp only [List.mem_singleton] at hx; omega

set_option maxHeartbeats 2000000 in
set_option maxRecDepth 100000 in
theorem ordersOf_any (n : Nat) (hn : n ≤ 5) (w : World) :
    Calls Tryz.prog 120 #[.int .i64 (n : Int)] w fun e w' => ∃ ad i c, e = .returned (.slice ad i c) ∧ OwnLL 3 22 w.heap.size w' (.slice ad i c) (ordersN n n) ∧ Below w.heap.size w w' := by
  have o0 := OwnLL.single (EI := 3) (EO := 22) w (Nat.le_refl w.heap.size)
  go_enter Tryz.func120, Tryz.ntmps120
  go_wp2_with fail
  go_loopw [3, 10] (fun v i wr => ∃ (r : Nat) (ad : Option Addr) (cp : Nat), r ≤ n ∧ i = .int .i64 r ∧ v = .slice ad (ordersN n r).length cp ∧ OwnLL 3 22 w.heap.size wr (.slice ad (ordersN n r).length cp) (ordersN n r) ∧ Below w.heap.size w wr)
    (fun _ i _ => n - (intOf i).toNat)
  case atStart => exact ⟨0, _, _, Nat.zero_le _, rfl, rfl, o0, bl1 _ _⟩
  case round =>
    obtain ⟨r, ad, cp, hr, rfl, rfl, ol, B⟩ := hrel
    obtain ⟨wo, rfl⟩ : ∃ wo : World, wo = wr := ⟨_, rfl⟩
    clear o0
    by_cases hrn : r < n
    · have hmem := ordersN_mem n r
      have hlen := ordersN_len n hn r
      have h5 : (5 : Nat) ^ r ≤ 5 ^ 4 := Nat.pow_le_pow_right (by decide) (by omega)
      have hnx : ordersN n (r + 1) = nextTo n (ordersN n r) (ordersN n r).length := rfl
      obtain ⟨ls, hls⟩ : ∃ ls, ls = ordersN n r := ⟨_, rfl⟩
      rw [← hls] at ol hmem hlen hnx ⊢
      have hl625 : ls.length ≤ 625 := by omega
      have HNX := Lib.hid hnx
      have HMEM := Lib.hid hmem
      have HOL := Lib.hid ol
      clear hls hmem hlen h5 hnx ol
      go_wp2_with fail
      go_loopw [4, 14] (fun v i wm => ∃ (k : Nat) (ad' : Option Addr) (nn' cp' : Nat), k ≤ ls.length ∧ i = .int .i64 k ∧ v = .slice ad' nn' cp' ∧ OwnLL 3 22 wo.heap.size wm (.slice ad' nn' cp') (nextTo n ls k) ∧
          OwnLL 3 22 w.heap.size wm (.slice ad ls.length cp) ls ∧ Below w.heap.size w wm ∧ wo.heap.size ≤ wm.heap.size)
        (fun _ i _ => ls.length - (intOf i).toNat)
      case atStart => exact ⟨0, none, 0, 0, Nat.zero_le _, rfl, rfl, OwnLL.nil _ _ _ _, HOL.out, B, Nat.le_refl _⟩
      case round =>
        obtain ⟨k, ad', nn', cp', hk, rfl, rfl, oN, oL, Bm, zm⟩ := hrel
        obtain ⟨wm, rfl⟩ : ∃ wm : World, wm = wr := ⟨_, rfl⟩
        have rL := HOL.out.lt
        by_cases hkl : k < ls.length
        · obtain ⟨g, u, hix, hcell, hu⟩ := oL.view Tryz.prog 39 Tryz.underlying39 sliceElem k hkl
          have hml := HMEM.out _ (List.getElem_mem hkl)
          have hgd : ls.getD k [] = ls[k] := by rw [List.getD_eq_getElem?_getD, List.getElem?_eq_getElem hkl]; rfl
          have hnk : nextTo n ls (k + 1) = nextTo n ls k ++ extTo ls[k] n := by rw [nextTo, hgd]
          have hnl := nextTo_len n ls k
          have hnl2 : k * n ≤ 625 * 5 := Nat.mul_le_mul (by omega) hn
          obtain ⟨l, hl⟩ : ∃ l, l = ls[k] := ⟨_, rfl⟩
          rw [← hl] at hu hml hnk
          obtain ⟨N, hN⟩ : ∃ N, N = nextTo n ls k := ⟨_, rfl⟩
          rw [← hN] at hnk hnl oN
          have hll : l.length ≤ 5 := by have := hml.1; omega
          obtain ⟨au, nu, cu, rfl⟩ := hu.shape3
          have HNK := Lib.hid hnk
          have HON := Lib.hid oN
          have HOLm := Lib.hid oL
          have HU := Lib.hid hu
          clear hl hN hml hgd hnk oN oL hu
          go_wp2_with fail
          go_loopw [4, 19] (fun v i wi => ∃ (e : Nat) (ad'' : Option Addr) (nn'' cp'' : Nat), e ≤ n ∧ i = .int .i64 e ∧ v = .slice ad'' nn'' cp'' ∧ OwnLL 3 22 wo.heap.size wi (.slice ad'' nn'' cp'') (N ++ extTo l e) ∧
              OwnLL 3 22 w.heap.size wi (.slice ad ls.length cp) ls ∧ OwnI 3 w.heap.size wi (.slice au nu cu) l ∧ Below w.heap.size w wi ∧ wo.heap.size ≤ wi.heap.size)
            (fun _ i _ => n - (intOf i).toNat)
          case atStart => exact ⟨0, _, _, _, Nat.zero_le _, rfl, rfl, by simpa [extTo] using HON.out, HOLm.out, HU.out, Bm, zm⟩
          case round =>
            obtain ⟨e, ad'', nn'', cp'', he, rfl, rfl, oN, oL, oU, Bi, zi⟩ := hrel
            obtain ⟨wi, rfl⟩ : ∃ wi : World, wi = wr := ⟨_, rfl⟩
            clear hix hcell
            by_cases hen : e < n
            · cases hh : has l (e : Int) with
              | true =>
                have hx : extTo l (e + 1) = extTo l e := by rw [extTo, hh]; rfl
                have HX := Lib.hid hx
                have HH := Lib.hid hh
                clear hx hh
                go_wp2_with (go_at_call 133; refine (slContains_any l _ _ _ oU.ints).mono ?_; rintro e' w' ⟨rfl, rfl⟩; rw [HH.out])
                go_roundw
                case rel => exact ⟨e + 1, ad'', nn'', cp'', by omega, by go_num, rfl, by rw [HX.out]; exact oN, oL, oU, Bi, zi⟩
                case measure => simp [intOf]; omega
              | false =>
                have hx : extTo l (e + 1) = extTo l e ++ [l ++ [(e : Int)]] := by rw [extTo, hh]; rfl
                have hel := extTo_len l e
                have HX := Lib.hid hx
                have HH := Lib.hid hh
                have rN := oN.lt
                have HON2 := Lib.hid oN
                have HOL2 := Lib.hid oL
                have HOU := Lib.hid oU
                have hlenN : (N ++ extTo l e).length ≤ 4000 := by rw [List.length_append]; omega
                clear hx hh oN oL oU hel
                go_wp2_with (first
                  | (go_at_call 133; refine (slContains_any l _ _ _ HOU.out.ints).mono ?_; rintro e' w' ⟨rfl, rfl⟩; rw [HH.out])
                  | (go_at_call 242; refine (clone_any _ l _ HOU.out.ints (by omega)).mono ?_; rintro e' w5 ⟨p5, i5, q5, rfl, o5, hb5⟩; have z5 := hb5.size)
                  | (at_builtin; refine wpList_appendI rfl _ _ _ rfl 3 Tryz.underlying22 intElem wi.heap.size (.slice p5 i5 q5) l (e : Int) w5.heap.size rfl rfl (by simp) (o5.alloc _) ⟨by omega, by omega⟩ (by omega) (by simp; omega) ?_; intro v' w6 hown6 hgr6; obtain ⟨p6, i6, q6, rfl⟩ := hown6.shape3; have b6 : Below wi.heap.size wi w6 := below_grow (Below.after (Below.refl _ _) (hb5.after (bl1 w5 _) hb5.size) (Nat.le_refl _)) hgr6 (by simp; omega) (fun q hq => (o5.lt q hq).1); have z6 := b6.size; obtain ⟨vs6, row6⟩ := (HON2.out.keep b6).row)
                  | (at_builtin; refine wpList_appendL rfl _ _ _ rfl 3 22 noMeet Tryz.underlying39 sliceElem wo.heap.size (.slice ad'' nn'' cp'') (N ++ extTo l e) (.slice p6 i6 q6) (l ++ [(e : Int)]) w6.heap.size rfl rfl (by simp) ((HON2.out.keep b6).keep (bl1 w6 _)) ((hown6.mono (by omega)).alloc _) (by omega) (by simp; omega) ?_; intro v' w7 hown7 hgr7; obtain ⟨p7, i7, q7, rfl⟩ := hown7.shape3))
                have b7 : Below wi.heap.size wi (w6.alloc (.cells #[.slice p6 i6 q6] 22)) := b6.alloc b6.size _
                obtain ⟨vs7, row7⟩ := (HON2.out.keep b7).row
                have oL7 := (HOL2.out.keep b7).grow row7 noMeet hgr7 (fun q hq hq2 => by have := (rN q hq).1; have := (rL q hq2).2; omega)
                have oU7 := (HOU.out.keep b7).growL row7 noMeet hgr7
                have zBi := Bi.size
                have B7 := (Bi.after b7 Bi.size).grown hgr7 (by simp; omega) (fun q hq => by have := (rN q hq).1; have := B.size; omega)
                have z7 := hgr7.size
                go_roundw
                case rel => exact ⟨e + 1, p7, i7, q7, by omega, by go_num, rfl, by rw [HX.out, ← List.append_assoc]; exact hown7, oL7, oU7, B7, by simp at z7; omega⟩
                case measure => simp [intOf]; omega
            · have hee : e = n := by omega
              subst hee
              go_wp2
              go_roundw
              case rel => exact ⟨k + 1, ad'', nn'', cp'', by omega, by go_num, rfl, by rw [HNK.out]; exact oN, oL, Bi, zi⟩
              case measure => simp [intOf]; omega
        · have hkk : k = ls.length := by omega
          subst hkk
          have hsh := oN.len
          obtain ⟨a3, c3, e3, _⟩ := hsh
          simp only [Value.slice.injEq] at e3
          obtain ⟨rfl, rfl, rfl⟩ := e3
          have HON := Lib.hid oN
          clear oN oL
          go_wp2
          go_roundw
          case rel => exact ⟨r + 1, _, _, by omega, by go_num, by rw [HNX.out], by rw [HNX.out]; exact HON.out.mono B.size, Bm⟩
          case measure => simp [intOf]; omega
    · have hrr : r = n := by omega
      subst hrr
      go_wp2
      go_ret
      exact ⟨_, _, _, rfl, ol, B⟩
end Go.Proofs.YtipejodijbjpcaaGreatDoor
end
section
namespace Go.Proofs.YtipejodijbjpcaaGreatDoor
open Go.RowKit Go.G5

/-! by orders -/
def tot (l : List Int) (os : List (List Int)) (e : Nat) : Nat → Int
  | 0 => 0
  | j + 1 => tot l os e j + (cornerL l (os.getD j [])).getD e 0
def one (a i : Nat) : Int := if a = i then 1 else 0
end Go.Proofs.YtipejodijbjpcaaGreatDoor
end
section
namespace Go.Proofs.YtipejodijbjpcaaGreatDoor
open Go.RowKit Go.G5

def oppF (l : List Int) (s : Nat) : Int := l.getD (l.length - 1 - s) 0
def oppL (l : List Int) : List Int := madeL (oppF l) l.length
def opN (n : Int) (l : List Int) : Int := if isFunB n l then n else 0
def opL (n : Int) (l : List Int) : List Int := if isFunB n l then oppL l else []
def symB (n : Int) (l : List Int) : Bool := isFunB n l && decide (l = oppL l)
def fitB (n : Int) (l : List Int) : Bool := (subB n l && symB n l) && decide (2 ≤ n)
/-- the first least set from 1 on below k -/
def bestTo (l : List Int) : Nat → Nat
  | 0 => 1
  | k + 1 => if k < 2 then 1 else if l.getD k 0 < l.getD (bestTo l k) 0 then k else bestTo l k
def cutS (n : Int) (l : List Int) : Int := if fitB n l then (bestTo l (l.length - 1) : Int) else 0
def cutN (n : Int) (l : List Int) : Int := if fitB n l then l.getD (bestTo l (l.length - 1)) 0 else 0
theorem bestTo_two (l : List Int) : bestTo l 2 = 1 := rfl
theorem bestTo_succ (l : List Int) (k : Nat) (h : 2 ≤ k) : bestTo l (k + 1) = if l.getD k 0 < l.getD (bestTo l k) 0 then k else bestTo l k := by rw [bestTo, if_neg (by omega)]
theorem bestTo_lt (l : List Int) : ∀ k, 2 ≤ k → 1 ≤ bestTo l k ∧ bestTo l k < k := by
  intro k
  induction k with
  | zero => intro h; omega
  | succ k ih =>
    intro h
    by_cases hk : 2 ≤ k
    · have := ih hk
      rw [bestTo_succ l k hk]
      split <;> omega
    · have : k = 1 := by omega
      subst this
      rw [bestTo_two]; omega
theorem oppL_len (l : List Int) : (oppL l).length = l.length := by unfold oppL madeL; simp
theorem oppF_at (l : List Int) (s : Nat) (h : s < l.length) : oppF l s = l[l.length - 1 - s] := by unfold oppF; exact getD_at l _ (by omega)
theorem opp_fun (n : Int) (l : List Int) (h : isFunB n l = true) : isFunB n (oppL l) = true := by
  obtain ⟨h0, h5, hlen, hlb⟩ := funOk h
  unfold isFunB allIn
  rw [oppL_len, inB_true.2 ⟨h0, h5⟩, decide_eq_true hlen]
  simp only [Bool.true_and, List.all_eq_true]
  intro x hx
  unfold oppL madeL at hx
  obtain ⟨s, hs, rfl⟩ := List.mem_map.1 hx
  rw [List.mem_range] at hs
  rw [oppF_at l s hs]
  exact inB_true.2 (hlb _ (by omega))
theorem ndiff_full : ∀ n : Nat, n ≤ 5 → ∀ s : Nat, s < 2 ^ n → ndiff (2 ^ n - 1) s = 2 ^ n - 1 - s := by decide +kernel
end Go.Proofs.YtipejodijbjpcaaGreatDoor
end
section
namespace Go.Proofs.YtipejodijbjpcaaGreatDoor
open Go.RowKit Go.G5

set_option maxHeartbeats 1000000 in
set_option maxRecDepth 100000 in
theorem oppClosure (n : Nat) (hn : n ≤ 5) (l : List Int) (v : Value) (g s : Nat) (W : World) (hv : Ints W v l) (hl : l.length = 2 ^ n) (hs : s < 2 ^ n) (c0 : W.cell? ⟨g, 0, none⟩ = some (.int .i64 n)) (c1 : W.cell? ⟨g, 1, none⟩ = some v) :
    Calls Tryz.prog 389 #[.int .i64 s, .pointer (some ⟨g, 0, none⟩)] W fun e w' => e = .returned (.int .i64 (oppF l s)) ∧ Below W.heap.size W w' := by
  have hv0 := hv
  obtain ⟨a, b, off, c, rfl, hlen, hix, hc, hb⟩ := hv.view Tryz.prog 22 3 Tryz.underlying22 intElem
  have hf := oppF_at l s (by omega)
  have p5 : (2 : Nat) ^ n ≤ 32 := Nat.pow_le_pow_right (n := 2) (by decide) hn
  have hd := ndiff_full n hn s hs
  have hbits := bitsN (2 ^ n - 1) s (by omega) (by omega)
  rw [hd] at hbits
  have hpn := Nat.two_pow_pos n
  have hcast : ((2 ^ n - 1 : Nat) : Int) = (2 : Int) ^ n - 1 := by rw [Int.ofNat_sub hpn]; simp
  rw [hcast] at hbits
  have hck := hc (l.length - 1 - s) (by omega)
  have hixk := fun W => hix W (l.length - 1 - s) (by omega)
  rw [← hf] at hck
  rw [hl] at hck hixk
  have e0 : ∀ x : Ext W, x.w.cell? ⟨g, 0, none⟩ = some (.int .i64 n) := fun x => x.cell c0
  have e1 : ∀ x : Ext W, x.w.cell? ⟨g, 1, none⟩ = some (.slice a l.length c) := fun x => x.cell c1
  have e2 : ∀ x : Ext W, x.w.cell? ⟨b, off + (2 ^ n - 1 - s), none⟩ = some (.int .i64 (oppF l s)) := fun x => x.cell hck
  obtain ⟨q, hq⟩ : ∃ q, q = oppF l s := ⟨_, rfl⟩
  rw [← hq] at e2
  obtain ⟨m, hm⟩ : ∃ m, m = 2 ^ n - 1 - s := ⟨_, rfl⟩
  simp only [← hm] at hixk e2 hbits
  have HQ := Lib.hid hq
  have HAL := Lib.hid (fun (x : Ext W) => allOf_any (n : Int) (.slice a l.length c) l x.w (x.ints hv0) (by omega) (by omega))
  have hL : l.length = 2 ^ n := hl
  rw [← hL] at hixk
  have HLL := Lib.hid hl
  clear hc hix hb hf hd hck hq hm hcast hl hL
  go_enter Tryz.func389, Tryz.ntmps389
  go_wp2_with fail
  refine wp_region_ext _ (by kernel_rfl) (by kernel_rfl) ?_
  repeat (first | go_big_quiet_skip | (go_big_quiet_want; go_big_quiet_op; first | go_big_quiet_on | (apply Exists.intro; refine ⟨fun _ => ?_, ?_⟩; (go_at_call 127; exact ext_call (HAL.out _)); go_big_quiet_on)))
  refine wpQuiet_nil ?_
  rintro w3 ⟨⟨w3, hb3⟩, rfl⟩
  try dsimp only
  go_wp2
  go_ret
  exact ⟨ret_int HQ.out, hb3⟩
theorem oppClosure_enters : ∀ args w, (callFunc 389 args).run Tryz.prog w = .ok (.enter 389 args) w := enters_of Tryz.func389 (by kernel_rfl) rfl

set_option maxHeartbeats 1000000 in
set_option maxRecDepth 100000 in
theorem oppI_c (w : World) (n : Int) (v : Value) (l : List Int) (hv : Ints w v l) (_ : l.length ≤ 1048576) :
    Calls Tryz.prog 371 #[.agg #[.int .i64 n, v]] w fun e w' => ∃ ad i cp, e = .returned (.tuple #[.agg #[.int .i64 (opN n l), .slice ad i cp], .bool (isFunB n l)]) ∧ OwnI 3 w.heap.size w' (.slice ad i cp) (opL n l) ∧ Below w.heap.size w w' := by
  obtain ⟨a, c, rfl⟩ := hv.shape
  have hmf : ∀ (fn : Fn) (first cap : Array Value) (w : World), (Instr.makeFunc fn first cap).run Tryz.prog w = .ok (.func fn first cap) w := fun _ _ _ _ => rfl
  go_enter Tryz.func371, Tryz.ntmps371
  go_wp2_with fail
  refine calls_named ?_
  intro V hV
  have B : Below w.heap.size w V := by rw [hV]; exact bl2 _ _ _
  have K1 : Blk V w.heap.size 32 #[.int .i64 n, .slice a l.length c] := by rw [hV]; exact (Blk.new _ _ _).alloc _
  have K2 : Blk V (w.heap.size + 1) 32 #[.int .i64 0, .slice none 0 0] := by rw [hV]; have := Blk.new (w.alloc (.cells #[.int .i64 n, .slice a l.length c] 32)) 32 #[.int .i64 0, .slice none 0 0]; simpa using this
  clear hV
  refine (isFunI_any n l _ _ (hv.below B (Nat.le_refl _))).mono ?_
  rintro e w1 ⟨rfl, hb1⟩
  have K1 := K1.keep hb1
  have K2 := K2.keep hb1
  have B1 := B.after hb1 B.size
  have hv1 := hv.below B1 (Nat.le_refl _)
  clear B hb1
  have G1 := K1.cell
  have z1 := K1.lt
  have z2 := K2.lt
  cases hf : isFunB n l with
  | false =>
    have hN : opN n l = 0 := by unfold opN; rw [hf]; rfl
    have hL : opL n l = [] := by unfold opL; rw [hf]; rfl
    have HN := Lib.hid hN
    have HL := Lib.hid hL
    have HF := Lib.hid hf
    have G2 := K2.cell
    have F2 := K2.frozen
    clear hN hL
    go_wp2
    refine post_named ?_
    intro Wf hWf
    have K2f : Blk Wf (w.heap.size + 1) 32 #[.int .i64 0, .slice none 0 0] := by
      rw [hWf]
      have := (K2.set 0 (.int .i64 0)).set 1 (.slice none 0 0)
      simpa using this
    have Bf : Below w.heap.size w Wf := by rw [hWf]; exact Below.setCell (Below.setCell B1 (by first | omega | (simp; done) | (simp; omega)) _) (by first | omega | (simp; done) | (simp; omega)) _
    have Gf := K2f.cell
    clear hWf G1 G2 F2
    exact bodyPost_ret (v := .tuple #[.agg #[.int .i64 0, .slice none 0 0], .bool false]) (by simp [results, Tryz.results371, go_sem, Gf]) rfl ⟨none, 0, 0, by rw [HN.out, HF.out], by rw [HL.out]; exact OwnI.nil _ _ _, Bf⟩
  | true =>
    obtain ⟨h0, h5, hlen, hlb⟩ := funOk hf
    obtain ⟨N, rfl⟩ := Int.eq_ofNat_of_zero_le h0
    have hN5 : N ≤ 5 := by omega
    have hl2 : l.length = 2 ^ N := by
      have e2 : (N : Int).toNat = N := by omega
      rw [e2] at hlen
      exact_mod_cast hlen
    have hN : opN N l = N := by unfold opN; rw [hf]; rfl
    have hL : opL N l = oppL l := by unfold opL; rw [hf]; rfl
    have hmade : madeL (oppF l) (2 ^ N) = oppL l := by unfold oppL; rw [hl2]
    have hfo : isFunB N (madeL (oppF l) (2 ^ N)) = true := by rw [hmade]; exact opp_fun N l hf
    have hmk : ∀ W, Ints W (.slice a l.length c) l → W.cell? ⟨w.heap.size, 0, none⟩ = some (.int .i64 N) → W.cell? ⟨w.heap.size, 1, none⟩ = some (.slice a l.length c) → Calls Tryz.prog 273 #[.int .i64 N, .func (.func 389) #[] #[.pointer (some ⟨w.heap.size, 0, none⟩)]] W fun e w' =>
        ∃ ad i cp, e = .returned (.tuple #[.agg #[.int .i64 N, .slice ad i cp], .bool true]) ∧ OwnI 3 W.heap.size w' (.slice ad i cp) (oppL l) ∧ Below W.heap.size W w' := fun W hW c0 c1 => by
      have := makeFunction_any W N hN5 389 oppClosure_enters w.heap.size (oppF l) (fun s hs => by rw [oppF_at l s (by omega)]; have := hlb (l.length - 1 - s) (by omega); exact ⟨by omega, by omega⟩)
        (fun s W' hs hB => oppClosure N hN5 l _ w.heap.size s W' (hW.keep hB) hl2 hs (keep hB c0) (keep hB c1))
      rw [hfo, if_pos rfl, if_pos rfl, hmade] at this
      exact this
    have HN := Lib.hid hN
    have HL := Lib.hid hL
    have HF := Lib.hid hf
    have HMK := Lib.hid hmk
    clear hN hL hf hmade hfo hmk hl2 hlen hlb
    go_wp2_with fail
    refine (HMK.out _ hv1 (G1 0) (G1 1)).mono ?_
    rintro e w3 ⟨p3, i3, q3, rfl, o3, hb3⟩
    have K2 := K2.keep hb3
    have B3 := B1.after hb3 B1.size
    have G2 := K2.cell
    have F2 := K2.frozen
    have z3 := K2.lt
    clear G1 hb3
    go_wp2
    refine post_named ?_
    intro Wf hWf
    have K2f : Blk Wf (w.heap.size + 1) 32 #[.int .i64 N, .slice p3 i3 q3] := by
      rw [hWf]
      have := (K2.set 0 (.int .i64 N)).set 1 (.slice p3 i3 q3)
      simpa using this
    have Bf : Below w.heap.size w Wf := by rw [hWf]; exact Below.setCell (Below.setCell B3 (by first | omega | (simp; done) | (simp; omega)) _) (by first | omega | (simp; done) | (simp; omega)) _
    have of : OwnI 3 w.heap.size Wf (.slice p3 i3 q3) (oppL l) := by rw [hWf]; exact ((o3.setBelow (by first | omega | (simp; done) | (simp; omega)) _).setBelow (by first | omega | (simp; done) | (simp; omega)) _).mono (by first | omega | (simp; done) | (simp; omega))
    have Gf := K2f.cell
    clear hWf G2 F2
    exact bodyPost_ret (v := .tuple #[.agg #[.int .i64 N, .slice p3 i3 q3], .bool true]) (by simp [results, Tryz.results371, go_sem, Gf]) rfl ⟨p3, i3, q3, by rw [HN.out, HF.out], by rw [HL.out]; exact of, Bf⟩

set_option maxHeartbeats 1000000 in
theorem eqFunI_any (n n' : Int) (v v' : Value) (l l' : List Int) (w : World) (hv : Ints w v l) (hv' : Ints w v' l') :
    Calls Tryz.prog 212 #[.agg #[.int .i64 n, v], .agg #[.int .i64 n', v']] w fun e w' => e = .returned (.bool (n == n' && decide (l = l'))) ∧ Below w.heap.size w w' := by
  obtain ⟨a, c, rfl⟩ := hv.shape
  obtain ⟨a', c', rfl⟩ := hv'.shape
  cases h : (n == n') with
  | false =>
    go_enter Tryz.func212, Tryz.ntmps212
    go_wp2
    go_ret
    exact ⟨rfl, bl2 _ _ _⟩
  | true =>
    go_enter Tryz.func212, Tryz.ntmps212
    go_wp2_with (go_at_call 124; refine (slicesEqual_any _ _ l l' _ ((hv.alloc _).alloc _) ((hv'.alloc _).alloc _)).mono ?_; rintro e w2 ⟨rfl, nn, rfl⟩)
    go_ret
    exact ⟨rfl, (bl2 _ _ _).drewN' _⟩

set_option maxHeartbeats 1000000 in
set_option maxRecDepth 100000 in
theorem symI_any (n : Int) (l : List Int) (v : Value) (w : World) (hv : Ints w v l) (hl : l.length ≤ 1048576) :
    Calls Tryz.prog 341 #[.agg #[.int .i64 n, v]] w fun e w' => e = .returned (.bool (symB n l)) ∧ Below w.heap.size w w' := by
  obtain ⟨a, c, rfl⟩ := hv.shape
  have K0 := Blk.new w 32 #[.int .i64 n, .slice a l.length c]
  go_enter Tryz.func341, Tryz.ntmps341
  go_wp2_with fail
  refine (oppI_c _ n _ l (hv.alloc _) hl).mono ?_
  rintro e w1 ⟨p1, i1, q1, rfl, o1, hb1⟩
  have K1 := K0.keep hb1
  have B1 : Below w.heap.size w w1 := (bl1 _ _).after hb1 (by simp)
  have y1 := B1.size
  have z1 := K1.lt
  cases hf : isFunB n l with
  | false =>
    have hx : symB n l = false := by unfold symB; rw [hf]; rfl
    have HX := Lib.hid hx
    clear hx hf
    go_wp2
    go_ret
    exact ⟨by rw [HX.out]; rfl, (by repeat (first | exact Below.refl _ _ | (with_reducible refine Below.setCell ?_ (by first | omega | (simp; done) | (simp; omega)) _) | (with_reducible refine Below.alloc ?_ (by first | omega | (simp; done) | (simp; omega)) _) | (with_reducible refine Below.drewN' ?_ _) | (with_reducible refine Below.drew ?_) | (with_reducible assumption) | refine Below.trans ?_ (Below.mono (by assumption) (by first | omega | (simp; done) | (simp; omega)))))⟩
  | true =>
    have hx : symB n l = decide (l = oppL l) := by unfold symB; rw [hf]; rfl
    have hN : opN n l = n := by unfold opN; rw [hf]; rfl
    have hL : opL n l = oppL l := by unfold opL; rw [hf]; rfl
    rw [hL] at o1
    have heq := fun W (h1 : Ints W (.slice a l.length c) l) (h2 : Ints W (.slice p1 i1 q1) (oppL l)) => eqFunI_any n n _ _ l (oppL l) W h1 h2
    simp only [beq_self_eq_true, Bool.true_and, ← hx] at heq
    have HEQ := Lib.hid heq
    have ca : ∀ i, (w1.alloc (.cells #[.int .i64 n, .slice p1 i1 q1] 32)).cell? ⟨w.heap.size, i, none⟩ = (#[.int .i64 n, .slice a l.length c] : Array Value)[i]? := (K1.alloc _).cell
    rw [hN]
    have hv1 := hv.below B1 (Nat.le_refl _)
    clear hx hN hL heq hf
    have G1 := K1.cell
    go_wp2_with (go_at_call 212; refine (HEQ.out _ (hv1.alloc _) (o1.alloc _).ints).mono ?_; rintro e w2 ⟨rfl, hb2⟩)
    go_ret
    exact ⟨rfl, (B1.alloc B1.size _).after hb2 (B1.alloc B1.size _).size⟩

set_option maxHeartbeats 1000000 in
theorem canCut_any (n : Int) (l : List Int) (v : Value) (w : World) (hv : Ints w v l) (hl : l.length ≤ 1048576) :
    Calls Tryz.prog 288 #[.agg #[.int .i64 n, v]] w fun e w' => e = .returned (.bool (fitB n l)) ∧ Below w.heap.size w w' := by
  obtain ⟨a, c, rfl⟩ := hv.shape
  have K0 := Blk.new w 32 #[.int .i64 n, .slice a l.length c]
  go_enter Tryz.func288, Tryz.ntmps288
  go_wp2_with fail
  refine (isSubI_any n l _ _ (hv.alloc _) hl).mono ?_
  rintro e w1 ⟨rfl, hb1⟩
  have K1 := K0.keep hb1
  have B1 : Below w.heap.size w w1 := (bl1 _ _).after hb1 (by simp)
  clear hb1 K0
  cases hs : subB n l with
  | false =>
    have hx : fitB n l = false := by unfold fitB; rw [hs]; rfl
    have HX := Lib.hid hx
    clear hx hs
    go_wp2
    go_ret
    exact ⟨by rw [HX.out]; rfl, B1⟩
  | true =>
    have HS := Lib.hid hs
    clear hs
    have G1 := K1.cell
    go_wp2_with fail
    refine (symI_any n l _ _ (hv.below B1 (Nat.le_refl _)) hl).mono ?_
    rintro e w2 ⟨rfl, hb2⟩
    have K2 := K1.keep hb2
    have B2 := B1.after hb2 B1.size
    clear hb2 G1
    cases hy : symB n l with
    | false =>
      have hx : fitB n l = false := by unfold fitB; rw [HS.out, hy]; rfl
      have HX := Lib.hid hx
      clear hx hy
      go_wp2
      go_ret
      exact ⟨by rw [HX.out]; rfl, B2⟩
    | true =>
      have hx : fitB n l = decide (2 ≤ n) := by unfold fitB; rw [HS.out, hy]; rfl
      have HX := Lib.hid hx
      clear hx hy
      have G2 := K2.cell
      go_wp2
      go_ret
      exact ⟨by rw [HX.out]; rfl, B2⟩
end Go.Proofs.YtipejodijbjpcaaGreatDoor
end
section
namespace Go.Proofs.YtipejodijbjpcaaGreatDoor
open Go.RowKit Go.G5

theorem fit_fun {n : Int} {l : List Int} (h : fitB n l = true) : isFunB n l = true ∧ 2 ≤ n := by
  unfold fitB subB at h
  simp only [Bool.and_eq_true, decide_eq_true_eq] at h
  exact ⟨h.1.1.1, h.2⟩
theorem fit_size {n : Int} {l : List Int} (h : fitB n l = true) : 4 ≤ l.length ∧ l.length ≤ 32 ∧ (l.length : Int) = 2 ^ n.toNat ∧ n ≤ 5 ∧ ∀ k, (hk : k < l.length) → -1000 ≤ l[k] ∧ l[k] ≤ 1000 := by
  obtain ⟨h1, h2⟩ := fit_fun h
  obtain ⟨h0, h5, hlen, hlb⟩ := funOk h1
  obtain ⟨m, hm⟩ : ∃ m : Nat, n.toNat = m := ⟨_, rfl⟩
  have hm2 : 2 ≤ m ∧ m ≤ 5 := by omega
  have hp4 : (2 : Nat) ^ 2 ≤ 2 ^ m := Nat.pow_le_pow_right (by decide) hm2.1
  have hp5 : (2 : Nat) ^ m ≤ 2 ^ 5 := Nat.pow_le_pow_right (by decide) hm2.2
  have hln : l.length = 2 ^ m := by rw [hm] at hlen; exact_mod_cast hlen
  exact ⟨by omega, by omega, hlen, h5, hlb⟩

set_option maxHeartbeats 2000000 in
set_option maxRecDepth 100000 in
theorem minCutI_c (w : World) (n : Int) (v : Value) (l : List Int) (hv : Ints w v l) (hl : l.length ≤ 1048576) :
    Calls Tryz.prog 177 #[.agg #[.int .i64 n, v]] w fun e w' => e = .returned (.tuple #[.int .i64 (cutN n l), .int .i64 (cutS n l), .bool (fitB n l)]) ∧ Below w.heap.size w w' := by
  have hv0 := hv
  obtain ⟨a, b, off, c, rfl, hlen, hix, hc, hb⟩ := hv.view Tryz.prog 22 3 Tryz.underlying22 intElem
  have K0 := Blk.new w 32 #[.int .i64 n, .slice a l.length c]
  cases hf : fitB n l with
  | false =>
    have hN : cutN n l = 0 := by unfold cutN; rw [hf]; rfl
    have hS : cutS n l = 0 := by unfold cutS; rw [hf]; rfl
    have H := Lib.hid (And.intro hN hS)
    have HF := Lib.hid hf
    clear hN hS hf hc
    go_enter Tryz.func177, Tryz.ntmps177
    go_wp2_with (go_at_call 288; refine (canCut_any n l _ _ (hv0.alloc _) hl).mono ?_; rintro e w1 ⟨rfl, hb1⟩; rw [HF.out])
    go_ret3
    exact ⟨by rw [H.out.1, H.out.2]; rfl, (bl1 _ _).after hb1 (by simp)⟩
  | true =>
    obtain ⟨h4, h32, hpow, hn5, hlb⟩ := fit_size hf
    have hn0 : 0 ≤ n := by have := (fit_fun hf).2; omega
    have hN : cutN n l = l.getD (bestTo l (l.length - 1)) 0 := by unfold cutN; rw [hf]; rfl
    have hS : cutS n l = (bestTo l (l.length - 1) : Int) := by unfold cutS; rw [hf]; rfl
    have H := Lib.hid (And.intro hN hS)
    have HF := Lib.hid hf
    have HLB := Lib.hid hlb
    have HC := Lib.hid hc
    have HIX := Lib.hid hix
    have HPW := Lib.hid hpow
    have HAL := Lib.hid (fun (W : World) (hW : Ints W (.slice a l.length c) l) => allOf_any n (.slice a l.length c) l W hW hn0 (by omega))
    clear hN hS hf hlb hc hix hpow
    go_enter Tryz.func177, Tryz.ntmps177
    go_wp2_with fail
    refine (canCut_any n l _ _ (hv0.alloc _) hl).mono ?_
    rintro e w1 ⟨rfl, hb1⟩
    rw [HF.out]
    have K1 := K0.keep hb1
    have B1 : Below w.heap.size w w1 := (bl1 _ _).after hb1 (by simp)
    clear K0 hb1
    go_wp2_with fail
    go_loopw [5, 6] (fun bst i wr => ∃ k : Nat, 2 ≤ k ∧ k ≤ l.length - 1 ∧ i = .int .i64 k ∧ bst = .int .i64 (bestTo l k : Int) ∧ Below w.heap.size w wr ∧ Blk wr w.heap.size 32 #[.int .i64 n, .slice a l.length c]) (fun _ i _ => l.length - (intOf i).toNat)
    case atStart => exact ⟨2, by omega, by omega, rfl, rfl, B1, K1⟩
    case round =>
      obtain ⟨k, hk2, hk, rfl, rfl, B, K⟩ := hrel
      have G1 := K.cell
      have hbk := bestTo_lt l k hk2
      obtain ⟨p, hp⟩ : ∃ p, p = bestTo l k := ⟨_, rfl⟩
      rw [← hp] at hbk ⊢
      have cp := HC.out p (by omega)
      have cp2 := cells_below HC.out hb B (Nat.le_refl _) p (by omega)
      have ip := fun W => HIX.out W p (by omega)
      by_cases hlt : k < l.length - 1
      · have hst := bestTo_succ l k hk2
        rw [← hp, getD_at l k (by omega), getD_at l p (by omega)] at hst
        have ck := cells_below HC.out hb B (Nat.le_refl _) k (by omega)
        have ik := fun W => HIX.out W k (by omega)
        obtain ⟨x, hx⟩ : ∃ x, x = l[k] := ⟨_, rfl⟩
        obtain ⟨y, hy⟩ : ∃ x, x = l[p] := ⟨_, rfl⟩
        rw [← hx] at ck hst
        rw [← hy] at cp2 hst
        have hlt2 : (k : Int) < 2 ^ n.toNat - 1 := by rw [← HPW.out]; omega
        have HST := Lib.hid hst
        clear hst hp hx hy cp
        go_wp2_with fail
        refine (HAL.out _ (hv0.below B (Nat.le_refl _))).mono ?_
        rintro e w3 ⟨rfl, hb3⟩
        have B3 := B.after hb3 B.size
        have K3 := K.keep hb3
        have ck := keep hb3 ck
        have cp2 := keep hb3 cp2
        clear G1 hb3
        have G3 := K3.cell
        by_cases hxy : x < y
        · have HS2 := Lib.hid (HST.out.trans (if_pos hxy))
          go_wp2_with fail
          go_quiet (fail)
          go_wp2
          go_roundw
          case rel => exact ⟨k + 1, by omega, by omega, by go_num, by rw [HS2.out], B3.drewN' _, K3.drewN _⟩
          case measure => simp [intOf]; omega
        · have HS2 := Lib.hid (HST.out.trans (if_neg hxy))
          go_wp2_with fail
          go_quiet (fail)
          go_wp2
          go_roundw
          case rel => exact ⟨k + 1, by omega, by omega, by go_num, by rw [HS2.out], B3.drewN' _, K3.drewN _⟩
          case measure => simp [intOf]; omega
      · have hkl : k = l.length - 1 := by omega
        have hlt2 : ¬ (k : Int) < 2 ^ n.toNat - 1 := by rw [← HPW.out]; omega
        have hg : l.getD p 0 = l[p] := getD_at l p (by omega)
        obtain ⟨y, hy⟩ : ∃ x, x = l[p] := ⟨_, rfl⟩
        rw [← hy] at cp2 hg
        have HP := Lib.hid hp
        have HG := Lib.hid hg
        have HKL := Lib.hid hkl
        clear hp hg hkl hy cp
        go_wp2_with fail
        refine (HAL.out _ (hv0.below B (Nat.le_refl _))).mono ?_
        rintro e w3 ⟨rfl, hb3⟩
        have B3 := B.after hb3 B.size
        have K3 := K.keep hb3
        have cp2 := keep hb3 cp2
        clear G1 hb3
        have G3 := K3.cell
        go_wp2
        go_ret3
        exact ⟨by rw [H.out.1, H.out.2, ← HKL.out, ← HP.out, HG.out]; rfl, B3⟩
end Go.Proofs.YtipejodijbjpcaaGreatDoor
end
section
namespace Go.Proofs.YtipejodijbjpcaaGreatDoor
open Go.RowKit Go.G5

end Go.Proofs.YtipejodijbjpcaaGreatDoor
end
section
namespace Go.Proofs.YtipejodijbjpcaaGreatDoor
open Go.RowKit Go.G5

set_option maxHeartbeats 2000000 in
set_option maxRecDepth 100000 in
theorem makeFunction2_any (w : World) (n : Nat) (hn : n ≤ 5) (c : FuncId) (he : ∀ args w, (callFunc c args).run Tryz.prog w = .ok (.enter c args) w) (g g' : Nat) (F : Nat → Int) (hF : ∀ s, s < 2 ^ n → InR (F s))
    (hw : ∀ (s : Nat) W', s < 2 ^ n → Below w.heap.size w W' → Calls Tryz.prog c #[.int .i64 (s : Int), .pointer (some ⟨g, 0, none⟩), .pointer (some ⟨g', 0, none⟩)] W' fun e w2 => e = .returned (.int .i64 (F s)) ∧ Below W'.heap.size W' w2) :
    Calls Tryz.prog 273 #[.int .i64 (n : Int), .func (.func c) #[] #[.pointer (some ⟨g, 0, none⟩), .pointer (some ⟨g', 0, none⟩)]] w fun e w' =>
      ∃ ad i cp, e = .returned (.tuple #[.agg #[.int .i64 (if isFunB n (madeL F (2 ^ n)) then (n : Int) else 0), .slice ad i cp], .bool (isFunB n (madeL F (2 ^ n)))]) ∧ OwnI 3 w.heap.size w' (.slice ad i cp) (if isFunB n (madeL F (2 ^ n)) then madeL F (2 ^ n) else []) ∧ Below w.heap.size w w' := by
  have hpn : (2 : Nat) ^ n ≤ 32 := Nat.pow_le_pow_right (by decide) hn
  have hp1 := Nat.two_pow_pos n
  have hpi : ((2 ^ n : Nat) : Int) = (2 : Int) ^ n := by simp
  obtain ⟨N, hN⟩ : ∃ N : Nat, N = 2 ^ n := ⟨_, rfl⟩
  rw [← hN] at hw hF hpn hp1 hpi ⊢
  clear hN
  have r0 := (BoxAt.new w (.int .i64 0) (.slice none 0 0) 32)
  have r1 := r0.keep (bl1 _ (.cells #[.int .i64 n, .slice none 0 0] 32))
  have b1 := BoxAt.new (w.alloc (.cells #[.int .i64 0, .slice none 0 0] 32)) (.int .i64 n) (.slice none 0 0) 32
  go_enter Tryz.func273, Tryz.ntmps273
  go_wp2_with fail
  go_loopw [13] (fun i wr => ∃ (k : Nat) (ad : Option Addr) (nn cp : Nat), k ≤ N ∧ i = .int .i64 k ∧ OwnI 3 (w.heap.size + 1 + 1) wr (.slice ad nn cp) (madeL F k) ∧ Below w.heap.size w wr ∧
      BoxAt wr w.heap.size (.int .i64 0) (.slice none 0 0) ∧ BoxAt wr (w.heap.size + 1) (.int .i64 n) (.slice ad nn cp))
    (fun i _ => N - (intOf i).toNat)
  case atStart => exact ⟨0, none, 0, 0, Nat.zero_le _, rfl, OwnI.nil _ _ _, (by repeat (first | exact Below.refl _ _ | (with_reducible refine Below.setCell ?_ (by first | omega | (simp; done) | (simp; omega)) _) | (with_reducible refine Below.alloc ?_ (by first | omega | (simp; done) | (simp; omega)) _) | (with_reducible refine Below.drewN' ?_ _) | (with_reducible refine Below.drew ?_) | (with_reducible assumption) | refine Below.trans ?_ (Below.mono (by assumption) (by first | omega | (simp; done) | (simp; omega))))), r1, by simpa using b1⟩
  case round =>
    obtain ⟨k, ad, nn, cp, hk, rfl, ho, B, R, X⟩ := hrel
    clear r0 r1 b1
    by_cases hlt : k < N
    · have hlt2 : (k : Int) < 2 ^ n := by rw [← hpi]; exact_mod_cast hlt
      have zr := R.lt
      have zx := X.lt
      have hFk := hF k hlt
      have hlen : (madeL F k).length = k := by simp [madeL]
      have hlk : (madeL F k).length ≤ 64 := by omega
      have hrow := ho.lt
      have HO := Lib.hid ho
      have HR := Lib.hid R
      have HXX := Lib.hid X
      obtain ⟨e0, e1, g0, g1⟩ := X
      clear ho R
      have hcl := hw k wr.drew hlt B.drew
      clear hw
      go_wp2
      go_region_law
        (first
          | (go_simp; go_at_fn c; refine hcl.mono ?_; rintro e w2 ⟨rfl, hb2⟩; have X2 := HXX.out.keep ((Below.refl _ _).drew.after hb2 (Nat.le_refl _)); have X3 := X2.keep (bl1 w2 (.cells #[.int .i64 (F k)] 3)); have zz2 := X2.lt; have x1 := X2.d1; have x2 := X2.f1; have x3 := X3.d1; have x4 := X3.f1)
          | (refine step_appendI rfl _ _ _ rfl 3 Tryz.underlying22 intElem (w.heap.size + 1 + 1) _ _ (F k) w2.heap.size rfl rfl (cell_new w2 #[.int .i64 (F k)] 3 0 _ rfl) ((HO.out.keep ((Below.refl _ _).drew.after hb2 (Nat.le_refl _))).alloc (.cells #[.int .i64 (F k)] 3)) hFk (by omega) (by simp; omega) ?_; intro v' w6 hown hgr; obtain ⟨av, nv, cv, rfl⟩ := hown.shape3; have X6 := X3.grow hgr (fun e => by have := (hrow _ e).1; omega); obtain ⟨i0, i1, j0, j1⟩ := X6))
      all_goals
       have B6 : Below w.heap.size w w6 := (((B.drew).after hb2 B.size).alloc (B.drew.after hb2 B.size).size (.cells #[.int .i64 (F k)] 3)).grown hgr (by simp; omega) (fun q hq => by have := (hrow q hq).1; omega)
       have R6 := ((HR.out.keep ((Below.refl _ _).drew.after hb2 (Nat.le_refl _))).keep (bl1 w2 (.cells #[.int .i64 (F k)] 3))).grow hgr (fun e => by have := (hrow _ e).1; omega)
       go_wp2
       go_roundw
       case rel => exact ⟨k + 1, av, nv, cv, by omega, by go_num, by rw [madeL_succ]; exact hown.setBelow (by first | omega | (simp; done) | (simp; omega)) _, B6.setCell (by first | omega | (simp; done) | (simp; omega)) _, R6.other (by omega) _, (BoxAt.mk i0 i1 j0 j1).set1 _⟩
       case measure => simp [intOf]; omega
    · have hlt2 : ¬ (k : Int) < 2 ^ n := by rw [← hpi]; exact_mod_cast hlt
      have hkN : k = N := by omega
      subst hkN
      have HO := Lib.hid ho
      have HR := Lib.hid R
      have HXX := Lib.hid X
      obtain ⟨e0, e1, g0, g1⟩ := X
      have hi := ho.ints
      clear ho hw R
      go_wp2_with fail
      refine (isFunI_any n _ _ _ hi).mono ?_
      rintro e w2 ⟨rfl, hb2⟩
      have B2 := B.after hb2 B.size
      have o2 := HO.out.keep hb2
      have HO2 := Lib.hid o2
      obtain ⟨f0, f1, j0, j1⟩ := HR.out.keep hb2
      obtain ⟨i0, i1, q0, q1⟩ := HXX.out.keep hb2
      clear e0 e1 g0 g1 hb2 B o2 hi
      cases hf : isFunB n (madeL F k) with
      | false =>
        have HF := Lib.hid hf
        go_wp2
        all_goals refine bodyPost_ret (v := .tuple #[.agg #[.int .i64 0, .slice none 0 0], .bool false]) (by simp [results, Tryz.results273, go_sem, f0, f1]) rfl ⟨none, 0, 0, rfl, OwnI.nil _ _ _, Below.setCell (Below.setCell B2 (Nat.le_refl _) _) (Nat.le_refl _) _⟩
      | true =>
        have HF := Lib.hid hf
        go_wp2
        refine bodyPost_ret (v := .tuple #[.agg #[.int .i64 n, .slice ad nn cp], .bool true]) (by simp [results, Tryz.results273, go_sem, f0, f1]) rfl ⟨ad, nn, cp, rfl, ?_, ?_⟩
        · exact ((HO2.out.setBelow (by first | omega | (simp; done) | (simp; omega)) _).setBelow (by first | omega | (simp; done) | (simp; omega)) _).mono (by first | omega | (simp; done) | (simp; omega))
        · exact Below.setCell (Below.setCell B2 (Nat.le_refl _) _) (Nat.le_refl _) _
end Go.Proofs.YtipejodijbjpcaaGreatDoor
end
