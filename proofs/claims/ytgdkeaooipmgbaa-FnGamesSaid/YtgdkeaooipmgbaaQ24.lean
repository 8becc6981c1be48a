/- All orders of some elements. -/
import Derived.Test.YtgdkeaooipmgbaaQ23
section
namespace Go.Proofs.Ytgdkeaooipmgbaa
open Go.RowKit Go.G5

def extTo (l : List Int) : Nat → List (List Int)
  | 0 => []
  | e + 1 => if has l (e : Int) then extTo l e else extTo l e ++ [l ++ [(e : Int)]]
def nextTo (n : Nat) (ls : List (List Int)) : Nat → List (List Int)
  | 0 => []
  | k + 1 => nextTo n ls k ++ extTo (ls.getD k []) n
def ordersN (n : Nat) : Nat → List (List Int)
  | 0 => [[]]
  | r + 1 => nextTo n (ordersN n r) (ordersN n r).length
theorem extTo_len (l : List Int) (e : Nat) : (extTo l e).length ≤ e := by
  induction e with
  | zero => exact Nat.le_refl _
  | succ e ih =>
    rw [extTo]
    split
    · omega
    · rw [List.length_append]; simp only [List.length_cons, List.length_nil]; omega
theorem nextTo_len (n : Nat) (ls : List (List Int)) (k : Nat) : (nextTo n ls k).length ≤ k * n := by
  induction k with
  | zero => simp [nextTo]
  | succ k ih =>
    have := extTo_len (ls.getD k []) n
    rw [nextTo, List.length_append, Nat.succ_mul]; omega
theorem ordersN_len (n : Nat) (hn : n ≤ 5) (r : Nat) : (ordersN n r).length ≤ 5 ^ r := by
  induction r with
  | zero => simp [ordersN]
  | succ r ih =>
    have h1 := nextTo_len n (ordersN n r) (ordersN n r).length
    have h2 : (ordersN n r).length * n ≤ 5 ^ r * 5 := Nat.mul_le_mul ih hn
    rw [ordersN, Nat.pow_succ]; omega
theorem extTo_mem (l : List Int) (n e : Nat) (he : e ≤ n) : ∀ x ∈ extTo l e, ∃ j : Nat, j < n ∧ x = l ++ [(j : Int)] := by
  induction e with
  | zero => simp [extTo]
  | succ e ih =>
    intro x hx
    rw [extTo] at hx
    split at hx
    · exact ih (by omega) x hx
    · rcases List.mem_append.1 hx with hx | hx
      · exact ih (by omega) x hx
      · simp only [List.mem_singleton] at hx
        exact ⟨e, by omega, hx⟩
theorem nextTo_mem (n : Nat) (ls : List (List Int)) (k : Nat) (hk : k ≤ ls.length) : ∀ x ∈ nextTo n ls k, ∃ l ∈ ls, ∃ j : Nat, j < n ∧ x = l ++ [(j : Int)] := by
  induction k with
  | zero => simp [nextTo]
  | succ k ih =>
    intro x hx
    rw [nextTo] at hx
    rcases List.mem_append.1 hx with hx | hx
    · exact ih (by omega) x hx
    · obtain ⟨j, hj, e⟩ := extTo_mem _ n n (Nat.le_refl _) x hx
      rw [List.getD_eq_getElem?_getD, List.getElem?_eq_getElem (show k < ls.length by omega), Option.getD_some] at e
      exact ⟨_, List.getElem_mem (show k < ls.length by omega), j, hj, e⟩
theorem ordersN_mem (n r : Nat) : ∀ l ∈ ordersN n r, l.length = r ∧ ∀ x ∈ l, 0 ≤ x ∧ x < n := by
  induction r with
  | zero => intro l hl; simp only [ordersN, List.mem_singleton] at hl; subst hl; simp
  | succ r ih =>
    intro l hl
    obtain ⟨l', hl', j, hj, rfl⟩ := nextTo_mem n _ _ (Nat.le_refl _) l hl
    obtain ⟨h1, h2⟩ := ih l' hl'
    refine ⟨by simp [h1], fun x hx => ?_⟩
    rcases List.mem_append.1 hx with hx | hx
    · exact h2 x hx
    · simp only [List.mem_singleton] at hx; omega

set_option maxHeartbeats 2000000 in
set_option maxRecDepth 100000 in
theorem ordersOf_any (n : Nat) (hn : n ≤ 5) (w : World) :
    Calls Try.prog 43 #[.int .i64 (n : Int)] w fun e w' => ∃ ad i c, e = .returned (.slice ad i c) ∧ OwnLL 3 24 w.heap.size w' (.slice ad i c) (ordersN n n) ∧ Below w.heap.size w w' := by
  have o0 := OwnLL.single (EI := 3) (EO := 24) w (Nat.le_refl w.heap.size)
  go_enter Try.func43, Try.ntmps43
  go_wp2_with fail
  go_loopw [3, 10] (fun v i wr => ∃ (r : Nat) (ad : Option Addr) (cp : Nat), r ≤ n ∧ i = .int .i64 r ∧ v = .slice ad (ordersN n r).length cp ∧ OwnLL 3 24 w.heap.size wr (.slice ad (ordersN n r).length cp) (ordersN n r) ∧ Below w.heap.size w wr)
    (fun _ i _ => n - (intOf i).toNat)
  case atStart => exact ⟨0, _, _, Nat.zero_le _, rfl, rfl, o0, bl1 _ _⟩
  case round =>
    obtain ⟨r, ad, cp, hr, rfl, rfl, ol, B⟩ := hrel
    obtain ⟨wo, rfl⟩ : ∃ wo : World, wo = wr := ⟨_, rfl⟩
    clear o0
    by_cases hrn : r < n
    · have hmem := ordersN_mem n r
      have hlen := ordersN_len n hn r
      have h5 : (5 : Nat) ^ r ≤ 5 ^ 4 := Nat.pow_le_pow_right (by decide) (by omega)
      have hnx : ordersN n (r + 1) = nextTo n (ordersN n r) (ordersN n r).length := rfl
      obtain ⟨ls, hls⟩ : ∃ ls, ls = ordersN n r := ⟨_, rfl⟩
      rw [← hls] at ol hmem hlen hnx ⊢
      have hl625 : ls.length ≤ 625 := by omega
      have HNX := Lib.hid hnx
      have HMEM := Lib.hid hmem
      have HOL := Lib.hid ol
      clear hls hmem hlen h5 hnx ol
      go_wp2_with fail
      go_loopw [4, 14] (fun v i wm => ∃ (k : Nat) (ad' : Option Addr) (nn' cp' : Nat), k ≤ ls.length ∧ i = .int .i64 k ∧ v = .slice ad' nn' cp' ∧ OwnLL 3 24 wo.heap.size wm (.slice ad' nn' cp') (nextTo n ls k) ∧
          OwnLL 3 24 w.heap.size wm (.slice ad ls.length cp) ls ∧ Below w.heap.size w wm ∧ wo.heap.size ≤ wm.heap.size)
        (fun _ i _ => ls.length - (intOf i).toNat)
      case atStart => exact ⟨0, none, 0, 0, Nat.zero_le _, rfl, rfl, OwnLL.nil _ _ _ _, HOL.out, B, Nat.le_refl _⟩
      case round =>
        obtain ⟨k, ad', nn', cp', hk, rfl, rfl, oN, oL, Bm, zm⟩ := hrel
        obtain ⟨wm, rfl⟩ : ∃ wm : World, wm = wr := ⟨_, rfl⟩
        have rL := HOL.out.lt
        by_cases hkl : k < ls.length
        · obtain ⟨g, u, hix, hcell, hu⟩ := oL.view Try.prog 36 Try.underlying36 sliceElem k hkl
          have hml := HMEM.out _ (List.getElem_mem hkl)
          have hgd : ls.getD k [] = ls[k] := by rw [List.getD_eq_getElem?_getD, List.getElem?_eq_getElem hkl]; rfl
          have hnk : nextTo n ls (k + 1) = nextTo n ls k ++ extTo ls[k] n := by rw [nextTo, hgd]
          have hnl := nextTo_len n ls k
          have hnl2 : k * n ≤ 625 * 5 := Nat.mul_le_mul (by omega) hn
          obtain ⟨l, hl⟩ : ∃ l, l = ls[k] := ⟨_, rfl⟩
          rw [← hl] at hu hml hnk
          obtain ⟨N, hN⟩ : ∃ N, N = nextTo n ls k := ⟨_, rfl⟩
          rw [← hN] at hnk hnl oN
          have hll : l.length ≤ 5 := by have := hml.1; omega
          obtain ⟨au, nu, cu, rfl⟩ := hu.shape3
          have HNK := Lib.hid hnk
          have HON := Lib.hid oN
          have HOLm := Lib.hid oL
          have HU := Lib.hid hu
          clear hl hN hml hgd hnk oN oL hu
          go_wp2_with fail
          go_loopw [4, 19] (fun v i wi => ∃ (e : Nat) (ad'' : Option Addr) (nn'' cp'' : Nat), e ≤ n ∧ i = .int .i64 e ∧ v = .slice ad'' nn'' cp'' ∧ OwnLL 3 24 wo.heap.size wi (.slice ad'' nn'' cp'') (N ++ extTo l e) ∧
              OwnLL 3 24 w.heap.size wi (.slice ad ls.length cp) ls ∧ OwnI 3 w.heap.size wi (.slice au nu cu) l ∧ Below w.heap.size w wi ∧ wo.heap.size ≤ wi.heap.size)
            (fun _ i _ => n - (intOf i).toNat)
          case atStart => exact ⟨0, _, _, _, Nat.zero_le _, rfl, rfl, by simpa [extTo] using HON.out, HOLm.out, HU.out, Bm, zm⟩
          case round =>
            obtain ⟨e, ad'', nn'', cp'', he, rfl, rfl, oN, oL, oU, Bi, zi⟩ := hrel
            obtain ⟨wi, rfl⟩ : ∃ wi : World, wi = wr := ⟨_, rfl⟩
            clear hix hcell
            by_cases hen : e < n
            · cases hh : has l (e : Int) with
              | true =>
                have hx : extTo l (e + 1) = extTo l e := by rw [extTo, hh]; rfl
                have HX := Lib.hid hx
                have HH := Lib.hid hh
                clear hx hh
                go_wp2_with (go_at_call 69; refine (slContains_any l _ _ _ oU.ints).mono ?_; rintro e' w' ⟨rfl, rfl⟩; rw [HH.out])
                go_roundw
                case rel => exact ⟨e + 1, ad'', nn'', cp'', by omega, by go_num, rfl, by rw [HX.out]; exact oN, oL, oU, Bi, zi⟩
                case measure => simp [intOf]; omega
              | false =>
                have hx : extTo l (e + 1) = extTo l e ++ [l ++ [(e : Int)]] := by rw [extTo, hh]; rfl
                have hel := extTo_len l e
                have HX := Lib.hid hx
                have HH := Lib.hid hh
                have rN := oN.lt
                have HON2 := Lib.hid oN
                have HOL2 := Lib.hid oL
                have HOU := Lib.hid oU
                have hlenN : (N ++ extTo l e).length ≤ 4000 := by rw [List.length_append]; omega
                clear hx hh oN oL oU hel
                go_wp2_with (first
                  | (go_at_call 69; refine (slContains_any l _ _ _ HOU.out.ints).mono ?_; rintro e' w' ⟨rfl, rfl⟩; rw [HH.out])
                  | (go_at_call 70; refine (clone_any _ l _ HOU.out.ints (by omega)).mono ?_; rintro e' w5 ⟨p5, i5, q5, rfl, o5, hb5⟩; have z5 := hb5.size)
                  | (at_builtin; refine wpList_appendI rfl _ _ _ rfl 3 Try.underlying24 intElem wi.heap.size (.slice p5 i5 q5) l (e : Int) w5.heap.size rfl rfl (by simp) (o5.alloc _) ⟨by omega, by omega⟩ (by omega) (by simp; omega) ?_; intro v' w6 hown6 hgr6; obtain ⟨p6, i6, q6, rfl⟩ := hown6.shape3; have b6 : Below wi.heap.size wi w6 := below_grow (Below.after (Below.refl _ _) (hb5.after (bl1 w5 _) hb5.size) (Nat.le_refl _)) hgr6 (by simp; omega) (fun q hq => (o5.lt q hq).1); have z6 := b6.size; obtain ⟨vs6, row6⟩ := (HON2.out.keep b6).row)
                  | (at_builtin; refine wpList_appendL rfl _ _ _ rfl 3 24 noMeet Try.underlying36 sliceElem wo.heap.size (.slice ad'' nn'' cp'') (N ++ extTo l e) (.slice p6 i6 q6) (l ++ [(e : Int)]) w6.heap.size rfl rfl (by simp) ((HON2.out.keep b6).keep (bl1 w6 _)) ((hown6.mono (by omega)).alloc _) (by omega) (by simp; omega) ?_; intro v' w7 hown7 hgr7; obtain ⟨p7, i7, q7, rfl⟩ := hown7.shape3))
                have b7 : Below wi.heap.size wi (w6.alloc (.cells #[.slice p6 i6 q6] 24)) := b6.alloc b6.size _
                obtain ⟨vs7, row7⟩ := (HON2.out.keep b7).row
                have oL7 := (HOL2.out.keep b7).grow row7 noMeet hgr7 (fun q hq hq2 => by have := (rN q hq).1; have := (rL q hq2).2; omega)
                have oU7 := (HOU.out.keep b7).growL row7 noMeet hgr7
                have zBi := Bi.size
                have B7 := (Bi.after b7 Bi.size).grown hgr7 (by simp; omega) (fun q hq => by have := (rN q hq).1; have := B.size; omega)
                have z7 := hgr7.size
                go_roundw
                case rel => exact ⟨e + 1, p7, i7, q7, by omega, by go_num, rfl, by rw [HX.out, ← List.append_assoc]; exact hown7, oL7, oU7, B7, by simp at z7; omega⟩
                case measure => simp [intOf]; omega
            · have hee : e = n := by omega
              subst hee
              go_wp2
              go_roundw
              case rel => exact ⟨k + 1, ad'', nn'', cp'', by omega, by go_num, rfl, by rw [HNK.out]; exact oN, oL, Bi, zi⟩
              case measure => simp [intOf]; omega
        · have hkk : k = ls.length := by omega
          subst hkk
          have hsh := oN.len
          obtain ⟨a3, c3, e3, _⟩ := hsh
          simp only [Value.slice.injEq] at e3
          obtain ⟨rfl, rfl, rfl⟩ := e3
          have HON := Lib.hid oN
          clear oN oL
          go_wp2
          go_roundw
          case rel => exact ⟨r + 1, _, _, by omega, by go_num, by rw [HNX.out], by rw [HNX.out]; exact HON.out.mono B.size, Bm⟩
          case measure => simp [intOf]; omega
    · have hrr : r = n := by omega
      subst hrr
      go_wp2
      go_ret
      exact ⟨_, _, _, rfl, ol, B⟩
end Go.Proofs.Ytgdkeaooipmgbaa
end
