/- Which lists are sunflowers: the second program; kernels. Kernels and petals; uniform families. The elements of a set. Representatives and Hall's condition: what is computed. Sets of six elements: what is decided. -/
import Derived.Test.YtelmokapdkepbaaGreatQ21
section
namespace Go.Proofs.YtelmokapdkepbaaGreat
open Go.RowKit Go.G5

set_option maxHeartbeats 2000000 in
set_option maxRecDepth 100000 in
theorem l24Valid_any (l : List Int) (v : Value) (w : World) (hv : Ints w v l) :
    Calls Tryz.prog 55 #[v] w fun e w' => e = .returned (.bool (valS l)) ∧ Below w.heap.size w w' := by
  obtain ⟨a, b, off, c, rfl, hlen, hix, hc, hb⟩ := hv.view Tryz.prog 22 3 Tryz.underlying22 intElem
  by_cases h64 : l.length ≤ 64
  · have h64i : ¬ (64 : Int) < (l.length : Int) := by omega
    have hx : valS l = allTo (vAt l) l.length := by unfold valS; rw [decide_eq_true h64, Bool.true_and]
    have HX := Lib.hid hx
    clear hx
    go_enter Tryz.func55, Tryz.ntmps55
    go_wp2_with fail
    go_loopw [3] (fun i wr => ∃ k : Nat, k ≤ l.length ∧ i = .int .i64 k ∧ allTo (vAt l) k = true ∧ Below w.heap.size w wr) (fun i _ => l.length - (intOf i).toNat)
    case atStart => exact ⟨0, Nat.zero_le _, rfl, rfl, Below.refl _ _⟩
    case round =>
      obtain ⟨k, hk, rfl, hall, B⟩ := hrel
      have H := Lib.hid hall
      clear hall
      by_cases hlt : k < l.length
      · have hlt2 : (k : Int) < (l.length : Int) := by omega
        have ck := cells_below hc hb B (Nat.le_refl _) k hlt
        have ik := fun W => hix W k hlt
        have hgk := getD_at l k hlt
        have hvk : vAt l k = (isSet 6 l[k] && allTo (dAt l k) k) := by unfold vAt; rw [hgk]
        have HC := Lib.hid hc
        have HIX := Lib.hid hix
        have hin : inB l[k] 0 63 = isSet 6 l[k] := by
          cases hs : isSet 6 l[k] with
          | true => have := (isSet6 _).1 hs; exact inB_true.2 ⟨this.1, by omega⟩
          | false =>
            cases hq : inB l[k] 0 63 with
            | false => rfl
            | true =>
              have h2 := inB_true.1 hq
              have := (isSet6 l[k]).2 ⟨h2.1, by omega⟩
              rw [this] at hs
              cases hs
        obtain ⟨y, hy⟩ : ∃ y, y = l[k] := ⟨_, rfl⟩
        rw [← hy] at ck hvk hin hgk
        have HIN := Lib.hid hin
        have HGK := Lib.hid hgk
        have HYV := Lib.hid hy.symm
        have HVK := Lib.hid hvk
        have e63 : (63 : Int) = 2 ^ (6 : Int).toNat - 1 := by decide
        have HE63 := Lib.hid e63
        rw [e63] at HIN
        clear hin hgk hvk hc hix hy e63
        cases hs : isSet 6 y with
        | false =>
          have hno : valS l = false := by rw [HX.out]; exact allTo_false hlt (by rw [HVK.out, hs]; rfl)
          have HNO := Lib.hid hno
          have HS := Lib.hid hs
          clear hno hs
          have hyk : ∀ x : Ext wr, x.w.cell? ⟨b, off + k, none⟩ = some (.int .i64 y) := fun x => x.cell ck
          go_wp2_with fail
          refine wp_region_ext _ (by kernel_rfl) (by kernel_rfl) ?_
          repeat (first | go_big_quiet_skip | (go_big_quiet_want; go_big_quiet_op; first | go_big_quiet_on | (apply Exists.intro; refine ⟨fun _ => ?_, ?_⟩; (first | (go_at_call 15; exact ext_same (l2Full_i 6 _ (by decide) (by decide))) | (go_at_call 17; exact ext_sameB (l1In_any _ _ _ _) (HIN.out.trans HS.out))); go_big_quiet_on)))
          refine wpQuiet_nil ?_
          rintro w3 ⟨⟨w3, hb3⟩, rfl⟩
          try dsimp only
          go_wp2
          go_ret
          exact ⟨ret_bool HNO.out.symm, B.after hb3 B.size⟩
        | true =>
          have HS := Lib.hid hs
          clear hs
          have hyk : ∀ x : Ext wr, x.w.cell? ⟨b, off + k, none⟩ = some (.int .i64 y) := fun x => x.cell ck
          go_wp2_with fail
          refine wp_region_ext _ (by kernel_rfl) (by kernel_rfl) ?_
          repeat (first | go_big_quiet_skip | (go_big_quiet_want; go_big_quiet_op; first | go_big_quiet_on | (apply Exists.intro; refine ⟨fun _ => ?_, ?_⟩; (first | (go_at_call 15; exact ext_same (l2Full_i 6 _ (by decide) (by decide))) | (go_at_call 17; exact ext_sameB (l1In_any _ _ _ _) (HIN.out.trans HS.out))); go_big_quiet_on)))
          refine wpQuiet_nil ?_
          rintro w3 ⟨⟨w3, hb3⟩, rfl⟩
          try dsimp only
          clear hyk
          have B3 := B.after hb3 B.size
          obtain ⟨wo, rfl⟩ : ∃ wo : World, wo = w3 := ⟨_, rfl⟩
          go_wp2_with fail
          go_loopw [4] (fun i wi => ∃ j : Nat, j ≤ k ∧ i = .int .i64 j ∧ allTo (dAt l k) j = true ∧ Below w.heap.size w wi) (fun i _ => k - (intOf i).toNat)
          case atStart => exact ⟨0, Nat.zero_le _, rfl, rfl, B3⟩
          case round =>
            obtain ⟨j, hj, rfl, hin2, Bj⟩ := hrel
            obtain ⟨wi, hwi⟩ : ∃ wi : World, wi = wr := ⟨_, rfl⟩
            subst hwi
            clear B3
            have HD := Lib.hid hin2
            clear hin2 ck ik
            have ck := cells_below HC.out hb Bj (Nat.le_refl _) k hlt
            have ckv : wi.cell? ⟨b, off + k, none⟩ = some (.int .i64 y) := by rw [ck, HYV.out]
            clear ck
            by_cases hjk : j < k
            · have hjk2 : (j : Int) < (k : Int) := by omega
              have hjl : j < l.length := by omega
              have cj := cells_below HC.out hb Bj (Nat.le_refl _) j hjl
              have ij := fun W => HIX.out W j hjl
              have ik := fun W => HIX.out W k hlt
              have hda : dAt l k j = !(l[j] == y) := by unfold dAt; rw [getD_at l j hjl, HGK.out]
              obtain ⟨z, hz⟩ : ∃ z, z = l[j] := ⟨_, rfl⟩
              rw [← hz] at cj hda
              have HDA := Lib.hid hda
              clear hz hda
              by_cases hzy : z = y
              · have hze : (z == y) = true := by simp [hzy]
                have hno : valS l = false := by rw [HX.out]; exact allTo_false hlt (by rw [HVK.out]; rw [allTo_false hjk (by rw [HDA.out, hze]; rfl)]; simp)
                have HNO := Lib.hid hno
                clear hno hzy
                go_wp2
                go_quiet (fail)
                go_wp2
                go_ret
                exact ⟨ret_bool HNO.out.symm, Bj.drewN' _⟩
              · have hze : (z == y) = false := by simp [hzy]
                have HZE := Lib.hid hze
                clear hzy
                go_wp2
                go_quiet (fail)
                go_wp2
                go_roundw
                case rel => exact ⟨j + 1, by omega, by go_num, allTo_succ HD.out (by rw [HDA.out, HZE.out]; rfl), Bj.drewN' _⟩
                case measure => simp [intOf]; omega
            · have hjk2 : ¬ (j : Int) < (k : Int) := by omega
              have hje : j = k := by omega
              subst hje
              have hv1 : vAt l j = true := by rw [HVK.out, HS.out, HD.out]; rfl
              have HV1 := Lib.hid hv1
              clear hv1
              go_wp2
              go_roundw
              case rel => exact ⟨j + 1, by omega, by go_num, allTo_succ H.out HV1.out, Bj⟩
              case measure => simp [intOf]; omega
      · have hlt2 : ¬ (k : Int) < (l.length : Int) := by omega
        have hkl : k = l.length := by omega
        have hyes : valS l = true := by rw [HX.out, ← hkl]; exact H.out
        have HY := Lib.hid hyes
        clear hkl hyes
        go_wp2
        go_ret
        exact ⟨ret_bool HY.out.symm, B⟩
  · have h64i : (64 : Int) < (l.length : Int) := by omega
    have hx : valS l = false := by unfold valS; rw [decide_eq_false h64]; rfl
    have HX := Lib.hid hx
    clear hx
    go_enter Tryz.func55, Tryz.ntmps55
    go_wp2
    go_ret
    exact ⟨ret_bool HX.out.symm, Below.refl _ _⟩
end Go.Proofs.YtelmokapdkepbaaGreat
end
section
namespace Go.Proofs.YtelmokapdkepbaaGreat
open Go.RowKit Go.G5

def kerB (l : List Int) : Bool := isSunB l && decide (2 ≤ l.length)
def kerN (l : List Int) : Int := if kerB l then iand (l.getD 0 0) (l.getD 1 0) else 0
def petTo (l : List Int) (q : Int) : Nat → List Int
  | 0 => []
  | k + 1 => petTo l q k ++ [idif (l.getD k 0) q]
def petL (l : List Int) : List Int := if kerB l then petTo l (kerN l) l.length else []
def uniB (g : Int) (l : List Int) (k : Int) : Bool := isFamB g l && (inB k 0 g && l.all fun s => ipop s == k)
theorem petTo_len (l : List Int) (q : Int) : ∀ k, (petTo l q k).length = k := by
  intro k
  induction k with
  | zero => rfl
  | succ k ih => rw [petTo, List.length_append, ih]; rfl
theorem sun_bd {l : List Int} (h : isSunB l = true) : l.length ≤ 64 ∧ ∀ x ∈ l, 0 ≤ x ∧ x < 64 := by
  unfold isSunB at h
  have := valS_mem (Bool.and_eq_true_iff.1 h).1
  exact ⟨this.1, this.2.1⟩
theorem kerN_bd {l : List Int} (h : kerB l = true) : 0 ≤ kerN l ∧ kerN l < 64 := by
  have hk : kerN l = iand (l.getD 0 0) (l.getD 1 0) := by unfold kerN; rw [h]; rfl
  unfold kerB at h
  obtain ⟨h1, h2⟩ := Bool.and_eq_true_iff.1 h
  have h2 := of_decide_eq_true h2
  have hb := (sun_bd h1).2 _ (List.getElem_mem (show 0 < l.length by omega))
  rw [hk, getD_at l 0 (by omega)]
  exact iand_bd _ _ 64 hb.1 hb.2

set_option maxHeartbeats 400000 in
theorem isSunS_any (l : List Int) (v : Value) (w : World) (hv : Ints w v l) :
    Calls Tryz.prog 29 #[v] w fun e w' => e = .returned (.bool (isSunB l)) ∧ Below w.heap.size w w' := by
  have HV := Lib.hid (l24Valid_any l v w hv)
  cases hvs : valS l with
  | false =>
    have hx : isSunB l = false := by unfold isSunB; rw [hvs]; rfl
    have HX := Lib.hid hx
    rw [hvs] at HV
    clear hx hvs
    go_enter Tryz.func29, Tryz.ntmps29
    go_wp2_with (go_at_call 55; refine HV.out.mono ?_; rintro e w1 ⟨rfl, b1⟩)
    go_ret
    exact ⟨ret_bool HX.out.symm, b1⟩
  | true =>
    have hx : isSunB l = sunS l := by unfold isSunB; rw [hvs]; rfl
    have hm := (valS_mem hvs).2.1
    have HX := Lib.hid hx
    rw [hvs] at HV
    have HS := Lib.hid (fun W (h : Below w.heap.size w W) => l24Sun_any l v W (hv.below h (Nat.le_refl _)) hm)
    clear hx hvs hm
    go_enter Tryz.func29, Tryz.ntmps29
    go_wp2_with (first | (go_at_call 55; refine HV.out.mono ?_; rintro e w1 ⟨rfl, b1⟩) | (go_at_call 56; refine (HS.out w1 b1).mono ?_; rintro e w2 ⟨rfl, b2⟩))
    go_ret
    exact ⟨ret_bool HX.out.symm, b1.after b2 b1.size⟩
end Go.Proofs.YtelmokapdkepbaaGreat
end
section
namespace Go.Proofs.YtelmokapdkepbaaGreat
open Go.RowKit Go.G5

def elL (s : Int) : List Int := famOf s.toNat 6
theorem elL_bd (s : Int) (n : Nat) (hn : n ≤ 6) (h1 : s.toNat < 2 ^ n) : ∀ x ∈ elL s, 0 ≤ x ∧ x < (n : Int) := by
  have h2 : s.toNat < 2 ^ 6 := Nat.lt_of_lt_of_le h1 (Nat.pow_le_pow_right (by decide) hn)
  unfold elL
  rw [famOf_same s.toNat 6 n h2 h1]
  exact famOf_bd _ _
theorem elL_bd6 (s : Int) : ∀ x ∈ elL s, 0 ≤ x ∧ x < 6 := by
  intro x hx
  unfold elL at hx
  have := famOf_bd s.toNat 6 x hx
  omega
theorem elL_len6 (s : Int) : (elL s).length ≤ 6 := by
  unfold elL famOf
  exact chosen_len _ 6
theorem elL_len : ∀ s : Nat, s < 64 → (famOf s 6).length = pop s := by decide +kernel
theorem elL_pop (s : Int) (h : s < 64) : ((elL s).length : Int) = ipop s := by
  unfold elL ipop
  rw [elL_len s.toNat (by omega)]

end Go.Proofs.YtelmokapdkepbaaGreat
end
section
namespace Go.Proofs.YtelmokapdkepbaaGreat
open Go.RowKit Go.G5

def fewB (g : Int) (l : List Int) : Bool := decide (l.length ≤ 6) && areSetsB g l
/-- the first list of different elements that goes on from list -/
def repG (l : List Int) : Nat → Int → List Int → Option (List Int)
  | 0, _, list => some list
  | n + 1, used, list => (elL (idif (l.getD list.length 0) used)).findSome? fun e => repG l n (ior used (2 ^ e.toNat)) (list ++ [e])
def repOne (l : List Int) (n : Nat) (used : Int) (list : List Int) (e : Int) : Option (List Int) := repG l n (ior used (2 ^ e.toNat)) (list ++ [e])
theorem repG_zero (l : List Int) (used : Int) (list : List Int) : repG l 0 used list = some list := rfl
theorem repG_succ (l : List Int) (n : Nat) (used : Int) (list : List Int) : repG l (n + 1) used list = (elL (idif (l.getD list.length 0) used)).findSome? (repOne l n used list) := rfl
def repR (g : Int) (l : List Int) : Option (List Int) := if fewB g l then repG l l.length 0 [] else none
def repB (g : Int) (l : List Int) : Bool := (repR g l).isSome
def repL (g : Int) (l : List Int) : List Int := (repR g l).getD []
theorem findSome_take {α β : Type} (F : α → Option β) (l : List α) (k : Nat) (h : k < l.length) : (l.take (k + 1)).findSome? F = ((l.take k).findSome? F).or (F l[k]) := by
  rw [List.take_succ_eq_append_getElem h, List.findSome?_append]
  cases hF : F l[k] <;> simp [hF]
theorem findSome_hit {α β : Type} (F : α → Option β) (l : List α) (k : Nat) (h : k < l.length) (x : β) (hn : (l.take k).findSome? F = none) (hx : F l[k] = some x) : l.findSome? F = some x := by
  have e : l = l.take (k + 1) ++ l.drop (k + 1) := (List.take_append_drop _ _).symm
  rw [e, List.findSome?_append, findSome_take F l k h, hn, hx]; rfl
theorem repG_len (l : List Int) : ∀ (n : Nat) (used : Int) (list x : List Int), repG l n used list = some x → x.length = list.length + n := by
  intro n
  induction n with
  | zero => intro used list x h; rw [repG_zero] at h; cases h; rfl
  | succ n ih =>
    intro used list x h
    rw [repG_succ] at h
    obtain ⟨e, _, he⟩ := List.exists_of_findSome?_eq_some h
    have := ih _ _ _ he
    rw [List.length_append, List.length_singleton] at this
    omega
theorem pow2_bd' (e : Int) (h : 0 ≤ e ∧ e < 6) : 0 < (2 : Int) ^ e.toNat ∧ (2 : Int) ^ e.toNat < 64 := by
  rcases (show e = 0 ∨ e = 1 ∨ e = 2 ∨ e = 3 ∨ e = 4 ∨ e = 5 by omega) with rfl | rfl | rfl | rfl | rfl | rfl <;> decide
theorem repL_len (g : Int) (l : List Int) : (repL g l).length ≤ 6 := by
  unfold repL repR
  split
  · rename_i h
    unfold fewB at h
    have hl := of_decide_eq_true (Bool.and_eq_true_iff.1 h).1
    cases hr : repG l l.length 0 [] with
    | none => simp
    | some x => have := repG_len l _ _ _ _ hr; simp at this; simp; omega
  · simp
theorem repL_none {g : Int} {l : List Int} (h : repB g l = false) : repL g l = [] := by
  unfold repB at h
  unfold repL
  cases hr : repR g l with
  | none => rfl
  | some x => rw [hr] at h; simp at h

/-- the elements of the sets that code chooses among the first k -/
def unionTo (l : List Int) (code : Nat) : Nat → Int
  | 0 => 0
  | k + 1 => if nbit code k then ior (unionTo l code k) (l.getD k 0) else unionTo l code k
def lackB (l : List Int) (code : Nat) : Bool := decide (ipop (unionTo l code l.length) < (pop code : Int))
def firstFrom (P : Nat → Bool) : Nat → Nat → Option Nat
  | 0, _ => none
  | n + 1, s => if P s then some s else firstFrom P n (s + 1)
def vioR (g : Int) (l : List Int) : Option Nat := if fewB g l then firstFrom (lackB l) (2 ^ l.length) 0 else none
def vioB (g : Int) (l : List Int) : Bool := (vioR g l).isSome
def vioL (g : Int) (l : List Int) : List Int := match vioR g l with | none => [] | some c => elL (c : Int)
theorem vioL_len (g : Int) (l : List Int) : (vioL g l).length ≤ 6 := by
  unfold vioL
  cases vioR g l with
  | none => simp
  | some c => unfold elL famOf; exact chosen_len _ 6
theorem unionTo_bd (l : List Int) (code : Nat) (h : ∀ x ∈ l, 0 ≤ x ∧ x < 64) : ∀ k, k ≤ l.length → 0 ≤ unionTo l code k ∧ unionTo l code k < 64 := by
  intro k
  induction k with
  | zero => intro _; simp [unionTo]
  | succ k ih =>
    intro hk
    have hi := ih (by omega)
    have hx := h _ (List.getElem_mem (show k < l.length by omega))
    rw [unionTo, getD_at l k (by omega)]
    split
    · exact ior_bd _ _ 6 hi.1 hx.1 hi.2 hx.2
    · exact hi
theorem lack_zero (l : List Int) (h : ∀ x ∈ l, 0 ≤ x ∧ x < 64) : lackB l 0 = false := by
  unfold lackB
  have := unionTo_bd l 0 h l.length (Nat.le_refl _)
  have hp := (ipop_bd (unionTo l 0 l.length) (by omega)).1
  simp [pop_zero]; exact hp
theorem first_one (P : Nat → Bool) (n : Nat) (h : P 0 = false) : firstFrom P (n + 1) 0 = firstFrom P n 1 := by rw [firstFrom, h]; rfl
theorem firstFrom_lt (P : Nat → Bool) : ∀ (n s c : Nat), firstFrom P n s = some c → c < s + n := by
  intro n
  induction n with
  | zero => intro s c h; cases h
  | succ n ih =>
    intro s c h
    rw [firstFrom] at h
    split at h
    · cases h; omega
    · have := ih _ _ h; omega
theorem few_ok {g : Int} {l : List Int} (h : fewB g l = true) : l.length ≤ 6 ∧ 0 ≤ g ∧ g ≤ 6 ∧ (∀ s ∈ l, 0 ≤ s ∧ s < 2 ^ g.toNat) ∧ (∀ s ∈ l, 0 ≤ s ∧ s < 64) := by
  unfold fewB areSetsB at h
  simp only [Bool.and_eq_true, decide_eq_true_eq, List.all_eq_true] at h
  have hg := inB_true.1 h.2.1
  have hp := pow_le64 hg.1 hg.2
  have hm : ∀ s ∈ l, 0 ≤ s ∧ s < 2 ^ g.toNat := fun s hs => isSet_true.1 (h.2.2 s hs)
  exact ⟨h.1, hg.1, hg.2, hm, fun s hs => by have := hm s hs; omega⟩
end Go.Proofs.YtelmokapdkepbaaGreat
end
section
namespace Go.Proofs.YtelmokapdkepbaaGreat
open Go.RowKit Go.G5

theorem hm_tb (y e : Nat) : nbit y e = y.testBit e := by
  unfold nbit
  rw [Nat.testBit_eq_decide_div_mod_eq]
  rcases Nat.mod_two_eq_zero_or_one (y / 2 ^ e) with h | h <;> simp [h]
theorem hm_or (x y e : Nat) : nbit (x ||| y) e = (nbit x e || nbit y e) := by simp only [hm_tb, Nat.testBit_or]
theorem hm_lt (G x e : Nat) (hx : x < 2 ^ G) (h : nbit x e = true) : e < G := by
  rcases Nat.lt_or_ge e G with h1 | h1
  · exact h1
  · rw [hm_tb, Nat.testBit_lt_two_pow (Nat.lt_of_lt_of_le hx (Nat.pow_le_pow_right (by decide) h1))] at h
    cases h
theorem hm_mod : ∀ a, a < 64 → ∀ b, b < 64 → pop (a ||| b) + pop (a &&& b) = pop a + pop b := by decide +kernel
theorem hm_mono : ∀ a, a < 64 → ∀ b, b < 64 → pop a ≤ pop (a ||| b) := by decide +kernel
theorem hm_off : ∀ y, y < 64 → ∀ e, e < 6 → (pop (ndiff y (2 ^ e)) + (if nbit y e then 1 else 0) = pop y ∧ ndiff y (2 ^ e) < 64) := by decide +kernel
theorem hm_nd : ∀ x, x < 64 → ∀ u, u < 64 → ∀ e, e < 6 → ndiff x (u ||| 2 ^ e) = ndiff (ndiff x u) (2 ^ e) := by decide +kernel
theorem hm_ndor : ∀ a, a < 64 → ∀ b, b < 64 → ∀ e, e < 6 → ndiff (a ||| b) (2 ^ e) = ndiff a (2 ^ e) ||| ndiff b (2 ^ e) := by decide +kernel
theorem hm_bit : ∀ x, x < 64 → ∀ u, u < 64 → ∀ e, e < 6 → nbit (ndiff x u) e = (nbit x e && !nbit u e) := by decide +kernel
theorem hm_sub : ∀ a, a < 64 → ∀ b, b < 64 → (∀ e, e < 6 → nbit a e = true → nbit b e = true) → b ||| a = b := by decide +kernel
theorem hm_z : ndiff 0 0 = 0 := by decide
theorem hm_nd0 (x : Nat) : ndiff x 0 = x := by unfold ndiff; simp

end Go.Proofs.YtelmokapdkepbaaGreat
end
