/- choose: the family of the sets that a function wants. Counting families: the shared walks. Sets with pairs of elements outside of them, in order. -/
import Derived.Test.YtipejodijbjpcaaGreatDoorQ07
import Derived.Shelf.Abstract
section
namespace Go.Proofs.YtipejodijbjpcaaGreatDoor
open Go.RowKit Go.G5

/-- block B holds a struct of two cells that may be written -/
structure BoxAt (wr : World) (B : Nat) (x y : Value) : Prop where
  d0 : wr.cell? ⟨B, 0, none⟩ = some x
  d1 : wr.cell? ⟨B, 1, none⟩ = some y
  f0 : wr.frozen? ⟨B, 0, none⟩ = false
  f1 : wr.frozen? ⟨B, 1, none⟩ = false
theorem BoxAt.lt {wr : World} {B : Nat} {x y : Value} (h : BoxAt wr B x y) : B < wr.heap.size := World.block_lt_of_cell? wr _ h.d0
theorem BoxAt.keep {wr w2 : World} {B : Nat} {x y : Value} (h : BoxAt wr B x y) (hb : Below wr.heap.size wr w2) : BoxAt w2 B x y :=
  ⟨G5.keep hb h.d0, G5.keep hb h.d1, (hb.frozen (p := ⟨B, 0, none⟩) h.lt).trans h.f0, (hb.frozen (p := ⟨B, 1, none⟩) h.lt).trans h.f1⟩
theorem BoxAt.grow {wr w2 : World} {row : Option Nat} {B : Nat} {x y : Value} (h : BoxAt wr B x y) (hg : wr.grownBy w2 row) (hne : row ≠ some B) : BoxAt w2 B x y :=
  ⟨G5.grown_keep hg h.d0 (fun k hk e => hne (by rw [hk, ← e])), G5.grown_keep hg h.d1 (fun k hk e => hne (by rw [hk, ← e])),
   by rw [World.frozen?_of_block (hg.block B h.lt (fun e => hne e.symm))]; exact h.f0, by rw [World.frozen?_of_block (hg.block B h.lt (fun e => hne e.symm))]; exact h.f1⟩
theorem BoxAt.set1 {wr : World} {B : Nat} {x y : Value} (h : BoxAt wr B x y) (v : Value) : BoxAt (wr.setCell ⟨B, 1, none⟩ v) B x v :=
  ⟨by rw [World.cell?_setCell_other _ _ _ _ (by simp)]; exact h.d0, World.cell?_setCell_same _ _ _ h.d1, by rw [World.frozen?_setCell]; exact h.f0, by rw [World.frozen?_setCell]; exact h.f1⟩
theorem BoxAt.other {wr : World} {B B' j : Nat} {x y : Value} (h : BoxAt wr B x y) (hne : B' ≠ B) (v : Value) : BoxAt (wr.setCell ⟨B', j, none⟩ v) B x y :=
  ⟨by rw [World.cell?_setCell_other _ _ _ _ (fun e => hne (congrArg Addr.block e))]; exact h.d0, by rw [World.cell?_setCell_other _ _ _ _ (fun e => hne (congrArg Addr.block e))]; exact h.d1, by rw [World.frozen?_setCell]; exact h.f0, by rw [World.frozen?_setCell]; exact h.f1⟩
theorem BoxAt.new (w : World) (x y : Value) (T : TypeId) : BoxAt (w.alloc (.cells #[x, y] T)) w.heap.size x y :=
  ⟨cell_new w #[x, y] T 0 _ rfl, cell_new w #[x, y] T 1 _ rfl, World.frozen?_alloc_at _ _ _ _ rfl, World.frozen?_alloc_at _ _ _ _ rfl⟩

/-- the chosen sets below a bound -/
def chosen (P : Nat → Bool) (k : Nat) : List Int := ((List.range k).filter P).map Int.ofNat
theorem chosen_succ (P : Nat → Bool) (k : Nat) : chosen P (k + 1) = if P k then chosen P k ++ [(k : Int)] else chosen P k := by
  unfold chosen
  rw [List.range_succ, List.filter_append, List.map_append]
  by_cases h : P k = true
  · simp [h]
  · simp [h]
theorem chosen_len (P : Nat → Bool) (k : Nat) : (chosen P k).length ≤ k := by
  unfold chosen; rw [List.length_map]; have := List.length_filter_le P (List.range k); simpa using this

set_option maxHeartbeats 1000000 in
set_option maxRecDepth 100000 in
theorem choose_any (w : World) (n : Nat) (hn : n ≤ 6) (c : FuncId) (he : ∀ args w, (callFunc c args).run Tryz.prog w = .ok (.enter c args) w) (g : Nat) (P : Nat → Bool)
    (hw : ∀ (s : Nat) W', s < 2 ^ n → Below w.heap.size w W' → Calls Tryz.prog c #[.int .i64 (s : Int), .pointer (some ⟨g, 0, none⟩)] W' fun e w2 => e = .returned (.bool (P s)) ∧ Below W'.heap.size W' w2) :
    Calls Tryz.prog 147 #[.int .i64 (n : Int), .func (.func c) #[] #[.pointer (some ⟨g, 0, none⟩)]] w fun e w' =>
      ∃ ad i cp, e = .returned (.agg #[.int .i64 (n : Int), .slice ad i cp]) ∧ OwnI 3 w.heap.size w' (.slice ad i cp) (chosen P (2 ^ n)) ∧ Below w.heap.size w w' := by
  have hpn : (2 : Nat) ^ n ≤ 64 := Nat.pow_le_pow_right (by decide) hn
  have hp1 := Nat.two_pow_pos n
  have hpi : ((2 ^ n : Nat) : Int) = (2 : Int) ^ n := by simp
  obtain ⟨N, hN⟩ : ∃ N : Nat, N = 2 ^ n := ⟨_, rfl⟩
  rw [← hN] at hw hpn hp1 hpi ⊢
  have HN := Lib.hid hN
  clear hN
  have r0 := (BoxAt.new w (.int .i64 0) (.slice none 0 0) 27)
  have r1 := r0.keep (bl1 _ (.cells #[.int .i64 n, .slice none 0 0] 27))
  have b1 := BoxAt.new (w.alloc (.cells #[.int .i64 0, .slice none 0 0] 27)) (.int .i64 n) (.slice none 0 0) 27
  go_enter Tryz.func147, Tryz.ntmps147
  go_wp2_with fail
  go_loopw [12] (fun i wr => ∃ (k : Nat) (ad : Option Addr) (nn cp : Nat), k ≤ N ∧ i = .int .i64 k ∧ OwnI 3 (w.heap.size + 1 + 1) wr (.slice ad nn cp) (chosen P k) ∧ Below w.heap.size w wr ∧
      BoxAt wr w.heap.size (.int .i64 0) (.slice none 0 0) ∧ BoxAt wr (w.heap.size + 1) (.int .i64 n) (.slice ad nn cp))
    (fun i _ => N - (intOf i).toNat)
  case atStart => exact ⟨0, none, 0, 0, Nat.zero_le _, rfl, OwnI.nil _ _ _, (by repeat (first | exact Below.refl _ _ | (with_reducible refine Below.setCell ?_ (by first | omega | (simp; done) | (simp; omega)) _) | (with_reducible refine Below.alloc ?_ (by first | omega | (simp; done) | (simp; omega)) _) | (with_reducible refine Below.drewN' ?_ _) | (with_reducible refine Below.drew ?_) | (with_reducible assumption) | refine Below.trans ?_ (Below.mono (by assumption) (by first | omega | (simp; done) | (simp; omega))))), r1, by simpa using b1⟩
  case round =>
    obtain ⟨k, ad, nn, cp, hk, rfl, ho, B, R, X⟩ := hrel
    clear r0 r1 b1
    by_cases hlt : k < N
    · have hlt2 : (k : Int) < 2 ^ n := by rw [← hpi]; exact_mod_cast hlt
      have hcl := hw k wr hlt B
      have zr := R.lt
      have zx := X.lt
      cases hP : P k with
      | false =>
        rw [hP] at hcl
        go_wp2_with (go_at_fn c; refine hcl.mono ?_; rintro e w2 ⟨rfl, hb2⟩)
        go_roundw
        case rel => exact ⟨k + 1, ad, nn, cp, by omega, by go_num, by rw [chosen_succ, hP]; exact ho.keep hb2, B.after hb2 B.size, R.keep hb2, X.keep hb2⟩
        case measure => simp [intOf]; omega
      | true =>
        rw [hP] at hcl
        have hlen := chosen_len P k
        have hlk : (chosen P k).length ≤ 64 := Nat.le_trans hlen (Nat.le_trans hk hpn)
        go_wp2_with (first
          | (go_at_fn c; refine hcl.mono ?_; rintro e w2 ⟨rfl, hb2⟩; have zx2 := (X.keep hb2).lt; obtain ⟨e0, e1, g0, g1⟩ := X.keep hb2)
          | (at_builtin; refine wpList_appendI rfl _ _ _ rfl 3 Tryz.underlying22 intElem (w.heap.size + 1 + 1) _ _ (k : Int) w2.heap.size rfl rfl (by simp) ((ho.keep hb2).alloc _) ⟨by omega, by omega⟩ (by omega) (by simp; omega) ?_; intro v' w6 hown hgr; obtain ⟨av, nv, cv, rfl⟩ := hown.shape3; have hrow := (ho.keep hb2).lt; have X6 := ((X.keep hb2).keep (bl1 _ (.cells #[.int .i64 k] 3))).grow hgr (fun e => by have := (hrow _ e).1; omega); have R6 := ((R.keep hb2).keep (bl1 _ (.cells #[.int .i64 k] 3))).grow hgr (fun e => by have := (hrow _ e).1; omega); obtain ⟨i0, i1, j0, j1⟩ := X6))
        have B6 : Below w.heap.size w w6 := ((B.after hb2 B.size).alloc (B.after hb2 B.size).size (.cells #[.int .i64 k] 3)).grown hgr (by have := (B.after hb2 B.size).size; simp; omega) (fun q hq => by have := (hrow q hq).1; omega)
        go_roundw
        case rel => exact ⟨k + 1, av, nv, cv, by omega, by go_num, by rw [chosen_succ, if_pos hP]; exact hown.setBelow (by first | omega | (simp; done) | (simp; omega)) _, B6.setCell (by first | omega | (simp; done) | (simp; omega)) _, R6.other (by omega) _, (BoxAt.mk i0 i1 j0 j1).set1 _⟩
        case measure => simp [intOf]; omega
    · have hlt2 : ¬ (k : Int) < 2 ^ n := by rw [← hpi]; exact_mod_cast hlt
      have hkN : k = N := by omega
      obtain ⟨e0, e1, g0, g1⟩ := X
      obtain ⟨e2, e3, g2, g3⟩ := R
      go_wp2
      refine bodyPost_ret (v := .agg #[.int .i64 n, .slice ad nn cp]) (by simp [results, Tryz.results147, go_sem, e2, e3]) rfl ⟨ad, nn, cp, rfl, ?_, ?_⟩
      · rw [hkN] at ho
        exact ((ho.setBelow (by first | omega | (simp; done) | (simp; omega)) _).setBelow (by first | omega | (simp; done) | (simp; omega)) _).mono (by first | omega | (simp; done) | (simp; omega))
      · exact Below.setCell (Below.setCell B (Nat.le_refl _) _) (Nat.le_refl _) _
end Go.Proofs.YtipejodijbjpcaaGreatDoor
end
section
namespace Go.Proofs.YtipejodijbjpcaaGreatDoor
open Go.RowKit Go.G5

def nbit (code s : Nat) : Bool := code / 2 ^ s % 2 == 1
theorem nbit_is (code s : Nat) : (ibit (code : Int) s == 1) = nbit code s := by
  unfold ibit nbit
  have h : ((code : Int) / 2 ^ s % 2) = ((code / 2 ^ s % 2 : Nat) : Int) := by push_cast; rfl
  rw [h]
  have : (code / 2 ^ s % 2) < 2 := Nat.mod_lt _ (by decide)
  rcases (show code / 2 ^ s % 2 = 0 ∨ code / 2 ^ s % 2 = 1 by omega) with h1 | h1 <;> rw [h1] <;> rfl
/-- the sets that are the bits of a number -/
def famOf (code : Nat) (k : Nat) : List Int := chosen (nbit code) k
theorem famOf_more (code k m : Nat) (h : code < 2 ^ k) : famOf code (k + m) = famOf code k := by
  induction m with
  | zero => rfl
  | succ m ih =>
    rw [← Nat.add_assoc, famOf, chosen_succ, if_neg, ← famOf, ih]
    have h1 : code < 2 ^ (k + m) := Nat.lt_of_lt_of_le h (Nat.pow_le_pow_right (by decide) (by omega))
    unfold nbit
    rw [Nat.div_eq_of_lt h1]; decide
theorem famOf_same (code k m : Nat) (h : code < 2 ^ k) (h' : code < 2 ^ m) : famOf code k = famOf code m := by
  rcases Nat.le_total k m with hkm | hkm
  · obtain ⟨d, rfl⟩ := Nat.exists_eq_add_of_le hkm
    exact (famOf_more code k d h).symm
  · obtain ⟨d, rfl⟩ := Nat.exists_eq_add_of_le hkm
    exact famOf_more code m d h'
/-- how many codes below k are wanted -/
def cntTo (Q : Nat → Bool) : Nat → Nat
  | 0 => 0
  | k + 1 => if Q k then cntTo Q k + 1 else cntTo Q k
theorem cntTo_le (Q : Nat → Bool) (k : Nat) : cntTo Q k ≤ k := by
  induction k with
  | zero => exact Nat.le_refl _
  | succ k ih => rw [cntTo]; split <;> omega

set_option maxHeartbeats 1000000 in
theorem l2List_any (w : World) (code : Nat) (hc : code < 2 ^ 32) :
    Calls Tryz.prog 174 #[.int .i64 (code : Int)] w fun e w' => ∃ ad i cp, e = .returned (.slice ad i cp) ∧ OwnI 3 w.heap.size w' (.slice ad i cp) (famOf code 32) ∧ Below w.heap.size w w' := by
  have o0 := OwnI.lit0 (E := 3) (B := w.heap.size) w (Nat.le_refl _)
  go_enter Tryz.func174, Tryz.ntmps174
  go_wp2
  go_loopw [3, 4, 5] (fun out i x wr => ∃ (k : Nat) (ad : Option Addr) (nn cp : Nat), k ≤ 32 ∧ out = .slice ad nn cp ∧ i = .int .i64 k ∧ x = .int .i64 ((code / 2 ^ k : Nat) : Int) ∧ OwnI 3 w.heap.size wr (.slice ad nn cp) (famOf code k) ∧ Below w.heap.size w wr)
    (fun _ _ x _ => (intOf x).toNat)
  case atStart => exact ⟨0, _, _, _, by omega, rfl, rfl, by simp, o0, bl1 _ _⟩
  case round =>
    obtain ⟨k, ad, nn, cp, hk, rfl, rfl, rfl, ho, B⟩ := hrel
    obtain ⟨q, hq⟩ : ∃ q, q = code / 2 ^ k := ⟨_, rfl⟩
    have hq2 : code / 2 ^ (k + 1) = q / 2 := by rw [hq, Nat.pow_succ, Nat.div_div_eq_div_mul]
    have hql : q ≤ code := by rw [hq]; exact Nat.div_le_self _ _
    have hn : nbit code k = (q % 2 == 1) := by unfold nbit; rw [hq]
    have hlen := chosen_len (nbit code) k
    rw [← hq]
    have hb := bitsA1 q (by omega)
    have HQ := Lib.hid hq2
    have HN := Lib.hid hn
    have HO := Lib.hid ho
    have HB := Lib.hid B
    have hz : 0 < q → k + 1 ≤ 32 := by
      intro h
      by_cases h2 : k + 1 ≤ 32
      · exact h2
      · have : k = 32 := by omega
        rw [hq, this, Nat.div_eq_of_lt hc] at h
        omega
    have HQ0 := Lib.hid hq
    clear ho B hq hq2 hn
    by_cases h0 : 0 < q
    · have hk1 := hz h0
      clear hz
      by_cases h1 : q % 2 = 1
      · go_wp2_with (at_builtin; refine wpList_appendI rfl _ _ _ rfl 3 Tryz.underlying22 intElem w.heap.size _ _ (k : Int) wr.heap.size rfl rfl (by simp) (HO.out.alloc _) ⟨by omega, by omega⟩ (by unfold famOf; omega) (by have := HB.out.size; simp; omega) ?_; intro v' w6 hown hgr; obtain ⟨av, nv, cv, rfl⟩ := hown.shape3)
        have B6 : Below w.heap.size w w6 := (HB.out.alloc HB.out.size (.cells #[.int .i64 k] 3)).grown hgr (by have := HB.out.size; simp; omega) (fun p hp => (HO.out.lt p hp).1)
        go_roundw
        case rel => exact ⟨k + 1, av, nv, cv, hk1, rfl, by go_num, by rw [HQ.out]; go_num, by rw [famOf, chosen_succ, HN.out, h1]; exact hown, B6⟩
        case measure => simp [intOf]; omega
      · go_wp2
        go_roundw
        case rel => exact ⟨k + 1, ad, nn, cp, hk1, rfl, by go_num, by rw [HQ.out]; go_num, by rw [famOf, chosen_succ, HN.out, show (q % 2 == 1) = false by simp [h1]]; exact HO.out, HB.out⟩
        case measure => simp [intOf]; omega
    · go_wp2
      go_ret
      refine ⟨ad, nn, cp, rfl, ?_, HB.out⟩
      have hlt : code < 2 ^ k := by
        have := HQ0.out
        rcases Nat.lt_or_ge code (2 ^ k) with h | h
        · exact h
        · have := Nat.div_pos h (Nat.two_pow_pos k)
          omega
      rw [famOf_same code 32 k hc hlt]
      exact HO.out

theorem famOf_bd (code k : Nat) : ∀ x ∈ famOf code k, 0 ≤ x ∧ x < (k : Int) := by
  intro x hx
  unfold famOf chosen at hx
  rw [List.mem_map] at hx
  obtain ⟨s, hs, rfl⟩ := hx
  rw [List.mem_filter, List.mem_range] at hs
  simp only [Int.ofNat_eq_natCast]
  omega
theorem famOf32 (code k : Nat) (h : code < 2 ^ k) (hk : k ≤ 32) : famOf code 32 = famOf code k :=
  famOf_same code 32 k (Nat.lt_of_lt_of_le h (Nat.pow_le_pow_right (by decide) hk)) h
def cntOf (Q : Int → Nat → Bool) (n : Int) : Int := if inB n 0 3 then (cntTo (Q n) (2 ^ 2 ^ n.toNat) : Int) else -1
theorem in03 {n : Int} (h : inB n 0 3 = true) : n = 0 ∨ n = 1 ∨ n = 2 ∨ n = 3 := by have := inB_true.1 h; omega
end Go.Proofs.YtipejodijbjpcaaGreatDoor
end
section
namespace Go.Proofs.YtipejodijbjpcaaGreatDoor
open Go.RowKit Go.G5

abbrev Tri := Nat × Nat × Nat
/-- those of a set and a first element with the second one below k -/
def tri (s i : Nat) : Nat → List Tri
  | 0 => []
  | k + 1 => tri s i k ++ (if (decide (i < k) && (!nbit s i && !nbit s k)) then [(s, i, k)] else [])
/-- those of a set with the first element below i -/
def tri2 (n s : Nat) : Nat → List Tri
  | 0 => []
  | i + 1 => tri2 n s i ++ tri s i n
/-- those of the sets below s -/
def tri3 (n : Nat) : Nat → List Tri
  | 0 => []
  | s + 1 => tri3 n s ++ tri2 n s n
theorem tri_start (s i : Nat) : ∀ k, k ≤ i + 1 → tri s i k = [] := by
  intro k
  induction k with
  | zero => intro _; rfl
  | succ k ih =>
    intro hk
    rw [tri, ih (by omega), decide_eq_false (by omega)]; rfl
theorem tri_in (s i k m : Nat) (h : k ≤ m) : ∃ r, tri s i m = tri s i k ++ r := by
  induction m with
  | zero =>
    have : k = 0 := by omega
    subst this; exact ⟨[], rfl⟩
  | succ m ih =>
    by_cases hk : k = m + 1
    · subst hk; exact ⟨[], by simp⟩
    · obtain ⟨r, hr⟩ := ih (by omega)
      exact ⟨r ++ _, by rw [tri, hr, List.append_assoc]⟩
theorem tri2_in (n s i m : Nat) (h : i ≤ m) : ∃ r, tri2 n s m = tri2 n s i ++ r := by
  induction m with
  | zero =>
    have : i = 0 := by omega
    subst this; exact ⟨[], rfl⟩
  | succ m ih =>
    by_cases hk : i = m + 1
    · subst hk; exact ⟨[], by simp⟩
    · obtain ⟨r, hr⟩ := ih (by omega)
      exact ⟨r ++ _, by rw [tri2, hr, List.append_assoc]⟩
theorem tri3_in (n s m : Nat) (h : s ≤ m) : ∃ r, tri3 n m = tri3 n s ++ r := by
  induction m with
  | zero =>
    have : s = 0 := by omega
    subst this; exact ⟨[], rfl⟩
  | succ m ih =>
    by_cases hk : s = m + 1
    · subst hk; exact ⟨[], by simp⟩
    · obtain ⟨r, hr⟩ := ih (by omega)
      exact ⟨r ++ _, by rw [tri3, hr, List.append_assoc]⟩
/-- what stands ahead of a place, with the place, stands at the front of all -/
theorem tri_front (n N s i k : Nat) (hs : s < N) (hi : i < n) (hk : k ≤ n) : ∃ r, tri3 n N = ((tri3 n s ++ tri2 n s i) ++ tri s i k) ++ r := by
  obtain ⟨r3, h3⟩ := tri3_in n (s + 1) N hs
  obtain ⟨r2, h2⟩ := tri2_in n s (i + 1) n hi
  obtain ⟨r1, h1⟩ := tri_in s i k n hk
  rw [tri3] at h3
  rw [tri2] at h2
  exact ⟨r1 ++ (r2 ++ r3), by rw [h3, h2, h1]; simp [List.append_assoc]⟩
theorem tri_mem (s i k : Nat) : ∀ t ∈ tri s i k, t.1 = s ∧ t.2.1 = i ∧ i < t.2.2 ∧ t.2.2 < k := by
  induction k with
  | zero => intro t h; cases h
  | succ k ih =>
    intro t h
    rw [tri, List.mem_append] at h
    rcases h with h | h
    · have := ih t h; omega
    · split at h
      · rename_i hc
        rw [List.mem_singleton] at h
        rw [Bool.and_eq_true] at hc
        have := of_decide_eq_true hc.1
        subst h; simp; omega
      · cases h
theorem tri2_mem (n s i : Nat) : ∀ t ∈ tri2 n s i, t.1 = s ∧ t.2.1 < i ∧ t.2.1 < t.2.2 ∧ t.2.2 < n := by
  induction i with
  | zero => intro t h; cases h
  | succ i ih =>
    intro t h
    rw [tri2, List.mem_append] at h
    rcases h with h | h
    · have := ih t h; omega
    · have := tri_mem s i n t h; omega
theorem tri3_mem (n s : Nat) : ∀ t ∈ tri3 n s, t.1 < s ∧ t.2.1 < t.2.2 ∧ t.2.2 < n := by
  induction s with
  | zero => intro t h; cases h
  | succ s ih =>
    intro t h
    rw [tri3, List.mem_append] at h
    rcases h with h | h
    · have := ih t h; omega
    · have := tri2_mem n s n t h; omega

/-- a walk over triples that may stop -/
def runT {α : Type} (step : α → Tri → α × Bool) : List Tri → α → α × Bool
  | [], a => (a, true)
  | t :: r, a => if (step a t).2 then runT step r (step a t).1 else ((step a t).1, false)
theorem runT_append {α : Type} (step : α → Tri → α × Bool) (x y : List Tri) (a : α) : runT step (x ++ y) a = if (runT step x a).2 then runT step y (runT step x a).1 else runT step x a := by
  induction x generalizing a with
  | nil => rfl
  | cons t x ih =>
    rw [List.cons_append, runT, runT]
    split
    · exact ih _
    · rename_i h; simp
theorem runT_go {α : Type} {step : α → Tri → α × Bool} {x y : List Tri} {a b : α} (h : runT step x a = (b, true)) : runT step (x ++ y) a = runT step y b := by rw [runT_append, h]; rfl
theorem runT_stop {α : Type} {step : α → Tri → α × Bool} {x y : List Tri} {a b : α} (h : runT step x a = (b, false)) : runT step (x ++ y) a = (b, false) := by rw [runT_append, h]; rfl
theorem runT_one {α : Type} (step : α → Tri → α × Bool) (t : Tri) (a : α) : runT step [t] a = step a t := by
  rw [runT]
  split
  · rename_i h; rw [runT]; ext <;> simp [h]
  · rename_i h; ext <;> simp_all
end Go.Proofs.YtipejodijbjpcaaGreatDoor
end
