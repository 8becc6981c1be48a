/- Minimum cuts: the first program. Minimum cuts: the first program's search, and claims of it. Common independent sets: whether two functions are ranks of matroids alike; sets that are free. Vectors. The order of a vector's elements by descending numbers: the plain list. Sums of products. The order of a vector's elements: the second program. The gains along an order: the second program. -/
import Derived.Test.YtgdkeaooipmgbaaQ20
import Derived.Deep.RegionHeld3
import Derived.Shelf.Abstract
import Derived.Deep.AppendLies
section
namespace Go.Proofs.Ytgdkeaooipmgbaa
open Go.RowKit Go.G5

end Go.Proofs.Ytgdkeaooipmgbaa
end
section
namespace Go.Proofs.Ytgdkeaooipmgbaa
open Go.RowKit Go.G5

theorem fit_fun {n : Int} {l : List Int} (h : fitB n l = true) : isFunB n l = true ∧ 2 ≤ n := by
  unfold fitB subB at h
  simp only [Bool.and_eq_true, decide_eq_true_eq] at h
  exact ⟨h.1.1.1, h.2⟩
theorem fit_size {n : Int} {l : List Int} (h : fitB n l = true) : 4 ≤ l.length ∧ l.length ≤ 32 ∧ (l.length : Int) = 2 ^ n.toNat ∧ n ≤ 5 ∧ ∀ k, (hk : k < l.length) → -1000 ≤ l[k] ∧ l[k] ≤ 1000 := by
  obtain ⟨h1, h2⟩ := fit_fun h
  obtain ⟨h0, h5, hlen, hlb⟩ := funOk h1
  obtain ⟨m, hm⟩ : ∃ m : Nat, n.toNat = m := ⟨_, rfl⟩
  have hm2 : 2 ≤ m ∧ m ≤ 5 := by omega
  have hp4 : (2 : Nat) ^ 2 ≤ 2 ^ m := Nat.pow_le_pow_right (by decide) hm2.1
  have hp5 : (2 : Nat) ^ m ≤ 2 ^ 5 := Nat.pow_le_pow_right (by decide) hm2.2
  have hln : l.length = 2 ^ m := by rw [hm] at hlen; exact_mod_cast hlen
  exact ⟨by omega, by omega, hlen, h5, hlb⟩

end Go.Proofs.Ytgdkeaooipmgbaa
end
section
namespace Go.Proofs.Ytgdkeaooipmgbaa
open Go.RowKit Go.G5

theorem beq_dec (a b : Int) : (a == b) = decide (a = b) := by by_cases h : a = b <;> simp [h]
end Go.Proofs.Ytgdkeaooipmgbaa
end
section
namespace Go.Proofs.Ytgdkeaooipmgbaa
open Go.RowKit Go.G5

def vecB (x : List Int) : Bool := decide (x.length ≤ 5) && allIn x (-1000) 1000
def optB (n : Int) (l x : List Int) : Bool := (isGrB n l && subB n l) && (vecB x && decide ((x.length : Int) = n))
end Go.Proofs.Ytgdkeaooipmgbaa
end
section
namespace Go.Proofs.Ytgdkeaooipmgbaa
open Go.RowKit Go.G5

def scanO (x o : List Int) (y : Int) : Nat → Nat
  | 0 => 0
  | k + 1 => if x.getD (o.getD k 0).toNat 0 < y then scanO x o y k else k + 1
def insO (o : List Int) (e : Int) (k : Nat) : List Int := (o.take k ++ [e]) ++ o.drop k
def ordN (x : List Int) : Nat → List Int
  | 0 => []
  | i + 1 => insO (ordN x i) i (scanO x (ordN x i) (x.getD i 0) i)
def restL (i n : Nat) : List Int := (List.range' i (n - i)).map fun (t : Nat) => (t : Int)
theorem scanO_le (x o : List Int) (y : Int) : ∀ k, scanO x o y k ≤ k := by
  intro k
  induction k with
  | zero => exact Nat.le_refl _
  | succ k ih => rw [scanO]; split <;> omega
theorem insO_len (o : List Int) (e : Int) (k : Nat) (hk : k ≤ o.length) : (insO o e k).length = o.length + 1 := by
  unfold insO
  simp
  omega
theorem ordN_len (x : List Int) : ∀ i, (ordN x i).length = i := by
  intro i
  induction i with
  | zero => rfl
  | succ i ih =>
    have h := scanO_le x (ordN x i) (x.getD i 0) i
    rw [ordN, insO_len _ _ _ (by omega), ih]
theorem insO_mem (o : List Int) (e y : Int) (k : Nat) (h : y ∈ insO o e k) : y ∈ o ∨ y = e := by
  unfold insO at h
  rcases List.mem_append.1 h with h | h
  · rcases List.mem_append.1 h with h | h
    · exact .inl (List.mem_of_mem_take h)
    · exact .inr (List.mem_singleton.1 h)
  · exact .inl (List.mem_of_mem_drop h)
theorem ordN_mem (x : List Int) : ∀ i, ∀ e ∈ ordN x i, 0 ≤ e ∧ e < i := by
  intro i
  induction i with
  | zero => intro e h; simp [ordN] at h
  | succ i ih =>
    intro e h
    rcases insO_mem _ _ _ _ h with h | h
    · have := ih e h; omega
    · subst h; omega
theorem restL_len (i n : Nat) : (restL i n).length = n - i := by unfold restL; simp
theorem restL_cons (i n : Nat) (h : i < n) : restL i n = (i : Int) :: restL (i + 1) n := by
  unfold restL
  rw [show n - i = (n - (i + 1)) + 1 by omega, List.range'_succ]
  rfl
theorem restL_mem (i n : Nat) : ∀ e ∈ restL i n, 0 ≤ e ∧ e < n := by
  intro e h
  unfold restL at h
  obtain ⟨t, ht, rfl⟩ := List.mem_map.1 h
  have := List.mem_range'.1 ht
  omega
theorem restL_at (n k : Nat) (h : k < (restL 0 n).length) : (restL 0 n)[k] = (k : Int) := by
  unfold restL
  simp
theorem insO_end (o r : List Int) (e : Int) : insO o e o.length ++ r = o ++ e :: r := by
  unfold insO
  simp
theorem insO_at (o r : List Int) (e : Int) (k : Nat) (hk : k ≤ o.length) : (insO o e k ++ r)[k]? = some e := by
  unfold insO
  have h1 : (o.take k).length = k := by rw [List.length_take]; omega
  rw [List.append_assoc, List.append_assoc, List.getElem?_append_right (by omega), h1]
  simp
theorem insO_before (o r : List Int) (e : Int) (k : Nat) (hk : k + 1 ≤ o.length) : (insO o e (k + 1) ++ r)[k]? = some (o[k]'(by omega)) := by
  unfold insO
  have h1 : (o.take (k + 1)).length = k + 1 := by rw [List.length_take]; omega
  rw [List.append_assoc, List.append_assoc, List.getElem?_append_left (by omega), List.getElem?_take, if_pos (by omega), List.getElem?_eq_getElem (by omega)]
theorem insO_swap (o r : List Int) (e : Int) (k : Nat) (hk : k + 1 ≤ o.length) : ((insO o e (k + 1) ++ r).set (k + 1) (o[k]'(by omega))).set k e = insO o e k ++ r := by
  obtain ⟨p, q, t, rfl, hp⟩ : ∃ p q t, o = p ++ q :: t ∧ p.length = k := ⟨o.take k, o[k]'(by omega), o.drop (k + 1), by rw [List.getElem_cons_drop, List.take_append_drop], by rw [List.length_take]; omega⟩
  subst hp
  have h1 : (p ++ q :: t).take (p.length + 1) = p ++ [q] := by rw [List.take_append]; simp [List.take_of_length_le]
  have h2 : (p ++ q :: t).drop (p.length + 1) = t := by rw [List.drop_append]; simp
  have h3 : (p ++ q :: t).take p.length = p := by simp
  have h4 : (p ++ q :: t).drop p.length = q :: t := by simp
  have h5 : (p ++ q :: t)[p.length]'(by simp) = q := by simp
  unfold insO
  rw [h1, h2, h3, h4, h5]
  simp
theorem ordN_at (x : List Int) (i k : Nat) (hk : k < i) : ∃ e : Nat, e < i ∧ (ordN x i)[k]? = some (e : Int) := by
  have h : k < (ordN x i).length := by rw [ordN_len]; exact hk
  have hm := ordN_mem x i _ (List.getElem_mem h)
  refine ⟨((ordN x i)[k]).toNat, by omega, ?_⟩
  rw [List.getElem?_eq_getElem h, show (((ordN x i)[k].toNat : Nat) : Int) = (ordN x i)[k] by omega]
/-- the row in a round of the insertion sort -/
def datO (x : List Int) (n i : Nat) : List Int := ordN x (min i n) ++ restL (min i n) n
theorem datO_len (x : List Int) (n i : Nat) : (datO x n i).length = n := by
  unfold datO
  rw [List.length_append, ordN_len, restL_len]
  omega
theorem datO_start (x : List Int) (n : Nat) : datO x n 1 = restL 0 n := by
  unfold datO
  cases n with
  | zero => rfl
  | succ n =>
    rw [show min 1 (n + 1) = 1 by omega, restL_cons 0 (n + 1) (by omega)]
    rfl
theorem datO_end (x : List Int) (n i : Nat) (h : n ≤ i) : datO x n i = ordN x n := by
  unfold datO
  rw [Nat.min_eq_right h]
  unfold restL
  simp
theorem datO_in (x : List Int) (n i : Nat) (h : i < n) : datO x n i = insO (ordN x i) i i ++ restL (i + 1) n := by
  unfold datO
  rw [Nat.min_eq_left (Nat.le_of_lt h), restL_cons i n h]
  have := insO_end (ordN x i) (restL (i + 1) n) i
  rw [ordN_len] at this
  exact this.symm
theorem datO_next (x : List Int) (n i : Nat) (h : i < n) : datO x n (i + 1) = insO (ordN x i) i (scanO x (ordN x i) (x.getD i 0) i) ++ restL (i + 1) n := by
  unfold datO
  rw [Nat.min_eq_left (by omega)]
  rfl

end Go.Proofs.Ytgdkeaooipmgbaa
end
section
namespace Go.Proofs.Ytgdkeaooipmgbaa
open Go.RowKit Go.G5

def prodTo (x y : List Int) : Nat → Int
  | 0 => 0
  | k + 1 => prodTo x y k + x.getD k 0 * y.getD k 0
theorem mul_bd (p q : Int) (hp : -1000 ≤ p ∧ p ≤ 1000) (hq : -2000 ≤ q ∧ q ≤ 2000) : -2000000 ≤ p * q ∧ p * q ≤ 2000000 := by
  have h1 : (p * q).natAbs ≤ 1000 * 2000 := by
    rw [Int.natAbs_mul]
    exact Nat.mul_le_mul (by omega) (by omega)
  omega
theorem prodTo_bd (x y : List Int) (hl : y.length = x.length) (hx : ∀ k, (hk : k < x.length) → -1000 ≤ x[k] ∧ x[k] ≤ 1000) (hy : ∀ k, (hk : k < y.length) → -2000 ≤ y[k] ∧ y[k] ≤ 2000) : ∀ k, k ≤ x.length → -2000000 * (k : Int) ≤ prodTo x y k ∧ prodTo x y k ≤ 2000000 * (k : Int) := by
  intro k
  induction k with
  | zero => intro _; simp [prodTo]
  | succ k ih =>
    intro hk
    have h1 := ih (by omega)
    have h2 := mul_bd _ _ (hx k (by omega)) (hy k (by omega))
    rw [prodTo, getD_at x k (by omega), getD_at y k (by omega)]
    push_cast
    omega
end Go.Proofs.Ytgdkeaooipmgbaa
end
section
namespace Go.Proofs.Ytgdkeaooipmgbaa
open Go.RowKit Go.G5

def ordL (x : List Int) : List Int := if vecB x then ordN x x.length else []
end Go.Proofs.Ytgdkeaooipmgbaa
end
section
namespace Go.Proofs.Ytgdkeaooipmgbaa
open Go.RowKit Go.G5

set_option maxHeartbeats 1000000 in
set_option maxRecDepth 100000 in
theorem l8Corner_any (l o : List Int) (v u : Value) (w : World) (hv : Ints w v l) (hu : Ints w u o) (hn : o.length ≤ 5) (hl : l.length = 2 ^ o.length) (hlb : ∀ k, (hk : k < l.length) → -1000 ≤ l[k] ∧ l[k] ≤ 1000) (ho : ∀ x ∈ o, 0 ≤ x ∧ x < o.length) :
    Calls Try.prog 51 #[.agg #[.int .i64 (o.length : Int), v], u] w fun e w' => ∃ ad i c, e = .returned (.slice ad i c) ∧ OwnI 3 w.heap.size w' (.slice ad i c) (cornerL l o) ∧ Below w.heap.size w w' := by
  obtain ⟨a, b, off, c, rfl, hlen, hix, hc, hb⟩ := hu.view Try.prog 24 3 Try.underlying24 intElem
  obtain ⟨a2, b2, off2, c2, rfl, hlen2, hix2, hc2, hb2⟩ := hv.view Try.prog 24 3 Try.underlying24 intElem
  have hl32 : l.length ≤ 32 := by rw [hl]; exact Nat.pow_le_pow_right (by decide) hn
  have X0 := Box2.new w (o.length : Int) (.slice a2 l.length c2) 26
  have HL := Lib.hid hl
  have HLB := Lib.hid hlb
  have HO := Lib.hid ho
  clear hl hlb ho
  go_enter Try.func51, Try.ntmps51
  go_wp2_with (at_make; refine wpList_makeI rfl _ _ _ rfl 3 Try.underlying24 intElem o.length _ _ rfl rfl rfl rfl (by omega) ?_; intro w2 hown hg)
  have X2 := X0.grow hg (by simp)
  simp at hown
  clear X0 hg
  go_loopw [6, 7] (fun s i wr => ∃ k : Nat, k ≤ o.length ∧ i = .int .i64 k ∧ s = .int .i64 (prefS o k) ∧ OwnI 3 (w.heap.size + 1) wr (.slice (some ⟨w.heap.size + 1, 0, none⟩) o.length o.length) (cornerTo l o k) ∧ Box2 w wr (o.length : Int) (.slice a2 l.length c2))
    (fun _ i _ => o.length - (intOf i).toNat)
  case atStart => exact ⟨0, Nat.zero_le _, rfl, rfl, hown, X2⟩
  case round =>
    obtain ⟨k, hk, rfl, rfl, ow, X⟩ := hrel
    clear hown X2
    have HW := Lib.hid ow
    clear ow
    obtain ⟨d0, d1, B1, z1⟩ := X
    by_cases hlt : k < o.length
    · have hck := cells_below hc hb B1 (Nat.le_refl _) k hlt
      have hik := fun W => hix W k hlt
      have hm := HO.out _ (List.getElem_mem hlt)
      obtain ⟨e, he⟩ : ∃ e : Nat, o[k] = (e : Int) := ⟨o[k].toNat, by omega⟩
      rw [he] at hck
      have heo : e < o.length := by omega
      have hgd : (o.getD k 0).toNat = e := by rw [List.getD_eq_getElem?_getD, List.getElem?_eq_getElem hlt, Option.getD_some, he]; omega
      have hpl := prefS_lt o o.length k HO.out hk
      rw [← HL.out] at hpl
      have hse : setBit (prefS o k) e < l.length := by rw [HL.out] at hpl ⊢; exact setBit_lt _ _ _ hpl heo
      have hpk : prefS o (k + 1) = setBit (prefS o k) e := by rw [prefS, hgd]
      have hck1 : cornerTo l o (k + 1) = (cornerTo l o k).set e (gainL l (prefS o k) e) := by rw [cornerTo, hgd]
      have hgb := gainL_bd l (prefS o k) e hpl hse HLB.out
      obtain ⟨p, hp⟩ : ∃ p, p = prefS o k := ⟨_, rfl⟩
      rw [← hp] at hpl hse hpk hck1 hgb ⊢
      have hor := setBit_is p e (by omega) (by omega)
      have hp64 := two_pow e 6 (by omega)
      have hp1 : (2 : Int) ^ e ≤ 64 := by simpa using hp64.1
      have hp2 := hp64.2
      have hc2q := cells_below hc2 hb2 B1 (Nat.le_refl _) _ hse
      have hc2p := cells_below hc2 hb2 B1 (Nat.le_refl _) p hpl
      have i2q := fun W => hix2 W _ hse
      have i2p := fun W => hix2 W p hpl
      have hgl : gainL l p e = l[setBit p e] - l[p] := by
        unfold gainL
        rw [List.getD_eq_getElem?_getD, List.getD_eq_getElem?_getD, List.getElem?_eq_getElem hse, List.getElem?_eq_getElem hpl]; rfl
      obtain ⟨q, hq⟩ : ∃ q, q = setBit p e := ⟨_, rfl⟩
      obtain ⟨y1, hy1⟩ : ∃ y, y = l[setBit p e] := ⟨_, rfl⟩
      obtain ⟨y2, hy2⟩ : ∃ y, y = l[p] := ⟨_, rfl⟩
      rw [← hy1] at hc2q hgl
      rw [← hy2] at hc2p hgl
      rw [← hq] at hor hc2q i2q hpk
      rw [hgl] at hgb hck1
      have hw : IntKind.i64.wrap (y1 - y2) = y1 - y2 := by rw [IntKind.wrap_i64]; omega
      have HPK := Lib.hid hpk
      have HCK := Lib.hid hck1
      have hlen3 : o.length = (cornerTo l o k).length := (cornerTo_len l o k).symm
      have hcell : ∃ q, wr.cell? ⟨w.heap.size + 1, e, none⟩ = some q := ⟨_, HW.out.cellAt hlen3 e (by omega)⟩
      obtain ⟨qq, hcell⟩ := hcell
      have hfr := HW.out.frozenAt hlen3 e
      have he0 : (0 : Int) ≤ (e : Int) := Int.natCast_nonneg _
      have heo1 : (e : Int) < (o.length : Int) := by omega
      clear hp he hgd hpk hck1 hm hlen3 hp64 hq hy1 hy2 hgl hse hix hix2 hc hc2
      go_wp2
      go_region
      all_goals go_wp2
      have ow3 := fun z => ((HW.out.drewN z).stored (cornerTo_len l o k).symm e (y1 - y2) ⟨by omega, by omega⟩)
      have X3 := fun z => ((Box2.mk d0 d1 B1 z1).drewN z).grow (ow3 z).2 (by simp)
      go_roundw
      case rel => exact ⟨k + 1, by omega, by go_num, by rw [HPK.out], by rw [HCK.out]; exact (ow3 _).1, X3 _⟩
      case measure => simp [intOf]; omega
    · have hko : k = o.length := by omega
      subst hko
      go_wp2
      go_ret
      exact ⟨_, _, _, rfl, HW.out.mono (by omega), B1⟩

def mxX (l x : List Int) : List Int := cornerL l (ordN x x.length)
def maxN (n : Int) (l x : List Int) : Int := if optB n l x then prodTo x (mxX l x) x.length else 0
def maxL (n : Int) (l x : List Int) : List Int := if optB n l x then mxX l x else []
theorem opt_fun {n : Int} {l x : List Int} (h : optB n l x = true) : x.length ≤ 5 ∧ n = (x.length : Int) ∧ l.length = 2 ^ x.length ∧ l.length ≤ 32 ∧ (∀ k, (hk : k < l.length) → -1000 ≤ l[k] ∧ l[k] ≤ 1000) ∧ (∀ y ∈ x, -1000 ≤ y ∧ y ≤ 1000) := by
  unfold optB vecB at h
  simp only [Bool.and_eq_true, decide_eq_true_eq] at h
  obtain ⟨⟨h1, _⟩, ⟨h2, h3⟩, h4⟩ := h
  obtain ⟨N, rfl, hN5, hl2, hl32, hlb⟩ := fun_nat (grOk h1)
  have : x.length = N := by omega
  unfold allIn at h3
  rw [List.all_eq_true] at h3
  exact ⟨h2, h4.symm, by rw [this]; exact hl2, hl32, hlb, fun y hy => inB_true.1 (h3 y hy)⟩
theorem cornerTo_bd (l o : List Int) (hl : l.length = 2 ^ o.length) (hlb : ∀ k, (hk : k < l.length) → -1000 ≤ l[k] ∧ l[k] ≤ 1000) (ho : ∀ x ∈ o, 0 ≤ x ∧ x < o.length) : ∀ k, k ≤ o.length → ∀ y ∈ cornerTo l o k, -2000 ≤ y ∧ y ≤ 2000 := by
  intro k
  induction k with
  | zero =>
    intro _ y hy
    rw [cornerTo] at hy
    have := List.eq_of_mem_replicate hy
    omega
  | succ k ih =>
    intro hk y hy
    rw [cornerTo] at hy
    rcases List.mem_or_eq_of_mem_set hy with hy | hy
    · exact ih (by omega) y hy
    · have hm := ho _ (List.getElem_mem (show k < o.length by omega))
      have hg : o.getD k 0 = o[k] := by rw [List.getD_eq_getElem?_getD, List.getElem?_eq_getElem (by omega)]; rfl
      have hp := prefS_lt o o.length k ho (by omega)
      rw [hg] at hy
      have hse := setBit_lt (prefS o k) o[k].toNat o.length hp (by omega)
      rw [hy]
      exact gainL_bd l _ _ (by omega) (by omega) hlb
theorem mxX_bd {n : Int} {l x : List Int} (h : optB n l x = true) : (mxX l x).length = x.length ∧ ∀ k, (hk : k < (mxX l x).length) → -2000 ≤ (mxX l x)[k] ∧ (mxX l x)[k] ≤ 2000 := by
  obtain ⟨h5, _, hl, _, hlb, _⟩ := opt_fun h
  have ho := ordN_len x x.length
  refine ⟨?_, fun k hk => cornerTo_bd l _ (by rw [ho]; exact hl) hlb (by rw [ho]; exact ordN_mem x x.length) _ (Nat.le_refl _) _ (List.getElem_mem hk)⟩
  unfold mxX cornerL
  rw [cornerTo_len, ho]

def bestL (n : Int) (l x : List Int) : List Int := if optB n l x then ordN x x.length else []
end Go.Proofs.Ytgdkeaooipmgbaa
end
