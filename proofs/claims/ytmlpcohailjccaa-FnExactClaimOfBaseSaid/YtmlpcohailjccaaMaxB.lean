/- The gains along an order: the second program. -/
import Derived.Test.YtmlpcohailjccaaOrders
import Derived.Test.YtmlpcohailjccaaOpt
import Derived.Test.YtmlpcohailjccaaDescI
import Derived.Test.YtmlpcohailjccaaProd
import Derived.Test.YtmlpcohailjccaaDescS
namespace Go.Proofs.Ytmlpcohailjccaa
open Go.RowKit Go.G5

set_option maxHeartbeats 1000000 in
set_option maxRecDepth 100000 in
theorem l8Corner_any (l o : List Int) (v u : Value) (w : World) (hv : Ints w v l) (hu : Ints w u o) (hn : o.length ≤ 5) (hl : l.length = 2 ^ o.length) (hlb : ∀ k, (hk : k < l.length) → -1000 ≤ l[k] ∧ l[k] ≤ 1000) (ho : ∀ x ∈ o, 0 ≤ x ∧ x < o.length) :
    Calls Try.prog 142 #[.agg #[.int .i64 (o.length : Int), v], u] w fun e w' => ∃ ad i c, e = .returned (.slice ad i c) ∧ OwnI 3 w.heap.size w' (.slice ad i c) (cornerL l o) ∧ Below w.heap.size w w' := by
  obtain ⟨a, b, off, c, rfl, hlen, hix, hc, hb⟩ := hu.view Try.prog 22 3 Try.underlying22 intElem
  obtain ⟨a2, b2, off2, c2, rfl, hlen2, hix2, hc2, hb2⟩ := hv.view Try.prog 22 3 Try.underlying22 intElem
  have hl32 : l.length ≤ 32 := by rw [hl]; exact Nat.pow_le_pow_right (by decide) hn
  have X0 := Box2.new w (o.length : Int) (.slice a2 l.length c2) 26
  have HL := Lib.hid hl
  have HLB := Lib.hid hlb
  have HO := Lib.hid ho
  clear hl hlb ho
  go_enter Try.func142, Try.ntmps142
  go_wp2_with (at_make; refine wpList_makeI rfl _ _ _ rfl 3 Try.underlying22 intElem o.length _ _ rfl rfl rfl rfl (by omega) ?_; intro w2 hown hg)
  have X2 := X0.grow hg (by simp)
  simp at hown
  clear X0 hg
  go_loopw [6, 7] (fun s i wr => ∃ k : Nat, k ≤ o.length ∧ i = .int .i64 k ∧ s = .int .i64 (prefS o k) ∧ OwnI 3 (w.heap.size + 1) wr (.slice (some ⟨w.heap.size + 1, 0, none⟩) o.length o.length) (cornerTo l o k) ∧ Box2 w wr (o.length : Int) (.slice a2 l.length c2))
    (fun _ i _ => o.length - (intOf i).toNat)
  case atStart => exact ⟨0, Nat.zero_le _, rfl, rfl, hown, X2⟩
  case round =>
    obtain ⟨k, hk, rfl, rfl, ow, X⟩ := hrel
    clear hown X2
    have HW := Lib.hid ow
    clear ow
    obtain ⟨d0, d1, B1, z1⟩ := X
    by_cases hlt : k < o.length
    · have hck := cells_below hc hb B1 (Nat.le_refl _) k hlt
      have hik := fun W => hix W k hlt
      have hm := HO.out _ (List.getElem_mem hlt)
      obtain ⟨e, he⟩ : ∃ e : Nat, o[k] = (e : Int) := ⟨o[k].toNat, by omega⟩
      rw [he] at hck
      have heo : e < o.length := by omega
      have hgd : (o.getD k 0).toNat = e := by rw [List.getD_eq_getElem?_getD, List.getElem?_eq_getElem hlt, Option.getD_some, he]; omega
      have hpl := prefS_lt o o.length k HO.out hk
      rw [← HL.out] at hpl
      have hse : setBit (prefS o k) e < l.length := by rw [HL.out] at hpl ⊢; exact setBit_lt _ _ _ hpl heo
      have hpk : prefS o (k + 1) = setBit (prefS o k) e := by rw [prefS, hgd]
      have hck1 : cornerTo l o (k + 1) = (cornerTo l o k).set e (gainL l (prefS o k) e) := by rw [cornerTo, hgd]
      have hgb := gainL_bd l (prefS o k) e hpl hse HLB.out
      obtain ⟨p, hp⟩ : ∃ p, p = prefS o k := ⟨_, rfl⟩
      rw [← hp] at hpl hse hpk hck1 hgb ⊢
      have hor := setBit_is p e (by omega) (by omega)
      have hp64 := two_pow e 6 (by omega)
      have hp1 : (2 : Int) ^ e ≤ 64 := by simpa using hp64.1
      have hp2 := hp64.2
      have hc2q := cells_below hc2 hb2 B1 (Nat.le_refl _) _ hse
      have hc2p := cells_below hc2 hb2 B1 (Nat.le_refl _) p hpl
      have i2q := fun W => hix2 W _ hse
      have i2p := fun W => hix2 W p hpl
      have hgl : gainL l p e = l[setBit p e] - l[p] := by
        unfold gainL
        rw [List.getD_eq_getElem?_getD, List.getD_eq_getElem?_getD, List.getElem?_eq_getElem hse, List.getElem?_eq_getElem hpl]; rfl
      obtain ⟨q, hq⟩ : ∃ q, q = setBit p e := ⟨_, rfl⟩
      obtain ⟨y1, hy1⟩ : ∃ y, y = l[setBit p e] := ⟨_, rfl⟩
      obtain ⟨y2, hy2⟩ : ∃ y, y = l[p] := ⟨_, rfl⟩
      rw [← hy1] at hc2q hgl
      rw [← hy2] at hc2p hgl
      rw [← hq] at hor hc2q i2q hpk
      rw [hgl] at hgb hck1
      have hw : IntKind.i64.wrap (y1 - y2) = y1 - y2 := by rw [IntKind.wrap_i64]; omega
      have HPK := Lib.hid hpk
      have HCK := Lib.hid hck1
      have hlen3 : o.length = (cornerTo l o k).length := (cornerTo_len l o k).symm
      have hcell : ∃ q, wr.cell? ⟨w.heap.size + 1, e, none⟩ = some q := ⟨_, HW.out.cellAt hlen3 e (by omega)⟩
      obtain ⟨qq, hcell⟩ := hcell
      have hfr := HW.out.frozenAt hlen3 e
      have he0 : (0 : Int) ≤ (e : Int) := Int.natCast_nonneg _
      have heo1 : (e : Int) < (o.length : Int) := by omega
      clear hp he hgd hpk hck1 hm hlen3 hp64 hq hy1 hy2 hgl hse hix hix2 hc hc2
      go_wp2
      go_region
      all_goals go_wp2
      have ow3 := fun z => ((HW.out.drewN z).stored (cornerTo_len l o k).symm e (y1 - y2) ⟨by omega, by omega⟩)
      have X3 := fun z => ((Box2.mk d0 d1 B1 z1).drewN z).grow (ow3 z).2 (by simp)
      go_roundw
      case rel => exact ⟨k + 1, by omega, by go_num, by rw [HPK.out], by rw [HCK.out]; exact (ow3 _).1, X3 _⟩
      case measure => simp [intOf]; omega
    · have hko : k = o.length := by omega
      subst hko
      go_wp2
      go_ret
      exact ⟨_, _, _, rfl, HW.out.mono (by omega), B1⟩

def mxX (l x : List Int) : List Int := cornerL l (ordN x x.length)
def maxN (n : Int) (l x : List Int) : Int := if optB n l x then prodTo x (mxX l x) x.length else 0
def maxL (n : Int) (l x : List Int) : List Int := if optB n l x then mxX l x else []
theorem opt_fun {n : Int} {l x : List Int} (h : optB n l x = true) : x.length ≤ 5 ∧ n = (x.length : Int) ∧ l.length = 2 ^ x.length ∧ l.length ≤ 32 ∧ (∀ k, (hk : k < l.length) → -1000 ≤ l[k] ∧ l[k] ≤ 1000) ∧ (∀ y ∈ x, -1000 ≤ y ∧ y ≤ 1000) := by
  unfold optB vecB at h
  simp only [Bool.and_eq_true, decide_eq_true_eq] at h
  obtain ⟨⟨h1, _⟩, ⟨h2, h3⟩, h4⟩ := h
  obtain ⟨N, rfl, hN5, hl2, hl32, hlb⟩ := fun_nat (grOk h1)
  have : x.length = N := by omega
  unfold allIn at h3
  rw [List.all_eq_true] at h3
  exact ⟨h2, h4.symm, by rw [this]; exact hl2, hl32, hlb, fun y hy => inB_true.1 (h3 y hy)⟩
theorem cornerTo_bd (l o : List Int) (hl : l.length = 2 ^ o.length) (hlb : ∀ k, (hk : k < l.length) → -1000 ≤ l[k] ∧ l[k] ≤ 1000) (ho : ∀ x ∈ o, 0 ≤ x ∧ x < o.length) : ∀ k, k ≤ o.length → ∀ y ∈ cornerTo l o k, -2000 ≤ y ∧ y ≤ 2000 := by
  intro k
  induction k with
  | zero =>
    intro _ y hy
    rw [cornerTo] at hy
    have := List.eq_of_mem_replicate hy
    omega
  | succ k ih =>
    intro hk y hy
    rw [cornerTo] at hy
    rcases List.mem_or_eq_of_mem_set hy with hy | hy
    · exact ih (by omega) y hy
    · have hm := ho _ (List.getElem_mem (show k < o.length by omega))
      have hg : o.getD k 0 = o[k] := by rw [List.getD_eq_getElem?_getD, List.getElem?_eq_getElem (by omega)]; rfl
      have hp := prefS_lt o o.length k ho (by omega)
      rw [hg] at hy
      have hse := setBit_lt (prefS o k) o[k].toNat o.length hp (by omega)
      rw [hy]
      exact gainL_bd l _ _ (by omega) (by omega) hlb
theorem mxX_bd {n : Int} {l x : List Int} (h : optB n l x = true) : (mxX l x).length = x.length ∧ ∀ k, (hk : k < (mxX l x).length) → -2000 ≤ (mxX l x)[k] ∧ (mxX l x)[k] ≤ 2000 := by
  obtain ⟨h5, _, hl, _, hlb, _⟩ := opt_fun h
  have ho := ordN_len x x.length
  refine ⟨?_, fun k hk => cornerTo_bd l _ (by rw [ho]; exact hl) hlb (by rw [ho]; exact ordN_mem x x.length) _ (Nat.le_refl _) _ (List.getElem_mem hk)⟩
  unfold mxX cornerL
  rw [cornerTo_len, ho]

set_option maxHeartbeats 1000000 in
set_option maxRecDepth 100000 in
theorem maximumForI_c (w : World) (n : Int) (v : Value) (l : List Int) (hv : Ints w v l) (hl : l.length ≤ 1048576) (u : Value) (x : List Int) (hu : Ints w u x) :
    Calls Try.prog 86 #[.agg #[.int .i64 n, v], u] w fun e w' => ∃ ad i cp, e = .returned (.tuple #[.int .i64 (maxN n l x), .slice ad i cp, .bool (optB n l x)]) ∧ OwnI 3 w.heap.size w' (.slice ad i cp) (maxL n l x) ∧ Below w.heap.size w w' := by
  obtain ⟨a, c, rfl⟩ := hv.shape
  obtain ⟨b, d, rfl⟩ := hu.shape
  obtain ⟨V, hV⟩ : ∃ V, V = w.alloc (.cells #[.int .i64 n, .slice a l.length c] 26) := ⟨_, rfl⟩
  have B : Below w.heap.size w V := by rw [hV]; exact bl1 _ _
  have K : Blk V w.heap.size 26 #[.int .i64 n, .slice a l.length c] := by rw [hV]; exact Blk.new _ _ _
  go_enter Try.func86, Try.ntmps86
  go_wp2_with fail
  rw [← hV]
  clear hV
  refine (canOptI_any V n _ l (hv.below B (Nat.le_refl _)) hl _ x (hu.below B (Nat.le_refl _))).mono ?_
  rintro e w1 ⟨rfl, b1⟩
  have K := K.keep b1
  have B := B.after b1 B.size
  cases hf : optB n l x with
  | false =>
    have hN : maxN n l x = 0 := by unfold maxN; rw [hf]; rfl
    have hL : maxL n l x = [] := by unfold maxL; rw [hf]; rfl
    have H := Lib.hid (And.intro hN (And.intro hL hf))
    clear hN hL hf
    go_wp2
    exact bodyPost_ret (v := .tuple #[.int .i64 0, .slice none 0 0, .bool false]) (by simp [results, Try.results86, go_sem]) rfl ⟨none, 0, 0, by rw [H.out.1, H.out.2.2], by rw [H.out.2.1]; exact OwnI.nil _ _ _, B⟩
  | true =>
    have hN : maxN n l x = prodTo x (mxX l x) x.length := by unfold maxN; rw [hf]; rfl
    have hL : maxL n l x = mxX l x := by unfold maxL; rw [hf]; rfl
    obtain ⟨h5, rfl, hl2, hl32, hlb, hxb⟩ := opt_fun hf
    obtain ⟨hml, hmb⟩ := mxX_bd hf
    have H := Lib.hid (And.intro hN (And.intro hL hf))
    have hxk : ∀ k, (hk : k < x.length) → -1000 ≤ x[k] ∧ x[k] ≤ 1000 := fun k hk => hxb _ (List.getElem_mem hk)
    have ho := ordN_len x x.length
    have hcl : ∀ W p i q, Ints W (.slice a l.length c) l → Ints W (.slice p i q) (ordN x x.length) → Calls Try.prog 150 #[.agg #[.int .i64 (x.length : Int), .slice a l.length c], .slice p i q] W fun e w' => ∃ ad i c, e = .returned (.slice ad i c) ∧ OwnI 3 W.heap.size w' (.slice ad i c) (mxX l x) ∧ Below W.heap.size W w' :=
      fun W p i q h1 h2 => corner_any _ l _ _ _ W h1 h2 (by rw [ho]; exact h5) (by rw [ho]; exact hl2) hlb (by rw [ho]; exact ordN_mem x x.length)
    have hvd : Ints w1.drew (.slice a l.length c) l := (hv.below B (Nat.le_refl _)).drew'
    have hud : Ints w1.drew (.slice b x.length d) x := (hu.below B (Nat.le_refl _)).drew'
    have HD := Lib.hid (descending_any x _ w1.drew h5 hud hxb)
    have HC := Lib.hid hcl
    have HPR := Lib.hid (fun (W : World) (u : Value) (h1 : Ints W (.slice b x.length d) x) (h2 : Ints W u (mxX l x)) => product_any x (mxX l x) _ u W h1 h2 h5 hml hxk hmb)
    have Kd : Blk w1.drew w.heap.size 26 #[.int .i64 (x.length : Int), .slice a l.length c] := K
    have Bd : Below w.heap.size w w1.drew := B.drew
    clear hN hL hf hl2 hl32 hlb hxb hml hmb hxk ho hcl
    have G := K.cell
    go_wp2_with fail
    go_region_law
      (first
        | (go_simp; go_at_call 151; with_reducible refine HD.out.mono ?_; rintro e w5 ⟨p5, i5, q5, rfl, o5, b5⟩; have K5 := Kd.keep b5; have G5 := K5.cell)
        | (go_simp; go_at_call 150; with_reducible refine (HC.out w5 p5 i5 q5 (hvd.keep b5) o5.ints).mono ?_; rintro e w6 ⟨p6, i6, q6, rfl, o6, b6⟩))
    all_goals
      have B5 := Bd.after b5 Bd.size
      have B6 := B5.after b6 B5.size
      go_wp2_with (go_at_call 152; refine (HPR.out w6 _ (hu.below B6 (Nat.le_refl _)) o6.ints).mono ?_; rintro e w7 ⟨rfl, b7⟩)
      exact bodyPost_ret (v := .tuple #[.int .i64 (prodTo x (mxX l x) x.length), .slice p6 i6 q6, .bool true]) (by simp [results, Try.results86, go_sem]) rfl ⟨p6, i6, q6, by rw [H.out.1, H.out.2.2], by rw [H.out.2.1]; exact (o6.keep b7).mono B5.size, B6.after b7 B6.size⟩

def bestL (n : Int) (l x : List Int) : List Int := if optB n l x then ordN x x.length else []
set_option maxHeartbeats 1000000 in
theorem bestOrderS_any (w : World) (n : Int) (v : Value) (l : List Int) (hv : Ints w v l) (hl : l.length ≤ 1048576) (u : Value) (x : List Int) (hu : Ints w u x) :
    Calls Try.prog 141 #[.agg #[.int .i64 n, v], u] w fun e w' => ∃ ad i cp, e = .returned (.tuple #[.slice ad i cp, .bool (optB n l x)]) ∧ OwnI 3 w.heap.size w' (.slice ad i cp) (bestL n l x) ∧ Below w.heap.size w w' := by
  obtain ⟨a, c, rfl⟩ := hv.shape
  obtain ⟨b, d, rfl⟩ := hu.shape
  obtain ⟨V, hV⟩ : ∃ V, V = w.alloc (.cells #[.int .i64 n, .slice a l.length c] 26) := ⟨_, rfl⟩
  have B : Below w.heap.size w V := by rw [hV]; exact bl1 _ _
  go_enter Try.func141, Try.ntmps141
  go_wp2_with fail
  rw [← hV]
  clear hV
  refine (l9Fit_any V n _ l (hv.below B (Nat.le_refl _)) hl _ x (hu.below B (Nat.le_refl _))).mono ?_
  rintro e w1 ⟨rfl, b1⟩
  have B := B.after b1 B.size
  cases hf : optB n l x with
  | false =>
    have hL : bestL n l x = [] := by unfold bestL; rw [hf]; rfl
    have H := Lib.hid (And.intro hL hf)
    clear hL hf
    go_wp2
    go_ret2
    exact ⟨some ⟨w1.heap.size, 0, none⟩, 0, 0, by rw [H.out.2]; rfl, by rw [H.out.1]; exact OwnI.lit0 _ B.size, B.after (bl1 _ _) B.size⟩
  | true =>
    have hvx : vecB x = true := by
      unfold optB at hf
      simp only [Bool.and_eq_true] at hf
      exact hf.2.1
    have hL : bestL n l x = ordL x := by unfold bestL ordL; rw [hf, hvx]
    have H := Lib.hid (And.intro hL hf)
    have HO := Lib.hid (orderForS_any x _ w1 (hu.below B (Nat.le_refl _)))
    rw [hvx] at HO
    clear hL hf hvx
    go_wp2_with (go_at_call 168; refine HO.out.mono ?_; rintro e w2 ⟨p, i, q, rfl, o, b2⟩)
    go_ret2
    exact ⟨p, i, q, by rw [H.out.2]; rfl, by rw [H.out.1]; exact o.mono B.size, B.after b2 B.size⟩

set_option maxHeartbeats 1000000 in
set_option maxRecDepth 100000 in
theorem maximumForS_c (w : World) (n : Int) (v : Value) (l : List Int) (hv : Ints w v l) (hl : l.length ≤ 1048576) (u : Value) (x : List Int) (hu : Ints w u x) :
    Calls Try.prog 83 #[.agg #[.int .i64 n, v], u] w fun e w' => ∃ ad i cp, e = .returned (.tuple #[.int .i64 (maxN n l x), .slice ad i cp, .bool (optB n l x)]) ∧ OwnI 3 w.heap.size w' (.slice ad i cp) (maxL n l x) ∧ Below w.heap.size w w' := by
  obtain ⟨a, c, rfl⟩ := hv.shape
  obtain ⟨b0, b, off, d, rfl, hlen, hix, hc, hb⟩ := hu.view Try.prog 22 3 Try.underlying22 intElem
  obtain ⟨V, hV⟩ : ∃ V, V = w.alloc (.cells #[.int .i64 n, .slice a l.length c] 26) := ⟨_, rfl⟩
  have B : Below w.heap.size w V := by rw [hV]; exact bl1 _ _
  have K : Blk V w.heap.size 26 #[.int .i64 n, .slice a l.length c] := by rw [hV]; exact Blk.new _ _ _
  go_enter Try.func83, Try.ntmps83
  go_wp2_with fail
  rw [← hV]
  clear hV
  refine (bestOrderS_any V n _ l (hv.below B (Nat.le_refl _)) hl _ x (hu.below B (Nat.le_refl _))).mono ?_
  rintro e w1 ⟨p1, i1, q1, rfl, o1, b1⟩
  have K := K.keep b1
  have B := B.after b1 B.size
  cases hf : optB n l x with
  | false =>
    have hN : maxN n l x = 0 := by unfold maxN; rw [hf]; rfl
    have hL : maxL n l x = [] := by unfold maxL; rw [hf]; rfl
    have H := Lib.hid (And.intro hN (And.intro hL hf))
    clear hN hL hf
    go_wp2
    exact bodyPost_ret (v := .tuple #[.int .i64 0, .slice (some ⟨w1.heap.size, 0, none⟩) 0 0, .bool false]) (by simp [results, Try.results83, go_sem]) rfl ⟨_, _, _, by rw [H.out.1, H.out.2.2], by rw [H.out.2.1]; exact OwnI.lit0 _ B.size, B.after (bl1 _ _) B.size⟩
  | true =>
    have hN : maxN n l x = prodTo x (mxX l x) x.length := by unfold maxN; rw [hf]; rfl
    have hL : maxL n l x = mxX l x := by unfold maxL; rw [hf]; rfl
    have hbl : bestL n l x = ordN x x.length := by unfold bestL; rw [hf]; rfl
    rw [hbl] at o1
    obtain ⟨h5, rfl, hl2, hl32, hlb, hxb⟩ := opt_fun hf
    obtain ⟨hml, hmb⟩ := mxX_bd hf
    have H := Lib.hid (And.intro hN (And.intro hL hf))
    have hxk : ∀ k, (hk : k < x.length) → -1000 ≤ x[k] ∧ x[k] ≤ 1000 := fun k hk => hxb _ (List.getElem_mem hk)
    have ho := ordN_len x x.length
    have hcl := l8Corner_any l (ordN x x.length) _ _ w1 (hv.below B (Nat.le_refl _)) o1.ints (by rw [ho]; exact h5) (by rw [ho]; exact hl2) hlb (by rw [ho]; exact ordN_mem x x.length)
    rw [ho] at hcl
    have HC := Lib.hid hcl
    have HB := Lib.hid (prodTo_bd x (mxX l x) hml hxk hmb)
    have HX := Lib.hid (And.intro hxk hmb)
    have HML := Lib.hid hml
    have hmx : cornerL l (ordN x x.length) = mxX l x := rfl
    have HMX := Lib.hid hmx
    clear hN hL hf hl2 hl32 hlb hxb hml hmb hxk ho hcl hbl hmx
    have G := K.cell
    go_wp2_with fail
    clear G
    refine HC.out.mono ?_
    rintro e w2 ⟨p2, i2, q2, rfl, o2, b2⟩
    rw [HMX.out] at o2
    clear HMX HC
    have hyv := o2.ints
    obtain ⟨a', b', off', c', hs', hlen', hix', hc', hb'⟩ := o2.ints.view Try.prog 22 3 Try.underlying22 intElem
    injection hs' with h1 h2 h3
    subst h1 h3
    rw [HML.out] at h2
    subst h2
    rw [HML.out] at hix'
    have B2 := B.after b2 B.size
    have o2m := o2.mono (B' := w.heap.size) B.size
    have HO2 := Lib.hid o2m
    clear o2 o2m hyv
    go_wp2_with fail
    go_loopw [10, 11] (fun sm i wr => ∃ k : Nat, k ≤ x.length ∧ i = .int .i64 k ∧ sm = .int .i64 (prodTo x (mxX l x) k) ∧ Below w2.heap.size w2 wr) (fun _ i _ => x.length - (intOf i).toNat)
    case atStart => exact ⟨0, Nat.zero_le _, rfl, rfl, Below.refl _ _⟩
    case round =>
      obtain ⟨k, hk, rfl, rfl, Bk⟩ := hrel
      have hbd := HB.out k hk
      have hle := HML.out
      by_cases hlt : k < x.length
      · have hlt2 : (k : Int) < (x.length : Int) := by omega
        have hky : k < (mxX l x).length := by omega
        have ck := cells_below hc hb (B2.after Bk B2.size) (Nat.le_refl _) k hlt
        have ck' := cells_below hc' hb' Bk (Nat.le_refl _) k hky
        have ik := fun W => hix W k hlt
        have ik' := fun W => hix' W k hlt
        have hm := mul_bd _ _ (HX.out.1 k hlt) (HX.out.2 k hky)
        have hs : prodTo x (mxX l x) (k + 1) = prodTo x (mxX l x) k + x[k] * (mxX l x)[k]'hky := by rw [prodTo, getD_at x k hlt, getD_at (mxX l x) k hky]
        obtain ⟨p, hp⟩ : ∃ p, p = x[k] := ⟨_, rfl⟩
        obtain ⟨q, hq⟩ : ∃ q, q = (mxX l x)[k]'hky := ⟨_, rfl⟩
        obtain ⟨S, hS⟩ : ∃ S, S = prodTo x (mxX l x) k := ⟨_, rfl⟩
        rw [← hp] at ck hm hs
        rw [← hq] at ck' hm hs
        rw [← hS] at hbd hs ⊢
        have HS := Lib.hid hs
        clear hp hq hS hs hc hc' hix hix' hle
        go_wp2_with fail
        go_quiet (fail)
        go_wp2
        go_roundw
        case rel => exact ⟨k + 1, by omega, by go_num, by rw [HS.out], Bk.drewN' _⟩
        case measure => simp [intOf]; omega
      · have hlt2 : ¬ (k : Int) < (x.length : Int) := by omega
        have hkl : k = x.length := by omega
        have HK := Lib.hid hkl
        clear hkl hle
        go_wp2
        exact bodyPost_ret (v := .tuple #[.int .i64 (prodTo x (mxX l x) k), .slice p2 x.length q2, .bool true]) (by simp [results, Try.results83, go_sem]) rfl ⟨p2, x.length, q2, by rw [H.out.1, H.out.2.2, ← HK.out], by rw [H.out.2.1]; exact HO2.out.keep Bk, B2.after Bk B2.size⟩
end Go.Proofs.Ytmlpcohailjccaa
