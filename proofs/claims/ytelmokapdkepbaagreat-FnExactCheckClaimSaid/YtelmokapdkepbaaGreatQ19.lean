/- The order of a vector's elements: the second program. Sums of products. Least values and where they are taken. -/
import Derived.Test.YtelmokapdkepbaaGreatQ18
import Derived.Deep.RegionHeld3
import Derived.Deep.AppendLies
section
namespace Go.Proofs.YtelmokapdkepbaaGreat
open Go.RowKit Go.G5

def ordL (x : List Int) : List Int := if vecB x then ordN x x.length else []
set_option maxHeartbeats 4000000 in
set_option maxRecDepth 100000 in
theorem orderForS_any (x : List Int) (v : Value) (w : World) (hv : Ints w v x) :
    Calls Tryz.prog 82 #[v] w fun e w' => ∃ ad i cp, e = .returned (.tuple #[.slice ad i cp, .bool (vecB x)]) ∧ OwnI 3 w.heap.size w' (.slice ad i cp) (ordL x) ∧ Below w.heap.size w w' := by
  obtain ⟨W0, hW0⟩ : ∃ W, W = w.alloc (.cells #[] 3) := ⟨_, rfl⟩
  have B0 : Below w.heap.size w W0 := by rw [hW0]; exact bl1 _ _
  have o0 : OwnI 3 w.heap.size W0 (.slice (some ⟨w.heap.size, 0, none⟩) 0 0) [] := by rw [hW0]; exact OwnI.lit0 w (Nat.le_refl _)
  have HV7 := Lib.hid (l7Vector_any x v W0 (hv.below B0 (Nat.le_refl _)))
  obtain ⟨a0, b0, off0, c0, rfl, hlen0, hix0, hc0, hb0⟩ := hv.view Tryz.prog 22 3 Tryz.underlying22 intElem
  cases hvb : vecB x with
  | false =>
    have hx : ordL x = [] := by unfold ordL; rw [hvb]; rfl
    have HX := Lib.hid hx
    rw [hvb] at HV7
    clear hx hvb
    go_enter Tryz.func82, Tryz.ntmps82
    go_wp2_with fail
    rw [← hW0]
    clear hW0
    refine HV7.out.mono ?_
    rintro e w1 ⟨rfl, rfl⟩
    go_wp2
    go_ret2
    exact ⟨_, _, _, rfl, by rw [HX.out]; exact o0, B0⟩
  | true =>
    have hx : ordL x = ordN x x.length := by unfold ordL; rw [hvb]; rfl
    have h5 : x.length ≤ 5 := by unfold vecB at hvb; exact of_decide_eq_true (Bool.and_eq_true_iff.1 hvb).1
    have HX := Lib.hid hx
    rw [hvb] at HV7
    clear hx hvb
    go_enter Tryz.func82, Tryz.ntmps82
    go_wp2_with fail
    rw [← hW0]
    clear hW0
    refine HV7.out.mono ?_
    rintro e w1 ⟨rfl, rfl⟩
    go_wp2_with fail
    go_loopw [4, 5] (fun out i wr => ∃ (k : Nat) (ad : Option Addr) (nn cp : Nat), out = .slice ad nn cp ∧ i = .int .i64 k ∧ k ≤ x.length ∧ OwnI 3 w.heap.size wr (.slice ad nn cp) (ordN x k) ∧ Below w.heap.size w wr) (fun _ i _ => x.length - (intOf i).toNat)
    case atStart => exact ⟨0, _, _, _, rfl, rfl, by omega, o0, B0⟩
    case round =>
      obtain ⟨i, ad, nn, cp, rfl, rfl, hi, ho, B⟩ := hrel
      clear o0 B0
      by_cases hlt : i < x.length
      · have hlt2 : (i : Int) < (x.length : Int) := by omega
        obtain ⟨l, hl⟩ : ∃ l, l = ordN x i := ⟨_, rfl⟩
        have hll : l.length = i := by rw [hl, ordN_len]
        rw [← hl] at ho
        have hor : ordN x (i + 1) = insO l i (scanO x l (x.getD i 0) i) := by rw [hl]; rfl
        have hat : ∀ k, k < i → ∃ e : Nat, e < i ∧ l[k]? = some (e : Int) := by rw [hl]; exact fun k hk => ordN_at x i k hk
        obtain ⟨a, c, hsh⟩ := ho.shape
        injection hsh with h1 h2 h3
        subst h1 h2 h3
        have HO := Lib.hid ho
        have HAT := Lib.hid hat
        have ORD := Lib.hid hor
        have HLL := Lib.hid hll
        clear hl hor hat hll ho
        obtain ⟨wo, rfl⟩ : ∃ wo : World, wo = wr := ⟨_, rfl⟩
        go_wp2_with fail
        go_loopw [6] (fun j wi => ∃ k : Nat, j = .int .i64 k ∧ k ≤ i ∧ scanO x l (x.getD i 0) k = scanO x l (x.getD i 0) i ∧ OwnI 3 w.heap.size wi (.slice ad l.length cp) l ∧ Below w.heap.size w wi) (fun j _ => (intOf j).toNat)
        case atStart => exact ⟨l.length, rfl, by rw [HLL.out]; exact Nat.le_refl _, by rw [HLL.out], HO.out, B⟩
        case round =>
          obtain ⟨k, rfl, hki, hsc, oi, Bi⟩ := hrel
          clear B HO
          have HS := Lib.hid hsc
          have hlli := HLL.out
          have hkl : k ≤ l.length := by omega
          have hl5 : l.length ≤ 5 := by omega
          have hir : InR (i : Int) := ⟨by omega, by omega⟩
          obtain ⟨u1, u2⟩ := oi.ints.upto 22 3 Tryz.underlying22 intElem k hkl
          obtain ⟨a', c', d1, d2⟩ := oi.ints.from 22 3 Tryz.underlying22 intElem k hkl
          have zk : (l.take k).length = k := by rw [List.length_take, Nat.min_eq_left hkl]
          have zd : (l.drop k).length = l.length - k := List.length_drop
          rw [zd] at d1 d2
          clear zk zd hsc hlli
          by_cases hz : (0 : Int) < k
          · have hzn : 0 < k := by omega
            obtain ⟨e0, he0, hek⟩ := HAT.out (k - 1) (by omega)
            obtain ⟨hk1l, hkv⟩ := List.getElem?_eq_some_iff.1 hek
            obtain ⟨a1, b1, off1, c1, hs1, hlen1, hix1, hc1, hb1⟩ := oi.ints.view Tryz.prog 22 3 Tryz.underlying22 intElem
            injection hs1 with h1 h2 h3
            subst h1 h3
            have ck := hc1 (k - 1) hk1l
            rw [hkv] at ck
            have ik := fun W => hix1 W (k - 1) hk1l
            have he0x : e0 < x.length := by omega
            have xe := cells_below hc0 hb0 Bi (Nat.le_refl _) e0 he0x
            have xi := cells_below hc0 hb0 Bi (Nat.le_refl _) i hlt
            have ixe := fun W => hix0 W e0 he0x
            have ixi := fun W => hix0 W i hlt
            have ge : x.getD e0 0 = x[e0] := getD_at x e0 he0x
            have gi : x.getD i 0 = x[i] := getD_at x i hlt
            have hgd : l.getD (k - 1) 0 = (e0 : Int) := by rw [List.getD_eq_getElem?_getD, hek]; rfl
            have hscan : scanO x l (x.getD i 0) k = if x.getD e0 0 < x.getD i 0 then scanO x l (x.getD i 0) (k - 1) else k := by
              obtain ⟨z, rfl⟩ : ∃ z, k = z + 1 := ⟨k - 1, by omega⟩
              rw [scanO]
              simp only [Nat.add_sub_cancel] at hgd ⊢
              rw [hgd]
              rfl
            obtain ⟨p, hp⟩ : ∃ p, p = x[e0] := ⟨_, rfl⟩
            obtain ⟨q, hq⟩ : ∃ q, q = x[i] := ⟨_, rfl⟩
            rw [← hp] at xe ge
            rw [← hq] at xi gi
            rw [ge, gi] at hscan
            rw [gi] at HS
            have ORD2 := ORD.out
            rw [gi] at ORD2
            have ORD := Lib.hid ORD2
            have HSC := Lib.hid hscan
            have HGI := Lib.hid gi
            have hk1 : IntKind.i64.wrap ((k : Int) - 1) = ((k - 1 : Nat) : Int) := by rw [IntWalk.i64_in _ ⟨by omega, by omega⟩]; omega
            clear hscan ge gi hgd hp hq ORD2 hix1 hc1 hek hkv
            by_cases hlt3 : p < q
            · have HLT := Lib.hid hlt3
              go_wp2
              go_quiet (fail)
              go_wp2
              go_roundw
              case rel => exact ⟨k - 1, by go_num, by omega, by rw [HGI.out, ← HS.out, HSC.out, if_pos HLT.out], oi.drewN _, Bi.drewN' _⟩
              case measure => simp [intOf]; omega
            · have hke : scanO x l q k = k := by rw [HSC.out, if_neg hlt3]
              have KE := Lib.hid hke
              clear hke
              go_wp2
              go_quiet (fail)
              go_wp2
              have u2 := u2.drewN nq
              have d2 := d2.drewN nq
              have Bi := Bi.drewN' nq
              obtain ⟨wi, hwi⟩ : ∃ W, W = wr.drewN nq := ⟨_, rfl⟩
              rw [← hwi] at u2 d2 Bi ⊢
              clear hwi oi
              go_region_held3 (fun _ => True) (trivial)
                (first
                  | (refine step_put rfl _ _ _ rfl 3 Tryz.underlying22 intElem wi.heap.size (.slice (some ⟨_, 0, none⟩) 0 0) [] rfl (.slice ad k cp) (l.take k) rfl ?_ ?_ ?_ wi ?_ (Nat.le_refl _) ?_; (first | (with_reducible exact (OwnI.lit0 wi (Nat.le_refl _)).drew') | (with_reducible exact ((OwnI.lit0 wi (Nat.le_refl _)).alloc _).drew') | (with_reducible exact (OwnI.lit0' wi _).drew')); (first | (with_reducible exact (u2.alloc _).drew') | (with_reducible exact ((u2.alloc _).alloc _).drew')); (simp; omega); (first | (with_reducible exact (bl1 wi _).drew) | (with_reducible exact (bl2 wi _ _).drew)); (intro v1 w1 o1 b1 pc))
                  | (refine step_put rfl _ _ _ rfl 3 Tryz.underlying22 intElem wi.heap.size v1 ([] ++ l.take k) rfl (.slice (some ⟨_, 0, none⟩) 1 1) [(i : Int)] rfl ?_ ?_ ?_ wi ?_ (Nat.le_refl _) ?_; (first | (with_reducible exact o1) | (with_reducible exact o1.alloc _)); (refine Ints.one ?_ hir; first | (with_reducible exact cell_new _ _ _ _ _ rfl) | (with_reducible exact pc _ _ (cell_second _ _ _ _) (own_ne1 _ _ _)) | (with_reducible exact pc _ _ (cell_first _ _ _ _) (own_ne2 _ _ _))); (simp; omega); (first | (with_reducible exact b1) | (with_reducible exact b1.alloc b1.size _)); (intro v2 w2 o2 b2 _))
                  | (refine step_put rfl _ _ _ rfl 3 Tryz.underlying22 intElem wi.heap.size v2 (([] ++ l.take k) ++ [(i : Int)]) rfl (.slice a' (l.length - k) c') (l.drop k) rfl o2 (d2.below b2 (Nat.le_refl _)) ?_ wi b2 (Nat.le_refl _) ?_; (simp; omega); (intro v3 w3 o3 b3 _; obtain ⟨av, nv, cv, rfl⟩ := o3.shape3))
                )
              all_goals
                go_wp2
                have B3 := Bi.after b3 Bi.size
                go_roundw
                case rel => exact ⟨i + 1, av, nv, cv, rfl, by go_num, by omega, by rw [ORD.out, ← HS.out, KE.out]; exact o3.mono Bi.size, B3⟩
                case measure => simp [intOf]; omega
          · have hzn : ¬ 0 < k := by omega
            have hz2 : k = 0 := by omega
            have hke : scanO x l (x.getD i 0) k = k := by rw [hz2]; rfl
            have KE := Lib.hid hke
            clear hke hz2
            go_wp2
            go_quiet (fail)
            go_wp2
            have u2 := u2.drewN nq
            have d2 := d2.drewN nq
            have Bi := Bi.drewN' nq
            obtain ⟨wi, hwi⟩ : ∃ W, W = wr.drewN nq := ⟨_, rfl⟩
            rw [← hwi] at u2 d2 Bi ⊢
            clear hwi oi
            go_region_held3 (fun _ => True) (trivial)
              (first
                | (refine step_put rfl _ _ _ rfl 3 Tryz.underlying22 intElem wi.heap.size (.slice (some ⟨_, 0, none⟩) 0 0) [] rfl (.slice ad k cp) (l.take k) rfl ?_ ?_ ?_ wi ?_ (Nat.le_refl _) ?_; (first | (with_reducible exact (OwnI.lit0 wi (Nat.le_refl _)).drew') | (with_reducible exact ((OwnI.lit0 wi (Nat.le_refl _)).alloc _).drew') | (with_reducible exact (OwnI.lit0' wi _).drew')); (first | (with_reducible exact (u2.alloc _).drew') | (with_reducible exact ((u2.alloc _).alloc _).drew')); (simp; omega); (first | (with_reducible exact (bl1 wi _).drew) | (with_reducible exact (bl2 wi _ _).drew)); (intro v1 w1 o1 b1 pc))
                | (refine step_put rfl _ _ _ rfl 3 Tryz.underlying22 intElem wi.heap.size v1 ([] ++ l.take k) rfl (.slice (some ⟨_, 0, none⟩) 1 1) [(i : Int)] rfl ?_ ?_ ?_ wi ?_ (Nat.le_refl _) ?_; (first | (with_reducible exact o1) | (with_reducible exact o1.alloc _)); (refine Ints.one ?_ hir; first | (with_reducible exact cell_new _ _ _ _ _ rfl) | (with_reducible exact pc _ _ (cell_second _ _ _ _) (own_ne1 _ _ _)) | (with_reducible exact pc _ _ (cell_first _ _ _ _) (own_ne2 _ _ _))); (simp; omega); (first | (with_reducible exact b1) | (with_reducible exact b1.alloc b1.size _)); (intro v2 w2 o2 b2 _))
                | (refine step_put rfl _ _ _ rfl 3 Tryz.underlying22 intElem wi.heap.size v2 (([] ++ l.take k) ++ [(i : Int)]) rfl (.slice a' (l.length - k) c') (l.drop k) rfl o2 (d2.below b2 (Nat.le_refl _)) ?_ wi b2 (Nat.le_refl _) ?_; (simp; omega); (intro v3 w3 o3 b3 _; obtain ⟨av, nv, cv, rfl⟩ := o3.shape3))
              )
            all_goals
              go_wp2
              have B3 := Bi.after b3 Bi.size
              go_roundw
              case rel => exact ⟨i + 1, av, nv, cv, rfl, by go_num, by omega, by rw [ORD.out, ← HS.out, KE.out]; exact o3.mono Bi.size, B3⟩
              case measure => simp [intOf]; omega
      · have hlt2 : ¬ (i : Int) < (x.length : Int) := by omega
        have hil : i = x.length := by omega
        rw [hil, ← HX.out] at ho
        have HO := Lib.hid ho
        clear ho hil
        go_wp2
        go_ret2
        exact ⟨ad, nn, cp, rfl, HO.out, B⟩
end Go.Proofs.YtelmokapdkepbaaGreat
end
section
namespace Go.Proofs.YtelmokapdkepbaaGreat
open Go.RowKit Go.G5

def prodTo (x y : List Int) : Nat → Int
  | 0 => 0
  | k + 1 => prodTo x y k + x.getD k 0 * y.getD k 0
theorem mul_bd (p q : Int) (hp : -1000 ≤ p ∧ p ≤ 1000) (hq : -2000 ≤ q ∧ q ≤ 2000) : -2000000 ≤ p * q ∧ p * q ≤ 2000000 := by
  have h1 : (p * q).natAbs ≤ 1000 * 2000 := by
    rw [Int.natAbs_mul]
    exact Nat.mul_le_mul (by omega) (by omega)
  omega
theorem prodTo_bd (x y : List Int) (hl : y.length = x.length) (hx : ∀ k, (hk : k < x.length) → -1000 ≤ x[k] ∧ x[k] ≤ 1000) (hy : ∀ k, (hk : k < y.length) → -2000 ≤ y[k] ∧ y[k] ≤ 2000) : ∀ k, k ≤ x.length → -2000000 * (k : Int) ≤ prodTo x y k ∧ prodTo x y k ≤ 2000000 * (k : Int) := by
  intro k
  induction k with
  | zero => intro _; simp [prodTo]
  | succ k ih =>
    intro hk
    have h1 := ih (by omega)
    have h2 := mul_bd _ _ (hx k (by omega)) (hy k (by omega))
    rw [prodTo, getD_at x k (by omega), getD_at y k (by omega)]
    push_cast
    omega
set_option maxHeartbeats 1000000 in
theorem product_any (x y : List Int) (v u : Value) (w : World) (hv : Ints w v x) (hu : Ints w u y) (h5 : x.length ≤ 5) (hl : y.length = x.length) (hx : ∀ k, (hk : k < x.length) → -1000 ≤ x[k] ∧ x[k] ≤ 1000) (hy : ∀ k, (hk : k < y.length) → -2000 ≤ y[k] ∧ y[k] ≤ 2000) :
    Calls Tryz.prog 69 #[v, u] w fun e w' => e = .returned (.int .i64 (prodTo x y x.length)) ∧ Below w.heap.size w w' := by
  obtain ⟨a, b, off, c, rfl, hlen, hix, hc, hb⟩ := hv.view Tryz.prog 22 3 Tryz.underlying22 intElem
  obtain ⟨a', b', off', c', rfl, hlen', hix', hc', hb'⟩ := hu.view Tryz.prog 22 3 Tryz.underlying22 intElem
  have HB := Lib.hid (prodTo_bd x y hl hx hy)
  have HX := Lib.hid (And.intro hx hy)
  have HL := Lib.hid hl
  have hle : x.length ≤ y.length := by omega
  clear hx hy hl
  go_enter Tryz.func69, Tryz.ntmps69
  go_wp2_with fail
  go_loopw [5, 9] (fun sm i wr => ∃ k : Nat, k ≤ x.length ∧ i = .int .i64 k ∧ sm = .int .i64 (prodTo x y k) ∧ Below w.heap.size w wr) (fun _ i _ => x.length - (intOf i).toNat)
  case atStart => exact ⟨0, Nat.zero_le _, rfl, rfl, Below.refl _ _⟩
  case round =>
    obtain ⟨k, hk, rfl, rfl, B⟩ := hrel
    have hbd := HB.out k hk
    by_cases hlt : k < x.length
    · have hlt2 : (k : Int) < (x.length : Int) := by omega
      have ck := cells_below hc hb B (Nat.le_refl _) k hlt
      have ck' := cells_below hc' hb' B (Nat.le_refl _) k (by omega)
      have ik := fun W => hix W k hlt
      have ik' := fun W => hix' W k (by omega)
      have hm := mul_bd _ _ (HX.out.1 k hlt) (HX.out.2 k (by omega))
      have hs : prodTo x y (k + 1) = prodTo x y k + x[k] * y[k]'(by omega) := by rw [prodTo, getD_at x k hlt, getD_at y k (by omega)]
      obtain ⟨p, hp⟩ : ∃ p, p = x[k] := ⟨_, rfl⟩
      obtain ⟨q, hq⟩ : ∃ q, q = y[k]'(by omega) := ⟨_, rfl⟩
      obtain ⟨S, hS⟩ : ∃ S, S = prodTo x y k := ⟨_, rfl⟩
      rw [← hp] at ck hm hs
      rw [← hq] at ck' hm hs
      rw [← hS] at hbd hs ⊢
      have HS := Lib.hid hs
      clear hp hq hS hs hc hc' hix hix'
      go_wp2_with fail
      go_quiet (fail)
      go_wp2
      go_roundw
      case rel => exact ⟨k + 1, by omega, by go_num, by rw [HS.out], B.drewN' _⟩
      case measure => simp [intOf]; omega
    · have hlt2 : ¬ (k : Int) < (x.length : Int) := by omega
      have hkl : k = x.length := by omega
      have HK := Lib.hid hkl
      clear hkl
      go_wp2
      go_ret
      exact ⟨ret_int (by rw [← HK.out]), B⟩
theorem mul_bd5 (p q : Int) (hp : -1000 ≤ p ∧ p ≤ 1000) (hq : -5000 ≤ q ∧ q ≤ 5000) : -5000000 ≤ p * q ∧ p * q ≤ 5000000 := by
  have h1 : (p * q).natAbs ≤ 1000 * 5000 := by
    rw [Int.natAbs_mul]
    exact Nat.mul_le_mul (by omega) (by omega)
  omega
theorem prodTo_bd5 (x y : List Int) (hl : y.length = x.length) (hx : ∀ k, (hk : k < x.length) → -1000 ≤ x[k] ∧ x[k] ≤ 1000) (hy : ∀ k, (hk : k < y.length) → -5000 ≤ y[k] ∧ y[k] ≤ 5000) : ∀ k, k ≤ x.length → -5000000 * (k : Int) ≤ prodTo x y k ∧ prodTo x y k ≤ 5000000 * (k : Int) := by
  intro k
  induction k with
  | zero => intro _; simp [prodTo]
  | succ k ih =>
    intro hk
    have h1 := ih (by omega)
    have h2 := mul_bd5 _ _ (hx k (by omega)) (hy k (by omega))
    rw [prodTo, getD_at x k (by omega), getD_at y k (by omega)]
    push_cast
    omega
set_option maxHeartbeats 1000000 in
theorem product_any5 (x y : List Int) (v u : Value) (w : World) (hv : Ints w v x) (hu : Ints w u y) (h5 : x.length ≤ 5) (hl : y.length = x.length) (hx : ∀ k, (hk : k < x.length) → -1000 ≤ x[k] ∧ x[k] ≤ 1000) (hy : ∀ k, (hk : k < y.length) → -5000 ≤ y[k] ∧ y[k] ≤ 5000) :
    Calls Tryz.prog 69 #[v, u] w fun e w' => e = .returned (.int .i64 (prodTo x y x.length)) ∧ Below w.heap.size w w' := by
  obtain ⟨a, b, off, c, rfl, hlen, hix, hc, hb⟩ := hv.view Tryz.prog 22 3 Tryz.underlying22 intElem
  obtain ⟨a', b', off', c', rfl, hlen', hix', hc', hb'⟩ := hu.view Tryz.prog 22 3 Tryz.underlying22 intElem
  have HB := Lib.hid (prodTo_bd5 x y hl hx hy)
  have HX := Lib.hid (And.intro hx hy)
  have HL := Lib.hid hl
  have hle : x.length ≤ y.length := by omega
  clear hx hy hl
  go_enter Tryz.func69, Tryz.ntmps69
  go_wp2_with fail
  go_loopw [5, 9] (fun sm i wr => ∃ k : Nat, k ≤ x.length ∧ i = .int .i64 k ∧ sm = .int .i64 (prodTo x y k) ∧ Below w.heap.size w wr) (fun _ i _ => x.length - (intOf i).toNat)
  case atStart => exact ⟨0, Nat.zero_le _, rfl, rfl, Below.refl _ _⟩
  case round =>
    obtain ⟨k, hk, rfl, rfl, B⟩ := hrel
    have hbd := HB.out k hk
    by_cases hlt : k < x.length
    · have hlt2 : (k : Int) < (x.length : Int) := by omega
      have ck := cells_below hc hb B (Nat.le_refl _) k hlt
      have ck' := cells_below hc' hb' B (Nat.le_refl _) k (by omega)
      have ik := fun W => hix W k hlt
      have ik' := fun W => hix' W k (by omega)
      have hm := mul_bd5 _ _ (HX.out.1 k hlt) (HX.out.2 k (by omega))
      have hs : prodTo x y (k + 1) = prodTo x y k + x[k] * y[k]'(by omega) := by rw [prodTo, getD_at x k hlt, getD_at y k (by omega)]
      obtain ⟨p, hp⟩ : ∃ p, p = x[k] := ⟨_, rfl⟩
      obtain ⟨q, hq⟩ : ∃ q, q = y[k]'(by omega) := ⟨_, rfl⟩
      obtain ⟨S, hS⟩ : ∃ S, S = prodTo x y k := ⟨_, rfl⟩
      rw [← hp] at ck hm hs
      rw [← hq] at ck' hm hs
      rw [← hS] at hbd hs ⊢
      have HS := Lib.hid hs
      clear hp hq hS hs hc hc' hix hix'
      go_wp2_with fail
      go_quiet (fail)
      go_wp2
      go_roundw
      case rel => exact ⟨k + 1, by omega, by go_num, by rw [HS.out], B.drewN' _⟩
      case measure => simp [intOf]; omega
    · have hlt2 : ¬ (k : Int) < (x.length : Int) := by omega
      have hkl : k = x.length := by omega
      have HK := Lib.hid hkl
      clear hkl
      go_wp2
      go_ret
      exact ⟨ret_int (by rw [← HK.out]), B⟩
end Go.Proofs.YtelmokapdkepbaaGreat
end
section
namespace Go.Proofs.YtelmokapdkepbaaGreat
open Go.RowKit Go.G5

def lstTo (l : List Int) : Nat → Int
  | 0 => l.getD 0 0
  | k + 1 => min (lstTo l k) (l.getD k 0)
def lstN (l : List Int) : Int := lstTo l l.length
def mzTo (l : List Int) (m : Int) : Nat → List Int
  | 0 => []
  | k + 1 => if l.getD k 0 = m then mzTo l m k ++ [(k : Int)] else mzTo l m k
def mzL (n : Int) (l : List Int) : List Int := if isFunB n l then mzTo l (lstN l) l.length else []
def lmTo (M : Int) (q : List Int) : Nat → Int
  | 0 => M
  | k + 1 => iand (lmTo M q k) (q.getD k 0)
def lmN (n : Int) (l : List Int) : Int := if subB n l then lmTo (2 ^ n.toNat - 1) (mzL n l) (mzL n l).length else 0
def minN (n : Int) (l : List Int) : Int := if isFunB n l then lstN l else 0
theorem lst_one (l : List Int) : lstTo l 1 = l.getD 0 0 := by show min (l.getD 0 0) (l.getD 0 0) = _; omega
theorem lst_at (l : List Int) (h : 0 < l.length) : ∀ k, k ≤ l.length → ∃ i, i < l.length ∧ l.getD i 0 = lstTo l k := by
  intro k
  induction k with
  | zero => intro _; exact ⟨0, h, rfl⟩
  | succ k ih =>
    intro hk
    obtain ⟨i, hi, he⟩ := ih (by omega)
    rw [lstTo]
    by_cases hc : lstTo l k ≤ l.getD k 0
    · exact ⟨i, hi, by omega⟩
    · exact ⟨k, by omega, by omega⟩
theorem mz_mem (l : List Int) (m : Int) : ∀ k, ∀ s ∈ mzTo l m k, 0 ≤ s ∧ s < k := by
  intro k
  induction k with
  | zero => intro s h; simp [mzTo] at h
  | succ k ih =>
    intro s h
    rw [mzTo] at h
    by_cases hc : l.getD k 0 = m
    · rw [if_pos hc] at h
      rcases List.mem_append.1 h with h | h
      · have := ih s h; omega
      · have := List.mem_singleton.1 h; omega
    · rw [if_neg hc] at h
      have := ih s h; omega
theorem mz_len (l : List Int) (m : Int) : ∀ k, (mzTo l m k).length ≤ k := by
  intro k
  induction k with
  | zero => simp [mzTo]
  | succ k ih =>
    rw [mzTo]
    split
    · simp; omega
    · omega
theorem mz_ne (l : List Int) (m : Int) (i : Nat) (hi : l.getD i 0 = m) : ∀ k, i < k → mzTo l m k ≠ [] := by
  intro k
  induction k with
  | zero => intro h; omega
  | succ k ih =>
    intro hk
    rw [mzTo]
    by_cases hc : l.getD k 0 = m
    · rw [if_pos hc]; simp
    · rw [if_neg hc]
      have : i ≠ k := fun e => hc (e ▸ hi)
      exact ih (by omega)
theorem mzL_facts {n : Int} {l : List Int} (h : isFunB n l = true) : mzL n l ≠ [] ∧ (mzL n l).length ≤ 32 ∧ ∀ s ∈ mzL n l, 0 ≤ s ∧ s < 2 ^ n.toNat ∧ s < 64 := by
  obtain ⟨N, rfl, hN5, hl2, hl32, _⟩ := fun_nat h
  have hx : mzL (N : Int) l = mzTo l (lstN l) l.length := by unfold mzL; rw [h]; rfl
  have hpos : 0 < l.length := by rw [hl2]; exact Nat.two_pow_pos N
  rw [hx]
  obtain ⟨i, hi, he⟩ := lst_at l hpos l.length (Nat.le_refl _)
  refine ⟨mz_ne l (lstN l) i he l.length hi, Nat.le_trans (mz_len l _ _) hl32, fun s hs => ?_⟩
  have := mz_mem l _ _ s hs
  have h4 : ((2 ^ N : Nat) : Int) = (2 : Int) ^ N := by push_cast; rfl
  simp only [Int.toNat_natCast]
  omega

set_option maxHeartbeats 400000 in
theorem sliceMin_any (l : List Int) (v : Value) (w : World) (hv : Ints w v l) (hpos : 0 < l.length) :
    Calls Tryz.prog 108 #[v] w fun e w' => e = .returned (.int .i64 (lstN l)) ∧ w = w' := by
  obtain ⟨a, b, off, c, rfl, hlen, hix, hc, hb⟩ := hv.view Tryz.prog 22 3 Tryz.underlying22 intElem
  have h1 : ¬ (l.length : Int) < 1 := by omega
  have i0 : ∀ W, (Instr.indexAt 22 (.slice a l.length c) (.int .i64 0)).run Tryz.prog W = .ok (.pointer (some ⟨b, off, none⟩)) W := fun W => hix W 0 hpos
  have c0 : w.cell? ⟨b, off, none⟩ = some (.int .i64 (l.getD 0 0)) := by rw [getD_at l 0 hpos]; exact hc 0 hpos
  go_enter Tryz.func108, Tryz.ntmps108
  go_wp2
  go_loop [3, 4] (fun m i => ∃ k : Nat, 1 ≤ k ∧ k ≤ l.length ∧ i = .int .i64 k ∧ m = .int .i64 (lstTo l k)) (fun _ i => l.length - (intOf i).toNat)
  case atStart => exact ⟨1, Nat.le_refl _, hpos, rfl, by rw [lst_one, getD_at l 0 hpos]⟩
  case round =>
    obtain ⟨k, hk1, hk, rfl, rfl⟩ := hrel
    by_cases hlt : k < l.length
    · have hck := hc k hlt
      have hik := fun W => hix W k hlt
      have hn : lstTo l (k + 1) = min (lstTo l k) l[k] := by rw [lstTo, getD_at l k hlt]
      obtain ⟨p, hp⟩ : ∃ p, p = l[k] := ⟨_, rfl⟩
      obtain ⟨q, hq⟩ : ∃ q, q = lstTo l k := ⟨_, rfl⟩
      rw [← hp] at hck hn
      rw [← hq] at hn ⊢
      have HN := Lib.hid hn
      clear hn hp hq hc hix
      go_wp2
      go_round
      case rel => exact ⟨k + 1, by omega, by omega, by go_num, by rw [HN.out] <;> (congr 1 <;> (split <;> omega))⟩
      case measure => simp [intOf]; omega
    · have hkl : k = l.length := by omega
      have HK := Lib.hid hkl
      clear hkl
      go_wp2
      go_ret
      exact ⟨ret_int (by rw [HK.out]; rfl), rfl⟩

set_option maxHeartbeats 400000 in
theorem minimumI_any (w : World) (n : Int) (v : Value) (l : List Int) (hv : Ints w v l) :
    Calls Tryz.prog 87 #[.agg #[.int .i64 n, v]] w fun e w' => e = .returned (.tuple #[.int .i64 (minN n l), .bool (isFunB n l)]) ∧ Below w.heap.size w w' := by
  obtain ⟨a, c, rfl⟩ := hv.shape
  go_enter Tryz.func87, Tryz.ntmps87
  go_wp2_with fail
  refine calls_named ?_
  intro V hV
  have B : Below w.heap.size w V := by rw [hV]; exact bl1 _ _
  have K : Blk V w.heap.size 31 #[.int .i64 n, .slice a l.length c] := by rw [hV]; exact Blk.new _ _ _
  clear hV
  refine (isFunI_any n l _ V (hv.below B (Nat.le_refl _))).mono ?_
  rintro e w1 ⟨rfl, b1⟩
  have K := K.keep b1
  have B := B.after b1 B.size
  have G := K.cell
  cases hf : isFunB n l with
  | false =>
    have hx : minN n l = 0 := by unfold minN; rw [hf]; rfl
    have HX := Lib.hid (And.intro hx hf)
    clear hx hf
    go_wp2
    go_ret2
    exact ⟨by rw [HX.out.1, HX.out.2]; rfl, B⟩
  | true =>
    have hx : minN n l = lstN l := by unfold minN; rw [hf]; rfl
    have hpos : 0 < l.length := by
      obtain ⟨N, rfl, _, hl2, _⟩ := fun_nat hf
      rw [hl2]; exact Nat.two_pow_pos N
    have HX := Lib.hid (And.intro hx hf)
    have HM := Lib.hid (sliceMin_any l _ w1 (hv.below B (Nat.le_refl _)) hpos)
    clear hx hf
    go_wp2_with (go_at_call 108; refine HM.out.mono ?_; rintro e w' ⟨rfl, rfl⟩)
    go_ret2
    exact ⟨by rw [HX.out.1, HX.out.2]; rfl, B⟩

set_option maxHeartbeats 400000 in
theorem l10Least_any (w : World) (n : Int) (v : Value) (l : List Int) (hv : Ints w v l) (hpos : 0 < l.length) :
    Calls Tryz.prog 46 #[.agg #[.int .i64 n, v]] w fun e w' => e = .returned (.int .i64 (lstN l)) ∧ Below w.heap.size w w' := by
  obtain ⟨a, b, off, c, rfl, hlen, hix, hc, hb⟩ := hv.view Tryz.prog 22 3 Tryz.underlying22 intElem
  have hc1 := cells_below hc hb (bl1 w (.cells #[.int .i64 n, .slice a l.length c] 31)) (Nat.le_refl _)
  have i0 : ∀ W, (Instr.indexAt 22 (.slice a l.length c) (.int .i64 0)).run Tryz.prog W = .ok (.pointer (some ⟨b, off, none⟩)) W := fun W => hix W 0 hpos
  have c0 : (w.alloc (.cells #[.int .i64 n, .slice a l.length c] 31)).cell? ⟨b, off, none⟩ = some (.int .i64 (l.getD 0 0)) := by rw [getD_at l 0 hpos]; exact hc1 0 hpos
  go_enter Tryz.func46, Tryz.ntmps46
  go_wp2
  go_loop [3, 4] (fun m i => ∃ k : Nat, 1 ≤ k ∧ k ≤ l.length ∧ i = .int .i64 k ∧ m = .int .i64 (lstTo l k)) (fun _ i => l.length - (intOf i).toNat)
  case atStart => exact ⟨1, Nat.le_refl _, hpos, rfl, by rw [lst_one, getD_at l 0 hpos]⟩
  case round =>
    obtain ⟨k, hk1, hk, rfl, rfl⟩ := hrel
    by_cases hlt : k < l.length
    · have hck := hc1 k hlt
      have hik := fun W => hix W k hlt
      have hn : lstTo l (k + 1) = min (lstTo l k) l[k] := by rw [lstTo, getD_at l k hlt]
      obtain ⟨p, hp⟩ : ∃ p, p = l[k] := ⟨_, rfl⟩
      obtain ⟨q, hq⟩ : ∃ q, q = lstTo l k := ⟨_, rfl⟩
      rw [← hp] at hck hn
      rw [← hq] at hn ⊢
      have HN := Lib.hid hn
      clear hn hp hq hc hc1 hix
      go_wp2
      go_round
      case rel => exact ⟨k + 1, by omega, by omega, by go_num, by rw [HN.out] <;> (congr 1 <;> (split <;> omega))⟩
      case measure => simp [intOf]; omega
    · have hkl : k = l.length := by omega
      have HK := Lib.hid hkl
      clear hkl
      go_wp2
      go_ret
      exact ⟨ret_int (by rw [HK.out]; rfl), bl1 _ _⟩

end Go.Proofs.YtelmokapdkepbaaGreat
end
