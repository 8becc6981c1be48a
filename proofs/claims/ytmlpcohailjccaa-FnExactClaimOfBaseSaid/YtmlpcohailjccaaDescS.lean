/- The order of a vector's elements: the second program. -/
import Derived.Test.YtmlpcohailjccaaDescI
import Derived.Test.YtmlpcohailjccaaInter
import Derived.Test.YtmlpcohailjccaaApp
import Derived.Deep.RegionHeld3
import Derived.Deep.AppendLies
namespace Go.Proofs.Ytmlpcohailjccaa
open Go.RowKit Go.G5

def ordL (x : List Int) : List Int := if vecB x then ordN x x.length else []
set_option maxHeartbeats 4000000 in
set_option maxRecDepth 100000 in
theorem orderForS_any (x : List Int) (v : Value) (w : World) (hv : Ints w v x) :
    Calls Try.prog 168 #[v] w fun e w' => ∃ ad i cp, e = .returned (.tuple #[.slice ad i cp, .bool (vecB x)]) ∧ OwnI 3 w.heap.size w' (.slice ad i cp) (ordL x) ∧ Below w.heap.size w w' := by
  obtain ⟨W0, hW0⟩ : ∃ W, W = w.alloc (.cells #[] 3) := ⟨_, rfl⟩
  have B0 : Below w.heap.size w W0 := by rw [hW0]; exact bl1 _ _
  have o0 : OwnI 3 w.heap.size W0 (.slice (some ⟨w.heap.size, 0, none⟩) 0 0) [] := by rw [hW0]; exact OwnI.lit0 w (Nat.le_refl _)
  have HV7 := Lib.hid (l7Vector_any x v W0 (hv.below B0 (Nat.le_refl _)))
  obtain ⟨a0, b0, off0, c0, rfl, hlen0, hix0, hc0, hb0⟩ := hv.view Try.prog 22 3 Try.underlying22 intElem
  cases hvb : vecB x with
  | false =>
    have hx : ordL x = [] := by unfold ordL; rw [hvb]; rfl
    have HX := Lib.hid hx
    rw [hvb] at HV7
    clear hx hvb
    go_enter Try.func168, Try.ntmps168
    go_wp2_with fail
    rw [← hW0]
    clear hW0
    refine HV7.out.mono ?_
    rintro e w1 ⟨rfl, rfl⟩
    go_wp2
    go_ret2
    exact ⟨_, _, _, rfl, by rw [HX.out]; exact o0, B0⟩
  | true =>
    have hx : ordL x = ordN x x.length := by unfold ordL; rw [hvb]; rfl
    have h5 : x.length ≤ 5 := by unfold vecB at hvb; exact of_decide_eq_true (Bool.and_eq_true_iff.1 hvb).1
    have HX := Lib.hid hx
    rw [hvb] at HV7
    clear hx hvb
    go_enter Try.func168, Try.ntmps168
    go_wp2_with fail
    rw [← hW0]
    clear hW0
    refine HV7.out.mono ?_
    rintro e w1 ⟨rfl, rfl⟩
    go_wp2_with fail
    go_loopw [4, 5] (fun out i wr => ∃ (k : Nat) (ad : Option Addr) (nn cp : Nat), out = .slice ad nn cp ∧ i = .int .i64 k ∧ k ≤ x.length ∧ OwnI 3 w.heap.size wr (.slice ad nn cp) (ordN x k) ∧ Below w.heap.size w wr) (fun _ i _ => x.length - (intOf i).toNat)
    case atStart => exact ⟨0, _, _, _, rfl, rfl, by omega, o0, B0⟩
    case round =>
      obtain ⟨i, ad, nn, cp, rfl, rfl, hi, ho, B⟩ := hrel
      clear o0 B0
      by_cases hlt : i < x.length
      · have hlt2 : (i : Int) < (x.length : Int) := by omega
        obtain ⟨l, hl⟩ : ∃ l, l = ordN x i := ⟨_, rfl⟩
        have hll : l.length = i := by rw [hl, ordN_len]
        rw [← hl] at ho
        have hor : ordN x (i + 1) = insO l i (scanO x l (x.getD i 0) i) := by rw [hl]; rfl
        have hat : ∀ k, k < i → ∃ e : Nat, e < i ∧ l[k]? = some (e : Int) := by rw [hl]; exact fun k hk => ordN_at x i k hk
        obtain ⟨a, c, hsh⟩ := ho.shape
        injection hsh with h1 h2 h3
        subst h1 h2 h3
        have HO := Lib.hid ho
        have HAT := Lib.hid hat
        have ORD := Lib.hid hor
        have HLL := Lib.hid hll
        clear hl hor hat hll ho
        obtain ⟨wo, rfl⟩ : ∃ wo : World, wo = wr := ⟨_, rfl⟩
        go_wp2_with fail
        go_loopw [6] (fun j wi => ∃ k : Nat, j = .int .i64 k ∧ k ≤ i ∧ scanO x l (x.getD i 0) k = scanO x l (x.getD i 0) i ∧ OwnI 3 w.heap.size wi (.slice ad l.length cp) l ∧ Below w.heap.size w wi) (fun j _ => (intOf j).toNat)
        case atStart => exact ⟨l.length, rfl, by rw [HLL.out]; exact Nat.le_refl _, by rw [HLL.out], HO.out, B⟩
        case round =>
          obtain ⟨k, rfl, hki, hsc, oi, Bi⟩ := hrel
          clear B HO
          have HS := Lib.hid hsc
          have hlli := HLL.out
          have hkl : k ≤ l.length := by omega
          have hl5 : l.length ≤ 5 := by omega
          have hir : InR (i : Int) := ⟨by omega, by omega⟩
          obtain ⟨u1, u2⟩ := oi.ints.upto 22 3 Try.underlying22 intElem k hkl
          obtain ⟨a', c', d1, d2⟩ := oi.ints.from 22 3 Try.underlying22 intElem k hkl
          have zk : (l.take k).length = k := by rw [List.length_take, Nat.min_eq_left hkl]
          have zd : (l.drop k).length = l.length - k := List.length_drop
          rw [zd] at d1 d2
          clear zk zd hsc hlli
          by_cases hz : (0 : Int) < k
          · have hzn : 0 < k := by omega
            obtain ⟨e0, he0, hek⟩ := HAT.out (k - 1) (by omega)
            obtain ⟨hk1l, hkv⟩ := List.getElem?_eq_some_iff.1 hek
            obtain ⟨a1, b1, off1, c1, hs1, hlen1, hix1, hc1, hb1⟩ := oi.ints.view Try.prog 22 3 Try.underlying22 intElem
            injection hs1 with h1 h2 h3
            subst h1 h3
            have ck := hc1 (k - 1) hk1l
            rw [hkv] at ck
            have ik := fun W => hix1 W (k - 1) hk1l
            have he0x : e0 < x.length := by omega
            have xe := cells_below hc0 hb0 Bi (Nat.le_refl _) e0 he0x
            have xi := cells_below hc0 hb0 Bi (Nat.le_refl _) i hlt
            have ixe := fun W => hix0 W e0 he0x
            have ixi := fun W => hix0 W i hlt
            have ge : x.getD e0 0 = x[e0] := getD_at x e0 he0x
            have gi : x.getD i 0 = x[i] := getD_at x i hlt
            have hgd : l.getD (k - 1) 0 = (e0 : Int) := by rw [List.getD_eq_getElem?_getD, hek]; rfl
            have hscan : scanO x l (x.getD i 0) k = if x.getD e0 0 < x.getD i 0 then scanO x l (x.getD i 0) (k - 1) else k := by
              obtain ⟨z, rfl⟩ : ∃ z, k = z + 1 := ⟨k - 1, by omega⟩
              rw [scanO]
              simp only [Nat.add_sub_cancel] at hgd ⊢
              rw [hgd]
              rfl
            obtain ⟨p, hp⟩ : ∃ p, p = x[e0] := ⟨_, rfl⟩
            obtain ⟨q, hq⟩ : ∃ q, q = x[i] := ⟨_, rfl⟩
            rw [← hp] at xe ge
            rw [← hq] at xi gi
            rw [ge, gi] at hscan
            rw [gi] at HS
            have ORD2 := ORD.out
            rw [gi] at ORD2
            have ORD := Lib.hid ORD2
            have HSC := Lib.hid hscan
            have HGI := Lib.hid gi
            have hk1 : IntKind.i64.wrap ((k : Int) - 1) = ((k - 1 : Nat) : Int) := by rw [IntWalk.i64_in _ ⟨by omega, by omega⟩]; omega
            clear hscan ge gi hgd hp hq ORD2 hix1 hc1 hek hkv
            by_cases hlt3 : p < q
            · have HLT := Lib.hid hlt3
              go_wp2
              go_quiet (fail)
              go_wp2
              go_roundw
              case rel => exact ⟨k - 1, by go_num, by omega, by rw [HGI.out, ← HS.out, HSC.out, if_pos HLT.out], oi.drewN _, Bi.drewN' _⟩
              case measure => simp [intOf]; omega
            · have hke : scanO x l q k = k := by rw [HSC.out, if_neg hlt3]
              have KE := Lib.hid hke
              clear hke
              go_wp2
              go_quiet (fail)
              go_wp2
              have u2 := u2.drewN nq
              have d2 := d2.drewN nq
              have Bi := Bi.drewN' nq
              obtain ⟨wi, hwi⟩ : ∃ W, W = wr.drewN nq := ⟨_, rfl⟩
              rw [← hwi] at u2 d2 Bi ⊢
              clear hwi oi
              go_region_held3 (fun _ => True) (trivial)
                (first
                  | (refine step_put rfl _ _ _ rfl 3 Try.underlying22 intElem wi.heap.size (.slice (some ⟨_, 0, none⟩) 0 0) [] rfl (.slice ad k cp) (l.take k) rfl ?_ ?_ ?_ wi ?_ (Nat.le_refl _) ?_; (first | (with_reducible exact (OwnI.lit0 wi (Nat.le_refl _)).drew') | (with_reducible exact ((OwnI.lit0 wi (Nat.le_refl _)).alloc _).drew') | (with_reducible exact (OwnI.lit0' wi _).drew')); (first | (with_reducible exact (u2.alloc _).drew') | (with_reducible exact ((u2.alloc _).alloc _).drew')); (simp; omega); (first | (with_reducible exact (bl1 wi _).drew) | (with_reducible exact (bl2 wi _ _).drew)); (intro v1 w1 o1 b1 pc))
                  | (refine step_put rfl _ _ _ rfl 3 Try.underlying22 intElem wi.heap.size v1 ([] ++ l.take k) rfl (.slice (some ⟨_, 0, none⟩) 1 1) [(i : Int)] rfl ?_ ?_ ?_ wi ?_ (Nat.le_refl _) ?_; (first | (with_reducible exact o1) | (with_reducible exact o1.alloc _)); (refine Ints.one ?_ hir; first | (with_reducible exact cell_new _ _ _ _ _ rfl) | (with_reducible exact pc _ _ (cell_second _ _ _ _) (own_ne1 _ _ _)) | (with_reducible exact pc _ _ (cell_first _ _ _ _) (own_ne2 _ _ _))); (simp; omega); (first | (with_reducible exact b1) | (with_reducible exact b1.alloc b1.size _)); (intro v2 w2 o2 b2 _))
                  | (refine step_put rfl _ _ _ rfl 3 Try.underlying22 intElem wi.heap.size v2 (([] ++ l.take k) ++ [(i : Int)]) rfl (.slice a' (l.length - k) c') (l.drop k) rfl o2 (d2.below b2 (Nat.le_refl _)) ?_ wi b2 (Nat.le_refl _) ?_; (simp; omega); (intro v3 w3 o3 b3 _; obtain ⟨av, nv, cv, rfl⟩ := o3.shape3))
                )
              all_goals
                go_wp2
                have B3 := Bi.after b3 Bi.size
                go_roundw
                case rel => exact ⟨i + 1, av, nv, cv, rfl, by go_num, by omega, by rw [ORD.out, ← HS.out, KE.out]; exact o3.mono Bi.size, B3⟩
                case measure => simp [intOf]; omega
          · have hzn : ¬ 0 < k := by omega
            have hz2 : k = 0 := by omega
            have hke : scanO x l (x.getD i 0) k = k := by rw [hz2]; rfl
            have KE := Lib.hid hke
            clear hke hz2
            go_wp2
            go_quiet (fail)
            go_wp2
            have u2 := u2.drewN nq
            have d2 := d2.drewN nq
            have Bi := Bi.drewN' nq
            obtain ⟨wi, hwi⟩ : ∃ W, W = wr.drewN nq := ⟨_, rfl⟩
            rw [← hwi] at u2 d2 Bi ⊢
            clear hwi oi
            go_region_held3 (fun _ => True) (trivial)
              (first
                | (refine step_put rfl _ _ _ rfl 3 Try.underlying22 intElem wi.heap.size (.slice (some ⟨_, 0, none⟩) 0 0) [] rfl (.slice ad k cp) (l.take k) rfl ?_ ?_ ?_ wi ?_ (Nat.le_refl _) ?_; (first | (with_reducible exact (OwnI.lit0 wi (Nat.le_refl _)).drew') | (with_reducible exact ((OwnI.lit0 wi (Nat.le_refl _)).alloc _).drew') | (with_reducible exact (OwnI.lit0' wi _).drew')); (first | (with_reducible exact (u2.alloc _).drew') | (with_reducible exact ((u2.alloc _).alloc _).drew')); (simp; omega); (first | (with_reducible exact (bl1 wi _).drew) | (with_reducible exact (bl2 wi _ _).drew)); (intro v1 w1 o1 b1 pc))
                | (refine step_put rfl _ _ _ rfl 3 Try.underlying22 intElem wi.heap.size v1 ([] ++ l.take k) rfl (.slice (some ⟨_, 0, none⟩) 1 1) [(i : Int)] rfl ?_ ?_ ?_ wi ?_ (Nat.le_refl _) ?_; (first | (with_reducible exact o1) | (with_reducible exact o1.alloc _)); (refine Ints.one ?_ hir; first | (with_reducible exact cell_new _ _ _ _ _ rfl) | (with_reducible exact pc _ _ (cell_second _ _ _ _) (own_ne1 _ _ _)) | (with_reducible exact pc _ _ (cell_first _ _ _ _) (own_ne2 _ _ _))); (simp; omega); (first | (with_reducible exact b1) | (with_reducible exact b1.alloc b1.size _)); (intro v2 w2 o2 b2 _))
                | (refine step_put rfl _ _ _ rfl 3 Try.underlying22 intElem wi.heap.size v2 (([] ++ l.take k) ++ [(i : Int)]) rfl (.slice a' (l.length - k) c') (l.drop k) rfl o2 (d2.below b2 (Nat.le_refl _)) ?_ wi b2 (Nat.le_refl _) ?_; (simp; omega); (intro v3 w3 o3 b3 _; obtain ⟨av, nv, cv, rfl⟩ := o3.shape3))
              )
            all_goals
              go_wp2
              have B3 := Bi.after b3 Bi.size
              go_roundw
              case rel => exact ⟨i + 1, av, nv, cv, rfl, by go_num, by omega, by rw [ORD.out, ← HS.out, KE.out]; exact o3.mono Bi.size, B3⟩
              case measure => simp [intOf]; omega
      · have hlt2 : ¬ (i : Int) < (x.length : Int) := by omega
        have hil : i = x.length := by omega
        rw [hil, ← HX.out] at ho
        have HO := Lib.hid ho
        clear ho hil
        go_wp2
        go_ret2
        exact ⟨ad, nn, cp, rfl, HO.out, B⟩
end Go.Proofs.Ytmlpcohailjccaa
