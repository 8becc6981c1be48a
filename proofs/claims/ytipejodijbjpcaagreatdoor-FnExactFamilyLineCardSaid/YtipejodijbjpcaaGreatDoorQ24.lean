/- Antichains. Sets that contain no other one; blockers. -/
import Derived.Test.YtipejodijbjpcaaGreatDoorQ23
import Derived.Shelf.Abstract
section
namespace Go.Proofs.YtipejodijbjpcaaGreatDoor
open Go.RowKit Go.G5

theorem index_take {w : World} {a : Option Addr} {c : Nat} {l : List Int} (h : Ints w (.slice a l.length c) l) (P : Program) (T E : TypeId) (hT : P.underlying T = some (.slice E)) {b off : Nat}
    (hix : ∀ (w' : World) (k : Nat), k < l.length → (Instr.indexAt T (.slice a l.length c) (.int .i64 (k : Int))).run P w' = .ok (.pointer (some ⟨b, off + k, none⟩)) w') (k : Nat) (hk : k ≤ l.length) :
    ∀ (w' : World) (q : Nat), q < k → (Instr.indexAt T (.slice a k c) (.int .i64 (q : Int))).run P w' = .ok (.pointer (some ⟨b, off + q, none⟩)) w' := by
  intro w' q hq
  have h0 := hix w' q (by omega)
  have hE : P.elem T = E := by simp [Program.elem, hT]
  obtain ⟨a', c', he, h1, h2, _, h4⟩ := h
  simp only [Value.slice.injEq] at he
  obtain ⟨rfl, _, rfl⟩ := he
  rcases h4 with rfl | ⟨b', off', rfl, _, _⟩
  · simp at hk; omega
  · rw [run_indexAt_slice w' T ⟨b', off', none⟩ l.length c .i64 q (by rw [hE]; exact hT), if_pos ⟨by omega, by omega⟩] at h0
    rw [run_indexAt_slice w' T ⟨b', off', none⟩ k c .i64 q (by rw [hE]; exact hT), if_pos ⟨by omega, by omega⟩]
    exact h0

def apartB (a b : Int) : Bool := idif a b != 0 && idif b a != 0
def antiI (l : List Int) : Bool := allTo (fun i => allTo (fun j => apartB (l.getD i 0) (l.getD j 0)) i) l.length
def antiB (g : Int) (l : List Int) : Bool := isFamB g l && antiI l
def fineB (l : List Int) (i : Nat) : Bool := allTo (fun k => k == i || iand (l.getD k 0) (l.getD i 0) != l.getD k 0) l.length
def minTo (l : List Int) : Nat → List Int
  | 0 => []
  | k + 1 => if fineB l k then minTo l k ++ [l.getD k 0] else minTo l k
def freeS (l : List Int) : Bool := (minTo l l.length).length == l.length
theorem minTo_le (l : List Int) (k : Nat) : (minTo l k).length ≤ k := by
  induction k with
  | zero => exact Nat.le_refl _
  | succ k ih =>
    rw [minTo]
    split
    · rw [List.length_append]; simp only [List.length_cons, List.length_nil]; omega
    · omega

set_option maxHeartbeats 400000 in
theorem apart_any (a b : Int) (w : World) (ha : 0 ≤ a ∧ a < 64) (hb : 0 ≤ b ∧ b < 64) :
    Calls Tryz.prog 232 #[.int .i64 a, .int .i64 b] w fun e w' => e = .returned (.bool (apartB a b)) ∧ w = w' := by
  have hB := idif_is ha.1 ha.2 hb.1 hb.2
  have hC := idif_is hb.1 hb.2 ha.1 ha.2
  obtain ⟨y, hy⟩ : ∃ y, y = idif a b := ⟨_, rfl⟩
  obtain ⟨z, hz⟩ : ∃ z, z = idif b a := ⟨_, rfl⟩
  rw [← hy] at hB
  rw [← hz] at hC
  have hr : apartB a b = ((y != 0) && (z != 0)) := by unfold apartB; rw [hy, hz]
  have HR := Lib.hid hr
  clear hr hy hz
  go_enter Tryz.func232, Tryz.ntmps232
  cases h2 : (y != 0) with
  | false =>
    go_wp2
    go_ret
    exact ⟨ret_bool (by rw [HR.out, h2]; rfl), rfl⟩
  | true =>
    go_wp2
    go_ret
    exact ⟨ret_bool (by rw [HR.out, h2]; rfl), rfl⟩

set_option maxHeartbeats 1000000 in
theorem isAnti_any (g : Int) (l : List Int) (v : Value) (w : World) (hv : Ints w v l) :
    Calls Tryz.prog 103 #[.agg #[.int .i64 g, v]] w fun e w' => e = .returned (.bool (antiB g l)) ∧ Below w.heap.size w w' := by
  obtain ⟨a, b, off, c, rfl, hlen, hix, hc, hb⟩ := hv.view Tryz.prog 22 3 Tryz.underlying22 intElem
  have hcap := hv.capLe
  have X0 := Box2.new w g (.slice a l.length c) 27
  go_enter Tryz.func103, Tryz.ntmps103
  go_wp2_with fail
  refine (isFamI_any g l _ _ (hv.alloc _)).mono ?_
  rintro e w1 ⟨rfl, hb1⟩
  obtain ⟨d0, d1, B1, z1⟩ := X0.after hb1
  have hc1 := cells_below hc hb B1 (Nat.le_refl _)
  have hv1 := hv.below B1 (Nat.le_refl _)
  clear hc hb hb1 X0
  cases hf : isFamB g l with
  | false =>
    have hx : antiB g l = false := by unfold antiB; rw [hf]; rfl
    have HX := Lib.hid hx
    clear hx
    go_wp2
    go_ret
    exact ⟨by rw [HX.out]; rfl, B1⟩
  | true =>
    have hm := fam_mem hf
    have hx : antiB g l = antiI l := by unfold antiB; rw [hf]; rfl
    have HX := Lib.hid hx
    have HM := Lib.hid hm
    clear hx hm
    go_wp2_with fail
    go_loop [13] (fun i => ∃ k : Nat, k ≤ l.length ∧ i = .int .i64 k ∧ allTo (fun i => allTo (fun j => apartB (l.getD i 0) (l.getD j 0)) i) k = true) (fun i => l.length - (intOf i).toNat)
    case atStart => exact ⟨0, Nat.zero_le _, rfl, rfl⟩
    case round =>
      obtain ⟨k, hk, rfl, hall⟩ := hrel
      have H := Lib.hid hall
      clear hall
      by_cases hlt : k < l.length
      · have hlk := HM.out _ (List.getElem_mem hlt)
        have hixk := index_take hv1 Tryz.prog 22 3 Tryz.underlying22 hix k hk
        go_wp2
        go_loop [23] (fun j => ∃ q : Nat, q ≤ k ∧ j = .int .i64 q ∧ allTo (fun j => apartB (l.getD k 0) (l.getD j 0)) q = true) (fun j => k - (intOf j).toNat)
        case atStart => exact ⟨0, by omega, rfl, rfl⟩
        case round =>
          obtain ⟨q, hq, rfl, hin⟩ := hrel
          have HI := Lib.hid hin
          clear hin
          by_cases hqk : q < k
          · have hql : q < l.length := by omega
            have hlq := HM.out _ (List.getElem_mem hql)
            have hcl := apart_any l[k] l[q] w1 hlk hlq
            cases hz : apartB l[k] l[q] with
            | false =>
              have hx : antiI l = false := allTo_false (p := fun i => allTo (fun j => apartB (l.getD i 0) (l.getD j 0)) i) hlt (allTo_false (p := fun j => apartB (l.getD k 0) (l.getD j 0)) hqk (by rw [getD_at l k hlt, getD_at l q hql]; exact hz))
              have HX2 := Lib.hid hx
              clear hx
              rw [hz] at hcl
              go_wp2_with (go_at_call 232; refine hcl.mono ?_; rintro e w' ⟨rfl, rfl⟩)
              go_ret
              exact ⟨ret_bool (by rw [HX.out, HX2.out]), B1⟩
            | true =>
              have hp : apartB (l.getD k 0) (l.getD q 0) = true := by rw [getD_at l k hlt, getD_at l q hql]; exact hz
              have HP := Lib.hid hp
              clear hp
              rw [hz] at hcl
              go_wp2_with (go_at_call 232; refine hcl.mono ?_; rintro e w' ⟨rfl, rfl⟩)
              go_round
              case rel => exact ⟨q + 1, by omega, by go_num, allTo_succ HI.out HP.out⟩
              case measure => simp [intOf]; omega
          · have hkq : k = q := by omega
            go_wp2
            go_round
            case rel => exact ⟨k + 1, by omega, by go_num, allTo_succ H.out (by subst hkq; exact HI.out)⟩
            case measure => simp [intOf]; omega
      · have hkl : l.length = k := by omega
        go_wp2
        go_ret
        exact ⟨ret_bool (by rw [HX.out]; unfold antiI; rw [hkl, H.out]), B1⟩

set_option maxHeartbeats 2000000 in
set_option maxRecDepth 100000 in
theorem l15Minimal_any (l : List Int) (v : Value) (w : World) (hv : Ints w v l) (hm : ∀ x ∈ l, 0 ≤ x ∧ x < 64) (hll : l.length ≤ 64) :
    Calls Tryz.prog 215 #[v] w fun e w' => ∃ ad i cp, e = .returned (.slice ad i cp) ∧ OwnI 3 w.heap.size w' (.slice ad i cp) (minTo l l.length) ∧ Below w.heap.size w w' := by
  obtain ⟨a, b, off, c, rfl, hlen, hix, hc, hb⟩ := hv.view Tryz.prog 22 3 Tryz.underlying22 intElem
  have HM := Lib.hid hm
  clear hm
  have o0 := OwnI.lit0 (E := 3) (B := w.heap.size) w (Nat.le_refl _)
  go_enter Tryz.func215, Tryz.ntmps215
  go_wp2
  go_loopw [3, 4] (fun out i wr => ∃ (k : Nat) (ad : Option Addr) (nn cp : Nat), k ≤ l.length ∧ out = .slice ad nn cp ∧ i = .int .i64 k ∧ OwnI 3 w.heap.size wr (.slice ad nn cp) (minTo l k) ∧ Below w.heap.size w wr)
    (fun _ i _ => l.length - (intOf i).toNat)
  case atStart => exact ⟨0, _, _, _, Nat.zero_le _, rfl, rfl, o0, bl1 _ _⟩
  case round =>
    obtain ⟨k, ad, nn, cp, hk, rfl, rfl, ho, B⟩ := hrel
    have HO := Lib.hid ho
    clear ho
    have hck := cells_below hc hb B (Nat.le_refl _)
    by_cases hlt : k < l.length
    · have hlk := HM.out _ (List.getElem_mem hlt)
      have hmin : minTo l (k + 1) = if fineB l k then minTo l k ++ [l[k]] else minTo l k := by rw [minTo, getD_at l k hlt]
      have hmlen := minTo_le l k
      have HN := Lib.hid hmin
      clear hmin
      go_wp2
      go_loopw [5, 6] (fun f j w2 => ∃ (q n : Nat), q ≤ l.length ∧ j = .int .i64 q ∧ f = .bool (allTo (fun k' => k' == k || iand (l.getD k' 0) (l.getD k 0) != l.getD k' 0) q) ∧ w2 = wr.drewN n) (fun _ j _ => l.length - (intOf j).toNat)
      case atStart => exact ⟨0, 0, Nat.zero_le _, rfl, rfl, rfl⟩
      case round =>
        obtain ⟨q, n, hq, rfl, rfl, rfl⟩ := hrel
        by_cases hql : q < l.length
        · have hlq := HM.out _ (List.getElem_mem hql)
          have hA := iand_is hlq.1 (show l[q] < 4611686018427387904 by omega) hlk.1 (show l[k] < 4611686018427387904 by omega)
          have hs : allTo (fun k' => k' == k || iand (l.getD k' 0) (l.getD k 0) != l.getD k' 0) (q + 1) = (allTo (fun k' => k' == k || iand (l.getD k' 0) (l.getD k 0) != l.getD k' 0) q && (q == k || iand l[q] l[k] != l[q])) := by
            rw [allTo, getD_at l k hlt, getD_at l q hql]
          obtain ⟨x, hx⟩ : ∃ x, x = iand l[q] l[k] := ⟨_, rfl⟩
          rw [← hx] at hA hs
          have HS := Lib.hid hs
          clear hs hx
          cases h0 : allTo (fun k' => k' == k || iand (l.getD k' 0) (l.getD k 0) != l.getD k' 0) q with
          | false =>
            have H0 := Lib.hid h0
            clear h0
            go_wp2
            go_quiet (fail)
            go_wp2
            go_roundw
            case rel => exact ⟨q + 1, n + nq, by omega, by go_num, by rw [HS.out, H0.out]; rfl, by simp⟩
            case measure => simp [intOf]; omega
          | true =>
            have H0 := Lib.hid h0
            clear h0
            by_cases hqk : q = k
            · have ht : ((q : Int) == (k : Int)) = true := by simp [hqk]
              have hqb : (q == k) = true := by simp [hqk]
              have HQ := Lib.hid hqb
              clear hqb
              go_wp2
              go_quiet (fail)
              go_wp2
              go_roundw
              case rel => exact ⟨q + 1, n + nq, by omega, by go_num, by rw [HS.out, H0.out, HQ.out]; rfl, by simp⟩
              case measure => simp [intOf]; omega
            · have ht : ((q : Int) == (k : Int)) = false := by simp; omega
              have hqb : (q == k) = false := by simp [hqk]
              have HQ := Lib.hid hqb
              clear hqb
              cases h3 : (x != l[q]) with
              | false =>
                go_wp2
                go_quiet (fail)
                go_wp2
                go_roundw
                case rel => exact ⟨q + 1, n + nq, by omega, by go_num, by rw [HS.out, H0.out, HQ.out, h3]; rfl, by simp⟩
                case measure => simp [intOf]; omega
              | true =>
                go_wp2
                go_quiet (fail)
                go_wp2
                go_roundw
                case rel => exact ⟨q + 1, n + nq, by omega, by go_num, by rw [HS.out, H0.out, HQ.out, h3]; rfl, by simp⟩
                case measure => simp [intOf]; omega
        · have hql2 : q = l.length := by omega
          subst hql2
          have hfine : allTo (fun k' => k' == k || iand (l.getD k' 0) (l.getD k 0) != l.getD k' 0) l.length = fineB l k := rfl
          rw [hfine]
          cases hF : fineB l k with
          | false =>
            have HF := Lib.hid hF
            clear hF hfine
            go_wp2
            go_roundw
            case rel => exact ⟨k + 1, ad, nn, cp, by omega, rfl, by go_num, by rw [HN.out, HF.out]; exact HO.out.drewN _, B.drewN' _⟩
            case measure => simp [intOf]; omega
          | true =>
            have HF := Lib.hid hF
            clear hF hfine
            go_wp2_with (at_builtin; refine wpList_appendI rfl _ _ _ rfl 3 Tryz.underlying22 intElem w.heap.size _ _ l[k] wr.heap.size rfl rfl (cell_new (wr.drewN n) #[.int .i64 l[k]] 3 0 _ rfl) ((HO.out.drewN n).alloc (.cells #[.int .i64 l[k]] 3)) ⟨by omega, by omega⟩ (by omega) (Nat.le_trans B.size (by simp)) ?_; intro v' w6 hown hgr; obtain ⟨av, nv, cv, rfl⟩ := hown.shape3)
            have B6 : Below w.heap.size w w6 := ((B.drewN' n).alloc B.size (.cells #[.int .i64 l[k]] 3)).grown hgr (by have := B.size; simp; omega) (fun p hp => (HO.out.lt p hp).1)
            go_roundw
            case rel => exact ⟨k + 1, av, nv, cv, by omega, rfl, by go_num, by rw [HN.out, HF.out]; exact hown, B6⟩
            case measure => simp [intOf]; omega
    · have hkl : k = l.length := by omega
      go_wp2
      go_ret
      exact ⟨ad, nn, cp, rfl, by subst hkl; exact HO.out, B⟩

set_option maxHeartbeats 400000 in
theorem l25Free_any (l : List Int) (v : Value) (w : World) (hv : Ints w v l) (hm : ∀ x ∈ l, 0 ≤ x ∧ x < 64) (hll : l.length ≤ 64) :
    Calls Tryz.prog 223 #[v] w fun e w' => e = .returned (.bool (freeS l)) ∧ Below w.heap.size w w' := by
  obtain ⟨a, c, rfl⟩ := hv.shape
  go_enter Tryz.func223, Tryz.ntmps223
  go_wp2_with fail
  refine (l15Minimal_any l _ w hv hm hll).mono ?_
  rintro e w1 ⟨ad, i, cp, rfl, ho, hb1⟩
  have hi := ho.ints.capLe.1
  go_wp2
  go_ret
  refine ⟨ret_bool ?_, hb1⟩
  unfold freeS
  rw [← hi, Bool.eq_iff_iff]
  simp only [beq_iff_eq]
  omega
end Go.Proofs.YtipejodijbjpcaaGreatDoor
end
section
namespace Go.Proofs.YtipejodijbjpcaaGreatDoor
open Go.RowKit Go.G5

/-! a function value that is asked of the numbers of a slice -/
set_option maxHeartbeats 1000000 in
theorem indexFunc_any (l : List Int) (v : Value) (w : World) (hv : Ints w v l) (c : FuncId) (he : ∀ args w, (callFunc c args).run Tryz.prog w = .ok (.enter c args) w) (g : Nat) (P : Int → Bool)
    (hw : ∀ (t : Int) W', t ∈ l → Below w.heap.size w W' → Calls Tryz.prog c #[.int .i64 t, .pointer (some ⟨g, 0, none⟩)] W' fun e w2 => e = .returned (.bool (P t)) ∧ Below W'.heap.size W' w2) :
    Calls Tryz.prog 309 #[v, .func (.func c) #[] #[.pointer (some ⟨g, 0, none⟩)]] w fun e w' => (∃ i : Int, e = .returned (.int .i64 i) ∧ (0 ≤ i ↔ l.any P = true) ∧ -1 ≤ i ∧ i ≤ 9223372036854775807) ∧ Below w.heap.size w w' := by
  obtain ⟨a, b, off, cp, rfl, hlen, hix, hc, hb⟩ := hv.view Tryz.prog 22 3 Tryz.underlying22 intElem
  have HW := Lib.hid hw
  clear hw
  go_enter Tryz.func309, Tryz.ntmps309
  go_wp2_with fail
  go_loopw [8] (fun i wr => ∃ k : Nat, k ≤ l.length ∧ i = .int .i64 k ∧ (l.take k).any P = false ∧ Below w.heap.size w wr) (fun i _ => l.length - (intOf i).toNat)
  case atStart => exact ⟨0, Nat.zero_le _, rfl, by simp, Below.refl _ _⟩
  case round =>
    obtain ⟨k, hk, rfl, hall, B⟩ := hrel
    have H := Lib.hid hall
    clear hall
    by_cases hlt : k < l.length
    · have hck := cells_below hc hb B (Nat.le_refl _) k hlt
      have hcl := HW.out l[k] wr (List.getElem_mem hlt) B
      have htk : (l.take (k + 1)).any P = ((l.take k).any P || P l[k]) := by rw [List.take_succ_eq_append_getElem hlt, List.any_append]; simp
      have HTK := Lib.hid htk
      clear htk
      cases hP : P l[k] with
      | true =>
        have hh : l.any P = true := List.any_eq_true.2 ⟨_, List.getElem_mem hlt, hP⟩
        have HH := Lib.hid hh
        rw [hP] at hcl
        clear hh hP
        go_wp2_with (go_at_fn c; refine hcl.mono ?_; rintro e w2 ⟨rfl, hb2⟩)
        go_ret
        exact ⟨⟨k, rfl, by rw [HH.out]; simp, by omega, by omega⟩, B.after hb2 B.size⟩
      | false =>
        have HP := Lib.hid hP
        rw [hP] at hcl
        clear hP
        go_wp2_with (go_at_fn c; refine hcl.mono ?_; rintro e w2 ⟨rfl, hb2⟩)
        go_roundw
        case rel => exact ⟨k + 1, by omega, by go_num, by rw [HTK.out, H.out, HP.out]; rfl, B.after hb2 B.size⟩
        case measure => simp [intOf]; omega
    · have hh : l.any P = false := by have := H.out; rw [List.take_of_length_le (by omega)] at this; exact this
      have HH := Lib.hid hh
      clear hh
      go_wp2
      go_ret
      exact ⟨⟨-1, rfl, by rw [HH.out]; simp, by omega, by omega⟩, B⟩

theorem containsFunc_any (l : List Int) (v : Value) (w : World) (hv : Ints w v l) (c : FuncId) (he : ∀ args w, (callFunc c args).run Tryz.prog w = .ok (.enter c args) w) (g : Nat) (P : Int → Bool)
    (hw : ∀ (t : Int) W', t ∈ l → Below w.heap.size w W' → Calls Tryz.prog c #[.int .i64 t, .pointer (some ⟨g, 0, none⟩)] W' fun e w2 => e = .returned (.bool (P t)) ∧ Below W'.heap.size W' w2) :
    Calls Tryz.prog 234 #[v, .func (.func c) #[] #[.pointer (some ⟨g, 0, none⟩)]] w fun e w' => e = .returned (.bool (l.any P)) ∧ Below w.heap.size w w' := by
  have hcl := indexFunc_any l v w hv c he g P hw
  clear hw he
  obtain ⟨a, cp, rfl⟩ := hv.shape
  go_enter Tryz.func234, Tryz.ntmps234
  go_wp2_with (go_at_call 309; refine hcl.mono ?_; rintro e w' ⟨⟨i, rfl, hi, hi1, hi2⟩, hb⟩; have HI := Lib.hid hi; clear hi)
  go_ret
  refine ⟨ret_bool ?_, hb⟩
  cases hh : l.any P with
  | true => have := HI.out.2 hh; simpa using this
  | false =>
    have h : ¬ 0 ≤ i := fun h => by rw [HI.out.1 h] at hh; cases hh
    simpa using h

/-! minimal sets -/
def subsB (s t : Int) : Bool := t != s && idif t s == 0
def minL (l : List Int) : List Int := l.filter fun s => !(l.any (subsB s))

theorem minClosure (w : World) (g : Nat) (t s : Int) (d : w.cell? ⟨g, 0, none⟩ = some (.int .i64 s)) (ht : 0 ≤ t ∧ t < 64) (hs : 0 ≤ s ∧ s < 64) :
    Calls Tryz.prog 262 #[.int .i64 t, .pointer (some ⟨g, 0, none⟩)] w fun e w' => e = .returned (.bool (subsB s t)) ∧ Below w.heap.size w w' := by
  have hN := idif_is ht.1 ht.2 hs.1 hs.2
  cases h : (t != s) with
  | false =>
    have hx : subsB s t = false := by unfold subsB; rw [h]; rfl
    have HX := Lib.hid hx
    clear hx
    go_enter Tryz.func262, Tryz.ntmps262
    go_wp2
    go_ret
    exact ⟨ret_bool HX.out.symm, Below.refl _ _⟩
  | true =>
    have hx : subsB s t = (idif t s == 0) := by unfold subsB; rw [h]; rfl
    have HX := Lib.hid hx
    clear hx
    go_enter Tryz.func262, Tryz.ntmps262
    go_wp2
    go_ret
    exact ⟨ret_bool HX.out.symm, Below.refl _ _⟩
theorem minClosure_enters : ∀ args w, (callFunc 262 args).run Tryz.prog w = .ok (.enter 262 args) w := enters_of Tryz.func262 (by kernel_rfl) rfl

set_option maxHeartbeats 1000000 in
set_option maxRecDepth 100000 in
theorem minimalOf_any (l : List Int) (v : Value) (w : World) (hv : Ints w v l) (hm : ∀ x ∈ l, 0 ≤ x ∧ x < 64) (hl : l.length ≤ 1048576) :
    Calls Tryz.prog 152 #[v] w fun e w' => ∃ ad i cp, e = .returned (.slice ad i cp) ∧ OwnI 3 w.heap.size w' (.slice ad i cp) (minL l) ∧ Below w.heap.size w w' := by
  obtain ⟨a, b, off, c, rfl, hlen, hix, hc, hb⟩ := hv.view Tryz.prog 22 3 Tryz.underlying22 intElem
  have HM := Lib.hid hm
  clear hm
  obtain ⟨F, hF⟩ : ∃ F : Int → Bool, F = fun s => !(l.any (subsB s)) := ⟨_, rfl⟩
  have hmin : minL l = l.filter F := by rw [hF]; rfl
  rw [hmin]
  have HF := Lib.hid hF
  clear hmin hF
  go_enter Tryz.func152, Tryz.ntmps152
  go_wp2_with fail
  go_loopw [3, 9] (fun out i wr => ∃ (k : Nat) (ad : Option Addr) (nn cp : Nat), k ≤ l.length ∧ out = .slice ad nn cp ∧ i = .int .i64 k ∧ OwnI 3 w.heap.size wr (.slice ad nn cp) ((l.take k).filter F) ∧ Below w.heap.size w wr)
    (fun _ i _ => l.length - (intOf i).toNat)
  case atStart => exact ⟨0, none, 0, 0, Nat.zero_le _, rfl, rfl, OwnI.nil _ _ _, Below.refl _ _⟩
  case round =>
    obtain ⟨k, ad, nn, cp, hk, rfl, rfl, ho, B⟩ := hrel
    have HO := Lib.hid ho
    clear ho
    by_cases hlt : k < l.length
    · have hck := cells_below hc hb B (Nat.le_refl _) k hlt
      have hlk := HM.out _ (List.getElem_mem hlt)
      have htk : (l.take (k + 1)).filter F = (l.take k).filter F ++ (if F l[k] = true then [l[k]] else []) := by
        rw [List.take_succ_eq_append_getElem hlt, List.filter_append, List.filter_cons, List.filter_nil]
      have hFk : F l[k] = !(l.any (subsB l[k])) := by rw [HF.out]
      have hfl : ((l.take k).filter F).length ≤ 1048576 := Nat.le_trans (List.length_filter_le _ _) (by simp; omega)
      obtain ⟨s, hs⟩ : ∃ s, s = l[k] := ⟨_, rfl⟩
      rw [← hs] at hck hlk htk hFk
      have hcf : ∀ W, Ints W (.slice a l.length c) l → W.cell? ⟨wr.heap.size, 0, none⟩ = some (.int .i64 s) → Calls Tryz.prog 234 #[.slice a l.length c, .func (.func 262) #[] #[.pointer (some ⟨wr.heap.size, 0, none⟩)]] W fun e w' => e = .returned (.bool (l.any (subsB s))) ∧ Below W.heap.size W w' :=
        fun W hW hd => containsFunc_any l _ W hW 262 minClosure_enters wr.heap.size (subsB s) (fun t W' ht hB => minClosure W' wr.heap.size t s (keep hB hd) (HM.out t ht) hlk)
      have HCF := Lib.hid hcf
      have HTK := Lib.hid htk
      have hs0 := hlk.1
      have hs1 := hlk.2
      clear hs htk hcf hlk
      cases hany : l.any (subsB s) with
      | true =>
        have hf : F s = false := by rw [hFk, hany]; rfl
        have HFS := Lib.hid hf
        have HA := Lib.hid hany
        clear hf hany hFk
        go_wp2_with (go_at_call 234; refine (HCF.out _ (hv.below (B.alloc B.size _) (Nat.le_refl _)) (cell_new _ _ _ _ _ rfl)).mono ?_; rintro e w4 ⟨rfl, hb4⟩; rw [HA.out])
        have b4 : Below wr.heap.size wr w4 := (bl1 wr (.cells #[.int .i64 s] 3)).after hb4 (by simp)
        go_roundw
        case rel => exact ⟨k + 1, ad, nn, cp, by omega, rfl, by go_num, by rw [HTK.out, HFS.out]; simpa using HO.out.keep b4, B.after b4 B.size⟩
        case measure => simp [intOf]; omega
      | false =>
        have hf : F s = true := by rw [hFk, hany]; rfl
        have HFS := Lib.hid hf
        have HA := Lib.hid hany
        clear hf hany hFk
        go_wp2_with (first
          | (go_at_call 234; refine (HCF.out _ (hv.below (B.alloc B.size _) (Nat.le_refl _)) (cell_new _ _ _ _ _ rfl)).mono ?_; rintro e w4 ⟨rfl, hb4⟩; rw [HA.out]; have d4 := keep hb4 (cell_new wr #[.int .i64 s] 3 0 _ rfl); have b4 : Below wr.heap.size wr w4 := (bl1 wr (.cells #[.int .i64 s] 3)).after hb4 (by simp); have o4 := HO.out.keep b4; have B4 := B.after b4 B.size; have z4 := B4.size)
          | (at_builtin; refine wpList_appendI rfl _ _ _ rfl 3 Tryz.underlying22 intElem w.heap.size _ _ s w4.heap.size rfl rfl (by simp) (o4.alloc _) ⟨by omega, by omega⟩ (by omega) (by simp; omega) ?_; intro v' w6 hown hgr; obtain ⟨av, nv, cv, rfl⟩ := hown.shape3))
        have r4 := o4.lt
        have B6 : Below w.heap.size w w6 := (B4.alloc B4.size (.cells #[.int .i64 s] 3)).grown hgr (by simp; omega) (fun q hq => (r4 q hq).1)
        go_roundw
        case rel => exact ⟨k + 1, av, nv, cv, by omega, rfl, by go_num, by rw [HTK.out, HFS.out]; exact hown, B6⟩
        case measure => simp [intOf]; omega
    · have hkl : (l.take k).filter F = l.filter F := by rw [List.take_of_length_le (by omega)]
      have HK := Lib.hid hkl
      clear hkl
      go_wp2
      go_ret
      exact ⟨ad, nn, cp, rfl, by rw [← HK.out]; exact HO.out, B⟩

/-- the two ways to say it agree where no set stands twice -/
theorem allTo_iff {p : Nat → Bool} {n : Nat} : allTo p n = true ↔ ∀ k, k < n → p k = true := by
  constructor
  · intro h k hk
    cases hp : p k with
    | true => rfl
    | false => rw [allTo_false hk hp] at h; cases h
  · exact allTo_of
theorem fineB_is (l : List Int) (hn : l.Pairwise (· < ·)) (hm : ∀ x ∈ l, 0 ≤ x) (i : Nat) (hi : i < l.length) : fineB l i = !(l.any (subsB l[i])) := by
  rw [Bool.eq_iff_iff]
  unfold fineB
  rw [allTo_iff, Bool.not_eq_true', List.any_eq_false]
  have hsub : ∀ t : Int, 0 ≤ t → (idif t l[i] = 0 ↔ iand t l[i] = t) := fun t ht => by
    have h1 := hm _ (List.getElem_mem hi)
    unfold idif iand ndiff
    have := @Nat.and_le_left t.toNat l[i].toNat
    omega
  constructor
  · intro h t ht
    obtain ⟨k, hk, rfl⟩ := List.getElem_of_mem ht
    have hkk := h k hk
    rw [getD_at l k hk, getD_at l i hi] at hkk
    unfold subsB
    simp only [Bool.or_eq_true, beq_iff_eq, bne_iff_ne, ne_eq, Bool.and_eq_true, not_and] at hkk ⊢
    intro hne hid
    rcases hkk with rfl | hkk
    · exact hne rfl
    · exact hkk ((hsub _ (hm _ (List.getElem_mem hk))).1 hid)
  · intro h k hk
    rw [getD_at l k hk, getD_at l i hi]
    have := h _ (List.getElem_mem hk)
    unfold subsB at this
    simp only [Bool.or_eq_true, beq_iff_eq, bne_iff_ne, ne_eq, Bool.and_eq_true, not_and] at this ⊢
    by_cases hki : k = i
    · exact .inl hki
    · right
      intro hid
      refine this (fun e => ?_) ((hsub _ (hm _ (List.getElem_mem hk))).2 hid)
      have hp := List.pairwise_iff_getElem.1 hn
      rcases Nat.lt_or_gt_of_ne hki with h1 | h1
      · have := hp k i hk hi h1; omega
      · have := hp i k hi hk h1; omega
theorem minTo_is (l : List Int) (hn : l.Pairwise (· < ·)) (hm : ∀ x ∈ l, 0 ≤ x) : ∀ k, k ≤ l.length → minTo l k = (l.take k).filter fun s => !(l.any (subsB s)) := by
  intro k
  induction k with
  | zero => intro _; simp [minTo]
  | succ k ih =>
    intro hk
    have hlt : k < l.length := by omega
    rw [minTo, ih (by omega), List.take_succ_eq_append_getElem hlt, List.filter_append, List.filter_cons, List.filter_nil, fineB_is l hn hm k hlt, getD_at l k hlt]
    split <;> simp
theorem minTo_all (l : List Int) (hn : l.Pairwise (· < ·)) (hm : ∀ x ∈ l, 0 ≤ x) : minTo l l.length = minL l := by
  rw [minTo_is l hn hm l.length (Nat.le_refl _), List.take_length]; rfl
end Go.Proofs.YtipejodijbjpcaaGreatDoor
end
