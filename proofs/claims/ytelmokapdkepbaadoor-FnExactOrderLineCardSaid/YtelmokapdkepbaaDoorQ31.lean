/- Longest chains of families: the first program. Packings: the first program. -/
import Derived.Test.YtelmokapdkepbaaDoorQ30
import Derived.Deep.RegionLaw
import Derived.Deep.DeepCutAuto
section
namespace Go.Proofs.YtelmokapdkepbaaDoor
open Go.RowKit Go.G5

theorem rev_last (x : Int) (r : List Int) (h : (x :: r).reverse.length - 1 < (x :: r).reverse.length) : (x :: r).reverse[(x :: r).reverse.length - 1] = x := by
  simp

set_option maxHeartbeats 2000000 in
set_option maxRecDepth 100000 in
theorem chainI_c (w : World) (g : Int) (v : Value) (l : List Int) (hv : Ints w v l) :
    Calls Tryd.prog 23 #[.agg #[.int .i64 g, v]] w fun e w' => ∃ ad i cp, e = .returned (.tuple #[.slice ad i cp, .bool (isFamB g l)]) ∧ OwnI 3 w.heap.size w' (.slice ad i cp) (chL g l) ∧ Below w.heap.size w w' := by
  have hv0 := hv
  obtain ⟨a, c, rfl⟩ := hv.shape
  obtain ⟨T, hT⟩ : ∃ T, T = chL g l := ⟨_, rfl⟩
  have hlev := levels_len g l
  have hmem := levels_mem g l
  have hTe : T = chD (levels g l) (levels g l).length [] := hT
  have hlv := levI_c (w.alloc (.cells #[.int .i64 g, .slice a l.length c] 27)) g _ l (hv0.alloc _)
  have hno : isFamB g l = false → T = [] := fun h => by rw [hTe]; unfold levels; rw [h]; rfl
  rw [← hT]
  obtain ⟨ls, hls⟩ : ∃ ls, ls = levels g l := ⟨_, rfl⟩
  rw [← hls] at hlev hmem hTe hlv
  obtain ⟨bf, hbf⟩ : ∃ b, b = isFamB g l := ⟨_, rfl⟩
  rw [← hbf] at hlv hno ⊢
  have HTE := Lib.hid hTe
  have HM := Lib.hid hmem
  have HLV := Lib.hid hlv
  have HNO := Lib.hid hno
  clear hT hTe hmem hlv hno hls hbf
  go_enter Tryd.func23, Tryd.ntmps23
  go_wp2_with fail
  refine HLV.out.mono ?_
  rintro e w2 ⟨ad, cp, rfl, hll, b2⟩
  have B2 : Below w.heap.size w w2 := (bl1 _ _).after b2 (by simp)
  have HLL := Lib.hid (hll.mono (show w.heap.size ≤ _ by simp))
  clear b2 hll
  cases bf with
  | false =>
    have hx := HNO.out rfl
    have HX := Lib.hid hx
    clear hx
    go_wp2
    go_ret2
    exact ⟨_, _, _, rfl, by rw [HX.out]; exact OwnI.nil _ _ _, B2⟩
  | true =>
    have hwl : IntKind.i64.wrap ((ls.length : Int) - 1) = (ls.length : Int) - 1 := by rw [IntKind.wrap_i64]; omega
    go_wp2_with fail
    go_loopw [6, 7] (fun ov iv wr => ∃ (i : Nat) (out : List Int) (p : Option Addr) (q : Nat), i ≤ ls.length ∧ iv = .int .i64 ((i : Int) - 1) ∧ ov = .slice p out.length q ∧ OwnI 3 w2.heap.size wr (.slice p out.length q) out.reverse ∧ out.length + i ≤ 64 ∧ chD ls i out = T ∧ (∀ x ∈ out, 0 ≤ x ∧ x < 64) ∧ Below w2.heap.size w2 wr) (fun _ iv _ => (intOf iv + 1).toNat)
    case atStart => exact ⟨ls.length, [], _, _, Nat.le_refl _, rfl, rfl, OwnI.nil _ _ _, by simpa using hlev, HTE.out.symm, by simp, Below.refl _ _⟩
    case round =>
      obtain ⟨i, out, p, q, hi, rfl, rfl, ho, hol, hch, hom, Bw⟩ := hrel
      obtain ⟨wo, rfl⟩ : ∃ z : World, z = wr := ⟨_, rfl⟩
      cases i with
      | zero =>
        have hch2 : out = T := hch
        subst hch2
        have hneg : ¬ (0 : Int) ≤ ((0 : Nat) : Int) - 1 := by omega
        have HO := Lib.hid ho
        have hrv := reverse_any w2.heap.size _ _ wo ho (by simp; omega)
        rw [List.reverse_reverse] at hrv
        have HRV := Lib.hid hrv
        have hlt := ho.lt
        clear hrv ho hch
        go_wp2_with fail
        refine HRV.out.mono ?_
        rintro e w3 ⟨rfl, o3, g3⟩
        have B3 : Below w2.heap.size w2 w3 := Bw.grown g3 Bw.size (fun k hk => (hlt k hk).1)
        go_wp2
        go_ret2
        exact ⟨_, _, _, rfl, o3.mono B2.size, B2.after B3 B2.size⟩
      | succ i =>
        have hii : ((i + 1 : Nat) : Int) - 1 = (i : Int) := by omega
        rw [hii]
        have hlt : i < ls.length := by omega
        have hwd : IntKind.i64.wrap ((i : Int) - 1) = (i : Int) - 1 := by rw [IntKind.wrap_i64]; omega
        have hch2 := chD_at ls i hlt out
        rw [hch] at hch2
        obtain ⟨gg, u, hix, hcu, hou⟩ := (HLL.out.keep Bw).view Tryd.prog 35 Tryd.underlying35 sliceElem i hlt
        have hM := HM.out ls[i] (List.getElem_mem hlt)
        obtain ⟨M, hMe⟩ : ∃ M, M = ls[i] := ⟨_, rfl⟩
        rw [← hMe] at hch2 hou hM
        obtain ⟨am, cm, rfl⟩ := hou.shape
        obtain ⟨_, mb, moff, _, hve, _, hmix, hmc, hmb⟩ := hou.ints.view Tryd.prog 22 3 Tryd.underlying22 intElem
        injection hve with x1 _ x3
        subst x1 x3
        have HMC := Lib.hid hmc
        have HMX := Lib.hid hmix
        have HMM := Lib.hid hM.2
        have HCH := Lib.hid hch2
        have HO := Lib.hid ho
        have HOM := Lib.hid hom
        clear hmc hmix hM hch hch2 ho hom hMe hou
        go_wp2_with fail
        go_loop [6, 29] (fun ov iv => ∃ j : Nat, j ≤ M.length ∧ ov = .slice p out.length q ∧ iv = .int .i64 j ∧ stepC (M.drop j) out = stepC M out) (fun _ iv => M.length - (intOf iv).toNat)
        case atStart => exact ⟨0, Nat.zero_le _, rfl, rfl, rfl⟩
        case round =>
          obtain ⟨j, hj, rfl, rfl, hst⟩ := hrel
          by_cases hjl : j < M.length
          · have hjl2 : (j : Int) < (M.length : Int) := by omega
            have ck := HMC.out j hjl
            have ik := fun W => HMX.out W j hjl
            have hxm := HMM.out M[j] (List.getElem_mem hjl)
            have hat := stepC_at M j hjl out
            rw [hst] at hat
            obtain ⟨x, hx⟩ : ∃ x, x = M[j] := ⟨_, rfl⟩
            rw [← hx] at ck hxm hat
            clear hx hst
            have hyes : fitC out x = true → chD ls i (x :: out) = T := fun h => by rw [HCH.out, hat, h]; rfl
            have hno : fitC out x = false → stepC (M.drop (j + 1)) out = stepC M out := fun h => by rw [hat, h]; rfl
            have HY := Lib.hid hyes
            have HN := Lib.hid hno
            have hxo : ∀ y ∈ x :: out, 0 ≤ y ∧ y < 64 := fun y hy => by
              rcases List.mem_cons.1 hy with e | h
              · rw [e]; exact hxm
              · exact HOM.out y h
            have HXO := Lib.hid hxo
            have hlr : (x :: out).reverse = out.reverse ++ [x] := by simp
            have HLR := Lib.hid hlr
            clear hat hyes hno hxo hlr
            cases out with
            | nil =>
              go_wp2_with (at_builtin; refine wpList_appendI rfl _ _ _ rfl 3 Tryd.underlying22 intElem w2.heap.size _ _ x wo.heap.size rfl rfl (cell_new wo #[.int .i64 x] 3 0 _ rfl) (HO.out.alloc _) ⟨by omega, by omega⟩ (by simp) (by have := Bw.size; simp; omega) ?_; intro v' w6 hown hgr; obtain ⟨av, nv, cv, rfl⟩ := hown.shape3)
              have B6 : Below w2.heap.size w2 w6 := (Bw.alloc Bw.size (.cells #[.int .i64 x] 3)).grown hgr (by have := Bw.size; simp; omega) (fun q hq => (HO.out.lt q hq).1)
              have hnv : nv = 1 := by have := hown.ints.capLe.1; simpa using this
              subst hnv
              go_roundw
              case rel => exact ⟨i, [x], av, cv, by omega, by go_num, rfl, by rw [HLR.out]; exact hown, by simp; omega, HY.out rfl, HXO.out, B6⟩
              case measure => simp [intOf]
            | cons y r =>
              have hrl : (y :: r).reverse.length = r.length + 1 := by simp
              have hyb := HOM.out y (by simp)
              obtain ⟨_, ob, ooff, _, hve, _, hoix, hoc, hob⟩ := HO.out.ints.view Tryd.prog 22 3 Tryd.underlying22 intElem
              injection hve with x1 _ x3
              subst x1 x3
              have hk : (y :: r).reverse.length - 1 < (y :: r).reverse.length := by rw [hrl]; omega
              have oc := hoc _ hk
              rw [rev_last y r hk] at oc
              have oi := fun W => hoix W _ hk
              rw [hrl] at oc
              simp only [hrl] at oi
              have hrr : r.length + 1 - 1 = r.length := by omega
              rw [hrr] at oc
              simp only [hrr] at oi
              have hyl : ((y :: r).length : Int) = (r.length : Int) + 1 := by simp
              have hwr : IntKind.i64.wrap ((r.length : Int) + 1 - 1) = (r.length : Int) := by rw [IntKind.wrap_i64]; simp at hol; omega
              have hne : ((r.length : Int) + 1 == 0) = false := by simp; omega
              have hif := idif_is hxm.1 hxm.2 hyb.1 hyb.2
              have hfit : fitC (y :: r) x = (idif x y == 0) := rfl
              obtain ⟨z, hz⟩ : ∃ z, z = idif x y := ⟨_, rfl⟩
              rw [← hz] at hif hfit
              clear hz hoc hoix hk
              cases h0 : z == 0 with
              | false =>
                have hN := HN.out (by rw [hfit, h0])
                have HNN := Lib.hid hN
                clear hN hfit
                go_wp2
                go_round
                case rel => exact ⟨j + 1, by omega, rfl, by go_num, HNN.out⟩
                case measure => simp [intOf]; omega
              | true =>
                have hY := HY.out (by rw [hfit, h0])
                have HYY := Lib.hid hY
                have hol' : (y :: r).reverse.length < 17592186044416 := by rw [hrl]; simp at hol; omega
                clear hY hfit
                go_wp2_with (at_builtin; refine wpList_appendI rfl _ _ _ rfl 3 Tryd.underlying22 intElem w2.heap.size _ _ x wo.heap.size rfl rfl (cell_new wo #[.int .i64 x] 3 0 _ rfl) (HO.out.alloc _) ⟨by omega, by omega⟩ hol' (by have := Bw.size; simp; omega) ?_; intro v' w6 hown hgr; obtain ⟨av, nv, cv, rfl⟩ := hown.shape3)
                have B6 : Below w2.heap.size w2 w6 := (Bw.alloc Bw.size (.cells #[.int .i64 x] 3)).grown hgr (by have := Bw.size; simp; omega) (fun q hq => (HO.out.lt q hq).1)
                have hnv : nv = (x :: y :: r).length := by have := hown.ints.capLe.1; simpa using this
                subst hnv
                go_roundw
                case rel => exact ⟨i, x :: y :: r, av, cv, by omega, by go_num, rfl, by rw [HLR.out]; exact hown, by simp at hol ⊢; omega, HYY.out, HXO.out, B6⟩
                case measure => simp [intOf]
          · have hjl2 : ¬ (j : Int) < (M.length : Int) := by omega
            have hje : j = M.length := by omega
            subst hje
            rw [stepC_end] at hst
            have hC : chD ls i out = T := by rw [HCH.out, ← hst]
            have HC := Lib.hid hC
            clear hC hst
            go_wp2
            go_roundw
            case rel => exact ⟨i, out, p, q, by omega, by go_num, rfl, HO.out, by omega, HC.out, HOM.out, Bw⟩
            case measure => simp [intOf]
end Go.Proofs.YtelmokapdkepbaaDoor
end
section
namespace Go.Proofs.YtelmokapdkepbaaDoor
open Go.RowKit Go.G5

/-- the slice value does not lie in block bo -/
def Far (bo : Nat) (v : Value) (l : List Int) : Prop := l ≠ [] → ∀ k, v.ownBlock = some k → k ≠ bo
theorem ints_growIn {w w' : World} {P : Nat → Prop} {v : Value} {l : List Int} (h : Ints w v l) (hg : GrownIn w w' P) (hn : l ≠ [] → ∀ k, v.ownBlock = some k → ¬ P k) : Ints w' v l := by
  obtain ⟨a, c, rfl, h1, h2, h3, h4⟩ := h
  refine ⟨a, c, rfl, h1, h2, h3, ?_⟩
  rcases h4 with h4 | ⟨b, off, rfl, hb, hc⟩
  · exact .inl h4
  · refine .inr ⟨b, off, rfl, Nat.lt_of_lt_of_le hb hg.size, fun k hk => ?_⟩
    have e := hg.block b hb (hn (by intro e; subst e; simp at hk) b rfl)
    have h5 := hc k hk
    unfold World.cell? at h5 ⊢
    simp only at h5 ⊢
    rw [e]; exact h5
theorem ints_lt {w : World} {v : Value} {l : List Int} (h : Ints w v l) (hl : l ≠ []) : ∀ k, v.ownBlock = some k → k < w.heap.size := by
  obtain ⟨a, c, rfl, h1, h2, h3, h4⟩ := h
  intro k hk
  rcases h4 with h4 | ⟨b, off, rfl, hb, _⟩
  · exact absurd h4 hl
  · have : b = k := Option.some.inj hk
    omega

/-- s[k:], and where it lies -/
theorem ints_fromF {P : Program} {w : World} {a : Option Addr} {c : Nat} {l : List Int} (h : Ints w (.slice a l.length c) l) (T E : TypeId) (hT : P.underlying T = some (.slice E)) (hE : IntElem P E) (k : Nat) (hk : k ≤ l.length) :
    ∃ a' c', (∀ (kk : IntKind) (w' : World), (Instr.slice T (.slice a l.length c) (some (.int kk (k : Int))) none none).run P w' = .ok (.slice a' (l.drop k).length c') w') ∧ Ints w (.slice a' (l.drop k).length c') (l.drop k) ∧
      ∀ q, (Value.slice a' (l.drop k).length c').ownBlock = some q → (Value.slice a l.length c).ownBlock = some q := by
  obtain ⟨i, hi, _, h1, _⟩ := hE.get
  have hEl : P.elem T = E := by simp [Program.elem, hT]
  obtain ⟨hl, hcl, hcm⟩ := h.capLe
  obtain ⟨a', c', e1, e2⟩ := Ints.from h T E hT hE k hk
  refine ⟨a', c', e1, e2, ?_⟩
  have e3 := e1 .i64 default
  rw [run_slice_l default T a l.length c (by rw [hEl]; exact hT) .i64 k (by omega) (by omega)] at e3
  simp [sizeOf, typeInfo, hEl, hi, h1, Result.andThen, sliced, List.length_drop] at e3
  obtain ⟨rfl, _⟩ := e3
  intro q hq
  cases a with
  | none => simp [Value.ownBlock] at hq
  | some ad =>
    split at hq
    · simpa [Value.ownBlock] using hq
    · simp only [Option.map_some, Value.ownBlock, Addr.add] at hq ⊢
      split at hq
      · exact hq
      · exact hq
theorem packV_len (N : Nat) : ∀ (r : List Int) (u : Int) (c b : List Int), c.length + r.length ≤ N → b.length ≤ N → (packV r u c b).length ≤ N
  | [], _, _, _, _, h => h
  | s :: r, u, c, b, h1, h2 => by
    rw [List.length_cons] at h1
    rw [packV]
    split
    · refine packV_len N r u c _ (by omega) (packV_len N r (ior u s) (c ++ [s]) _ (by simp; omega) ?_)
      unfold longer
      split
      · simp; omega
      · exact h2
    · exact packV_len N r u c b (by omega) h2
end Go.Proofs.YtelmokapdkepbaaDoor
end
