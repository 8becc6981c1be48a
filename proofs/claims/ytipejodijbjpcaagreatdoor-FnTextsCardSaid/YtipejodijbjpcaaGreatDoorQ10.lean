/- Raised vectors: the second program. Dual vectors. How the laws' arguments are read, and the frame of a law's row. The laws' own copies of slices and structs. The laws' own sizes and equalities. Texts: numerals and joined lists, in plain words. -/
import Derived.Test.YtipejodijbjpcaaGreatDoorQ09
import Derived.Deep.RegionHeld3
import Derived.Deep.RegionLaw
import Derived.Deep.OwnRows
import Derived.Test.YtipejodijbjpcaaGreatDoorRows
import Derived.WalkKit
import Derived.ProofKit
import Derived.OpenShut
import Derived.Lib.SmallJoins
import Derived.Deep.Light
import Derived.Lib.ItoaNum
import Derived.Lib.Join
section
namespace Go.Proofs.YtipejodijbjpcaaGreatDoor
open Go.RowKit Go.G5

end Go.Proofs.YtipejodijbjpcaaGreatDoor
end
section
namespace Go.G5
open Go.RowKit
theorem made_own {P : Program} (t E : TypeId) (ht : P.underlying t = some (.slice E)) (hE : IntElem P E) (n : Nat) (hn : n ≤ 17592186044416) (w : World) :
    (Instr.makeSlice t (.int .i64 (n : Int)) (.int .i64 (n : Int))).run P w = .ok (.slice (some ⟨w.heap.size, 0, none⟩) n n) (w.alloc (.cells (madeCells #[.int .i64 0] n) E)) ∧ OwnI E w.heap.size (w.alloc (.cells (madeCells #[.int .i64 0] n) E)) (.slice (some ⟨w.heap.size, 0, none⟩) n n) (List.replicate n 0) := by
  obtain ⟨i, hi, hz, h1, h8⟩ := hE.get
  obtain ⟨w', hrun, r1, r2⟩ := run_make_full (P := P) w w.heap.size t E i (.int .i64 0) 1 ht hi hz h1 .i64 .i64 n (by rw [h8]; omega) (by unfold maxLen; omega) (Nat.le_refl _)
  have h2 := run_make_row (P := P) t E i (.int .i64 0) ht hi hz h1 rfl .i64 .i64 n (by rw [h8]; omega) (by omega) w
  refine ⟨h2, ?_⟩
  rw [hrun] at h2
  injection h2 with _ h3
  subst h3
  refine ⟨?_, by intro y hy; have := List.eq_of_mem_replicate hy; subst this; exact ⟨by omega, by omega⟩⟩
  have e : (madeCells (Value.int IntKind.i64 0).cells (n * 1)).toList = (List.replicate n (0 : Int)).map (Value.int .i64) := by
    rw [show (Value.int IntKind.i64 0).cells = #[Value.int .i64 0] from rfl, toList_madeCells_one]; simp
  rw [e] at r1
  simpa using r1
end Go.G5
namespace Go.Proofs.YtipejodijbjpcaaGreatDoor
open Go.RowKit Go.G5

def duB (n : Int) (l : List Int) : Bool := isGrB n l && subB n l
def lowL (n : Int) : List Int := List.replicate n.toNat (-2000)
def zerL (n : Int) : List Int := List.replicate n.toNat 0
def dvB (n : Int) (l : List Int) : Bool := duB n l && raisB n l (lowL n) (zerL n)
def dvL (n : Int) (l : List Int) : List Int := if duB n l then rvL n l (lowL n) (zerL n) else []

set_option maxHeartbeats 2000000 in
set_option maxRecDepth 100000 in
theorem dualI_any (w : World) (n : Int) (v : Value) (l : List Int) (hv : Ints w v l) (hl : l.length ≤ 1048576) :
    Calls Tryz.prog 19 #[.agg #[.int .i64 n, v]] w fun e' w' => ∃ ad i c, e' = .returned (.tuple #[.slice ad i c, .bool (dvB n l)]) ∧ OwnI 3 w.heap.size w' (.slice ad i c) (dvL n l) ∧ Below w.heap.size w w' := by
  obtain ⟨a, c, rfl⟩ := hv.shape
  obtain ⟨V, hV⟩ : ∃ V, V = w.alloc (.cells #[.int .i64 n, .slice a l.length c] 32) := ⟨_, rfl⟩
  have B : Below w.heap.size w V := by rw [hV]; exact bl1 _ _
  have K : Blk V w.heap.size 32 #[.int .i64 n, .slice a l.length c] := by rw [hV]; exact Blk.new _ _ _
  go_enter Tryz.func19, Tryz.ntmps19
  go_wp2_with fail
  rw [← hV]
  clear hV
  refine (isGrI_any n l _ V (hv.below B (Nat.le_refl _))).mono ?_
  rintro e' w1 ⟨rfl, b1⟩
  have K := K.keep b1
  have B := B.after b1 B.size
  have G := K.cell
  cases hg : isGrB n l with
  | false =>
    have hd : duB n l = false := by unfold duB; rw [hg]; rfl
    have hx : dvB n l = false := by unfold dvB; rw [hd]; rfl
    have hy : dvL n l = [] := by unfold dvL; rw [hd]; rfl
    have HX := Lib.hid (And.intro hx hy)
    clear hx hy hg hd
    go_wp2
    go_ret2
    exact ⟨none, 0, 0, by rw [HX.out.1]; rfl, by rw [HX.out.2]; exact OwnI.nil _ _ _, B⟩
  | true =>
  go_wp2_with fail
  clear G
  refine (isSubI_any n l _ w1 (hv.below B (Nat.le_refl _)) hl).mono ?_
  rintro e' w2 ⟨rfl, b2⟩
  have K := K.keep b2
  have B := B.after b2 B.size
  have G := K.cell
  cases hs : subB n l with
  | false =>
    have hd : duB n l = false := by unfold duB; rw [hs]; simp
    have hx : dvB n l = false := by unfold dvB; rw [hd]; rfl
    have hy : dvL n l = [] := by unfold dvL; rw [hd]; rfl
    have HX := Lib.hid (And.intro hx hy)
    clear hx hy hg hd hs
    go_wp2
    go_ret2
    exact ⟨none, 0, 0, by rw [HX.out.1]; rfl, by rw [HX.out.2]; exact OwnI.nil _ _ _, B⟩
  | true =>
  have hd : duB n l = true := by unfold duB; rw [hg, hs]; rfl
  have hx : dvB n l = raisB n l (lowL n) (zerL n) := by unfold dvB; rw [hd]; rfl
  have hy : dvL n l = rvL n l (lowL n) (zerL n) := by unfold dvL; rw [hd]; rfl
  obtain ⟨N, hN, hN5⟩ : ∃ N : Nat, n = N ∧ N ≤ 5 := by
    obtain ⟨N, h1, h2, _⟩ := fun_nat (grOk hg)
    exact ⟨N, h1, h2⟩
  subst hN
  have hlow : lowL (N : Int) = List.replicate N (-2000) := by unfold lowL; simp
  have hzer : zerL (N : Int) = List.replicate N 0 := by unfold zerL; simp
  have HX := Lib.hid (And.intro hx (And.intro hy (And.intro hlow hzer)))
  clear hx hy hd hg hs hlow hzer
  go_wp2_with (at_make; refine wpList_makeI rfl _ _ _ rfl 3 Tryz.underlying22 intElem N _ _ rfl rfl rfl rfl (by omega) ?_; intro w3 hown hgr)
  have b3 : Below w2.heap.size w2 w3 := (Below.refl _ _).grown hgr (Nat.le_refl _) (by simp)
  have zk := K.lt
  have K := K.keep b3
  have hown := hown.mono (B' := w.heap.size + 1) zk
  have B := B.after b3 B.size
  obtain ⟨g, hg2⟩ : ∃ g, g = w2.heap.size := ⟨_, rfl⟩
  rw [← hg2] at hown ⊢
  clear hg2 hgr b3 G
  obtain ⟨lo, hlo⟩ : ∃ lo : List Int, lo = List.replicate N (-2000) := ⟨_, rfl⟩
  have hlen : lo.length = N := by rw [hlo]; simp
  have hat : ∀ k, (h : k < lo.length) → lo[k] = -2000 := by subst hlo; intro k h; simp
  have e0 : List.replicate N (0 : Int) = lo.take 0 ++ List.replicate (lo.length - 0) 0 := by rw [hlen]; simp
  rw [e0] at hown
  have HLO := Lib.hid (And.intro hlo (And.intro hlen hat))
  clear hlo hlen hat e0
  go_loopw [19] (fun i wr => ∃ k : Nat, k ≤ N ∧ i = .int .i64 k ∧ OwnI 3 (w.heap.size + 1) wr (.slice (some ⟨g, 0, none⟩) N N) (lo.take k ++ List.replicate (lo.length - k) 0) ∧ Blk wr w.heap.size 32 #[.int .i64 (N : Int), .slice a l.length c] ∧ Below w.heap.size w wr) (fun i _ => N - (intOf i).toNat)
  case atStart => exact ⟨0, Nat.zero_le _, rfl, hown, K, B⟩
  case round =>
    obtain ⟨k, hk, rfl, o, Kr, Br⟩ := hrel
    clear hown K B
    have HO := Lib.hid o
    clear o
    have hl2 := fill_len lo k (by rw [HLO.out.2.1]; exact hk)
    rw [HLO.out.2.1] at hl2 HO
    by_cases hlt : k < N
    · have hlt2 : (k : Int) < (N : Int) := by omega
      have hcell : ∃ q, wr.cell? ⟨g, k, none⟩ = some q := ⟨_, HO.out.cellAt hl2.symm k (by omega)⟩
      obtain ⟨q, hcell⟩ := hcell
      have hfr := HO.out.frozenAt hl2.symm k
      have hgb := (HO.out.lt g rfl).1
      have st := HO.out.stored hl2.symm k (-2000) ⟨by omega, by omega⟩
      have hll : k < lo.length := by rw [HLO.out.2.1]; exact hlt
      have fs := fill_step lo k hll
      rw [HLO.out.2.2 k hll, HLO.out.2.1] at fs
      rw [fs] at st
      have B1 := Br.grown st.2 Br.size (fun q hq => by have := Option.some.inj hq; omega)
      have K1 := Kr.far (p := ⟨g, k, none⟩) (by show w.heap.size ≠ g; omega) (.int .i64 (-2000))
      have HST := Lib.hid st.1
      clear st fs hl2 hll
      go_wp2
      go_roundw
      case rel => exact ⟨k + 1, by omega, by go_num, by rw [HLO.out.2.1]; exact HST.out, K1, B1⟩
      case measure => simp [intOf]; omega
    · have hlt2 : ¬ (k : Int) < (N : Int) := by omega
      have hkn : k = N := by omega
      have o := HO.out
      rw [hkn, Nat.sub_self, List.take_of_length_le (by rw [HLO.out.2.1]; exact Nat.le_refl _)] at o
      simp only [List.replicate_zero, List.append_nil] at o
      rw [HLO.out.1, ← HX.out.2.2.1] at o
      have od : OwnI 3 (w.heap.size + 1) wr.drew (.slice (some ⟨g, 0, none⟩) N N) (lowL (N : Int)) := o.drewN 1
      have Kd : Blk wr.drew w.heap.size 32 #[.int .i64 (N : Int), .slice a l.length c] := Kr
      have Bd : Below w.heap.size w wr.drew := Br.drew
      have hvd : Ints wr.drew (.slice a l.length c) l := hv.below Bd (Nat.le_refl _)
      have HZ := Lib.hid HX.out.2.2.2
      have G := Kr.cell
      have Gd := Kd.cell
      have HCL := Lib.hid (fun (W : World) (t : Value) (h : Below wr.drew.heap.size wr.drew W) (ht : Ints W t (zerL (N : Int))) => raiseI_any W N _ l (hvd.keep h) hl _ _ (od.keep h).ints t _ ht)
      obtain ⟨O, hO⟩ : ∃ O, O = Obj.cells (madeCells #[.int .i64 0] N) 3 := ⟨_, rfl⟩
      have hmk : ∀ W, (Instr.makeSlice 22 (.int .i64 (N : Int)) (.int .i64 (N : Int))).run Tryz.prog W = .ok (.slice (some ⟨W.heap.size, 0, none⟩) N N) (W.alloc O) := by
        rw [hO]; exact fun W => (made_own 22 3 Tryz.underlying22 intElem N (by omega) W).1
      have hmo : OwnI 3 wr.heap.size (wr.alloc O) (.slice (some ⟨wr.heap.size, 0, none⟩) N N) (List.replicate N 0) := by
        rw [hO]; exact (made_own 22 3 Tryz.underlying22 intElem N (by omega) wr).2
      have HMO := Lib.hid (hmo.drewN 1)
      have K5 : Blk (wr.alloc O) w.heap.size 32 #[.int .i64 (N : Int), .slice a l.length c] := Kr.alloc O
      have G5 := K5.cell
      have b5 : Below wr.drew.heap.size wr.drew (wr.alloc O).drew := bl1 wr.drew O
      have B5 : Below w.heap.size w (wr.alloc O).drew := Bd.after b5 Bd.size
      clear o hkn hO hmo
      go_wp2_with fail
      go_region_law
        (go_simp; go_at_call 128; refine (HCL.out (wr.alloc O).drew _ b5 (by rw [HZ.out]; exact HMO.out.ints)).mono ?_; rintro e' w6 ⟨p6, i6, q6, rfl, o6, b6⟩)
      all_goals
        go_wp2
        go_ret2
        exact ⟨p6, i6, q6, by rw [HX.out.1]; rfl, by rw [HX.out.2.1]; exact o6.mono B5.size, B5.after b6 B5.size⟩
end Go.Proofs.YtipejodijbjpcaaGreatDoor
end
section
namespace Go.Proofs.YtipejodijbjpcaaGreatDoor
open Go.ChangeShapes Go.WideShapes Go.ChangeAt Go.RowKit Go.G5
set_option maxRecDepth 100000

theorem own : ownKnob Tryz.prog.godebug = none := by kernel_rfl
theorem laidOut : laidOutB Tryz.prog = true := by kernel_rfl

theorem inR_of_wf {n : Int} (h : (Lit.int .i64 n).wf = true) : InR n := by
  simp only [Lit.wf, Bool.and_eq_true, decide_eq_true_eq] at h
  have h1 := h.1
  have h2 := h.2
  simp [IntKind.min, IntKind.max, IntKind.signed, IntKind.bits] at h1 h2
  exact ⟨by omega, by omega⟩

section
variable {H : Type} {enc : TypeId × Value → H} {P : Program} {w : World} {base : Nat} {spare : Nat → Bool} {held : Bool}

end

theorem trodAll_len {H : Type} {enc : TypeId × Value → H} {P : Program} {w : World} {base : Nat} {spare : Nat → Bool} {held : Bool} :
    ∀ {ts : List TypeId} {vs : List Value} {ds : List (DataW H)} {ps : List MemPlace}, DataW.TrodAll enc P w base spare held ts vs ds ps → ds.length = ts.length
  | [], _, _, _, h => by
    obtain ⟨rfl, rfl, rfl⟩ := trodAll_nil h
    rfl
  | t :: ts, _, _, _, h => by
    obtain ⟨v, vs1, d, ds1, a, b, rfl, rfl, rfl, h1, h2⟩ := trodAll_cons h
    simp [trodAll_len h2]

/-- every argument reads behind the call as it did -/
theorem trodAll_below {H : Type} {enc : TypeId × Value → H} {P : Program} (hl : laidOutB P = true) {W W' : World} (hb : Below W.heap.size W W') :
    ∀ {ts : List TypeId} {vs : List Value} {ds : List (DataW H)} {ps : List MemPlace}, (ts.all fun t => P.readableRec t && decide (t < P.types.size)) = true →
      DataW.TrodAll enc P W 0 (fun _ => true) true ts vs ds ps → (∀ x ∈ ps, x.block < W.heap.size) → DataW.TrodAll enc P W' 0 (fun b => decide (b < W.heap.size)) true ts vs ds ps
  | [], _, _, _, _, h, _ => by
    obtain ⟨rfl, rfl, rfl⟩ := trodAll_nil h
    exact trodAll_mk0
  | t :: ts, _, _, _, hr, h, hlt => by
    obtain ⟨v, vs1, d, ds1, a, b, rfl, rfl, rfl, h1, h2⟩ := trodAll_cons h
    simp only [List.all_cons, Bool.and_eq_true, decide_eq_true_eq] at hr
    exact trodAll_cons_mk (Below.trod hl hr.1.1 hr.1.2 h1 hb fun x hx => hlt x (by simp [hx])) (trodAll_below hl hb (by simpa using hr.2) h2 fun x hx => hlt x (by simp [hx]))

section
variable {H : Type} {enc : TypeId × Value → H} {W : World} {base : Nat} {v : Value} {d : DataW H} {p : List MemPlace}
theorem rd_int (hv : Value.okWide Tryz.prog W .any base 3 v) (h : DataW.Trod enc Tryz.prog W 0 (fun _ => true) true 3 v d p) : ∃ n, v = .int .i64 n ∧ InR n := by
  obtain ⟨n, rfl, _, _, hw⟩ := open_int Tryz.underlying3 hv h
  exact ⟨n, rfl, inR_of_wf hw⟩
end

end Go.Proofs.YtipejodijbjpcaaGreatDoor
end
section
namespace Go.Proofs.YtipejodijbjpcaaGreatDoor
open Go.RowKit Go.G5

end Go.Proofs.YtipejodijbjpcaaGreatDoor
end
section
namespace Go.Proofs.YtipejodijbjpcaaGreatDoor
open Go.RowKit Go.G5

set_option maxHeartbeats 400000 in
theorem l2Same_any (v v' : Value) (l l' : List Int) (w : World) (hv : Ints w v l) (hv' : Ints w v' l') :
    Calls Tryz.prog 114 #[v, v'] w fun e w' => e = .returned (.bool (decide (l = l'))) ∧ ∃ n, w' = w.drewN n := by
  obtain ⟨a, b, off, c, rfl, hlen, hix, hc, hb⟩ := hv.view Tryz.prog 22 3 Tryz.underlying22 intElem
  obtain ⟨a', b', off', c', rfl, hlen', hix', hc', hb'⟩ := hv'.view Tryz.prog 22 3 Tryz.underlying22 intElem
  by_cases hll : l.length = l'.length
  · have HL := Lib.hid hll
    have hle1 : l.length ≤ l'.length := by omega
    have hle2 : l'.length ≤ l.length := by omega
    have hb1 : ((l.length : Int) != (l'.length : Int)) = false := by simp [hll]
    clear hll
    go_enter Tryz.func114, Tryz.ntmps114
    go_wp2
    go_loopw [5] (fun i wr => ∃ k n : Nat, k ≤ l.length ∧ i = .int .i64 k ∧ wr = w.drewN n ∧ (∀ j (h : j < l.length) (h' : j < l'.length), j < k → l[j] = l'[j]))
      (fun i _ => l.length - (intOf i).toNat)
    case atStart => exact ⟨0, 0, Nat.zero_le _, rfl, rfl, by intros; omega⟩
    case round =>
      obtain ⟨k, n, hk, rfl, rfl, hall⟩ := hrel
      have H := Lib.hid hall
      clear hall
      by_cases hlt : k < l.length
      · have hlt' : k < l'.length := by omega
        by_cases heq : l[k] = l'[k]
        · have ht : (l[k] != l'[k]) = false := by simp [heq]
          have HQ := Lib.hid heq
          clear heq
          go_wp2
          go_quiet (fail)
          go_wp2
          go_roundw
          case rel =>
            refine ⟨k + 1, _, by omega, by go_num, rfl, fun j h h' hj => ?_⟩
            by_cases hjk : j = k
            · subst hjk; exact HQ.out
            · exact H.out j h h' (by omega)
          case measure => simp [intOf]; omega
        · have ht : (l[k] != l'[k]) = true := by simp [heq]
          have HQ := Lib.hid heq
          clear heq
          go_wp2
          go_quiet (fail)
          go_wp2
          go_ret
          exact ⟨ret_bool (by simp; intro e; subst e; exact HQ.out rfl), ⟨n + nq, by simp⟩⟩
      · have hkl : l.length ≤ k := by omega
        go_wp2
        go_ret
        exact ⟨ret_bool (by simp; exact List.ext_getElem HL.out fun j h h' => H.out j h h' (by omega)), ⟨n, rfl⟩⟩
  · go_enter Tryz.func114, Tryz.ntmps114
    go_wp2
    go_ret
    exact ⟨ret_bool (by simp; intro h; exact hll (by rw [h])), ⟨0, rfl⟩⟩

set_option maxHeartbeats 400000 in
theorem slicesEqual_any (v v' : Value) (l l' : List Int) (w : World) (hv : Ints w v l) (hv' : Ints w v' l') :
    Calls Tryz.prog 124 #[v, v'] w fun e w' => e = .returned (.bool (decide (l = l'))) ∧ ∃ n, w' = w.drewN n := by
  obtain ⟨a, b, off, c, rfl, hlen, hix, hc, hb⟩ := hv.view Tryz.prog 22 3 Tryz.underlying22 intElem
  obtain ⟨a', b', off', c', rfl, hlen', hix', hc', hb'⟩ := hv'.view Tryz.prog 22 3 Tryz.underlying22 intElem
  by_cases hll : l.length = l'.length
  · have HL := Lib.hid hll
    have hle1 : l.length ≤ l'.length := by omega
    have hle2 : l'.length ≤ l.length := by omega
    have hb1 : ((l.length : Int) != (l'.length : Int)) = false := by simp [hll]
    clear hll
    go_enter Tryz.func124, Tryz.ntmps124
    go_wp2
    go_loopw [13] (fun i wr => ∃ k n : Nat, k ≤ l.length ∧ i = .int .i64 k ∧ wr = w.drewN n ∧ (∀ j (h : j < l.length) (h' : j < l'.length), j < k → l[j] = l'[j]))
      (fun i _ => l.length - (intOf i).toNat)
    case atStart => exact ⟨0, 0, Nat.zero_le _, rfl, rfl, by intros; omega⟩
    case round =>
      obtain ⟨k, n, hk, rfl, rfl, hall⟩ := hrel
      have H := Lib.hid hall
      clear hall
      by_cases hlt : k < l.length
      · have hlt' : k < l'.length := by omega
        by_cases heq : l[k] = l'[k]
        · have ht : (l[k] != l'[k]) = false := by simp [heq]
          have HQ := Lib.hid heq
          clear heq
          go_wp2
          go_quiet (fail)
          go_wp2
          go_roundw
          case rel =>
            refine ⟨k + 1, _, by omega, by go_num, rfl, fun j h h' hj => ?_⟩
            by_cases hjk : j = k
            · subst hjk; exact HQ.out
            · exact H.out j h h' (by omega)
          case measure => simp [intOf]; omega
        · have ht : (l[k] != l'[k]) = true := by simp [heq]
          have HQ := Lib.hid heq
          clear heq
          go_wp2
          go_quiet (fail)
          go_wp2
          go_ret
          exact ⟨ret_bool (by simp; intro e; subst e; exact HQ.out rfl), ⟨n + nq, by simp⟩⟩
      · have hkl : l.length ≤ k := by omega
        go_wp2
        go_ret
        exact ⟨ret_bool (by simp; exact List.ext_getElem HL.out fun j h h' => H.out j h h' (by omega)), ⟨n, rfl⟩⟩
  · go_enter Tryz.func124, Tryz.ntmps124
    go_wp2
    go_ret
    exact ⟨ret_bool (by simp; intro h; exact hll (by rw [h])), ⟨0, rfl⟩⟩

theorem equalFamiliesS_any (n n' : Int) (v v' : Value) (l l' : List Int) (w : World) (hv : Ints w v l) (hv' : Ints w v' l') :
    Calls Tryz.prog 30 #[.agg #[.int .i64 n, v], .agg #[.int .i64 n', v']] w fun e w' => e = .returned (.bool (decide (n = n') && decide (l = l'))) ∧ Below w.heap.size w w' := by
  obtain ⟨av, cv, rfl⟩ := hv.shape
  obtain ⟨av', cv', rfl⟩ := hv'.shape
  by_cases hn : n = n'
  · subst hn
    have hnn : (n == n) = true := by simp
    go_enter Tryz.func30, Tryz.ntmps30
    go_wp2_with (go_at_call 114; refine (l2Same_any _ _ l l' _ ((hv.alloc _).alloc _) ((hv'.alloc _).alloc _)).mono ?_; rintro e w1 ⟨rfl, nn, rfl⟩)
    go_ret
    exact ⟨ret_bool (by simp), (bl2 _ _ _).drewN' _⟩
  · have hn' : (n == n') = false := by simp [hn]
    go_enter Tryz.func30, Tryz.ntmps30
    go_wp2
    go_ret
    exact ⟨ret_bool (by simp [hn]), (bl2 _ _ _)⟩

theorem equalFunctionsS_any (n n' : Int) (v v' : Value) (l l' : List Int) (w : World) (hv : Ints w v l) (hv' : Ints w v' l') :
    Calls Tryz.prog 13 #[.agg #[.int .i64 n, v], .agg #[.int .i64 n', v']] w fun e w' => e = .returned (.bool (decide (n = n') && decide (l = l'))) ∧ Below w.heap.size w w' := by
  obtain ⟨av, cv, rfl⟩ := hv.shape
  obtain ⟨av', cv', rfl⟩ := hv'.shape
  by_cases hn : n = n'
  · subst hn
    have hnn : (n == n) = true := by simp
    go_enter Tryz.func13, Tryz.ntmps13
    go_wp2_with (go_at_call 114; refine (l2Same_any _ _ l l' _ ((hv.alloc _).alloc _) ((hv'.alloc _).alloc _)).mono ?_; rintro e w1 ⟨rfl, nn, rfl⟩)
    go_ret
    exact ⟨ret_bool (by simp), (bl2 _ _ _).drewN' _⟩
  · have hn' : (n == n') = false := by simp [hn]
    go_enter Tryz.func13, Tryz.ntmps13
    go_wp2
    go_ret
    exact ⟨ret_bool (by simp [hn]), (bl2 _ _ _)⟩

end Go.Proofs.YtipejodijbjpcaaGreatDoor
end
section
namespace Go.G5
open Go

theorem ba_ext {a b : ByteArray} (h : a.data.toList = b.data.toList) : a = b := by
  cases a; cases b; congr 1; exact Array.toList_inj.1 h
theorem ba_app (a b : ByteArray) : (a ++ b).data.toList = a.data.toList ++ b.data.toList := by rw [ByteArray.data_append, Array.toList_append]
theorem ba_size (a : ByteArray) : a.size = a.data.toList.length := Lib.size_eq a
/-- the numeral of n -/
def itoaB (n : Int) : ByteArray := ⟨(Lib.itoa n).toArray⟩
/-- the parts, with sep between -/
def joinB (sep : ByteArray) (xs : List ByteArray) : ByteArray := ⟨(Lib.join (xs.map (·.data.toList)) sep.data.toList).toArray⟩

theorem joinB_nil (sep : ByteArray) : joinB sep [] = ByteArray.empty := rfl
theorem joinB_one (sep x : ByteArray) : joinB sep [x] = x := ba_ext (by
  show Lib.join [x.data.toList] sep.data.toList = _
  rw [Lib.join_one])
theorem joinTail_app (sep : List UInt8) (r s : List (List UInt8)) : Lib.joinTail sep (r ++ s) = Lib.joinTail sep r ++ Lib.joinTail sep s := by
  simp [Lib.joinTail]
theorem joinB_snoc (sep : ByteArray) (xs : List ByteArray) (y : ByteArray) (h : xs ≠ []) : joinB sep (xs ++ [y]) = joinB sep xs ++ sep ++ y := by
  cases xs with
  | nil => exact absurd rfl h
  | cons x r =>
    refine ba_ext ?_
    rw [ba_app, ba_app]
    show Lib.join ((x :: (r ++ [y])).map (·.data.toList)) sep.data.toList = Lib.join ((x :: r).map (·.data.toList)) sep.data.toList ++ sep.data.toList ++ y.data.toList
    rw [List.map_cons, List.map_cons, Lib.join_cons, Lib.join_cons, List.map_append, joinTail_app]
    simp [Lib.joinTail, List.append_assoc]
theorem joinB_size (sep : ByteArray) (m : Nat) : ∀ (xs : List ByteArray), (∀ x ∈ xs, x.size ≤ m) → (joinB sep xs).size ≤ xs.length * (m + sep.size)
  | [], _ => by simp [joinB_nil]
  | x :: r, h => by
    have h1 := h x (by simp)
    have h2 : Lib.lens (r.map (·.data.toList)) ≤ r.length * m := by
      have : ∀ (s : List ByteArray), (∀ x ∈ s, x.size ≤ m) → Lib.lens (s.map (·.data.toList)) ≤ s.length * m := by
        intro s hs
        induction s with
        | nil => simp [Lib.lens]
        | cons y s ih =>
          have a := hs y (by simp)
          have b := ih (fun z hz => hs z (by simp [hz]))
          rw [ba_size] at a
          simp only [Lib.lens, List.map_cons, List.sum_cons, List.length_cons] at b ⊢
          rw [Nat.succ_mul]
          omega
      exact this r (fun z hz => h z (by simp [hz]))
    rw [ba_size] at h1 ⊢
    show (Lib.join ((x :: r).map (·.data.toList)) sep.data.toList).length ≤ _
    rw [List.map_cons, Lib.join_cons, List.length_append, Lib.joinTail_length, List.length_map, List.length_cons, Nat.succ_mul, ba_size sep, Nat.mul_add, Nat.mul_comm sep.data.toList.length]
    omega
theorem joinB_ne (sep : ByteArray) (x : ByteArray) (r : List ByteArray) (h : x ≠ ByteArray.empty) : joinB sep (x :: r) ≠ ByteArray.empty := by
  intro e
  have := congrArg (fun a => a.data.toList) e
  have h0 : x.data.toList = [] := by
    change Lib.join ((x :: r).map (·.data.toList)) sep.data.toList = [] at this
    rw [List.map_cons, Lib.join_cons] at this
    exact (List.append_eq_nil_iff.1 this).1
  exact h (ba_ext h0)
/-- the next part behind those that are joined -/
theorem joinB_take (sep : ByteArray) (xs : List ByteArray) (k : Nat) (h : k < xs.length) : joinB sep (xs.take (k + 1)) = if k = 0 then xs[k] else joinB sep (xs.take k) ++ sep ++ xs[k] := by
  rw [List.take_succ_eq_append_getElem h]
  split
  · rename_i h0
    subst h0
    exact joinB_one _ _
  · rename_i h0
    refine joinB_snoc _ _ _ (fun e => ?_)
    have := congrArg List.length e
    rw [List.length_take, List.length_nil] at this
    omega

/-! numerals -/
/-- the digits of u, none of 0 -/
def digs (u : Nat) : List UInt8 := if u = 0 then [] else Lib.decDigits u
theorem digs_step (u : Nat) (h : 0 < u) : digs u = digs (u / 10) ++ [UInt8.ofNat (48 + u % 10)] := by
  unfold digs
  rw [if_neg (show ¬ u = 0 by omega), Lib.decDigits]
  split
  · rename_i h1
    rw [if_pos (show u / 10 = 0 by omega), Nat.mod_eq_of_lt h1]; rfl
  · rename_i h1
    rw [if_neg (show ¬ u / 10 = 0 by omega)]
theorem decDigits_len : ∀ (k u : Nat), u < 10 ^ k → 0 < k → (Lib.decDigits u).length ≤ k
  | 0, _, _, h => by omega
  | k + 1, u, h, _ => by
    rw [Lib.decDigits]
    split
    · simp
    · rename_i h1
      have : u / 10 < 10 ^ k := by rw [Nat.pow_succ] at h; omega
      have hk : 0 < k := by
        rcases Nat.eq_zero_or_pos k with rfl | h2
        · simp at h; omega
        · exact h2
      have := decDigits_len k (u / 10) this hk
      simp; omega
theorem decDigits_ne (u : Nat) : Lib.decDigits u ≠ [] := by
  rw [Lib.decDigits]
  split <;> simp
theorem itoaB_size (n : Int) (h : -9223372036854775808 ≤ n ∧ n ≤ 9223372036854775807) : (itoaB n).size ≤ 21 := by
  rw [ba_size]
  show (Lib.itoa n).length ≤ 21
  unfold Lib.itoa
  split
  · have := decDigits_len 20 n.natAbs (by omega) (by omega)
    simp; omega
  · have := decDigits_len 20 n.toNat (by omega) (by omega)
    omega
theorem itoaB_ne (n : Int) : itoaB n ≠ ByteArray.empty := by
  intro e
  have h : Lib.itoa n = [] := congrArg (fun a => a.data.toList) e
  unfold Lib.itoa at h
  split at h
  · cases h
  · exact decDigits_ne _ h
end Go.G5
end
