/- The statement FnEdits: for every input the call returns true and each argument reads as it did. No condition. -/
import Derived.Test.YthbkghpgnnpmbaaRead
import Derived.Test.YthbkghpgnnpmbaaLawH
import Derived.Test.YthbkghpgnnpmbaaDrawM
import Derived.Test.YthbkghpgnnpmbaaEditR
import Derived.Test.YthbkghpgnnpmbaaAddI
import Derived.Test.YthbkghpgnnpmbaaAddS
import Derived.Test.YthbkghpgnnpmbaaRem
import Derived.Test.YthbkghpgnnpmbaaRemS
import Derived.Test.YthbkghpgnnpmbaaNewKept
import Derived.Test.YthbkghpgnnpmbaaNewKeptS
import Derived.Test.YthbkghpgnnpmbaaKept
import Derived.Test.YthbkghpgnnpmbaaBlk
namespace Go.Proofs.Ythbkghpgnnpmbaa
open Go.ChangeShapes Go.WideShapes Go.ChangeAt Go.RowKit Go.G5
set_option maxHeartbeats 16000000 in
set_option maxRecDepth 100000 in
theorem edits_walk (w : World) (v : Value) (l : List Nat) (hv : Byts w v l) :
    Calls Try.prog 3 #[v] w fun e w' => e = .returned (.bool true) ∧ Below w.heap.size w w' := by
  have hv0 := hv
  obtain ⟨av, cv, rfl, _⟩ := hv
  go_enter Try.func3, Try.ntmps3
  go_wp2_with fail
  refine (big_any w _ l hv0).mono ?_
  rintro e w0 ⟨rfl, rfl⟩
  cases hbig : decide ((1048576 : Int) < l.length) with
  | true =>
    go_wp2
    go_ret
    exact ⟨rfl, Below.refl _ _⟩
  | false =>
  clear hbig
  have B : Below w.heap.size w w := Below.refl _ _
  go_wp2_with fail
  refine (drawAddSet_any w _ l (hv0.below B (Nat.le_refl _))).mono ?_
  rintro e W1 ⟨n1, p1, i1, q1, p2, i2, q2, s1, L1, M1, rfl, hn1, hs1, o1, hl1x, o2, hm1x, bW1⟩
  have B := B.after bW1 B.size
  have h1 := o1.ints
  have h2 := o2.ints
  have hl1 : L1.length ≤ 1048576 := by omega
  have hm1 : M1.length ≤ 1048576 := by omega
  have hAK := addK_len9 n1 s1 L1 M1 hl1x
  have hAL := addL_lenB n1 s1 L1 M1 hm1x
  have hFK := @edit_facts n1 s1 L1 M1
  obtain ⟨ok, hok⟩ : ∃ q, q = addOk n1 L1 M1 s1 := ⟨_, rfl⟩
  obtain ⟨NA, hNA⟩ : ∃ q, q = addN n1 L1 M1 s1 := ⟨_, rfl⟩
  obtain ⟨KA, hKA⟩ : ∃ q, q = addK n1 L1 M1 s1 := ⟨_, rfl⟩
  obtain ⟨LA, hLA⟩ : ∃ q, q = addL n1 L1 M1 s1 := ⟨_, rfl⟩
  have HI := fun W x1 x2 (y1 : Ints W x1 L1) (y2 : Ints W x2 M1) => addSetI_c W n1 x1 L1 y1 hl1 x2 M1 y2 hm1 s1 hs1
  have HS := fun W x1 x2 (y1 : Ints W x1 L1) (y2 : Ints W x2 M1) => addSetS_c W n1 x1 L1 y1 hl1 x2 M1 y2 hm1 s1 hs1
  simp only [← hok, ← hNA, ← hKA, ← hLA] at HI HS hFK
  rw [← hKA] at hAK
  rw [← hLA] at hAL
  have HFK := Lib.hid hFK
  have HI := Lib.hid HI
  have HS := Lib.hid HS
  clear hFK hok hNA hKA hLA o1 o2
  go_wp2_with fail
  refine calls_named ?_
  intro V2 hV2
  have bV2 : Below W1.heap.size W1 V2 := by rw [hV2]; exact bl1 _ _
  have Kk : Blk V2 W1.heap.size 28 #[.int .i64 n1, .slice p1 i1 q1, .slice p2 i2 q2] := by rw [hV2]; exact Blk.new _ _ _
  clear hV2
  have h1 := h1.keep bV2
  have h2 := h2.keep bV2
  have B := B.after bV2 B.size
  refine (HI.out V2 _ _ h1 h2).mono ?_
  rintro e W3 ⟨p3, i3, q3, p4, i4, q4, rfl, o3, o4, _, bW3⟩
  have Kk := Kk.keep bW3
  have h1 := h1.keep bW3
  have h2 := h2.keep bW3
  have B := B.after bW3 B.size
  have h3 := o3.ints
  have h4 := o4.ints
  have GKk := (Kk.alloc (.cells #[.int .i64 NA, .slice p3 i3 q3, .slice p4 i4 q4] 28)).cell
  go_wp2_with fail
  clear GKk
  refine calls_named ?_
  intro V4 hV4
  have bV4 : Below W3.heap.size W3 V4 := by rw [hV4]; exact bl1 _ _
  have Ka : Blk V4 W3.heap.size 28 #[.int .i64 NA, .slice p3 i3 q3, .slice p4 i4 q4] := by rw [hV4]; exact Blk.new _ _ _
  clear hV4
  have Kk := Kk.keep bV4
  have h1 := h1.keep bV4
  have h2 := h2.keep bV4
  have h3 := h3.keep bV4
  have h4 := h4.keep bV4
  have B := B.after bV4 B.size
  refine (HS.out V4 _ _ h1 h2).mono ?_
  rintro e W5 ⟨p5, i5, q5, p6, i6, q6, rfl, o5, o6, _, bW5⟩
  have Kk := Kk.keep bW5
  have Ka := Ka.keep bW5
  have h1 := h1.keep bW5
  have h2 := h2.keep bW5
  have h3 := h3.keep bW5
  have h4 := h4.keep bW5
  have B := B.after bW5 B.size
  have h5 := o5.ints
  have h6 := o6.ints
  clear o3 o4 o5 o6 HI HS
  cases ok with
  | false =>
    have GKa := (Ka.alloc (.cells #[.int .i64 NA, .slice p5 i5 q5, .slice p6 i6 q6] 28)).cell
    go_wp2_with fail
    clear GKa
    refine calls_named ?_
    intro V6 hV6
    have bV6 : Below W5.heap.size W5 V6 := by rw [hV6]; exact bl1 _ _
    have Kb : Blk V6 W5.heap.size 28 #[.int .i64 NA, .slice p5 i5 q5, .slice p6 i6 q6] := by rw [hV6]; exact Blk.new _ _ _
    clear hV6
    have Kk := Kk.keep bV6
    have Ka := Ka.keep bV6
    have h1 := h1.keep bV6
    have h2 := h2.keep bV6
    have h3 := h3.keep bV6
    have h4 := h4.keep bV6
    have h5 := h5.keep bV6
    have h6 := h6.keep bV6
    have B := B.after bV6 B.size
    refine (eqKept_same NA _ _ _ _ KA LA V6 h3 h5 h4 h6).mono ?_
    rintro e W7 ⟨rfl, bW7⟩
    have Kk := Kk.keep bW7
    have Ka := Ka.keep bW7
    have Kb := Kb.keep bW7
    have h1 := h1.keep bW7
    have h2 := h2.keep bW7
    have h3 := h3.keep bW7
    have h4 := h4.keep bW7
    have h5 := h5.keep bW7
    have h6 := h6.keep bW7
    have B := B.after bW7 B.size
    go_wp2_with fail
    refine (drawRemoveSet_any W7 _ l (hv0.below B (Nat.le_refl _))).mono ?_
    rintro e W8 ⟨n2, pc_, ic_, qc_, pd_, id_, qd_, s2, L2, M2, rfl, hn2, hs2, oc1, hl2x, oc2, hm2x, bW8⟩
    have Kk := Kk.keep bW8
    have Ka := Ka.keep bW8
    have Kb := Kb.keep bW8
    have h1 := h1.keep bW8
    have h2 := h2.keep bW8
    have h3 := h3.keep bW8
    have h4 := h4.keep bW8
    have h5 := h5.keep bW8
    have h6 := h6.keep bW8
    have B := B.after bW8 B.size
    have hc := oc1.ints
    have hd := oc2.ints
    have hl2 : L2.length ≤ 1048576 := by omega
    have hm2 : M2.length ≤ 1048576 := by omega
    have hRK := remK_len n2 L2 M2 s2 hl2
    have hRL := remL_len n2 L2 M2 s2
    have hRE := @rem_kept n2 s2 L2 M2
    obtain ⟨one, hone⟩ : ∃ q, q = remF n2 L2 M2 s2 := ⟨_, rfl⟩
    obtain ⟨NR, hNR⟩ : ∃ q, q = remN n2 L2 M2 s2 := ⟨_, rfl⟩
    obtain ⟨KR, hKR⟩ : ∃ q, q = remK n2 L2 M2 s2 := ⟨_, rfl⟩
    obtain ⟨LR, hLR⟩ : ∃ q, q = remL n2 L2 M2 s2 := ⟨_, rfl⟩
    have HI := fun W x1 x2 (y1 : Ints W x1 L2) (y2 : Ints W x2 M2) => removeSetI_c W n2 x1 L2 y1 hl2 x2 M2 y2 hm2 s2 hs2
    have HS := fun W x1 x2 (y1 : Ints W x1 L2) (y2 : Ints W x2 M2) => removeSetS_c W n2 x1 L2 y1 hl2 x2 M2 y2 hm2 s2 hs2
    simp only [← hone, ← hNR, ← hKR, ← hLR] at HI HS hRE
    rw [← hKR] at hRK
    rw [← hLR] at hRL
    have HRE := Lib.hid hRE
    have HI := Lib.hid HI
    have HS := Lib.hid HS
    clear hRE hone hNR hKR hLR oc1 oc2
    go_wp2_with fail
    refine calls_named ?_
    intro V9 hV9
    have bV9 : Below W8.heap.size W8 V9 := by rw [hV9]; exact bl1 _ _
    have Kc : Blk V9 W8.heap.size 28 #[.int .i64 n2, .slice pc_ ic_ qc_, .slice pd_ id_ qd_] := by rw [hV9]; exact Blk.new _ _ _
    clear hV9
    have hc := hc.keep bV9
    have hd := hd.keep bV9
    have B := B.after bV9 B.size
    refine (HI.out V9 _ _ hc hd).mono ?_
    rintro e W10 ⟨pe_, ie_, qe_, pf_, if_, qf_, rfl, oe, of, _, bW10⟩
    have Kc := Kc.keep bW10
    have hc := hc.keep bW10
    have hd := hd.keep bW10
    have B := B.after bW10 B.size
    have he := oe.ints
    have hf := of.ints
    have GKc := (Kc.alloc (.cells #[.int .i64 NR, .slice pe_ ie_ qe_, .slice pf_ if_ qf_] 28)).cell
    go_wp2_with fail
    clear GKc
    refine calls_named ?_
    intro V11 hV11
    have bV11 : Below W10.heap.size W10 V11 := by rw [hV11]; exact bl1 _ _
    have Kd : Blk V11 W10.heap.size 28 #[.int .i64 NR, .slice pe_ ie_ qe_, .slice pf_ if_ qf_] := by rw [hV11]; exact Blk.new _ _ _
    clear hV11
    have Kc := Kc.keep bV11
    have hc := hc.keep bV11
    have hd := hd.keep bV11
    have he := he.keep bV11
    have hf := hf.keep bV11
    have B := B.after bV11 B.size
    refine (HS.out V11 _ _ hc hd).mono ?_
    rintro e W12 ⟨pg_, ig_, qg_, ph_, ih_, qh_, rfl, og, oh, _, bW12⟩
    have Kc := Kc.keep bW12
    have Kd := Kd.keep bW12
    have hc := hc.keep bW12
    have hd := hd.keep bW12
    have he := he.keep bW12
    have hf := hf.keep bW12
    have B := B.after bW12 B.size
    have hg := og.ints
    have hh := oh.ints
    clear oe of og oh HI HS
    go_wp2_with fail
    refine calls_named ?_
    intro V13 hV13
    have bV13 : Below W12.heap.size W12 V13 := by rw [hV13]; exact bl1 _ _
    have Ke : Blk V13 W12.heap.size 28 #[.int .i64 NR, .slice pg_ ig_ qg_, .slice ph_ ih_ qh_] := by rw [hV13]; exact Blk.new _ _ _
    clear hV13
    have Kc := Kc.keep bV13
    have Kd := Kd.keep bV13
    have hc := hc.keep bV13
    have hd := hd.keep bV13
    have he := he.keep bV13
    have hf := hf.keep bV13
    have hg := hg.keep bV13
    have hh := hh.keep bV13
    have B := B.after bV13 B.size
    refine (drawIsKept_any V13 _ l (hv0.below B (Nat.le_refl _))).mono ?_
    rintro e W14 ⟨n3, pi_, ii_, qi_, pj_, ij_, qj_, L3, M3, rfl, hn3, oi, hl3x, oj, hm3x, bW14⟩
    have Kd := Kd.keep bW14
    have Ke := Ke.keep bW14
    have he := he.keep bW14
    have hf := hf.keep bW14
    have hg := hg.keep bW14
    have hh := hh.keep bW14
    have B := B.after bW14 B.size
    have hi := oi.ints
    have hj := oj.ints
    clear oi oj
    go_wp2_with fail
    refine calls_named ?_
    intro V15 hV15
    have bV15 : Below W14.heap.size W14 V15 := by rw [hV15]; exact bl1 _ _
    have Kf : Blk V15 W14.heap.size 28 #[.int .i64 n3, .slice pi_ ii_ qi_, .slice pj_ ij_ qj_] := by rw [hV15]; exact Blk.new _ _ _
    clear hV15
    have Kd := Kd.keep bV15
    have Ke := Ke.keep bV15
    have he := he.keep bV15
    have hf := hf.keep bV15
    have hg := hg.keep bV15
    have hh := hh.keep bV15
    have hi := hi.keep bV15
    have hj := hj.keep bV15
    have B := B.after bV15 B.size
    refine (drawNewKept_any V15 _ l (hv0.below B (Nat.le_refl _))).mono ?_
    rintro e W16 ⟨n4, pk_, ik_, qk_, L4, rfl, hn4, ok4, hl4x, bW16⟩
    have Kd := Kd.keep bW16
    have Ke := Ke.keep bW16
    have Kf := Kf.keep bW16
    have he := he.keep bW16
    have hf := hf.keep bW16
    have hg := hg.keep bW16
    have hh := hh.keep bW16
    have hi := hi.keep bW16
    have hj := hj.keep bW16
    have B := B.after bW16 B.size
    have hk := ok4.ints
    have hl4 : L4.length ≤ 1048576 := by omega
    obtain ⟨three, h3e⟩ : ∃ q, q = isFamB n4 L4 := ⟨_, rfl⟩
    obtain ⟨NH, hNH⟩ : ∃ q, q = blkN n4 L4 := ⟨_, rfl⟩
    obtain ⟨KH, hKH⟩ : ∃ q, q = nkL n4 L4 := ⟨_, rfl⟩
    obtain ⟨LH, hLH⟩ : ∃ q, q = blkL n4 L4 := ⟨_, rfl⟩
    have HI := fun W x1 (y1 : Ints W x1 L4) => newKeptI_c W n4 x1 L4 y1 hl4
    have HS := fun W x1 (y1 : Ints W x1 L4) => newKeptS_c W n4 x1 L4 y1 hl4
    simp only [← h3e, ← hNH, ← hKH, ← hLH] at HI HS
    have HI := Lib.hid HI
    have HS := Lib.hid HS
    clear h3e hNH hKH hLH ok4
    go_wp2_with fail
    refine calls_named ?_
    intro V17 hV17
    have bV17 : Below W16.heap.size W16 V17 := by rw [hV17]; exact bl1 _ _
    have Kg : Blk V17 W16.heap.size 26 #[.int .i64 n4, .slice pk_ ik_ qk_] := by rw [hV17]; exact Blk.new _ _ _
    clear hV17
    have Kd := Kd.keep bV17
    have Ke := Ke.keep bV17
    have Kf := Kf.keep bV17
    have he := he.keep bV17
    have hf := hf.keep bV17
    have hg := hg.keep bV17
    have hh := hh.keep bV17
    have hi := hi.keep bV17
    have hj := hj.keep bV17
    have hk := hk.keep bV17
    have B := B.after bV17 B.size
    refine (HI.out V17 _ hk).mono ?_
    rintro e W18 ⟨pl_, il_, ql_, pm_, im_, qm_, rfl, ol, om, _, bW18⟩
    have Kd := Kd.keep bW18
    have Ke := Ke.keep bW18
    have Kf := Kf.keep bW18
    have Kg := Kg.keep bW18
    have he := he.keep bW18
    have hf := hf.keep bW18
    have hg := hg.keep bW18
    have hh := hh.keep bW18
    have hi := hi.keep bW18
    have hj := hj.keep bW18
    have hk := hk.keep bW18
    have B := B.after bW18 B.size
    have hl := ol.ints
    have hm := om.ints
    have GKg := (Kg.alloc (.cells #[.int .i64 NH, .slice pl_ il_ ql_, .slice pm_ im_ qm_] 28)).cell
    go_wp2_with fail
    clear GKg
    refine calls_named ?_
    intro V19 hV19
    have bV19 : Below W18.heap.size W18 V19 := by rw [hV19]; exact bl1 _ _
    have Kh : Blk V19 W18.heap.size 28 #[.int .i64 NH, .slice pl_ il_ ql_, .slice pm_ im_ qm_] := by rw [hV19]; exact Blk.new _ _ _
    clear hV19
    have Kd := Kd.keep bV19
    have Ke := Ke.keep bV19
    have Kf := Kf.keep bV19
    have Kg := Kg.keep bV19
    have he := he.keep bV19
    have hf := hf.keep bV19
    have hg := hg.keep bV19
    have hh := hh.keep bV19
    have hi := hi.keep bV19
    have hj := hj.keep bV19
    have hk := hk.keep bV19
    have hl := hl.keep bV19
    have hm := hm.keep bV19
    have B := B.after bV19 B.size
    refine (HS.out V19 _ hk).mono ?_
    rintro e W20 ⟨pn_, in_, qn_, po_, io_, qo_, rfl, on, oo, _, bW20⟩
    have Kd := Kd.keep bW20
    have Ke := Ke.keep bW20
    have Kf := Kf.keep bW20
    have Kg := Kg.keep bW20
    have Kh := Kh.keep bW20
    have he := he.keep bW20
    have hf := hf.keep bW20
    have hg := hg.keep bW20
    have hh := hh.keep bW20
    have hi := hi.keep bW20
    have hj := hj.keep bW20
    have hk := hk.keep bW20
    have hl := hl.keep bW20
    have hm := hm.keep bW20
    have B := B.after bW20 B.size
    have hn := on.ints
    have ho := oo.ints
    clear ol om on oo HI HS
    go_wp2_with fail
    refine calls_named ?_
    intro V21 hV21
    have bV21 : Below W20.heap.size W20 V21 := by rw [hV21]; exact bl1 _ _
    have Ki : Blk V21 W20.heap.size 28 #[.int .i64 NH, .slice pn_ in_ qn_, .slice po_ io_ qo_] := by rw [hV21]; exact Blk.new _ _ _
    clear hV21
    have Kd := Kd.keep bV21
    have Ke := Ke.keep bV21
    have Kf := Kf.keep bV21
    have Kg := Kg.keep bV21
    have Kh := Kh.keep bV21
    have he := he.keep bV21
    have hf := hf.keep bV21
    have hg := hg.keep bV21
    have hh := hh.keep bV21
    have hi := hi.keep bV21
    have hj := hj.keep bV21
    have hk := hk.keep bV21
    have hl := hl.keep bV21
    have hm := hm.keep bV21
    have hn := hn.keep bV21
    have ho := ho.keep bV21
    have B := B.after bV21 B.size
    refine (drawEqualKept_any V21 _ l (hv0.below B (Nat.le_refl _))).mono ?_
    rintro e W22 ⟨n5, pp_, ip_, qp_, pq_, iq_, qq_, L5, M5, n6, pr_, ir_, qr_, ps_, is_, qs_, L6, M6, rfl, hn5, op, hl5x, oq, hm5x, hn6, or, hl6x, os, hm6x, bW22⟩
    have Kd := Kd.keep bW22
    have Ke := Ke.keep bW22
    have Kf := Kf.keep bW22
    have Kh := Kh.keep bW22
    have Ki := Ki.keep bW22
    have he := he.keep bW22
    have hf := hf.keep bW22
    have hg := hg.keep bW22
    have hh := hh.keep bW22
    have hi := hi.keep bW22
    have hj := hj.keep bW22
    have hl := hl.keep bW22
    have hm := hm.keep bW22
    have hn := hn.keep bW22
    have ho := ho.keep bW22
    have B := B.after bW22 B.size
    have hp := op.ints
    have hq := oq.ints
    have hr := or.ints
    have hs := os.ints
    clear op oq or os
    obtain ⟨V23, hV23⟩ : ∃ V, V = (W22.alloc (.cells #[.int .i64 n5, .slice pp_ ip_ qp_, .slice pq_ iq_ qq_] 28)).alloc (.cells #[.int .i64 n6, .slice pr_ ir_ qr_, .slice ps_ is_ qs_] 28) := ⟨_, rfl⟩
    have bV23 : Below W22.heap.size W22 V23 := by rw [hV23]; exact bl2 _ _ _
    have Kl : Blk V23 W22.heap.size 28 #[.int .i64 n5, .slice pp_ ip_ qp_, .slice pq_ iq_ qq_] := by rw [hV23]; exact (Blk.new _ _ _).alloc _
    have Km : Blk V23 (W22.heap.size + 1) 28 #[.int .i64 n6, .slice pr_ ir_ qr_, .slice ps_ is_ qs_] := by rw [hV23]; have := Blk.new (W22.alloc (.cells #[.int .i64 n5, .slice pp_ ip_ qp_, .slice pq_ iq_ qq_] 28)) 28 #[.int .i64 n6, .slice pr_ ir_ qr_, .slice ps_ is_ qs_]; simpa using this
    have Kd := Kd.keep bV23
    have Ke := Ke.keep bV23
    have Kf := Kf.keep bV23
    have Kh := Kh.keep bV23
    have Ki := Ki.keep bV23
    have he := he.keep bV23
    have hf := hf.keep bV23
    have hg := hg.keep bV23
    have hh := hh.keep bV23
    have hi := hi.keep bV23
    have hj := hj.keep bV23
    have hl := hl.keep bV23
    have hm := hm.keep bV23
    have hn := hn.keep bV23
    have ho := ho.keep bV23
    have hp := hp.keep bV23
    have hq := hq.keep bV23
    have hr := hr.keep bV23
    have hs := hs.keep bV23
    have B := B.after bV23 B.size
    go_wp2_with fail
    rw [← hV23]
    clear hV23
    obtain ⟨kb, hkb⟩ : ∃ q, q = keptB n3 L3 M3 := ⟨_, rfl⟩
    obtain ⟨eb, heb⟩ : ∃ q, q = ((decide (n5 = n6) && decide (L5 = L6)) && decide (M5 = M6)) := ⟨_, rfl⟩
    have Q1 := Lib.hid (fun y : Ext V23 => eqKept_same NR _ _ _ _ KR LR y.w (y.ints he) (y.ints hg) (y.ints hf) (y.ints hh))
    have Q2 := fun y : Ext V23 => isKeptI_c y.w NR _ KR (y.ints hg) hRK _ LR (y.ints hh) (by omega)
    have Q3 := fun y : Ext V23 => isKeptI_c y.w n3 _ L3 (y.ints hi) (by omega) _ M3 (y.ints hj) (by omega)
    have Q4 := fun y : Ext V23 => isKeptS_c y.w n3 _ L3 (y.ints hi) (by omega) _ M3 (y.ints hj) (by omega)
    have Q5 := Lib.hid (fun y : Ext V23 => eqKept_same NH _ _ _ _ KH LH y.w (y.ints hl) (y.ints hn) (y.ints hm) (y.ints ho))
    have Q6 := fun y : Ext V23 => equalKeptI_any n5 n6 _ _ _ _ L5 L6 M5 M6 y.w (y.ints hp) (y.ints hr) (y.ints hq) (y.ints hs)
    have Q7 := fun y : Ext V23 => equalKeptS_any n5 n6 _ _ _ _ L5 L6 M5 M6 y.w (y.ints hp) (y.ints hr) (y.ints hq) (y.ints hs)
    simp only [← hkb] at Q3 Q4
    simp only [← heb] at Q6 Q7
    have Q3 := Lib.hid Q3
    have Q4 := Lib.hid Q4
    have Q6 := Lib.hid Q6
    have Q7 := Lib.hid Q7
    clear hkb heb
    have gKd0 : ∀ y : Ext V23, y.w.cell? ⟨W10.heap.size, 0, none⟩ = some (.int .i64 NR) := fun y => y.cell (Kd.cell 0)
    have gKd1 : ∀ y : Ext V23, y.w.cell? ⟨W10.heap.size, 1, none⟩ = some (.slice pe_ ie_ qe_) := fun y => y.cell (Kd.cell 1)
    have gKd2 : ∀ y : Ext V23, y.w.cell? ⟨W10.heap.size, 2, none⟩ = some (.slice pf_ if_ qf_) := fun y => y.cell (Kd.cell 2)
    have gKe0 : ∀ y : Ext V23, y.w.cell? ⟨W12.heap.size, 0, none⟩ = some (.int .i64 NR) := fun y => y.cell (Ke.cell 0)
    have gKe1 : ∀ y : Ext V23, y.w.cell? ⟨W12.heap.size, 1, none⟩ = some (.slice pg_ ig_ qg_) := fun y => y.cell (Ke.cell 1)
    have gKe2 : ∀ y : Ext V23, y.w.cell? ⟨W12.heap.size, 2, none⟩ = some (.slice ph_ ih_ qh_) := fun y => y.cell (Ke.cell 2)
    have gKf0 : ∀ y : Ext V23, y.w.cell? ⟨W14.heap.size, 0, none⟩ = some (.int .i64 n3) := fun y => y.cell (Kf.cell 0)
    have gKf1 : ∀ y : Ext V23, y.w.cell? ⟨W14.heap.size, 1, none⟩ = some (.slice pi_ ii_ qi_) := fun y => y.cell (Kf.cell 1)
    have gKf2 : ∀ y : Ext V23, y.w.cell? ⟨W14.heap.size, 2, none⟩ = some (.slice pj_ ij_ qj_) := fun y => y.cell (Kf.cell 2)
    have gKh0 : ∀ y : Ext V23, y.w.cell? ⟨W18.heap.size, 0, none⟩ = some (.int .i64 NH) := fun y => y.cell (Kh.cell 0)
    have gKh1 : ∀ y : Ext V23, y.w.cell? ⟨W18.heap.size, 1, none⟩ = some (.slice pl_ il_ ql_) := fun y => y.cell (Kh.cell 1)
    have gKh2 : ∀ y : Ext V23, y.w.cell? ⟨W18.heap.size, 2, none⟩ = some (.slice pm_ im_ qm_) := fun y => y.cell (Kh.cell 2)
    have gKi0 : ∀ y : Ext V23, y.w.cell? ⟨W20.heap.size, 0, none⟩ = some (.int .i64 NH) := fun y => y.cell (Ki.cell 0)
    have gKi1 : ∀ y : Ext V23, y.w.cell? ⟨W20.heap.size, 1, none⟩ = some (.slice pn_ in_ qn_) := fun y => y.cell (Ki.cell 1)
    have gKi2 : ∀ y : Ext V23, y.w.cell? ⟨W20.heap.size, 2, none⟩ = some (.slice po_ io_ qo_) := fun y => y.cell (Ki.cell 2)
    have gKl0 : ∀ y : Ext V23, y.w.cell? ⟨W22.heap.size, 0, none⟩ = some (.int .i64 n5) := fun y => y.cell (Kl.cell 0)
    have gKl1 : ∀ y : Ext V23, y.w.cell? ⟨W22.heap.size, 1, none⟩ = some (.slice pp_ ip_ qp_) := fun y => y.cell (Kl.cell 1)
    have gKl2 : ∀ y : Ext V23, y.w.cell? ⟨W22.heap.size, 2, none⟩ = some (.slice pq_ iq_ qq_) := fun y => y.cell (Kl.cell 2)
    have gKm0 : ∀ y : Ext V23, y.w.cell? ⟨(W22.heap.size + 1), 0, none⟩ = some (.int .i64 n6) := fun y => y.cell (Km.cell 0)
    have gKm1 : ∀ y : Ext V23, y.w.cell? ⟨(W22.heap.size + 1), 1, none⟩ = some (.slice pr_ ir_ qr_) := fun y => y.cell (Km.cell 1)
    have gKm2 : ∀ y : Ext V23, y.w.cell? ⟨(W22.heap.size + 1), 2, none⟩ = some (.slice ps_ is_ qs_) := fun y => y.cell (Km.cell 2)
    cases one with
    | false =>
      have Q2 := Lib.hid Q2
      refine wp_region_ext _ (by kernel_rfl) (by kernel_rfl) ?_
      repeat (first | go_big_quiet_skip | (go_big_quiet_want; go_big_quiet_op; first | go_big_quiet_on | (apply Exists.intro; refine ⟨fun _ => ?_, ?_⟩; (first | (go_at_call 10; first | with_reducible exact ext_call (Q1.out _) | with_reducible exact ext_call (Q5.out _) | with_reducible exact ext_call (Q7.out _)) | (go_at_call 13; first | with_reducible exact ext_call (Q2.out _) | with_reducible exact ext_call (Q3.out _)) | (go_at_call 20; with_reducible exact ext_call (Q4.out _)) | (go_at_call 21; with_reducible exact ext_call (Q6.out _))); go_big_quiet_on)))
      refine wpQuiet_nil ?_
      rintro w9 ⟨⟨w9, hb9⟩, rfl⟩
      try dsimp only
      go_wp2
      go_ret
      exact ⟨by simp, B.after hb9 B.size⟩
    | true =>
      have hkr := HRE.out rfl
      simp only [hkr] at Q2
      clear hkr
      have Q2 := Lib.hid Q2
      refine wp_region_ext _ (by kernel_rfl) (by kernel_rfl) ?_
      repeat (first | go_big_quiet_skip | (go_big_quiet_want; go_big_quiet_op; first | go_big_quiet_on | (apply Exists.intro; refine ⟨fun _ => ?_, ?_⟩; (first | (go_at_call 10; first | with_reducible exact ext_call (Q1.out _) | with_reducible exact ext_call (Q5.out _) | with_reducible exact ext_call (Q7.out _)) | (go_at_call 13; first | with_reducible exact ext_call (Q2.out _) | with_reducible exact ext_call (Q3.out _)) | (go_at_call 20; with_reducible exact ext_call (Q4.out _)) | (go_at_call 21; with_reducible exact ext_call (Q6.out _))); go_big_quiet_on)))
      refine wpQuiet_nil ?_
      rintro w9 ⟨⟨w9, hb9⟩, rfl⟩
      try dsimp only
      go_wp2
      go_ret
      exact ⟨by simp, B.after hb9 B.size⟩
  | true =>
    obtain ⟨f1, f2, f3, f4, f5, f6, f7, f8, f9⟩ := HFK.out rfl
    have HF := Lib.hid (And.intro f1 (And.intro f2 (And.intro f3 (And.intro f4 (And.intro f5 (And.intro f6 (And.intro f7 (And.intro f8 f9))))))))
    clear f1 f2 f3 f4 f5 f6 f7 f8 f9
    have GKa := (Ka.alloc (.cells #[.int .i64 NA, .slice p5 i5 q5, .slice p6 i6 q6] 28)).cell
    go_wp2_with fail
    clear GKa
    refine calls_named ?_
    intro V6 hV6
    have bV6 : Below W5.heap.size W5 V6 := by rw [hV6]; exact bl1 _ _
    have Kb : Blk V6 W5.heap.size 28 #[.int .i64 NA, .slice p5 i5 q5, .slice p6 i6 q6] := by rw [hV6]; exact Blk.new _ _ _
    clear hV6
    have Kk := Kk.keep bV6
    have Ka := Ka.keep bV6
    have h1 := h1.keep bV6
    have h2 := h2.keep bV6
    have h3 := h3.keep bV6
    have h4 := h4.keep bV6
    have h5 := h5.keep bV6
    have h6 := h6.keep bV6
    have B := B.after bV6 B.size
    refine (eqKept_same NA _ _ _ _ KA LA V6 h3 h5 h4 h6).mono ?_
    rintro e W7 ⟨rfl, bW7⟩
    have Kk := Kk.keep bW7
    have Ka := Ka.keep bW7
    have Kb := Kb.keep bW7
    have h1 := h1.keep bW7
    have h2 := h2.keep bW7
    have h3 := h3.keep bW7
    have h4 := h4.keep bW7
    have h5 := h5.keep bW7
    have h6 := h6.keep bW7
    have B := B.after bW7 B.size
    have GKb := Kb.cell
    go_wp2_with fail
    clear GKb
    have HN := newKeptI_c W7 NA _ KA h5 hAK
    obtain ⟨f1, f2, f3, f4, f5, f6, f7, f8, f9⟩ := HF.out
    simp only [f1, f2, f3, f4] at HN
    clear f1 f2 f3 f4 f5 f6 f7 f8 f9
    refine (HN).mono ?_
    rintro e W8 ⟨p7, i7, q7, p8, i8, q8, rfl, o7, o8, _, bW8⟩
    have Kk := Kk.keep bW8
    have Ka := Ka.keep bW8
    have Kb := Kb.keep bW8
    have h1 := h1.keep bW8
    have h2 := h2.keep bW8
    have h3 := h3.keep bW8
    have h4 := h4.keep bW8
    have h5 := h5.keep bW8
    have h6 := h6.keep bW8
    have B := B.after bW8 B.size
    have h7 := o7.ints
    have h8 := o8.ints
    clear o7 o8 HN
    have GKb := (Kb.alloc (.cells #[.int .i64 NA, .slice p7 i7 q7, .slice p8 i8 q8] 28)).cell
    go_wp2_with fail
    clear GKb
    refine calls_named ?_
    intro V9 hV9
    have bV9 : Below W8.heap.size W8 V9 := by rw [hV9]; exact bl1 _ _
    have Kn : Blk V9 W8.heap.size 28 #[.int .i64 NA, .slice p7 i7 q7, .slice p8 i8 q8] := by rw [hV9]; exact Blk.new _ _ _
    clear hV9
    have Kk := Kk.keep bV9
    have Ka := Ka.keep bV9
    have Kb := Kb.keep bV9
    have h1 := h1.keep bV9
    have h2 := h2.keep bV9
    have h3 := h3.keep bV9
    have h4 := h4.keep bV9
    have h5 := h5.keep bV9
    have h6 := h6.keep bV9
    have h7 := h7.keep bV9
    have h8 := h8.keep bV9
    have B := B.after bV9 B.size
    have HN := removeSetI_c V9 NA _ KA h5 hAK _ LA h6 hAL s1 hs1
    obtain ⟨f1, f2, f3, f4, f5, f6, f7, f8, f9⟩ := HF.out
    simp only [f6, f7, f8, f9] at HN
    clear f1 f2 f3 f4 f5 f6 f7 f8 f9
    refine (HN).mono ?_
    rintro e W10 ⟨p9, i9, q9, p10, i10, q10, rfl, o9, o10, _, bW10⟩
    have Kk := Kk.keep bW10
    have Ka := Ka.keep bW10
    have Kb := Kb.keep bW10
    have Kn := Kn.keep bW10
    have h1 := h1.keep bW10
    have h2 := h2.keep bW10
    have h3 := h3.keep bW10
    have h4 := h4.keep bW10
    have h5 := h5.keep bW10
    have h6 := h6.keep bW10
    have h7 := h7.keep bW10
    have h8 := h8.keep bW10
    have B := B.after bW10 B.size
    have h9 := o9.ints
    have h10 := o10.ints
    clear o9 o10 HN
    have GKb := (Kb.alloc (.cells #[.int .i64 n1, .slice p9 i9 q9, .slice p10 i10 q10] 28)).cell
    go_wp2_with fail
    clear GKb
    refine calls_named ?_
    intro V11 hV11
    have bV11 : Below W10.heap.size W10 V11 := by rw [hV11]; exact bl1 _ _
    have Kr : Blk V11 W10.heap.size 28 #[.int .i64 n1, .slice p9 i9 q9, .slice p10 i10 q10] := by rw [hV11]; exact Blk.new _ _ _
    clear hV11
    have Kk := Kk.keep bV11
    have Ka := Ka.keep bV11
    have Kb := Kb.keep bV11
    have Kn := Kn.keep bV11
    have h1 := h1.keep bV11
    have h2 := h2.keep bV11
    have h3 := h3.keep bV11
    have h4 := h4.keep bV11
    have h5 := h5.keep bV11
    have h6 := h6.keep bV11
    have h7 := h7.keep bV11
    have h8 := h8.keep bV11
    have h9 := h9.keep bV11
    have h10 := h10.keep bV11
    have B := B.after bV11 B.size
    have HN := isKeptI_c V11 NA _ KA h5 hAK _ LA h6 hAL
    rw [HF.out.2.2.2.2.1] at HN
    refine (HN).mono ?_
    rintro e W12 ⟨rfl, bW12⟩
    have Kk := Kk.keep bW12
    have Ka := Ka.keep bW12
    have Kb := Kb.keep bW12
    have Kn := Kn.keep bW12
    have Kr := Kr.keep bW12
    have h1 := h1.keep bW12
    have h2 := h2.keep bW12
    have h3 := h3.keep bW12
    have h4 := h4.keep bW12
    have h5 := h5.keep bW12
    have h6 := h6.keep bW12
    have h7 := h7.keep bW12
    have h8 := h8.keep bW12
    have h9 := h9.keep bW12
    have h10 := h10.keep bW12
    have B := B.after bW12 B.size
    have GKb := Kb.cell
    have GKn := Kn.cell
    go_wp2_with fail
    clear GKb GKn
    refine (eqKept_same NA _ _ _ _ KA LA W12 h7 h5 h8 h6).mono ?_
    rintro e W13 ⟨rfl, bW13⟩
    have Kk := Kk.keep bW13
    have Ka := Ka.keep bW13
    have Kb := Kb.keep bW13
    have Kn := Kn.keep bW13
    have Kr := Kr.keep bW13
    have h1 := h1.keep bW13
    have h2 := h2.keep bW13
    have h3 := h3.keep bW13
    have h4 := h4.keep bW13
    have h5 := h5.keep bW13
    have h6 := h6.keep bW13
    have h7 := h7.keep bW13
    have h8 := h8.keep bW13
    have h9 := h9.keep bW13
    have h10 := h10.keep bW13
    have B := B.after bW13 B.size
    have GKk := Kk.cell
    have GKr := Kr.cell
    go_wp2_with fail
    clear GKk GKr
    refine (eqKept_same n1 _ _ _ _ L1 M1 W13 h9 h1 h10 h2).mono ?_
    rintro e W14 ⟨rfl, bW14⟩
    have Kk := Kk.keep bW14
    have Ka := Ka.keep bW14
    have Kb := Kb.keep bW14
    have Kn := Kn.keep bW14
    have Kr := Kr.keep bW14
    have h1 := h1.keep bW14
    have h2 := h2.keep bW14
    have h3 := h3.keep bW14
    have h4 := h4.keep bW14
    have h5 := h5.keep bW14
    have h6 := h6.keep bW14
    have h7 := h7.keep bW14
    have h8 := h8.keep bW14
    have h9 := h9.keep bW14
    have h10 := h10.keep bW14
    have B := B.after bW14 B.size
    go_wp2_with fail
    refine (drawRemoveSet_any W14 _ l (hv0.below B (Nat.le_refl _))).mono ?_
    rintro e W15 ⟨n2, pc_, ic_, qc_, pd_, id_, qd_, s2, L2, M2, rfl, hn2, hs2, oc1, hl2x, oc2, hm2x, bW15⟩
    have Kk := Kk.keep bW15
    have Ka := Ka.keep bW15
    have Kb := Kb.keep bW15
    have Kn := Kn.keep bW15
    have Kr := Kr.keep bW15
    have h1 := h1.keep bW15
    have h2 := h2.keep bW15
    have h3 := h3.keep bW15
    have h4 := h4.keep bW15
    have h5 := h5.keep bW15
    have h6 := h6.keep bW15
    have h7 := h7.keep bW15
    have h8 := h8.keep bW15
    have h9 := h9.keep bW15
    have h10 := h10.keep bW15
    have B := B.after bW15 B.size
    have hc := oc1.ints
    have hd := oc2.ints
    have hl2 : L2.length ≤ 1048576 := by omega
    have hm2 : M2.length ≤ 1048576 := by omega
    have hRK := remK_len n2 L2 M2 s2 hl2
    have hRL := remL_len n2 L2 M2 s2
    have hRE := @rem_kept n2 s2 L2 M2
    obtain ⟨one, hone⟩ : ∃ q, q = remF n2 L2 M2 s2 := ⟨_, rfl⟩
    obtain ⟨NR, hNR⟩ : ∃ q, q = remN n2 L2 M2 s2 := ⟨_, rfl⟩
    obtain ⟨KR, hKR⟩ : ∃ q, q = remK n2 L2 M2 s2 := ⟨_, rfl⟩
    obtain ⟨LR, hLR⟩ : ∃ q, q = remL n2 L2 M2 s2 := ⟨_, rfl⟩
    have HI := fun W x1 x2 (y1 : Ints W x1 L2) (y2 : Ints W x2 M2) => removeSetI_c W n2 x1 L2 y1 hl2 x2 M2 y2 hm2 s2 hs2
    have HS := fun W x1 x2 (y1 : Ints W x1 L2) (y2 : Ints W x2 M2) => removeSetS_c W n2 x1 L2 y1 hl2 x2 M2 y2 hm2 s2 hs2
    simp only [← hone, ← hNR, ← hKR, ← hLR] at HI HS hRE
    rw [← hKR] at hRK
    rw [← hLR] at hRL
    have HRE := Lib.hid hRE
    have HI := Lib.hid HI
    have HS := Lib.hid HS
    clear hRE hone hNR hKR hLR oc1 oc2
    go_wp2_with fail
    refine calls_named ?_
    intro V16 hV16
    have bV16 : Below W15.heap.size W15 V16 := by rw [hV16]; exact bl1 _ _
    have Kc : Blk V16 W15.heap.size 28 #[.int .i64 n2, .slice pc_ ic_ qc_, .slice pd_ id_ qd_] := by rw [hV16]; exact Blk.new _ _ _
    clear hV16
    have hc := hc.keep bV16
    have hd := hd.keep bV16
    have B := B.after bV16 B.size
    refine (HI.out V16 _ _ hc hd).mono ?_
    rintro e W17 ⟨pe_, ie_, qe_, pf_, if_, qf_, rfl, oe, of, _, bW17⟩
    have Kc := Kc.keep bW17
    have hc := hc.keep bW17
    have hd := hd.keep bW17
    have B := B.after bW17 B.size
    have he := oe.ints
    have hf := of.ints
    have GKc := (Kc.alloc (.cells #[.int .i64 NR, .slice pe_ ie_ qe_, .slice pf_ if_ qf_] 28)).cell
    go_wp2_with fail
    clear GKc
    refine calls_named ?_
    intro V18 hV18
    have bV18 : Below W17.heap.size W17 V18 := by rw [hV18]; exact bl1 _ _
    have Kd : Blk V18 W17.heap.size 28 #[.int .i64 NR, .slice pe_ ie_ qe_, .slice pf_ if_ qf_] := by rw [hV18]; exact Blk.new _ _ _
    clear hV18
    have Kc := Kc.keep bV18
    have hc := hc.keep bV18
    have hd := hd.keep bV18
    have he := he.keep bV18
    have hf := hf.keep bV18
    have B := B.after bV18 B.size
    refine (HS.out V18 _ _ hc hd).mono ?_
    rintro e W19 ⟨pg_, ig_, qg_, ph_, ih_, qh_, rfl, og, oh, _, bW19⟩
    have Kc := Kc.keep bW19
    have Kd := Kd.keep bW19
    have hc := hc.keep bW19
    have hd := hd.keep bW19
    have he := he.keep bW19
    have hf := hf.keep bW19
    have B := B.after bW19 B.size
    have hg := og.ints
    have hh := oh.ints
    clear oe of og oh HI HS
    go_wp2_with fail
    refine calls_named ?_
    intro V20 hV20
    have bV20 : Below W19.heap.size W19 V20 := by rw [hV20]; exact bl1 _ _
    have Ke : Blk V20 W19.heap.size 28 #[.int .i64 NR, .slice pg_ ig_ qg_, .slice ph_ ih_ qh_] := by rw [hV20]; exact Blk.new _ _ _
    clear hV20
    have Kc := Kc.keep bV20
    have Kd := Kd.keep bV20
    have hc := hc.keep bV20
    have hd := hd.keep bV20
    have he := he.keep bV20
    have hf := hf.keep bV20
    have hg := hg.keep bV20
    have hh := hh.keep bV20
    have B := B.after bV20 B.size
    refine (drawIsKept_any V20 _ l (hv0.below B (Nat.le_refl _))).mono ?_
    rintro e W21 ⟨n3, pi_, ii_, qi_, pj_, ij_, qj_, L3, M3, rfl, hn3, oi, hl3x, oj, hm3x, bW21⟩
    have Kd := Kd.keep bW21
    have Ke := Ke.keep bW21
    have he := he.keep bW21
    have hf := hf.keep bW21
    have hg := hg.keep bW21
    have hh := hh.keep bW21
    have B := B.after bW21 B.size
    have hi := oi.ints
    have hj := oj.ints
    clear oi oj
    go_wp2_with fail
    refine calls_named ?_
    intro V22 hV22
    have bV22 : Below W21.heap.size W21 V22 := by rw [hV22]; exact bl1 _ _
    have Kf : Blk V22 W21.heap.size 28 #[.int .i64 n3, .slice pi_ ii_ qi_, .slice pj_ ij_ qj_] := by rw [hV22]; exact Blk.new _ _ _
    clear hV22
    have Kd := Kd.keep bV22
    have Ke := Ke.keep bV22
    have he := he.keep bV22
    have hf := hf.keep bV22
    have hg := hg.keep bV22
    have hh := hh.keep bV22
    have hi := hi.keep bV22
    have hj := hj.keep bV22
    have B := B.after bV22 B.size
    refine (drawNewKept_any V22 _ l (hv0.below B (Nat.le_refl _))).mono ?_
    rintro e W23 ⟨n4, pk_, ik_, qk_, L4, rfl, hn4, ok4, hl4x, bW23⟩
    have Kd := Kd.keep bW23
    have Ke := Ke.keep bW23
    have Kf := Kf.keep bW23
    have he := he.keep bW23
    have hf := hf.keep bW23
    have hg := hg.keep bW23
    have hh := hh.keep bW23
    have hi := hi.keep bW23
    have hj := hj.keep bW23
    have B := B.after bW23 B.size
    have hk := ok4.ints
    have hl4 : L4.length ≤ 1048576 := by omega
    obtain ⟨three, h3e⟩ : ∃ q, q = isFamB n4 L4 := ⟨_, rfl⟩
    obtain ⟨NH, hNH⟩ : ∃ q, q = blkN n4 L4 := ⟨_, rfl⟩
    obtain ⟨KH, hKH⟩ : ∃ q, q = nkL n4 L4 := ⟨_, rfl⟩
    obtain ⟨LH, hLH⟩ : ∃ q, q = blkL n4 L4 := ⟨_, rfl⟩
    have HI := fun W x1 (y1 : Ints W x1 L4) => newKeptI_c W n4 x1 L4 y1 hl4
    have HS := fun W x1 (y1 : Ints W x1 L4) => newKeptS_c W n4 x1 L4 y1 hl4
    simp only [← h3e, ← hNH, ← hKH, ← hLH] at HI HS
    have HI := Lib.hid HI
    have HS := Lib.hid HS
    clear h3e hNH hKH hLH ok4
    go_wp2_with fail
    refine calls_named ?_
    intro V24 hV24
    have bV24 : Below W23.heap.size W23 V24 := by rw [hV24]; exact bl1 _ _
    have Kg : Blk V24 W23.heap.size 26 #[.int .i64 n4, .slice pk_ ik_ qk_] := by rw [hV24]; exact Blk.new _ _ _
    clear hV24
    have Kd := Kd.keep bV24
    have Ke := Ke.keep bV24
    have Kf := Kf.keep bV24
    have he := he.keep bV24
    have hf := hf.keep bV24
    have hg := hg.keep bV24
    have hh := hh.keep bV24
    have hi := hi.keep bV24
    have hj := hj.keep bV24
    have hk := hk.keep bV24
    have B := B.after bV24 B.size
    refine (HI.out V24 _ hk).mono ?_
    rintro e W25 ⟨pl_, il_, ql_, pm_, im_, qm_, rfl, ol, om, _, bW25⟩
    have Kd := Kd.keep bW25
    have Ke := Ke.keep bW25
    have Kf := Kf.keep bW25
    have Kg := Kg.keep bW25
    have he := he.keep bW25
    have hf := hf.keep bW25
    have hg := hg.keep bW25
    have hh := hh.keep bW25
    have hi := hi.keep bW25
    have hj := hj.keep bW25
    have hk := hk.keep bW25
    have B := B.after bW25 B.size
    have hl := ol.ints
    have hm := om.ints
    have GKg := (Kg.alloc (.cells #[.int .i64 NH, .slice pl_ il_ ql_, .slice pm_ im_ qm_] 28)).cell
    go_wp2_with fail
    clear GKg
    refine calls_named ?_
    intro V26 hV26
    have bV26 : Below W25.heap.size W25 V26 := by rw [hV26]; exact bl1 _ _
    have Kh : Blk V26 W25.heap.size 28 #[.int .i64 NH, .slice pl_ il_ ql_, .slice pm_ im_ qm_] := by rw [hV26]; exact Blk.new _ _ _
    clear hV26
    have Kd := Kd.keep bV26
    have Ke := Ke.keep bV26
    have Kf := Kf.keep bV26
    have Kg := Kg.keep bV26
    have he := he.keep bV26
    have hf := hf.keep bV26
    have hg := hg.keep bV26
    have hh := hh.keep bV26
    have hi := hi.keep bV26
    have hj := hj.keep bV26
    have hk := hk.keep bV26
    have hl := hl.keep bV26
    have hm := hm.keep bV26
    have B := B.after bV26 B.size
    refine (HS.out V26 _ hk).mono ?_
    rintro e W27 ⟨pn_, in_, qn_, po_, io_, qo_, rfl, on, oo, _, bW27⟩
    have Kd := Kd.keep bW27
    have Ke := Ke.keep bW27
    have Kf := Kf.keep bW27
    have Kg := Kg.keep bW27
    have Kh := Kh.keep bW27
    have he := he.keep bW27
    have hf := hf.keep bW27
    have hg := hg.keep bW27
    have hh := hh.keep bW27
    have hi := hi.keep bW27
    have hj := hj.keep bW27
    have hk := hk.keep bW27
    have hl := hl.keep bW27
    have hm := hm.keep bW27
    have B := B.after bW27 B.size
    have hn := on.ints
    have ho := oo.ints
    clear ol om on oo HI HS
    go_wp2_with fail
    refine calls_named ?_
    intro V28 hV28
    have bV28 : Below W27.heap.size W27 V28 := by rw [hV28]; exact bl1 _ _
    have Ki : Blk V28 W27.heap.size 28 #[.int .i64 NH, .slice pn_ in_ qn_, .slice po_ io_ qo_] := by rw [hV28]; exact Blk.new _ _ _
    clear hV28
    have Kd := Kd.keep bV28
    have Ke := Ke.keep bV28
    have Kf := Kf.keep bV28
    have Kg := Kg.keep bV28
    have Kh := Kh.keep bV28
    have he := he.keep bV28
    have hf := hf.keep bV28
    have hg := hg.keep bV28
    have hh := hh.keep bV28
    have hi := hi.keep bV28
    have hj := hj.keep bV28
    have hk := hk.keep bV28
    have hl := hl.keep bV28
    have hm := hm.keep bV28
    have hn := hn.keep bV28
    have ho := ho.keep bV28
    have B := B.after bV28 B.size
    refine (drawEqualKept_any V28 _ l (hv0.below B (Nat.le_refl _))).mono ?_
    rintro e W29 ⟨n5, pp_, ip_, qp_, pq_, iq_, qq_, L5, M5, n6, pr_, ir_, qr_, ps_, is_, qs_, L6, M6, rfl, hn5, op, hl5x, oq, hm5x, hn6, or, hl6x, os, hm6x, bW29⟩
    have Kd := Kd.keep bW29
    have Ke := Ke.keep bW29
    have Kf := Kf.keep bW29
    have Kh := Kh.keep bW29
    have Ki := Ki.keep bW29
    have he := he.keep bW29
    have hf := hf.keep bW29
    have hg := hg.keep bW29
    have hh := hh.keep bW29
    have hi := hi.keep bW29
    have hj := hj.keep bW29
    have hl := hl.keep bW29
    have hm := hm.keep bW29
    have hn := hn.keep bW29
    have ho := ho.keep bW29
    have B := B.after bW29 B.size
    have hp := op.ints
    have hq := oq.ints
    have hr := or.ints
    have hs := os.ints
    clear op oq or os
    obtain ⟨V30, hV30⟩ : ∃ V, V = (W29.alloc (.cells #[.int .i64 n5, .slice pp_ ip_ qp_, .slice pq_ iq_ qq_] 28)).alloc (.cells #[.int .i64 n6, .slice pr_ ir_ qr_, .slice ps_ is_ qs_] 28) := ⟨_, rfl⟩
    have bV30 : Below W29.heap.size W29 V30 := by rw [hV30]; exact bl2 _ _ _
    have Kl : Blk V30 W29.heap.size 28 #[.int .i64 n5, .slice pp_ ip_ qp_, .slice pq_ iq_ qq_] := by rw [hV30]; exact (Blk.new _ _ _).alloc _
    have Km : Blk V30 (W29.heap.size + 1) 28 #[.int .i64 n6, .slice pr_ ir_ qr_, .slice ps_ is_ qs_] := by rw [hV30]; have := Blk.new (W29.alloc (.cells #[.int .i64 n5, .slice pp_ ip_ qp_, .slice pq_ iq_ qq_] 28)) 28 #[.int .i64 n6, .slice pr_ ir_ qr_, .slice ps_ is_ qs_]; simpa using this
    have Kd := Kd.keep bV30
    have Ke := Ke.keep bV30
    have Kf := Kf.keep bV30
    have Kh := Kh.keep bV30
    have Ki := Ki.keep bV30
    have he := he.keep bV30
    have hf := hf.keep bV30
    have hg := hg.keep bV30
    have hh := hh.keep bV30
    have hi := hi.keep bV30
    have hj := hj.keep bV30
    have hl := hl.keep bV30
    have hm := hm.keep bV30
    have hn := hn.keep bV30
    have ho := ho.keep bV30
    have hp := hp.keep bV30
    have hq := hq.keep bV30
    have hr := hr.keep bV30
    have hs := hs.keep bV30
    have B := B.after bV30 B.size
    go_wp2_with fail
    rw [← hV30]
    clear hV30
    obtain ⟨kb, hkb⟩ : ∃ q, q = keptB n3 L3 M3 := ⟨_, rfl⟩
    obtain ⟨eb, heb⟩ : ∃ q, q = ((decide (n5 = n6) && decide (L5 = L6)) && decide (M5 = M6)) := ⟨_, rfl⟩
    have Q1 := Lib.hid (fun y : Ext V30 => eqKept_same NR _ _ _ _ KR LR y.w (y.ints he) (y.ints hg) (y.ints hf) (y.ints hh))
    have Q2 := fun y : Ext V30 => isKeptI_c y.w NR _ KR (y.ints hg) hRK _ LR (y.ints hh) (by omega)
    have Q3 := fun y : Ext V30 => isKeptI_c y.w n3 _ L3 (y.ints hi) (by omega) _ M3 (y.ints hj) (by omega)
    have Q4 := fun y : Ext V30 => isKeptS_c y.w n3 _ L3 (y.ints hi) (by omega) _ M3 (y.ints hj) (by omega)
    have Q5 := Lib.hid (fun y : Ext V30 => eqKept_same NH _ _ _ _ KH LH y.w (y.ints hl) (y.ints hn) (y.ints hm) (y.ints ho))
    have Q6 := fun y : Ext V30 => equalKeptI_any n5 n6 _ _ _ _ L5 L6 M5 M6 y.w (y.ints hp) (y.ints hr) (y.ints hq) (y.ints hs)
    have Q7 := fun y : Ext V30 => equalKeptS_any n5 n6 _ _ _ _ L5 L6 M5 M6 y.w (y.ints hp) (y.ints hr) (y.ints hq) (y.ints hs)
    simp only [← hkb] at Q3 Q4
    simp only [← heb] at Q6 Q7
    have Q3 := Lib.hid Q3
    have Q4 := Lib.hid Q4
    have Q6 := Lib.hid Q6
    have Q7 := Lib.hid Q7
    clear hkb heb
    have gKd0 : ∀ y : Ext V30, y.w.cell? ⟨W17.heap.size, 0, none⟩ = some (.int .i64 NR) := fun y => y.cell (Kd.cell 0)
    have gKd1 : ∀ y : Ext V30, y.w.cell? ⟨W17.heap.size, 1, none⟩ = some (.slice pe_ ie_ qe_) := fun y => y.cell (Kd.cell 1)
    have gKd2 : ∀ y : Ext V30, y.w.cell? ⟨W17.heap.size, 2, none⟩ = some (.slice pf_ if_ qf_) := fun y => y.cell (Kd.cell 2)
    have gKe0 : ∀ y : Ext V30, y.w.cell? ⟨W19.heap.size, 0, none⟩ = some (.int .i64 NR) := fun y => y.cell (Ke.cell 0)
    have gKe1 : ∀ y : Ext V30, y.w.cell? ⟨W19.heap.size, 1, none⟩ = some (.slice pg_ ig_ qg_) := fun y => y.cell (Ke.cell 1)
    have gKe2 : ∀ y : Ext V30, y.w.cell? ⟨W19.heap.size, 2, none⟩ = some (.slice ph_ ih_ qh_) := fun y => y.cell (Ke.cell 2)
    have gKf0 : ∀ y : Ext V30, y.w.cell? ⟨W21.heap.size, 0, none⟩ = some (.int .i64 n3) := fun y => y.cell (Kf.cell 0)
    have gKf1 : ∀ y : Ext V30, y.w.cell? ⟨W21.heap.size, 1, none⟩ = some (.slice pi_ ii_ qi_) := fun y => y.cell (Kf.cell 1)
    have gKf2 : ∀ y : Ext V30, y.w.cell? ⟨W21.heap.size, 2, none⟩ = some (.slice pj_ ij_ qj_) := fun y => y.cell (Kf.cell 2)
    have gKh0 : ∀ y : Ext V30, y.w.cell? ⟨W25.heap.size, 0, none⟩ = some (.int .i64 NH) := fun y => y.cell (Kh.cell 0)
    have gKh1 : ∀ y : Ext V30, y.w.cell? ⟨W25.heap.size, 1, none⟩ = some (.slice pl_ il_ ql_) := fun y => y.cell (Kh.cell 1)
    have gKh2 : ∀ y : Ext V30, y.w.cell? ⟨W25.heap.size, 2, none⟩ = some (.slice pm_ im_ qm_) := fun y => y.cell (Kh.cell 2)
    have gKi0 : ∀ y : Ext V30, y.w.cell? ⟨W27.heap.size, 0, none⟩ = some (.int .i64 NH) := fun y => y.cell (Ki.cell 0)
    have gKi1 : ∀ y : Ext V30, y.w.cell? ⟨W27.heap.size, 1, none⟩ = some (.slice pn_ in_ qn_) := fun y => y.cell (Ki.cell 1)
    have gKi2 : ∀ y : Ext V30, y.w.cell? ⟨W27.heap.size, 2, none⟩ = some (.slice po_ io_ qo_) := fun y => y.cell (Ki.cell 2)
    have gKl0 : ∀ y : Ext V30, y.w.cell? ⟨W29.heap.size, 0, none⟩ = some (.int .i64 n5) := fun y => y.cell (Kl.cell 0)
    have gKl1 : ∀ y : Ext V30, y.w.cell? ⟨W29.heap.size, 1, none⟩ = some (.slice pp_ ip_ qp_) := fun y => y.cell (Kl.cell 1)
    have gKl2 : ∀ y : Ext V30, y.w.cell? ⟨W29.heap.size, 2, none⟩ = some (.slice pq_ iq_ qq_) := fun y => y.cell (Kl.cell 2)
    have gKm0 : ∀ y : Ext V30, y.w.cell? ⟨(W29.heap.size + 1), 0, none⟩ = some (.int .i64 n6) := fun y => y.cell (Km.cell 0)
    have gKm1 : ∀ y : Ext V30, y.w.cell? ⟨(W29.heap.size + 1), 1, none⟩ = some (.slice pr_ ir_ qr_) := fun y => y.cell (Km.cell 1)
    have gKm2 : ∀ y : Ext V30, y.w.cell? ⟨(W29.heap.size + 1), 2, none⟩ = some (.slice ps_ is_ qs_) := fun y => y.cell (Km.cell 2)
    cases one with
    | false =>
      have Q2 := Lib.hid Q2
      refine wp_region_ext _ (by kernel_rfl) (by kernel_rfl) ?_
      repeat (first | go_big_quiet_skip | (go_big_quiet_want; go_big_quiet_op; first | go_big_quiet_on | (apply Exists.intro; refine ⟨fun _ => ?_, ?_⟩; (first | (go_at_call 10; first | with_reducible exact ext_call (Q1.out _) | with_reducible exact ext_call (Q5.out _) | with_reducible exact ext_call (Q7.out _)) | (go_at_call 13; first | with_reducible exact ext_call (Q2.out _) | with_reducible exact ext_call (Q3.out _)) | (go_at_call 20; with_reducible exact ext_call (Q4.out _)) | (go_at_call 21; with_reducible exact ext_call (Q6.out _))); go_big_quiet_on)))
      refine wpQuiet_nil ?_
      rintro w9 ⟨⟨w9, hb9⟩, rfl⟩
      try dsimp only
      go_wp2
      go_ret
      exact ⟨by simp, B.after hb9 B.size⟩
    | true =>
      have hkr := HRE.out rfl
      simp only [hkr] at Q2
      clear hkr
      have Q2 := Lib.hid Q2
      refine wp_region_ext _ (by kernel_rfl) (by kernel_rfl) ?_
      repeat (first | go_big_quiet_skip | (go_big_quiet_want; go_big_quiet_op; first | go_big_quiet_on | (apply Exists.intro; refine ⟨fun _ => ?_, ?_⟩; (first | (go_at_call 10; first | with_reducible exact ext_call (Q1.out _) | with_reducible exact ext_call (Q5.out _) | with_reducible exact ext_call (Q7.out _)) | (go_at_call 13; first | with_reducible exact ext_call (Q2.out _) | with_reducible exact ext_call (Q3.out _)) | (go_at_call 20; with_reducible exact ext_call (Q4.out _)) | (go_at_call 21; with_reducible exact ext_call (Q6.out _))); go_big_quiet_on)))
      refine wpQuiet_nil ?_
      rintro w9 ⟨⟨w9, hb9⟩, rfl⟩
      try dsimp only
      go_wp2
      go_ret
      exact ⟨by simp, B.after hb9 B.size⟩

theorem fnEdits_params : Try.f3.params = #[22] := by kernel_rfl
set_option maxRecDepth 100000 in
theorem fnEdits_lifted (os : Os) (started : os.Started) (H : Type) (enc : TypeId × Value → H) :
    ReturnsInHanded {} Try.checked os 3 .any (Rows.fnEditsSpec.pre6 enc Try.prog Try.f3 Rows.fnEditsRow.domain false) (Rows.fnEditsSpec.post enc Try.prog Try.f3 false true false false) := by
  refine law_lift os started H enc Try.func3 (by kernel_rfl) rfl (by kernel_rfl) (by kernel_rfl) ?_
    (ChangeSpec.witness6 (enc := enc) (C := Try.checked) false ⟨#[], #[.slice none 0 0], []⟩ 8 (by kernel_rfl) (by kernel_rfl) (by kernel_rfl) (by kernel_rfl)) ?_
  · intro ds hds
    rw [fnEdits_params] at hds
    match ds, hds with
    | [d0], _ => rfl
  · intro W base args ds p hval hA
    rw [fnEdits_params] at hA hval
    obtain ⟨v0, vs0, d0, ds0, p0, q0, hargs, rfl, rfl, h0, r0⟩ := trodAll_cons hA
    obtain ⟨rfl, rfl, rfl⟩ := trodAll_nil r0
    obtain rfl : args = #[v0] := by cases args; simp_all
    obtain ⟨l0, w0⟩ := rd_bytes (hval 0 22 v0 rfl rfl) h0
    exact edits_walk W _ l0 w0

theorem fnEdits_holds : Rows.FnEditsSaid :=
  OpenClaim.holds_of_wide 3 Try.f3 rfl rfl rfl rfl rfl rfl rfl ⟨rfl, rfl, rfl, rfl, rfl⟩ rfl rfl rfl rfl rfl (by kernel_rfl) Try.func3 (by kernel_rfl)
    (of_decide_eq_true (by kernel_rfl)) (by unfold Func.isWrapper; first | (rw [if_pos (by decide +kernel)]; kernel_rfl) | (rw [if_neg (by decide +kernel)]; exact ⟨rfl, rfl⟩))
    (fun os started H enc _ => fnEdits_lifted os started H enc)
end Go.Proofs.Ythbkghpgnnpmbaa
