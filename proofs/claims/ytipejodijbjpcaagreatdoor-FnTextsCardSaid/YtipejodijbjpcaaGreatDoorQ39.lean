/- The law of texts: the walk. Printed by gentx.py. -/
import Derived.Test.YtipejodijbjpcaaGreatDoorQ38
section
namespace Go.Proofs.YtipejodijbjpcaaGreatDoor
open Go.RowKit Go.G5
set_option maxHeartbeats 8000000 in
set_option maxRecDepth 100000 in
theorem texts_walk (w : World) (s t : ByteArray) (n : Int) (hp : Pow w) (hm : MaxL w) :
    Calls Tryz.prog 4 #[.string s, .int .i64 n, .string t] w fun e w' => e = .returned (.bool true) ∧ Below w.heap.size w w' := by
  by_cases hs : (1048576 : Int) < (s.size : Int)
  · go_enter Tryz.func4, Tryz.ntmps4
    go_wp2
    go_ret
    exact ⟨rfl, Below.refl _ _⟩
  by_cases ht : (1048576 : Int) < (t.size : Int)
  · go_enter Tryz.func4, Tryz.ntmps4
    go_wp2
    go_ret
    exact ⟨rfl, Below.refl _ _⟩
  have hpI := fun W (h1 : Pow W) (h2 : MaxL W) => pfunI_any s W (by omega) h1 h2
  have hpS := fun W => pfunS_any s W (by omega)
  have hqI := fun W (h1 : Pow W) (h2 : MaxL W) => pfamI_any n t W (by omega) h1 h2
  have hqS := fun W => pfamS_any n t W (by omega)
  have hF := tx_fun s
  have hG := tx_fam n t
  obtain ⟨N, hN⟩ : ∃ x, x = fdN s := ⟨_, rfl⟩
  obtain ⟨L, hL⟩ : ∃ x, x = fdL s := ⟨_, rfl⟩
  obtain ⟨b, hb⟩ : ∃ x, x = fdB s := ⟨_, rfl⟩
  obtain ⟨M, hM⟩ : ∃ x, x = pmN n t := ⟨_, rfl⟩
  obtain ⟨F, hFF⟩ : ∃ x, x = pmL n t := ⟨_, rfl⟩
  obtain ⟨c, hc⟩ : ∃ x, x = pmB n t := ⟨_, rfl⟩
  rw [← hN, ← hL, ← hb] at hF
  rw [← hM, ← hFF, ← hc] at hG
  simp only [← hN, ← hL, ← hb] at hpI hpS
  simp only [← hM, ← hFF, ← hc] at hqI hqS
  have HPI := Lib.hid hpI
  have HPS := Lib.hid hpS
  have HQI := Lib.hid hqI
  have HQS := Lib.hid hqS
  have HF := Lib.hid hF
  have HG := Lib.hid hG
  clear hpI hpS hqI hqS hF hG hN hL hb hM hFF hc
  have B : Below w.heap.size w w := Below.refl _ _
  go_enter Tryz.func4, Tryz.ntmps4
  go_wp2_with fail
  refine calls_named ?_
  intro V1 hV
  have Bx : Below w.heap.size w V1 := by rw [hV]; first | exact B | exact B.alloc B.size _
  clear B
  have B := Bx
  clear Bx
  clear hV
  refine (HPI.out _ (hp.keep B) (hm.keep B)).mono ?_
  rintro e W2 ⟨p7, i7, q7, rfl, o7, hb⟩
  have Bx := B.after hb B.size
  clear B
  have B := Bx
  clear Bx
  clear hb
  go_wp2_with fail
  refine calls_named ?_
  intro V3 hV
  have Bx : Below w.heap.size w V3 := by rw [hV]; first | exact B | exact B.alloc B.size _
  have o7x : OwnI 3 V1.heap.size V3 (.slice p7 i7 q7) L := by rw [hV]; first | exact o7 | exact o7.alloc _
  have K7 : Blk V3 W2.heap.size 32 #[.int .i64 N, .slice p7 i7 q7] := by rw [hV]; exact Blk.new _ _ _
  clear B o7
  have B := Bx
  have o7 := o7x
  clear Bx o7x
  clear hV
  refine (HPS.out _).mono ?_
  rintro e W4 ⟨p9, i9, q9, rfl, o9, hb⟩
  have Bx := B.after hb B.size
  have K7x := K7.keep hb
  have o7x := o7.keep hb
  clear B K7 o7
  have B := Bx
  have K7 := K7x
  have o7 := o7x
  clear Bx K7x o7x
  clear hb
  have GK7 := K7.cell
  have ZK7 := K7.lt
  go_wp2_with fail
  clear GK7 ZK7
  refine calls_named ?_
  intro V5 hV
  have Bx : Below w.heap.size w V5 := by rw [hV]; first | exact B | exact B.alloc B.size _
  have K7x : Blk V5 W2.heap.size 32 #[.int .i64 N, .slice p7 i7 q7] := by rw [hV]; first | exact K7 | exact K7.alloc _
  have o7x : OwnI 3 V1.heap.size V5 (.slice p7 i7 q7) L := by rw [hV]; first | exact o7 | exact o7.alloc _
  have o9x : OwnI 3 V3.heap.size V5 (.slice p9 i9 q9) L := by rw [hV]; first | exact o9 | exact o9.alloc _
  have K9 : Blk V5 W4.heap.size 32 #[.int .i64 N, .slice p9 i9 q9] := by rw [hV]; exact Blk.new _ _ _
  clear B K7 o7 o9
  have B := Bx
  have K7 := K7x
  have o7 := o7x
  have o9 := o9x
  clear Bx K7x o7x o9x
  clear hV
  refine (equalFunctionsS_any N N _ _ L L _ o7.ints o9.ints).mono ?_
  rintro e W6 ⟨rfl, hb⟩
  have Bx := B.after hb B.size
  have K7x := K7.keep hb
  have K9x := K9.keep hb
  have o7x := o7.keep hb
  have o9x := o9.keep hb
  clear B K7 K9 o7 o9
  have B := Bx
  have K7 := K7x
  have K9 := K9x
  have o7 := o7x
  have o9 := o9x
  clear Bx K7x K9x o7x o9x
  clear hb
  simp only [decide_true, Bool.and_self]
  have GK7 := K7.cell
  have ZK7 := K7.lt
  have GK9 := K9.cell
  have ZK9 := K9.lt
  go_upto_if 73 with fail
  clear GK7 ZK7 GK9 ZK9
  go_cut [6] (fun v wx => v = .bool false ∧ Below W6.heap.size W6 wx)
  case rest =>
   as_aux_lemma =>
    obtain ⟨rfl, hcb⟩ := hcut
    clear K7 K9 o7 o9 HF HPI HPS
    have Bx := B.after hcb B.size
    clear B
    have B := Bx
    clear Bx
    clear hcb
    go_wp2_with fail
    refine calls_named ?_
    intro V7 hV
    have Bx : Below w.heap.size w V7 := by rw [hV]; first | exact B | exact B.alloc B.size _
    clear B
    have B := Bx
    clear Bx
    clear hV
    refine (HQI.out _ (hp.keep B) (hm.keep B)).mono ?_
    rintro e W8 ⟨p30, i30, q30, rfl, o30, hb⟩
    have Bx := B.after hb B.size
    clear B
    have B := Bx
    clear Bx
    clear hb
    go_wp2_with fail
    refine calls_named ?_
    intro V9 hV
    have Bx : Below w.heap.size w V9 := by rw [hV]; first | exact B | exact B.alloc B.size _
    have o30x : OwnI 3 V7.heap.size V9 (.slice p30 i30 q30) F := by rw [hV]; first | exact o30 | exact o30.alloc _
    have K30 : Blk V9 W8.heap.size 27 #[.int .i64 M, .slice p30 i30 q30] := by rw [hV]; exact Blk.new _ _ _
    clear B o30
    have B := Bx
    have o30 := o30x
    clear Bx o30x
    clear hV
    refine (HQS.out _).mono ?_
    rintro e W10 ⟨p32, i32, q32, rfl, o32, hb⟩
    have Bx := B.after hb B.size
    have K30x := K30.keep hb
    have o30x := o30.keep hb
    clear B K30 o30
    have B := Bx
    have K30 := K30x
    have o30 := o30x
    clear Bx K30x o30x
    clear hb
    have GK30 := K30.cell
    have ZK30 := K30.lt
    go_wp2_with fail
    clear GK30 ZK30
    refine calls_named ?_
    intro V11 hV
    have Bx : Below w.heap.size w V11 := by rw [hV]; first | exact B | exact B.alloc B.size _
    have K30x : Blk V11 W8.heap.size 27 #[.int .i64 M, .slice p30 i30 q30] := by rw [hV]; first | exact K30 | exact K30.alloc _
    have o30x : OwnI 3 V7.heap.size V11 (.slice p30 i30 q30) F := by rw [hV]; first | exact o30 | exact o30.alloc _
    have o32x : OwnI 3 V9.heap.size V11 (.slice p32 i32 q32) F := by rw [hV]; first | exact o32 | exact o32.alloc _
    have K32 : Blk V11 W10.heap.size 27 #[.int .i64 M, .slice p32 i32 q32] := by rw [hV]; exact Blk.new _ _ _
    clear B K30 o30 o32
    have B := Bx
    have K30 := K30x
    have o30 := o30x
    have o32 := o32x
    clear Bx K30x o30x o32x
    clear hV
    refine (equalFamiliesS_any M M _ _ F F _ o30.ints o32.ints).mono ?_
    rintro e W12 ⟨rfl, hb⟩
    have Bx := B.after hb B.size
    have K30x := K30.keep hb
    have K32x := K32.keep hb
    have o30x := o30.keep hb
    have o32x := o32.keep hb
    clear B K30 K32 o30 o32
    have B := Bx
    have K30 := K30x
    have K32 := K32x
    have o30 := o30x
    have o32 := o32x
    clear Bx K30x K32x o30x o32x
    clear hb
    simp only [decide_true, Bool.and_self]
    cases c with
    | false =>
      have GK30 := K30.cell
      have ZK30 := K30.lt
      have GK32 := K32.cell
      have ZK32 := K32.lt
      go_wp2
      go_ret
      exact ⟨rfl, B⟩
    | true =>
      obtain ⟨gf, gt, gs, gl, gb1, gb2, gk1, gk2, gc⟩ := HG.out rfl
      have HGF := Lib.hid (And.intro gf (And.intro gt (And.intro gb1 (And.intro gb2 (And.intro gk1 (And.intro gk2 gc))))))
      clear gf gt gb1 gb2 gk1 gk2 gc HG
      have GK30 := K30.cell
      have ZK30 := K30.lt
      have GK32 := K32.cell
      have ZK32 := K32.lt
      go_wp2_with fail
      clear GK30 ZK30 GK32 ZK32
      refine calls_named ?_
      intro V13 hV
      have Bx : Below w.heap.size w V13 := by rw [hV]; first | exact B | exact B.alloc B.size _
      have K30x : Blk V13 W8.heap.size 27 #[.int .i64 M, .slice p30 i30 q30] := by rw [hV]; first | exact K30 | exact K30.alloc _
      have K32x : Blk V13 W10.heap.size 27 #[.int .i64 M, .slice p32 i32 q32] := by rw [hV]; first | exact K32 | exact K32.alloc _
      have o30x : OwnI 3 V7.heap.size V13 (.slice p30 i30 q30) F := by rw [hV]; first | exact o30 | exact o30.alloc _
      have o32x : OwnI 3 V9.heap.size V13 (.slice p32 i32 q32) F := by rw [hV]; first | exact o32 | exact o32.alloc _
      clear B K30 K32 o30 o32
      have B := Bx
      have K30 := K30x
      have K32 := K32x
      have o30 := o30x
      have o32 := o32x
      clear Bx K30x K32x o30x o32x
      clear hV
      refine (fmtFamI_any M F _ _ o30.ints (hp.keep B)).mono ?_
      rintro e W14 ⟨rfl, hb⟩
      have Bx := B.after hb B.size
      have K30x := K30.keep hb
      have K32x := K32.keep hb
      have o30x := o30.keep hb
      have o32x := o32.keep hb
      clear B K30 K32 o30 o32
      have B := Bx
      have K30 := K30x
      have K32 := K32x
      have o30 := o30x
      have o32 := o32x
      clear Bx K30x K32x o30x o32x
      clear hb
      rw [HGF.out.2.1]
      have GK30 := K30.cell
      have ZK30 := K30.lt
      have GK32 := K32.cell
      have ZK32 := K32.lt
      go_wp2_with fail
      clear GK30 ZK30 GK32 ZK32
      refine calls_named ?_
      intro V15 hV
      have Bx : Below w.heap.size w V15 := by rw [hV]; first | exact B | exact B.alloc B.size _
      have K30x : Blk V15 W8.heap.size 27 #[.int .i64 M, .slice p30 i30 q30] := by rw [hV]; first | exact K30 | exact K30.alloc _
      have K32x : Blk V15 W10.heap.size 27 #[.int .i64 M, .slice p32 i32 q32] := by rw [hV]; first | exact K32 | exact K32.alloc _
      have o30x : OwnI 3 V7.heap.size V15 (.slice p30 i30 q30) F := by rw [hV]; first | exact o30 | exact o30.alloc _
      have o32x : OwnI 3 V9.heap.size V15 (.slice p32 i32 q32) F := by rw [hV]; first | exact o32 | exact o32.alloc _
      clear B K30 K32 o30 o32
      have B := Bx
      have K30 := K30x
      have K32 := K32x
      have o30 := o30x
      have o32 := o32x
      clear Bx K30x K32x o30x o32x
      clear hV
      refine (HQI.out _ (hp.keep B) (hm.keep B)).mono ?_
      rintro e W16 ⟨p34, i34, q34, rfl, o34, hb⟩
      have Bx := B.after hb B.size
      have K30x := K30.keep hb
      have K32x := K32.keep hb
      have o30x := o30.keep hb
      have o32x := o32.keep hb
      clear B K30 K32 o30 o32
      have B := Bx
      have K30 := K30x
      have K32 := K32x
      have o30 := o30x
      have o32 := o32x
      clear Bx K30x K32x o30x o32x
      clear hb
      have GK30 := K30.cell
      have ZK30 := K30.lt
      have GK32 := K32.cell
      have ZK32 := K32.lt
      go_wp2_with fail
      clear GK30 ZK30 GK32 ZK32
      refine calls_named ?_
      intro V17 hV
      have Bx : Below w.heap.size w V17 := by rw [hV]; first | exact B | exact B.alloc B.size _
      have K30x : Blk V17 W8.heap.size 27 #[.int .i64 M, .slice p30 i30 q30] := by rw [hV]; first | exact K30 | exact K30.alloc _
      have K32x : Blk V17 W10.heap.size 27 #[.int .i64 M, .slice p32 i32 q32] := by rw [hV]; first | exact K32 | exact K32.alloc _
      have o30x : OwnI 3 V7.heap.size V17 (.slice p30 i30 q30) F := by rw [hV]; first | exact o30 | exact o30.alloc _
      have o32x : OwnI 3 V9.heap.size V17 (.slice p32 i32 q32) F := by rw [hV]; first | exact o32 | exact o32.alloc _
      have o34x : OwnI 3 V15.heap.size V17 (.slice p34 i34 q34) F := by rw [hV]; first | exact o34 | exact o34.alloc _
      have K34 : Blk V17 W16.heap.size 27 #[.int .i64 M, .slice p34 i34 q34] := by rw [hV]; exact Blk.new _ _ _
      clear B K30 K32 o30 o32 o34
      have B := Bx
      have K30 := K30x
      have K32 := K32x
      have o30 := o30x
      have o32 := o32x
      have o34 := o34x
      clear Bx K30x K32x o30x o32x o34x
      clear hV
      refine (shatSetsI_any _ M _ F o30.ints HGF.out.1).mono ?_
      rintro e W18 ⟨p36, i36, q36, rfl, o36, hb⟩
      have Bx := B.after hb B.size
      have K30x := K30.keep hb
      have K32x := K32.keep hb
      have K34x := K34.keep hb
      have o30x := o30.keep hb
      have o32x := o32.keep hb
      have o34x := o34.keep hb
      clear B K30 K32 K34 o30 o32 o34
      have B := Bx
      have K30 := K30x
      have K32 := K32x
      have K34 := K34x
      have o30 := o30x
      have o32 := o32x
      have o34 := o34x
      clear Bx K30x K32x K34x o30x o32x o34x
      clear hb
      have hlt : ¬ (i36 : Int) < (i32 : Int) := by
        have h1 := o36.capLe.1
        have h2 := o32.ints.capLe.1
        omega
      have GK30 := K30.cell
      have ZK30 := K30.lt
      have GK32 := K32.cell
      have ZK32 := K32.lt
      have GK34 := K34.cell
      have ZK34 := K34.lt
      go_wp2_with fail
      clear GK30 ZK30 GK32 ZK32 GK34 ZK34
      refine calls_named ?_
      intro V19 hV
      have Bx : Below w.heap.size w V19 := by rw [hV]; first | exact B | exact B.alloc B.size _
      have K30x : Blk V19 W8.heap.size 27 #[.int .i64 M, .slice p30 i30 q30] := by rw [hV]; first | exact K30 | exact K30.alloc _
      have K32x : Blk V19 W10.heap.size 27 #[.int .i64 M, .slice p32 i32 q32] := by rw [hV]; first | exact K32 | exact K32.alloc _
      have K34x : Blk V19 W16.heap.size 27 #[.int .i64 M, .slice p34 i34 q34] := by rw [hV]; first | exact K34 | exact K34.alloc _
      have o30x : OwnI 3 V7.heap.size V19 (.slice p30 i30 q30) F := by rw [hV]; first | exact o30 | exact o30.alloc _
      have o32x : OwnI 3 V9.heap.size V19 (.slice p32 i32 q32) F := by rw [hV]; first | exact o32 | exact o32.alloc _
      have o34x : OwnI 3 V15.heap.size V19 (.slice p34 i34 q34) F := by rw [hV]; first | exact o34 | exact o34.alloc _
      have o36x : Ints V19 (.slice p36 i36 q36) (shaL M F) := by rw [hV]; first | exact o36 | exact o36.alloc _
      have K36 : Blk V19 W18.heap.size 27 #[.int .i64 M, .slice p36 i36 q36] := by rw [hV]; exact Blk.new _ _ _
      clear B K30 K32 K34 o30 o32 o34 o36
      have B := Bx
      have K30 := K30x
      have K32 := K32x
      have K34 := K34x
      have o30 := o30x
      have o32 := o32x
      have o34 := o34x
      have o36 := o36x
      clear Bx K30x K32x K34x o30x o32x o34x o36x
      clear hV
      refine (equalFamiliesS_any M M _ _ F F _ o34.ints o32.ints).mono ?_
      rintro e W20 ⟨rfl, hb⟩
      have Bx := B.after hb B.size
      have K30x := K30.keep hb
      have K32x := K32.keep hb
      have K34x := K34.keep hb
      have K36x := K36.keep hb
      have o30x := o30.keep hb
      have o32x := o32.keep hb
      have o34x := o34.keep hb
      have o36x := o36.keep hb
      clear B K30 K32 K34 K36 o30 o32 o34 o36
      have B := Bx
      have K30 := K30x
      have K32 := K32x
      have K34 := K34x
      have K36 := K36x
      have o30 := o30x
      have o32 := o32x
      have o34 := o34x
      have o36 := o36x
      clear Bx K30x K32x K34x K36x o30x o32x o34x o36x
      clear hb
      simp only [decide_true, Bool.and_self]
      have GK30 := K30.cell
      have ZK30 := K30.lt
      have GK32 := K32.cell
      have ZK32 := K32.lt
      have GK34 := K34.cell
      have ZK34 := K34.lt
      have GK36 := K36.cell
      have ZK36 := K36.lt
      go_wp2_with fail
      clear GK30 ZK30 GK32 ZK32 GK34 ZK34 GK36 ZK36
      refine calls_named ?_
      intro V21 hV
      have Bx : Below w.heap.size w V21 := by rw [hV]; first | exact B | exact B.alloc B.size _
      have K30x : Blk V21 W8.heap.size 27 #[.int .i64 M, .slice p30 i30 q30] := by rw [hV]; first | exact K30 | exact K30.alloc _
      have K32x : Blk V21 W10.heap.size 27 #[.int .i64 M, .slice p32 i32 q32] := by rw [hV]; first | exact K32 | exact K32.alloc _
      have K34x : Blk V21 W16.heap.size 27 #[.int .i64 M, .slice p34 i34 q34] := by rw [hV]; first | exact K34 | exact K34.alloc _
      have K36x : Blk V21 W18.heap.size 27 #[.int .i64 M, .slice p36 i36 q36] := by rw [hV]; first | exact K36 | exact K36.alloc _
      have o30x : OwnI 3 V7.heap.size V21 (.slice p30 i30 q30) F := by rw [hV]; first | exact o30 | exact o30.alloc _
      have o32x : OwnI 3 V9.heap.size V21 (.slice p32 i32 q32) F := by rw [hV]; first | exact o32 | exact o32.alloc _
      have o34x : OwnI 3 V15.heap.size V21 (.slice p34 i34 q34) F := by rw [hV]; first | exact o34 | exact o34.alloc _
      have o36x : Ints V21 (.slice p36 i36 q36) (shaL M F) := by rw [hV]; first | exact o36 | exact o36.alloc _
      clear B K30 K32 K34 K36 o30 o32 o34 o36
      have B := Bx
      have K30 := K30x
      have K32 := K32x
      have K34 := K34x
      have K36 := K36x
      have o30 := o30x
      have o32 := o32x
      have o34 := o34x
      have o36 := o36x
      clear Bx K30x K32x K34x K36x o30x o32x o34x o36x
      clear hV
      refine (blockerI_c _ M _ F o30.ints gl).mono ?_
      rintro e W22 ⟨p38, i38, q38, rfl, o38, hb⟩
      have Bx := B.after hb B.size
      have K30x := K30.keep hb
      have K32x := K32.keep hb
      have K34x := K34.keep hb
      have K36x := K36.keep hb
      have o30x := o30.keep hb
      have o32x := o32.keep hb
      have o34x := o34.keep hb
      have o36x := o36.keep hb
      clear B K30 K32 K34 K36 o30 o32 o34 o36
      have B := Bx
      have K30 := K30x
      have K32 := K32x
      have K34 := K34x
      have K36 := K36x
      have o30 := o30x
      have o32 := o32x
      have o34 := o34x
      have o36 := o36x
      clear Bx K30x K32x K34x K36x o30x o32x o34x o36x
      clear hb
      rw [HGF.out.2.2.1, HGF.out.1]
      have GK30 := K30.cell
      have ZK30 := K30.lt
      have GK32 := K32.cell
      have ZK32 := K32.lt
      have GK34 := K34.cell
      have ZK34 := K34.lt
      have GK36 := K36.cell
      have ZK36 := K36.lt
      go_wp2_with fail
      clear GK30 ZK30 GK32 ZK32 GK34 ZK34 GK36 ZK36
      refine calls_named ?_
      intro V23 hV
      have Bx : Below w.heap.size w V23 := by rw [hV]; first | exact B | exact B.alloc B.size _
      have K30x : Blk V23 W8.heap.size 27 #[.int .i64 M, .slice p30 i30 q30] := by rw [hV]; first | exact K30 | exact K30.alloc _
      have K32x : Blk V23 W10.heap.size 27 #[.int .i64 M, .slice p32 i32 q32] := by rw [hV]; first | exact K32 | exact K32.alloc _
      have K34x : Blk V23 W16.heap.size 27 #[.int .i64 M, .slice p34 i34 q34] := by rw [hV]; first | exact K34 | exact K34.alloc _
      have K36x : Blk V23 W18.heap.size 27 #[.int .i64 M, .slice p36 i36 q36] := by rw [hV]; first | exact K36 | exact K36.alloc _
      have o30x : OwnI 3 V7.heap.size V23 (.slice p30 i30 q30) F := by rw [hV]; first | exact o30 | exact o30.alloc _
      have o32x : OwnI 3 V9.heap.size V23 (.slice p32 i32 q32) F := by rw [hV]; first | exact o32 | exact o32.alloc _
      have o34x : OwnI 3 V15.heap.size V23 (.slice p34 i34 q34) F := by rw [hV]; first | exact o34 | exact o34.alloc _
      have o36x : Ints V23 (.slice p36 i36 q36) (shaL M F) := by rw [hV]; first | exact o36 | exact o36.alloc _
      have o38x : OwnI 3 V21.heap.size V23 (.slice p38 i38 q38) (blkL M F) := by rw [hV]; first | exact o38 | exact o38.alloc _
      have K38 : Blk V23 W22.heap.size 27 #[.int .i64 M, .slice p38 i38 q38] := by rw [hV]; exact Blk.new _ _ _
      clear B K30 K32 K34 K36 o30 o32 o34 o36 o38
      have B := Bx
      have K30 := K30x
      have K32 := K32x
      have K34 := K34x
      have K36 := K36x
      have o30 := o30x
      have o32 := o32x
      have o34 := o34x
      have o36 := o36x
      have o38 := o38x
      clear Bx K30x K32x K34x K36x o30x o32x o34x o36x o38x
      clear hV
      refine (blockerI_c _ M _ (blkL M F) o38.ints (Nat.le_trans (fam_len HGF.out.2.2.2.1) (by decide))).mono ?_
      rintro e W24 ⟨p40, i40, q40, rfl, o40, hb⟩
      have Bx := B.after hb B.size
      have K30x := K30.keep hb
      have K32x := K32.keep hb
      have K34x := K34.keep hb
      have K36x := K36.keep hb
      have K38x := K38.keep hb
      have o30x := o30.keep hb
      have o32x := o32.keep hb
      have o34x := o34.keep hb
      have o36x := o36.keep hb
      have o38x := o38.keep hb
      clear B K30 K32 K34 K36 K38 o30 o32 o34 o36 o38
      have B := Bx
      have K30 := K30x
      have K32 := K32x
      have K34 := K34x
      have K36 := K36x
      have K38 := K38x
      have o30 := o30x
      have o32 := o32x
      have o34 := o34x
      have o36 := o36x
      have o38 := o38x
      clear Bx K30x K32x K34x K36x K38x o30x o32x o34x o36x o38x
      clear hb
      rw [HGF.out.2.2.2.2.1, HGF.out.2.2.2.1]
      have o40x := o40
      rw [HGF.out.2.2.2.2.2.1] at o40x
      clear o40
      have o40 := o40x
      clear o40x
      have GK30 := K30.cell
      have ZK30 := K30.lt
      have GK32 := K32.cell
      have ZK32 := K32.lt
      have GK34 := K34.cell
      have ZK34 := K34.lt
      have GK36 := K36.cell
      have ZK36 := K36.lt
      have GK38 := K38.cell
      have ZK38 := K38.lt
      go_wp2_with fail
      clear GK30 ZK30 GK32 ZK32 GK34 ZK34 GK36 ZK36 GK38 ZK38
      refine calls_named ?_
      intro V25 hV
      have Bx : Below w.heap.size w V25 := by rw [hV]; first | exact B | exact B.alloc B.size _
      have K30x : Blk V25 W8.heap.size 27 #[.int .i64 M, .slice p30 i30 q30] := by rw [hV]; first | exact K30 | exact K30.alloc _
      have K32x : Blk V25 W10.heap.size 27 #[.int .i64 M, .slice p32 i32 q32] := by rw [hV]; first | exact K32 | exact K32.alloc _
      have K34x : Blk V25 W16.heap.size 27 #[.int .i64 M, .slice p34 i34 q34] := by rw [hV]; first | exact K34 | exact K34.alloc _
      have K36x : Blk V25 W18.heap.size 27 #[.int .i64 M, .slice p36 i36 q36] := by rw [hV]; first | exact K36 | exact K36.alloc _
      have K38x : Blk V25 W22.heap.size 27 #[.int .i64 M, .slice p38 i38 q38] := by rw [hV]; first | exact K38 | exact K38.alloc _
      have o30x : OwnI 3 V7.heap.size V25 (.slice p30 i30 q30) F := by rw [hV]; first | exact o30 | exact o30.alloc _
      have o32x : OwnI 3 V9.heap.size V25 (.slice p32 i32 q32) F := by rw [hV]; first | exact o32 | exact o32.alloc _
      have o34x : OwnI 3 V15.heap.size V25 (.slice p34 i34 q34) F := by rw [hV]; first | exact o34 | exact o34.alloc _
      have o36x : Ints V25 (.slice p36 i36 q36) (shaL M F) := by rw [hV]; first | exact o36 | exact o36.alloc _
      have o38x : OwnI 3 V21.heap.size V25 (.slice p38 i38 q38) (blkL M F) := by rw [hV]; first | exact o38 | exact o38.alloc _
      have o40x : OwnI 3 V23.heap.size V25 (.slice p40 i40 q40) (minL F) := by rw [hV]; first | exact o40 | exact o40.alloc _
      have K40 : Blk V25 W24.heap.size 27 #[.int .i64 M, .slice p40 i40 q40] := by rw [hV]; exact Blk.new _ _ _
      clear B K30 K32 K34 K36 K38 o30 o32 o34 o36 o38 o40
      have B := Bx
      have K30 := K30x
      have K32 := K32x
      have K34 := K34x
      have K36 := K36x
      have K38 := K38x
      have o30 := o30x
      have o32 := o32x
      have o34 := o34x
      have o36 := o36x
      have o38 := o38x
      have o40 := o40x
      clear Bx K30x K32x K34x K36x K38x o30x o32x o34x o36x o38x o40x
      clear hV
      refine (minSets_yes M F _ _ o30.ints gl HGF.out.1).mono ?_
      rintro e W26 ⟨p42, i42, q42, rfl, o42, hb⟩
      have Bx := B.after hb B.size
      have K30x := K30.keep hb
      have K32x := K32.keep hb
      have K34x := K34.keep hb
      have K36x := K36.keep hb
      have K38x := K38.keep hb
      have K40x := K40.keep hb
      have o30x := o30.keep hb
      have o32x := o32.keep hb
      have o34x := o34.keep hb
      have o36x := o36.keep hb
      have o38x := o38.keep hb
      have o40x := o40.keep hb
      clear B K30 K32 K34 K36 K38 K40 o30 o32 o34 o36 o38 o40
      have B := Bx
      have K30 := K30x
      have K32 := K32x
      have K34 := K34x
      have K36 := K36x
      have K38 := K38x
      have K40 := K40x
      have o30 := o30x
      have o32 := o32x
      have o34 := o34x
      have o36 := o36x
      have o38 := o38x
      have o40 := o40x
      clear Bx K30x K32x K34x K36x K38x K40x o30x o32x o34x o36x o38x o40x
      clear hb
      have GK30 := K30.cell
      have ZK30 := K30.lt
      have GK32 := K32.cell
      have ZK32 := K32.lt
      have GK34 := K34.cell
      have ZK34 := K34.lt
      have GK36 := K36.cell
      have ZK36 := K36.lt
      have GK38 := K38.cell
      have ZK38 := K38.lt
      have GK40 := K40.cell
      have ZK40 := K40.lt
      go_wp2_with fail
      clear GK30 ZK30 GK32 ZK32 GK34 ZK34 GK36 ZK36 GK38 ZK38 GK40 ZK40
      refine calls_named ?_
      intro V27 hV
      have Bx : Below w.heap.size w V27 := by rw [hV]; first | exact B | exact B.alloc B.size _
      have K30x : Blk V27 W8.heap.size 27 #[.int .i64 M, .slice p30 i30 q30] := by rw [hV]; first | exact K30 | exact K30.alloc _
      have K32x : Blk V27 W10.heap.size 27 #[.int .i64 M, .slice p32 i32 q32] := by rw [hV]; first | exact K32 | exact K32.alloc _
      have K34x : Blk V27 W16.heap.size 27 #[.int .i64 M, .slice p34 i34 q34] := by rw [hV]; first | exact K34 | exact K34.alloc _
      have K36x : Blk V27 W18.heap.size 27 #[.int .i64 M, .slice p36 i36 q36] := by rw [hV]; first | exact K36 | exact K36.alloc _
      have K38x : Blk V27 W22.heap.size 27 #[.int .i64 M, .slice p38 i38 q38] := by rw [hV]; first | exact K38 | exact K38.alloc _
      have K40x : Blk V27 W24.heap.size 27 #[.int .i64 M, .slice p40 i40 q40] := by rw [hV]; first | exact K40 | exact K40.alloc _
      have o30x : OwnI 3 V7.heap.size V27 (.slice p30 i30 q30) F := by rw [hV]; first | exact o30 | exact o30.alloc _
      have o32x : OwnI 3 V9.heap.size V27 (.slice p32 i32 q32) F := by rw [hV]; first | exact o32 | exact o32.alloc _
      have o34x : OwnI 3 V15.heap.size V27 (.slice p34 i34 q34) F := by rw [hV]; first | exact o34 | exact o34.alloc _
      have o36x : Ints V27 (.slice p36 i36 q36) (shaL M F) := by rw [hV]; first | exact o36 | exact o36.alloc _
      have o38x : OwnI 3 V21.heap.size V27 (.slice p38 i38 q38) (blkL M F) := by rw [hV]; first | exact o38 | exact o38.alloc _
      have o40x : OwnI 3 V23.heap.size V27 (.slice p40 i40 q40) (minL F) := by rw [hV]; first | exact o40 | exact o40.alloc _
      have o42x : OwnI 3 V25.heap.size V27 (.slice p42 i42 q42) (minL F) := by rw [hV]; first | exact o42 | exact o42.alloc _
      have K42 : Blk V27 W26.heap.size 27 #[.int .i64 M, .slice p42 i42 q42] := by rw [hV]; exact Blk.new _ _ _
      clear B K30 K32 K34 K36 K38 K40 o30 o32 o34 o36 o38 o40 o42
      have B := Bx
      have K30 := K30x
      have K32 := K32x
      have K34 := K34x
      have K36 := K36x
      have K38 := K38x
      have K40 := K40x
      have o30 := o30x
      have o32 := o32x
      have o34 := o34x
      have o36 := o36x
      have o38 := o38x
      have o40 := o40x
      have o42 := o42x
      clear Bx K30x K32x K34x K36x K38x K40x o30x o32x o34x o36x o38x o40x o42x
      clear hV
      refine (equalFamiliesS_any M M _ _ (minL F) (minL F) _ o40.ints o42.ints).mono ?_
      rintro e W28 ⟨rfl, hb⟩
      have Bx := B.after hb B.size
      have K30x := K30.keep hb
      have K32x := K32.keep hb
      have K34x := K34.keep hb
      have K36x := K36.keep hb
      have K38x := K38.keep hb
      have K40x := K40.keep hb
      have K42x := K42.keep hb
      have o30x := o30.keep hb
      have o32x := o32.keep hb
      have o34x := o34.keep hb
      have o36x := o36.keep hb
      have o38x := o38.keep hb
      have o40x := o40.keep hb
      have o42x := o42.keep hb
      clear B K30 K32 K34 K36 K38 K40 K42 o30 o32 o34 o36 o38 o40 o42
      have B := Bx
      have K30 := K30x
      have K32 := K32x
      have K34 := K34x
      have K36 := K36x
      have K38 := K38x
      have K40 := K40x
      have K42 := K42x
      have o30 := o30x
      have o32 := o32x
      have o34 := o34x
      have o36 := o36x
      have o38 := o38x
      have o40 := o40x
      have o42 := o42x
      clear Bx K30x K32x K34x K36x K38x K40x K42x o30x o32x o34x o36x o38x o40x o42x
      clear hb
      simp only [decide_true, Bool.and_self]
      have GK30 := K30.cell
      have ZK30 := K30.lt
      have GK32 := K32.cell
      have ZK32 := K32.lt
      have GK34 := K34.cell
      have ZK34 := K34.lt
      have GK36 := K36.cell
      have ZK36 := K36.lt
      have GK38 := K38.cell
      have ZK38 := K38.lt
      have GK40 := K40.cell
      have ZK40 := K40.lt
      have GK42 := K42.cell
      have ZK42 := K42.lt
      go_wp2_with fail
      clear GK30 ZK30 GK32 ZK32 GK34 ZK34 GK36 ZK36 GK38 ZK38 GK40 ZK40 GK42 ZK42
      refine calls_named ?_
      intro V29 hV
      have Bx : Below w.heap.size w V29 := by rw [hV]; first | exact B | exact B.alloc B.size _
      have K30x : Blk V29 W8.heap.size 27 #[.int .i64 M, .slice p30 i30 q30] := by rw [hV]; first | exact K30 | exact K30.alloc _
      have K32x : Blk V29 W10.heap.size 27 #[.int .i64 M, .slice p32 i32 q32] := by rw [hV]; first | exact K32 | exact K32.alloc _
      have K34x : Blk V29 W16.heap.size 27 #[.int .i64 M, .slice p34 i34 q34] := by rw [hV]; first | exact K34 | exact K34.alloc _
      have K36x : Blk V29 W18.heap.size 27 #[.int .i64 M, .slice p36 i36 q36] := by rw [hV]; first | exact K36 | exact K36.alloc _
      have K38x : Blk V29 W22.heap.size 27 #[.int .i64 M, .slice p38 i38 q38] := by rw [hV]; first | exact K38 | exact K38.alloc _
      have K40x : Blk V29 W24.heap.size 27 #[.int .i64 M, .slice p40 i40 q40] := by rw [hV]; first | exact K40 | exact K40.alloc _
      have K42x : Blk V29 W26.heap.size 27 #[.int .i64 M, .slice p42 i42 q42] := by rw [hV]; first | exact K42 | exact K42.alloc _
      have o30x : OwnI 3 V7.heap.size V29 (.slice p30 i30 q30) F := by rw [hV]; first | exact o30 | exact o30.alloc _
      have o32x : OwnI 3 V9.heap.size V29 (.slice p32 i32 q32) F := by rw [hV]; first | exact o32 | exact o32.alloc _
      have o34x : OwnI 3 V15.heap.size V29 (.slice p34 i34 q34) F := by rw [hV]; first | exact o34 | exact o34.alloc _
      have o36x : Ints V29 (.slice p36 i36 q36) (shaL M F) := by rw [hV]; first | exact o36 | exact o36.alloc _
      have o38x : OwnI 3 V21.heap.size V29 (.slice p38 i38 q38) (blkL M F) := by rw [hV]; first | exact o38 | exact o38.alloc _
      have o40x : OwnI 3 V23.heap.size V29 (.slice p40 i40 q40) (minL F) := by rw [hV]; first | exact o40 | exact o40.alloc _
      have o42x : OwnI 3 V25.heap.size V29 (.slice p42 i42 q42) (minL F) := by rw [hV]; first | exact o42 | exact o42.alloc _
      clear B K30 K32 K34 K36 K38 K40 K42 o30 o32 o34 o36 o38 o40 o42
      have B := Bx
      have K30 := K30x
      have K32 := K32x
      have K34 := K34x
      have K36 := K36x
      have K38 := K38x
      have K40 := K40x
      have K42 := K42x
      have o30 := o30x
      have o32 := o32x
      have o34 := o34x
      have o36 := o36x
      have o38 := o38x
      have o40 := o40x
      have o42 := o42x
      clear Bx K30x K32x K34x K36x K38x K40x K42x o30x o32x o34x o36x o38x o40x o42x
      clear hV
      refine (claimHallI_c _ M _ F o30.ints gl).mono ?_
      rintro e W30 ⟨u0, j0, r0, u1, j1, r1, u2, j2, r2, u3, j3, r3, rfl, oa, ob, oc, od, _, hb⟩
      have Bx := B.after hb B.size
      have K30x := K30.keep hb
      have K32x := K32.keep hb
      have K34x := K34.keep hb
      have K36x := K36.keep hb
      have K38x := K38.keep hb
      have K40x := K40.keep hb
      have K42x := K42.keep hb
      have o30x := o30.keep hb
      have o32x := o32.keep hb
      have o34x := o34.keep hb
      have o36x := o36.keep hb
      have o38x := o38.keep hb
      have o40x := o40.keep hb
      have o42x := o42.keep hb
      clear B K30 K32 K34 K36 K38 K40 K42 o30 o32 o34 o36 o38 o40 o42
      have B := Bx
      have K30 := K30x
      have K32 := K32x
      have K34 := K34x
      have K36 := K36x
      have K38 := K38x
      have K40 := K40x
      have K42 := K42x
      have o30 := o30x
      have o32 := o32x
      have o34 := o34x
      have o36 := o36x
      have o38 := o38x
      have o40 := o40x
      have o42 := o42x
      clear Bx K30x K32x K34x K36x K38x K40x K42x o30x o32x o34x o36x o38x o40x o42x
      clear hb
      clear K32 K34 K36 K38 K40 K42 o32 o34 o36 o38 o40 o42
      cases hh : hcOk M F with
      | false =>
        clear hh
        have GK30 := K30.cell
        have ZK30 := K30.lt
        go_wp2
        go_ret
        exact ⟨rfl, B.alloc B.size _⟩
      | true =>
        have hck := HGF.out.2.2.2.2.2.2 hh
        have HCK := Lib.hid hck
        clear hck hh
        have GK30 := K30.cell
        have ZK30 := K30.lt
        go_wp2_with fail
        clear GK30 ZK30
        refine calls_named ?_
        intro V31 hV
        have Bx : Below w.heap.size w V31 := by rw [hV]; first | exact B | exact B.alloc B.size _
        have K30x : Blk V31 W8.heap.size 27 #[.int .i64 M, .slice p30 i30 q30] := by rw [hV]; first | exact K30 | exact K30.alloc _
        have o30x : OwnI 3 V7.heap.size V31 (.slice p30 i30 q30) F := by rw [hV]; first | exact o30 | exact o30.alloc _
        have oax : OwnW 3 V29.heap.size V31 (.slice u0 j0 r0) [] := by rw [hV]; first | exact oa | exact oa.alloc _
        have obx : OwnW 3 V29.heap.size V31 (.slice u1 j1 r1) [] := by rw [hV]; first | exact ob | exact ob.alloc _
        have ocx : OwnW 3 V29.heap.size V31 (.slice u2 j2 r2) (hcF M F) := by rw [hV]; first | exact oc | exact oc.alloc _
        have odx : OwnW 3 V29.heap.size V31 (.slice u3 j3 r3) (hcL M F) := by rw [hV]; first | exact od | exact od.alloc _
        have K44 : Blk V31 W30.heap.size 49 #[.int .i64 (hcK M F), .int .i64 0, .slice u0 j0 r0, .int .i64 0, .slice u1 j1 r1, .int .i64 (hcG M F), .slice u2 j2 r2, .int .i64 (hcN M F), .int .i64 0, .slice u3 j3 r3] := by rw [hV]; exact Blk.new _ _ _
        clear B K30 o30 oa ob oc od
        have B := Bx
        have K30 := K30x
        have o30 := o30x
        have oa := oax
        have ob := obx
        have oc := ocx
        have od := odx
        clear Bx K30x o30x oax obx ocx odx
        clear hV
        refine (checkClaimI_c _ (hcK M F) 0 _ _ oa.ints 0 _ _ ob.ints (hcG M F) _ _ oc.ints (hcN M F) 0 _ _ od.ints (by simp) (by simp) (hcF_len M F gl)).mono ?_
        rintro e W32 ⟨rfl, hb⟩
        have Bx := B.after hb B.size
        have K30x := K30.keep hb
        have K44x := K44.keep hb
        have o30x := o30.keep hb
        have oax := oa.keep hb
        have obx := ob.keep hb
        have ocx := oc.keep hb
        have odx := od.keep hb
        clear B K30 K44 o30 oa ob oc od
        have B := Bx
        have K30 := K30x
        have K44 := K44x
        have o30 := o30x
        have oa := oax
        have ob := obx
        have oc := ocx
        have od := odx
        clear Bx K30x K44x o30x oax obx ocx odx
        clear hb
        rw [HCK.out]
        have GK30 := K30.cell
        have ZK30 := K30.lt
        have GK44 := K44.cell
        have ZK44 := K44.lt
        go_wp2
        go_ret
        exact ⟨rfl, B⟩
  case first =>
   as_aux_lemma =>
    clear HG HQI HQS
    have C : Below W6.heap.size W6 W6 := Below.refl _ _
    cases b with
    | false =>
      go_wp2
      go_meet
      exact ⟨rfl, C⟩
    | true =>
      obtain ⟨ff, ft, fv, fl⟩ := HF.out rfl
      have hdv := tx_dual N L
      have hco := tx_all N L ff
      obtain ⟨sb, hsb⟩ : ∃ x, x = subB N L := ⟨_, rfl⟩
      obtain ⟨gr, hgr⟩ : ∃ x, x = isGrB N L := ⟨_, rfl⟩
      obtain ⟨bb, hbb⟩ : ∃ x, (isGrB N L && decide (N ≤ 4)) = x := ⟨_, rfl⟩
      rw [← hsb, ← hgr] at hdv
      rw [← hsb] at fv hco
      rw [hbb] at hco
      have HFF := Lib.hid ff
      have HFT := Lib.hid ft
      have HFV := Lib.hid fv
      have HDV := Lib.hid hdv
      have HCO := Lib.hid hco
      have HSB := Lib.hid hsb
      have HGR := Lib.hid hgr
      have HBB := Lib.hid hbb
      clear ff ft fv hdv hco hsb hgr hbb HF
      have GK7 := K7.cell
      have ZK7 := K7.lt
      have GK9 := K9.cell
      have ZK9 := K9.lt
      go_wp2_with fail
      clear GK7 ZK7 GK9 ZK9
      refine calls_named ?_
      intro V33 hV
      have Bx : Below w.heap.size w V33 := by rw [hV]; first | exact B | exact B.alloc B.size _
      have Cx : Below W6.heap.size W6 V33 := by rw [hV]; first | exact C | exact C.alloc C.size _
      have K7x : Blk V33 W2.heap.size 32 #[.int .i64 N, .slice p7 i7 q7] := by rw [hV]; first | exact K7 | exact K7.alloc _
      have K9x : Blk V33 W4.heap.size 32 #[.int .i64 N, .slice p9 i9 q9] := by rw [hV]; first | exact K9 | exact K9.alloc _
      have o7x : OwnI 3 V1.heap.size V33 (.slice p7 i7 q7) L := by rw [hV]; first | exact o7 | exact o7.alloc _
      have o9x : OwnI 3 V3.heap.size V33 (.slice p9 i9 q9) L := by rw [hV]; first | exact o9 | exact o9.alloc _
      clear B C K7 K9 o7 o9
      have B := Bx
      have C := Cx
      have K7 := K7x
      have K9 := K9x
      have o7 := o7x
      have o9 := o9x
      clear Bx Cx K7x K9x o7x o9x
      clear hV
      refine (fmtFunI_any N L _ _ o7.ints (hp.keep B)).mono ?_
      rintro e W34 ⟨rfl, hb⟩
      have Bx := B.after hb B.size
      have Cx := C.after hb C.size
      have K7x := K7.keep hb
      have K9x := K9.keep hb
      have o7x := o7.keep hb
      have o9x := o9.keep hb
      clear B C K7 K9 o7 o9
      have B := Bx
      have C := Cx
      have K7 := K7x
      have K9 := K9x
      have o7 := o7x
      have o9 := o9x
      clear Bx Cx K7x K9x o7x o9x
      clear hb
      rw [HFT.out]
      have GK7 := K7.cell
      have ZK7 := K7.lt
      have GK9 := K9.cell
      have ZK9 := K9.lt
      go_wp2_with fail
      clear GK7 ZK7 GK9 ZK9
      refine calls_named ?_
      intro V35 hV
      have Bx : Below w.heap.size w V35 := by rw [hV]; first | exact B | exact B.alloc B.size _
      have Cx : Below W6.heap.size W6 V35 := by rw [hV]; first | exact C | exact C.alloc C.size _
      have K7x : Blk V35 W2.heap.size 32 #[.int .i64 N, .slice p7 i7 q7] := by rw [hV]; first | exact K7 | exact K7.alloc _
      have K9x : Blk V35 W4.heap.size 32 #[.int .i64 N, .slice p9 i9 q9] := by rw [hV]; first | exact K9 | exact K9.alloc _
      have o7x : OwnI 3 V1.heap.size V35 (.slice p7 i7 q7) L := by rw [hV]; first | exact o7 | exact o7.alloc _
      have o9x : OwnI 3 V3.heap.size V35 (.slice p9 i9 q9) L := by rw [hV]; first | exact o9 | exact o9.alloc _
      clear B C K7 K9 o7 o9
      have B := Bx
      have C := Cx
      have K7 := K7x
      have K9 := K9x
      have o7 := o7x
      have o9 := o9x
      clear Bx Cx K7x K9x o7x o9x
      clear hV
      refine (HPI.out _ (hp.keep B) (hm.keep B)).mono ?_
      rintro e W36 ⟨p11, i11, q11, rfl, o11, hb⟩
      have Bx := B.after hb B.size
      have Cx := C.after hb C.size
      have K7x := K7.keep hb
      have K9x := K9.keep hb
      have o7x := o7.keep hb
      have o9x := o9.keep hb
      clear B C K7 K9 o7 o9
      have B := Bx
      have C := Cx
      have K7 := K7x
      have K9 := K9x
      have o7 := o7x
      have o9 := o9x
      clear Bx Cx K7x K9x o7x o9x
      clear hb
      have GK7 := K7.cell
      have ZK7 := K7.lt
      have GK9 := K9.cell
      have ZK9 := K9.lt
      go_wp2_with fail
      clear GK7 ZK7 GK9 ZK9
      refine calls_named ?_
      intro V37 hV
      have Bx : Below w.heap.size w V37 := by rw [hV]; first | exact B | exact B.alloc B.size _
      have Cx : Below W6.heap.size W6 V37 := by rw [hV]; first | exact C | exact C.alloc C.size _
      have K7x : Blk V37 W2.heap.size 32 #[.int .i64 N, .slice p7 i7 q7] := by rw [hV]; first | exact K7 | exact K7.alloc _
      have K9x : Blk V37 W4.heap.size 32 #[.int .i64 N, .slice p9 i9 q9] := by rw [hV]; first | exact K9 | exact K9.alloc _
      have o7x : OwnI 3 V1.heap.size V37 (.slice p7 i7 q7) L := by rw [hV]; first | exact o7 | exact o7.alloc _
      have o9x : OwnI 3 V3.heap.size V37 (.slice p9 i9 q9) L := by rw [hV]; first | exact o9 | exact o9.alloc _
      have o11x : OwnI 3 V35.heap.size V37 (.slice p11 i11 q11) L := by rw [hV]; first | exact o11 | exact o11.alloc _
      have K11 : Blk V37 W36.heap.size 32 #[.int .i64 N, .slice p11 i11 q11] := by rw [hV]; exact Blk.new _ _ _
      clear B C K7 K9 o7 o9 o11
      have B := Bx
      have C := Cx
      have K7 := K7x
      have K9 := K9x
      have o7 := o7x
      have o9 := o9x
      have o11 := o11x
      clear Bx Cx K7x K9x o7x o9x o11x
      clear hV
      refine (violI_c _ N _ L o7.ints fl).mono ?_
      rintro e W38 ⟨p13, i13, q13, rfl, o13, hb⟩
      have Bx := B.after hb B.size
      have Cx := C.after hb C.size
      have K7x := K7.keep hb
      have K9x := K9.keep hb
      have K11x := K11.keep hb
      have o7x := o7.keep hb
      have o9x := o9.keep hb
      have o11x := o11.keep hb
      clear B C K7 K9 K11 o7 o9 o11
      have B := Bx
      have C := Cx
      have K7 := K7x
      have K9 := K9x
      have K11 := K11x
      have o7 := o7x
      have o9 := o9x
      have o11 := o11x
      clear Bx Cx K7x K9x K11x o7x o9x o11x
      clear hb
      clear o13
      rw [HFV.out]
      have GK7 := K7.cell
      have ZK7 := K7.lt
      have GK9 := K9.cell
      have ZK9 := K9.lt
      have GK11 := K11.cell
      have ZK11 := K11.lt
      go_wp2_with fail
      clear GK7 ZK7 GK9 ZK9 GK11 ZK11
      refine calls_named ?_
      intro V39 hV
      have Bx : Below w.heap.size w V39 := by rw [hV]; first | exact B | exact B.alloc B.size _
      have Cx : Below W6.heap.size W6 V39 := by rw [hV]; first | exact C | exact C.alloc C.size _
      have K7x : Blk V39 W2.heap.size 32 #[.int .i64 N, .slice p7 i7 q7] := by rw [hV]; first | exact K7 | exact K7.alloc _
      have K9x : Blk V39 W4.heap.size 32 #[.int .i64 N, .slice p9 i9 q9] := by rw [hV]; first | exact K9 | exact K9.alloc _
      have K11x : Blk V39 W36.heap.size 32 #[.int .i64 N, .slice p11 i11 q11] := by rw [hV]; first | exact K11 | exact K11.alloc _
      have o7x : OwnI 3 V1.heap.size V39 (.slice p7 i7 q7) L := by rw [hV]; first | exact o7 | exact o7.alloc _
      have o9x : OwnI 3 V3.heap.size V39 (.slice p9 i9 q9) L := by rw [hV]; first | exact o9 | exact o9.alloc _
      have o11x : OwnI 3 V35.heap.size V39 (.slice p11 i11 q11) L := by rw [hV]; first | exact o11 | exact o11.alloc _
      clear B C K7 K9 K11 o7 o9 o11
      have B := Bx
      have C := Cx
      have K7 := K7x
      have K9 := K9x
      have K11 := K11x
      have o7 := o7x
      have o9 := o9x
      have o11 := o11x
      clear Bx Cx K7x K9x K11x o7x o9x o11x
      clear hV
      refine (cornersI_any _ N _ L o7.ints bb HBB.out).mono ?_
      rintro e W40 ⟨p15, i15, q15, ls, rfl, ol, hll, hlc, hb⟩
      have Bx := B.after hb B.size
      have Cx := C.after hb C.size
      have K7x := K7.keep hb
      have K9x := K9.keep hb
      have K11x := K11.keep hb
      have o7x := o7.keep hb
      have o9x := o9.keep hb
      have o11x := o11.keep hb
      clear B C K7 K9 K11 o7 o9 o11
      have B := Bx
      have C := Cx
      have K7 := K7x
      have K9 := K9x
      have K11 := K11x
      have o7 := o7x
      have o9 := o9x
      have o11 := o11x
      clear Bx Cx K7x K9x K11x o7x o9x o11x
      clear hb
      have HLC := Lib.hid hlc
      clear hlc
      have GK7 := K7.cell
      have ZK7 := K7.lt
      have GK9 := K9.cell
      have ZK9 := K9.lt
      have GK11 := K11.cell
      have ZK11 := K11.lt
      go_wp2_with fail
      clear GK7 ZK7 GK9 ZK9 GK11 ZK11
      refine calls_named ?_
      intro V41 hV
      have Bx : Below w.heap.size w V41 := by rw [hV]; first | exact B | exact B.alloc B.size _
      have Cx : Below W6.heap.size W6 V41 := by rw [hV]; first | exact C | exact C.alloc C.size _
      have K7x : Blk V41 W2.heap.size 32 #[.int .i64 N, .slice p7 i7 q7] := by rw [hV]; first | exact K7 | exact K7.alloc _
      have K9x : Blk V41 W4.heap.size 32 #[.int .i64 N, .slice p9 i9 q9] := by rw [hV]; first | exact K9 | exact K9.alloc _
      have K11x : Blk V41 W36.heap.size 32 #[.int .i64 N, .slice p11 i11 q11] := by rw [hV]; first | exact K11 | exact K11.alloc _
      have o7x : OwnI 3 V1.heap.size V41 (.slice p7 i7 q7) L := by rw [hV]; first | exact o7 | exact o7.alloc _
      have o9x : OwnI 3 V3.heap.size V41 (.slice p9 i9 q9) L := by rw [hV]; first | exact o9 | exact o9.alloc _
      have o11x : OwnI 3 V35.heap.size V41 (.slice p11 i11 q11) L := by rw [hV]; first | exact o11 | exact o11.alloc _
      have olx : OwnLL 3 22 V39.heap.size V41 (.slice p15 i15 q15) ls := by rw [hV]; first | exact ol | exact ol.alloc _
      clear B C K7 K9 K11 o7 o9 o11 ol
      have B := Bx
      have C := Cx
      have K7 := K7x
      have K9 := K9x
      have K11 := K11x
      have o7 := o7x
      have o9 := o9x
      have o11 := o11x
      have ol := olx
      clear Bx Cx K7x K9x K11x o7x o9x o11x olx
      clear hV
      refine (isSubI_any N L _ _ o7.ints fl).mono ?_
      rintro e W42 ⟨rfl, hb⟩
      have Bx := B.after hb B.size
      have Cx := C.after hb C.size
      have K7x := K7.keep hb
      have K9x := K9.keep hb
      have K11x := K11.keep hb
      have o7x := o7.keep hb
      have o9x := o9.keep hb
      have o11x := o11.keep hb
      have olx := ol.keep hb
      clear B C K7 K9 K11 o7 o9 o11 ol
      have B := Bx
      have C := Cx
      have K7 := K7x
      have K9 := K9x
      have K11 := K11x
      have o7 := o7x
      have o9 := o9x
      have o11 := o11x
      have ol := olx
      clear Bx Cx K7x K9x K11x o7x o9x o11x olx
      clear hb
      rw [← HSB.out]
      have GK7 := K7.cell
      have ZK7 := K7.lt
      have GK9 := K9.cell
      have ZK9 := K9.lt
      have GK11 := K11.cell
      have ZK11 := K11.lt
      go_wp2_with fail
      clear GK7 ZK7 GK9 ZK9 GK11 ZK11
      refine calls_named ?_
      intro V43 hV
      have Bx : Below w.heap.size w V43 := by rw [hV]; first | exact B | exact B.alloc B.size _
      have Cx : Below W6.heap.size W6 V43 := by rw [hV]; first | exact C | exact C.alloc C.size _
      have K7x : Blk V43 W2.heap.size 32 #[.int .i64 N, .slice p7 i7 q7] := by rw [hV]; first | exact K7 | exact K7.alloc _
      have K9x : Blk V43 W4.heap.size 32 #[.int .i64 N, .slice p9 i9 q9] := by rw [hV]; first | exact K9 | exact K9.alloc _
      have K11x : Blk V43 W36.heap.size 32 #[.int .i64 N, .slice p11 i11 q11] := by rw [hV]; first | exact K11 | exact K11.alloc _
      have o7x : OwnI 3 V1.heap.size V43 (.slice p7 i7 q7) L := by rw [hV]; first | exact o7 | exact o7.alloc _
      have o9x : OwnI 3 V3.heap.size V43 (.slice p9 i9 q9) L := by rw [hV]; first | exact o9 | exact o9.alloc _
      have o11x : OwnI 3 V35.heap.size V43 (.slice p11 i11 q11) L := by rw [hV]; first | exact o11 | exact o11.alloc _
      have olx : OwnLL 3 22 V39.heap.size V43 (.slice p15 i15 q15) ls := by rw [hV]; first | exact ol | exact ol.alloc _
      clear B C K7 K9 K11 o7 o9 o11 ol
      have B := Bx
      have C := Cx
      have K7 := K7x
      have K9 := K9x
      have K11 := K11x
      have o7 := o7x
      have o9 := o9x
      have o11 := o11x
      have ol := olx
      clear Bx Cx K7x K9x K11x o7x o9x o11x olx
      clear hV
      refine (equalFunctionsS_any N N _ _ L L _ o11.ints o9.ints).mono ?_
      rintro e W44 ⟨rfl, hb⟩
      have Bx := B.after hb B.size
      have Cx := C.after hb C.size
      have K7x := K7.keep hb
      have K9x := K9.keep hb
      have K11x := K11.keep hb
      have o7x := o7.keep hb
      have o9x := o9.keep hb
      have o11x := o11.keep hb
      have olx := ol.keep hb
      clear B C K7 K9 K11 o7 o9 o11 ol
      have B := Bx
      have C := Cx
      have K7 := K7x
      have K9 := K9x
      have K11 := K11x
      have o7 := o7x
      have o9 := o9x
      have o11 := o11x
      have ol := olx
      clear Bx Cx K7x K9x K11x o7x o9x o11x olx
      clear hb
      simp only [decide_true, Bool.and_self]
      clear K11 o11
      have hi15 : i15 = ls.length := by
        obtain ⟨_, _, h, _⟩ := ol.len
        injection h
      subst hi15
      have hvs : ((!sb) == sb) = false := by cases sb <;> rfl
      have GK7 := K7.cell
      have ZK7 := K7.lt
      have GK9 := K9.cell
      have ZK9 := K9.lt
      go_wp2_with fail
      clear GK7 ZK7 GK9 ZK9 hvs
      go_loopw [18, 19] (fun tv iv wr => ∃ j : Nat, j ≤ ls.length ∧ iv = .int .i64 j ∧ tv = .bool ((ls.take j).all fun x => baseB N L x) ∧ Below W44.heap.size W44 wr) (fun _ iv _ => ls.length - (intOf iv).toNat)
      case atStart => exact ⟨0, Nat.zero_le _, rfl, rfl, Below.refl _ _⟩
      case round =>
       as_aux_lemma =>
        obtain ⟨j, hj, rfl, rfl, Bw⟩ := hrel
        by_cases hlt : j < ls.length
        · have hlt2 : (j : Int) < (ls.length : Int) := by omega
          obtain ⟨g, u, hix, hcell, hu⟩ := (ol.keep Bw).view Tryz.prog 39 Tryz.underlying39 sliceElem j hlt
          have hts : (ls.take (j + 1)).all (fun x => baseB N L x) = ((ls.take j).all (fun x => baseB N L x) && baseB N L ls[j]) := by rw [List.take_succ_eq_append_getElem hlt, List.all_append]; simp
          obtain ⟨X, hX⟩ : ∃ X, X = ls[j] := ⟨_, rfl⟩
          obtain ⟨au, nu, cu, rfl⟩ := hu.shape3
          have hu0 := hu.ints
          rw [← hX] at hts hu0
          obtain ⟨tb, htb⟩ : ∃ x, x = (ls.take j).all (fun x => baseB N L x) := ⟨_, rfl⟩
          obtain ⟨xb, hxb⟩ : ∃ x, x = baseB N L X := ⟨_, rfl⟩
          rw [← htb, ← hxb] at hts
          rw [← htb]
          have h7 := (o7.ints).keep Bw
          have hbc := fun (W : World) (h1 : Ints W (.slice p7 i7 q7) L) (h2 : Ints W (.slice au nu cu) X) => isBaseI_any W N _ L h1 _ X h2
          rw [← hxb] at hbc
          have QB := Lib.hid (fun q : Ext wr => hbc q.w (q.ints h7) (q.ints hu0))
          have G := (K7.keep Bw).cell
          have g0 := G 0
          have g1 := G 1
          simp only [List.getElem?_toArray, List.getElem?_cons_zero, List.getElem?_cons_succ] at g0 g1
          have q0 : ∀ y : Ext wr, y.w.cell? ⟨W2.heap.size, 0, none⟩ = some (.int .i64 N) := fun y => y.cell g0
          have q1 : ∀ y : Ext wr, y.w.cell? ⟨W2.heap.size, 1, none⟩ = some (.slice p7 i7 q7) := fun y => y.cell g1
          have q2 := fun y : Ext wr => y.cell hcell
          have HTS := Lib.hid hts
          clear hbc hX hxb htb hts hu hu0 h7 G g0 g1
          cases tb with
          | false =>
           as_aux_lemma =>
            go_wp2_with fail
            refine wp_region_ext _ (by kernel_rfl) (by kernel_rfl) ?_
            repeat (first | go_big_quiet_skip | (go_big_quiet_want; go_big_quiet_op; first | go_big_quiet_on | (apply Exists.intro; refine ⟨fun _ => ?_, ?_⟩; (fail); go_big_quiet_on)))
            refine wpQuiet_nil ?_
            rintro w3 ⟨⟨w3, hb3⟩, rfl⟩
            try dsimp only
            go_wp2
            go_roundw
            case rel => exact ⟨j + 1, by omega, by go_num, by rw [HTS.out]; rfl, Bw.after hb3 Bw.size⟩
            case measure => simp [intOf]; omega
          | true =>
           as_aux_lemma =>
            go_wp2_with fail
            refine wp_region_ext _ (by kernel_rfl) (by kernel_rfl) ?_
            repeat (first | go_big_quiet_skip | (go_big_quiet_want; go_big_quiet_op; first | go_big_quiet_on | (apply Exists.intro; refine ⟨fun _ => ?_, ?_⟩; (go_at_call 18; exact ext_call (QB.out _)); go_big_quiet_on)))
            refine wpQuiet_nil ?_
            rintro w3 ⟨⟨w3, hb3⟩, rfl⟩
            try dsimp only
            go_wp2
            go_roundw
            case rel => exact ⟨j + 1, by omega, by go_num, by rw [HTS.out]; rfl, Bw.after hb3 Bw.size⟩
            case measure => simp [intOf]; omega
        · have hlt2 : ¬ (j : Int) < (ls.length : Int) := by omega
          as_aux_lemma =>
            rw [List.take_of_length_le (by omega)]
            obtain ⟨ta, hta⟩ : ∃ x, x = ls.all (fun x => baseB N L x) := ⟨_, rfl⟩
            have hsum := fun h => HCO.out ls (fun x hx => (HLC.out h).1 x hx) (fun o ho => (HLC.out h).2 o ho) h
            rw [← hta] at hsum ⊢
            have HSUM := Lib.hid hsum
            clear hta hsum HCO HLC ol hll
            have Bx := B.after Bw B.size
            have Cx := C.after Bw C.size
            have K7x := K7.keep Bw
            have K9x := K9.keep Bw
            have o7x := o7.keep Bw
            have o9x := o9.keep Bw
            clear B C K7 K9 o7 o9
            have B := Bx
            have C := Cx
            have K7 := K7x
            have K9 := K9x
            have o7 := o7x
            have o9 := o9x
            clear Bx Cx K7x K9x o7x o9x
            clear Bw hlt
            have GK7 := K7.cell
            have ZK7 := K7.lt
            have GK9 := K9.cell
            have ZK9 := K9.lt
            go_wp2_with fail
            clear GK7 ZK7 GK9 ZK9
            clear hlt2
            refine calls_named ?_
            intro V45 hV
            have Bx : Below w.heap.size w V45 := by rw [hV]; first | exact B | exact B.alloc B.size _
            have Cx : Below W6.heap.size W6 V45 := by rw [hV]; first | exact C | exact C.alloc C.size _
            have K7x : Blk V45 W2.heap.size 32 #[.int .i64 N, .slice p7 i7 q7] := by rw [hV]; first | exact K7 | exact K7.alloc _
            have K9x : Blk V45 W4.heap.size 32 #[.int .i64 N, .slice p9 i9 q9] := by rw [hV]; first | exact K9 | exact K9.alloc _
            have o7x : OwnI 3 V1.heap.size V45 (.slice p7 i7 q7) L := by rw [hV]; first | exact o7 | exact o7.alloc _
            have o9x : OwnI 3 V3.heap.size V45 (.slice p9 i9 q9) L := by rw [hV]; first | exact o9 | exact o9.alloc _
            clear B C K7 K9 o7 o9
            have B := Bx
            have C := Cx
            have K7 := K7x
            have K9 := K9x
            have o7 := o7x
            have o9 := o9x
            clear Bx Cx K7x K9x o7x o9x
            clear hV
            refine (dualI_any _ N _ L o7.ints fl).mono ?_
            rintro e W46 ⟨p20, i20, q20, rfl, o20, hb⟩
            have Bx := B.after hb B.size
            have Cx := C.after hb C.size
            have K7x := K7.keep hb
            have K9x := K9.keep hb
            have o7x := o7.keep hb
            have o9x := o9.keep hb
            clear B C K7 K9 o7 o9
            have B := Bx
            have C := Cx
            have K7 := K7x
            have K9 := K9x
            have o7 := o7x
            have o9 := o9x
            clear Bx Cx K7x K9x o7x o9x
            clear hb
            obtain ⟨dv, hdv⟩ : ∃ x, x = dvB N L := ⟨_, rfl⟩
            have hd2 := HDV.out
            rw [← hdv] at hd2 ⊢
            have HD2 := Lib.hid hd2
            clear hd2 hdv HDV
            go_upto_region 20 with fail
            go_cut [139] (fun v wx => v = .bool false ∧ Below W46.heap.size W46 wx)
            case first =>
             as_aux_lemma =>
              have hgc := fun (W : World) (h : Ints W (.slice p9 i9 q9) L) => isGrS_any N L _ W h
              rw [← HGR.out] at hgc
              have HGC := Lib.hid hgc
              clear hgc
              cases sb with
              | false =>
                have e1 := HD2.out
                simp only [Bool.false_and] at e1
                subst e1
                cases bb with
                | false =>
                  have GK7 := K7.cell
                  have ZK7 := K7.lt
                  have GK9 := K9.cell
                  have ZK9 := K9.lt
                  go_wp2
                  go_meet
                  exact ⟨rfl, Below.refl _ _⟩
                | true =>
                  have e2 := HSUM.out rfl
                  subst e2
                  have GK7 := K7.cell
                  have ZK7 := K7.lt
                  have GK9 := K9.cell
                  have ZK9 := K9.lt
                  go_wp2
                  go_meet
                  exact ⟨rfl, Below.refl _ _⟩
              | true =>
                have e1 := HD2.out
                simp only [Bool.true_and] at e1
                subst e1
                cases bb with
                | false =>
                  have GK7 := K7.cell
                  have ZK7 := K7.lt
                  have GK9 := K9.cell
                  have ZK9 := K9.lt
                  go_wp2_with fail
                  refine (HGC.out _ o9.ints).mono ?_
                  rintro e W9 ⟨rfl, hb⟩
                  cases dv with
                  | false =>
                    go_wp2
                    go_meet
                    exact ⟨rfl, hb⟩
                  | true =>
                    go_wp2
                    go_meet
                    exact ⟨rfl, hb⟩
                | true =>
                  have e2 := HSUM.out rfl
                  subst e2
                  have GK7 := K7.cell
                  have ZK7 := K7.lt
                  have GK9 := K9.cell
                  have ZK9 := K9.lt
                  go_wp2_with fail
                  refine (HGC.out _ o9.ints).mono ?_
                  rintro e W9 ⟨rfl, hb⟩
                  cases dv with
                  | false =>
                    go_wp2
                    go_meet
                    exact ⟨rfl, hb⟩
                  | true =>
                    go_wp2
                    go_meet
                    exact ⟨rfl, hb⟩
            case rest =>
             as_aux_lemma =>
              obtain ⟨rfl, hcb⟩ := hcut
              clear HSUM
              have Bx := B.after hcb B.size
              have Cx := C.after hcb C.size
              have K7x := K7.keep hcb
              have K9x := K9.keep hcb
              have o7x := o7.keep hcb
              have o9x := o9.keep hcb
              have o20x := o20.keep hcb
              clear B C K7 K9 o7 o9 o20
              have B := Bx
              have C := Cx
              have K7 := K7x
              have K9 := K9x
              have o7 := o7x
              have o9 := o9x
              have o20 := o20x
              clear Bx Cx K7x K9x o7x o9x o20x
              clear hcb
              obtain ⟨w5, hw5⟩ : ∃ x, x = wc := ⟨_, rfl⟩
              rw [← hw5] at B C K7 K9 o7 o9 o20 ⊢
              clear hw5
              go_upto_if 140 with fail
              go_cut [6] (fun v wx => v = .bool false ∧ Below w5.heap.size w5 wx)
              case first =>
               as_aux_lemma =>
                have D : Below w5.heap.size w5 w5 := Below.refl _ _
                cases dv with
                | false =>
                  go_wp2
                  go_meet
                  exact ⟨rfl, D⟩
                | true =>
                  have hdu : duB N L = true := by
                    have h1 := HD2.out
                    have h2 := HSB.out
                    have h3 := HGR.out
                    rw [h2, h3] at h1
                    unfold duB; rw [Bool.and_comm]; exact h1.symm
                  have hsu : subB N L = true := by unfold duB at hdu; rw [Bool.and_eq_true] at hdu; exact hdu.2
                  have hmn : minN N L = lstN L := by unfold minN; rw [if_pos HFF.out]
                  have hdp := dual_np N L hdu
                  have hdo := (dual_ok N L hdu).2
                  have hml := mz_lat N L hsu
                  have hme := mzL_ne N L HFF.out
                  have HX := Lib.hid (And.intro hmn (And.intro hdp.1 (And.intro hdp.2 (And.intro hdo (And.intro hml hme)))))
                  clear hdu hsu hmn hdp hdo hml hme
                  have GK7 := K7.cell
                  have ZK7 := K7.lt
                  have GK9 := K9.cell
                  have ZK9 := K9.lt
                  go_wp2_with fail
                  clear GK7 ZK7 GK9 ZK9
                  refine calls_named ?_
                  intro V47 hV
                  have Bx : Below w.heap.size w V47 := by rw [hV]; first | exact B | exact B.alloc B.size _
                  have Cx : Below W6.heap.size W6 V47 := by rw [hV]; first | exact C | exact C.alloc C.size _
                  have Dx : Below w5.heap.size w5 V47 := by rw [hV]; first | exact D | exact D.alloc D.size _
                  have K7x : Blk V47 W2.heap.size 32 #[.int .i64 N, .slice p7 i7 q7] := by rw [hV]; first | exact K7 | exact K7.alloc _
                  have K9x : Blk V47 W4.heap.size 32 #[.int .i64 N, .slice p9 i9 q9] := by rw [hV]; first | exact K9 | exact K9.alloc _
                  have o7x : OwnI 3 V1.heap.size V47 (.slice p7 i7 q7) L := by rw [hV]; first | exact o7 | exact o7.alloc _
                  have o9x : OwnI 3 V3.heap.size V47 (.slice p9 i9 q9) L := by rw [hV]; first | exact o9 | exact o9.alloc _
                  have o20x : OwnI 3 V45.heap.size V47 (.slice p20 i20 q20) (dvL N L) := by rw [hV]; first | exact o20 | exact o20.alloc _
                  clear B C D K7 K9 o7 o9 o20
                  have B := Bx
                  have C := Cx
                  have D := Dx
                  have K7 := K7x
                  have K9 := K9x
                  have o7 := o7x
                  have o9 := o9x
                  have o20 := o20x
                  clear Bx Cx Dx K7x K9x o7x o9x o20x
                  clear hV
                  refine (minimumI_any _ N _ L o7.ints).mono ?_
                  rintro e W48 ⟨rfl, hb⟩
                  have Bx := B.after hb B.size
                  have Cx := C.after hb C.size
                  have Dx := D.after hb D.size
                  have K7x := K7.keep hb
                  have K9x := K9.keep hb
                  have o7x := o7.keep hb
                  have o9x := o9.keep hb
                  have o20x := o20.keep hb
                  clear B C D K7 K9 o7 o9 o20
                  have B := Bx
                  have C := Cx
                  have D := Dx
                  have K7 := K7x
                  have K9 := K9x
                  have o7 := o7x
                  have o9 := o9x
                  have o20 := o20x
                  clear Bx Cx Dx K7x K9x o7x o9x o20x
                  clear hb
                  rw [HX.out.1, HFF.out]
                  have GK7 := K7.cell
                  have ZK7 := K7.lt
                  have GK9 := K9.cell
                  have ZK9 := K9.lt
                  go_wp2_with fail
                  clear GK7 ZK7 GK9 ZK9
                  refine calls_named ?_
                  intro V49 hV
                  have Bx : Below w.heap.size w V49 := by rw [hV]; first | exact B | exact B.alloc B.size _
                  have Cx : Below W6.heap.size W6 V49 := by rw [hV]; first | exact C | exact C.alloc C.size _
                  have Dx : Below w5.heap.size w5 V49 := by rw [hV]; first | exact D | exact D.alloc D.size _
                  have K7x : Blk V49 W2.heap.size 32 #[.int .i64 N, .slice p7 i7 q7] := by rw [hV]; first | exact K7 | exact K7.alloc _
                  have K9x : Blk V49 W4.heap.size 32 #[.int .i64 N, .slice p9 i9 q9] := by rw [hV]; first | exact K9 | exact K9.alloc _
                  have o7x : OwnI 3 V1.heap.size V49 (.slice p7 i7 q7) L := by rw [hV]; first | exact o7 | exact o7.alloc _
                  have o9x : OwnI 3 V3.heap.size V49 (.slice p9 i9 q9) L := by rw [hV]; first | exact o9 | exact o9.alloc _
                  have o20x : OwnI 3 V45.heap.size V49 (.slice p20 i20 q20) (dvL N L) := by rw [hV]; first | exact o20 | exact o20.alloc _
                  clear B C D K7 K9 o7 o9 o20
                  have B := Bx
                  have C := Cx
                  have D := Dx
                  have K7 := K7x
                  have K9 := K9x
                  have o7 := o7x
                  have o9 := o9x
                  have o20 := o20x
                  clear Bx Cx Dx K7x K9x o7x o9x o20x
                  clear hV
                  refine (negI_any (dvL N L) _ _ o20.ints).mono ?_
                  rintro e _ ⟨rfl, rfl⟩
                  rw [HX.out.2.1, HX.out.2.2.1]
                  have GK7 := K7.cell
                  have ZK7 := K7.lt
                  have GK9 := K9.cell
                  have ZK9 := K9.lt
                  go_wp2_with fail
                  clear GK7 ZK7 GK9 ZK9
                  refine calls_named ?_
                  intro V51 hV
                  have Bx : Below w.heap.size w V51 := by rw [hV]; first | exact B | exact B.alloc B.size _
                  have Cx : Below W6.heap.size W6 V51 := by rw [hV]; first | exact C | exact C.alloc C.size _
                  have Dx : Below w5.heap.size w5 V51 := by rw [hV]; first | exact D | exact D.alloc D.size _
                  have K7x : Blk V51 W2.heap.size 32 #[.int .i64 N, .slice p7 i7 q7] := by rw [hV]; first | exact K7 | exact K7.alloc _
                  have K9x : Blk V51 W4.heap.size 32 #[.int .i64 N, .slice p9 i9 q9] := by rw [hV]; first | exact K9 | exact K9.alloc _
                  have o7x : OwnI 3 V1.heap.size V51 (.slice p7 i7 q7) L := by rw [hV]; first | exact o7 | exact o7.alloc _
                  have o9x : OwnI 3 V3.heap.size V51 (.slice p9 i9 q9) L := by rw [hV]; first | exact o9 | exact o9.alloc _
                  have o20x : OwnI 3 V45.heap.size V51 (.slice p20 i20 q20) (dvL N L) := by rw [hV]; first | exact o20 | exact o20.alloc _
                  clear B C D K7 K9 o7 o9 o20
                  have B := Bx
                  have C := Cx
                  have D := Dx
                  have K7 := K7x
                  have K9 := K9x
                  have o7 := o7x
                  have o9 := o9x
                  have o20 := o20x
                  clear Bx Cx Dx K7x K9x o7x o9x o20x
                  clear hV
                  refine (minimizersI_any _ N _ L o7.ints).mono ?_
                  rintro e W52 ⟨p26, i26, q26, rfl, o26, hb⟩
                  have Bx := B.after hb B.size
                  have Cx := C.after hb C.size
                  have Dx := D.after hb D.size
                  have K7x := K7.keep hb
                  have K9x := K9.keep hb
                  have o7x := o7.keep hb
                  have o9x := o9.keep hb
                  have o20x := o20.keep hb
                  clear B C D K7 K9 o7 o9 o20
                  have B := Bx
                  have C := Cx
                  have D := Dx
                  have K7 := K7x
                  have K9 := K9x
                  have o7 := o7x
                  have o9 := o9x
                  have o20 := o20x
                  clear Bx Cx Dx K7x K9x o7x o9x o20x
                  clear hb
                  rw [HFF.out]
                  have GK7 := K7.cell
                  have ZK7 := K7.lt
                  have GK9 := K9.cell
                  have ZK9 := K9.lt
                  go_wp2_with fail
                  clear GK7 ZK7 GK9 ZK9
                  refine calls_named ?_
                  intro V53 hV
                  have Bx : Below w.heap.size w V53 := by rw [hV]; first | exact B | exact B.alloc B.size _
                  have Cx : Below W6.heap.size W6 V53 := by rw [hV]; first | exact C | exact C.alloc C.size _
                  have Dx : Below w5.heap.size w5 V53 := by rw [hV]; first | exact D | exact D.alloc D.size _
                  have K7x : Blk V53 W2.heap.size 32 #[.int .i64 N, .slice p7 i7 q7] := by rw [hV]; first | exact K7 | exact K7.alloc _
                  have K9x : Blk V53 W4.heap.size 32 #[.int .i64 N, .slice p9 i9 q9] := by rw [hV]; first | exact K9 | exact K9.alloc _
                  have o7x : OwnI 3 V1.heap.size V53 (.slice p7 i7 q7) L := by rw [hV]; first | exact o7 | exact o7.alloc _
                  have o9x : OwnI 3 V3.heap.size V53 (.slice p9 i9 q9) L := by rw [hV]; first | exact o9 | exact o9.alloc _
                  have o20x : OwnI 3 V45.heap.size V53 (.slice p20 i20 q20) (dvL N L) := by rw [hV]; first | exact o20 | exact o20.alloc _
                  have o26x : OwnI 3 V51.heap.size V53 (.slice p26 i26 q26) (mzL N L) := by rw [hV]; first | exact o26 | exact o26.alloc _
                  clear B C D K7 K9 o7 o9 o20 o26
                  have B := Bx
                  have C := Cx
                  have D := Dx
                  have K7 := K7x
                  have K9 := K9x
                  have o7 := o7x
                  have o9 := o9x
                  have o20 := o20x
                  have o26 := o26x
                  clear Bx Cx Dx K7x K9x o7x o9x o20x o26x
                  clear hV
                  refine (dualVI_any _ N _ L o7.ints _ _ o20.ints).mono ?_
                  rintro e W54 ⟨rfl, hb⟩
                  have Bx := B.after hb B.size
                  have Cx := C.after hb C.size
                  have Dx := D.after hb D.size
                  have K7x := K7.keep hb
                  have K9x := K9.keep hb
                  have o7x := o7.keep hb
                  have o9x := o9.keep hb
                  have o20x := o20.keep hb
                  have o26x := o26.keep hb
                  clear B C D K7 K9 o7 o9 o20 o26
                  have B := Bx
                  have C := Cx
                  have D := Dx
                  have K7 := K7x
                  have K9 := K9x
                  have o7 := o7x
                  have o9 := o9x
                  have o20 := o20x
                  have o26 := o26x
                  clear Bx Cx Dx K7x K9x o7x o9x o20x o26x
                  clear hb
                  rw [HX.out.2.2.2.1]
                  have hnz : ¬ ((i26 : Int) = 0) := by
                    have h1 := o26.ints.capLe.1
                    have h2 := List.length_pos_iff.2 HX.out.2.2.2.2.2
                    omega
                  have GK7 := K7.cell
                  have ZK7 := K7.lt
                  have GK9 := K9.cell
                  have ZK9 := K9.lt
                  go_wp2_with fail
                  clear GK7 ZK7 GK9 ZK9
                  refine calls_named ?_
                  intro V55 hV
                  have Bx : Below w.heap.size w V55 := by rw [hV]; first | exact B | exact B.alloc B.size _
                  have Cx : Below W6.heap.size W6 V55 := by rw [hV]; first | exact C | exact C.alloc C.size _
                  have Dx : Below w5.heap.size w5 V55 := by rw [hV]; first | exact D | exact D.alloc D.size _
                  have K7x : Blk V55 W2.heap.size 32 #[.int .i64 N, .slice p7 i7 q7] := by rw [hV]; first | exact K7 | exact K7.alloc _
                  have K9x : Blk V55 W4.heap.size 32 #[.int .i64 N, .slice p9 i9 q9] := by rw [hV]; first | exact K9 | exact K9.alloc _
                  have o7x : OwnI 3 V1.heap.size V55 (.slice p7 i7 q7) L := by rw [hV]; first | exact o7 | exact o7.alloc _
                  have o9x : OwnI 3 V3.heap.size V55 (.slice p9 i9 q9) L := by rw [hV]; first | exact o9 | exact o9.alloc _
                  have o20x : OwnI 3 V45.heap.size V55 (.slice p20 i20 q20) (dvL N L) := by rw [hV]; first | exact o20 | exact o20.alloc _
                  have o26x : OwnI 3 V51.heap.size V55 (.slice p26 i26 q26) (mzL N L) := by rw [hV]; first | exact o26 | exact o26.alloc _
                  clear B C D K7 K9 o7 o9 o20 o26
                  have B := Bx
                  have C := Cx
                  have D := Dx
                  have K7 := K7x
                  have K9 := K9x
                  have o7 := o7x
                  have o9 := o9x
                  have o20 := o20x
                  have o26 := o26x
                  clear Bx Cx Dx K7x K9x o7x o9x o20x o26x
                  clear hV
                  refine (latI_any (mzL N L) _ _ o26.ints).mono ?_
                  rintro e _ ⟨rfl, rfl⟩
                  rw [HX.out.2.2.2.2.1]
                  have GK7 := K7.cell
                  have ZK7 := K7.lt
                  have GK9 := K9.cell
                  have ZK9 := K9.lt
                  go_wp2
                  go_meet
                  exact ⟨rfl, D⟩
              case rest =>
               as_aux_lemma =>
                obtain ⟨rfl, hcb⟩ := hcut
                have Bx := B.after hcb B.size
                have Cx := C.after hcb C.size
                have K7x := K7.keep hcb
                have K9x := K9.keep hcb
                have o7x := o7.keep hcb
                have o9x := o9.keep hcb
                have o20x := o20.keep hcb
                clear B C K7 K9 o7 o9 o20
                have B := Bx
                have C := Cx
                have K7 := K7x
                have K9 := K9x
                have o7 := o7x
                have o9 := o9x
                have o20 := o20x
                clear Bx Cx K7x K9x o7x o9x o20x
                clear hcb
                have GK7 := K7.cell
                have ZK7 := K7.lt
                have GK9 := K9.cell
                have ZK9 := K9.lt
                go_wp2_with fail
                clear GK7 ZK7 GK9 ZK9
                refine calls_named ?_
                intro V56 hV
                have Bx : Below w.heap.size w V56 := by rw [hV]; first | exact B | exact B.alloc B.size _
                have Cx : Below W6.heap.size W6 V56 := by rw [hV]; first | exact C | exact C.alloc C.size _
                have K7x : Blk V56 W2.heap.size 32 #[.int .i64 N, .slice p7 i7 q7] := by rw [hV]; first | exact K7 | exact K7.alloc _
                have K9x : Blk V56 W4.heap.size 32 #[.int .i64 N, .slice p9 i9 q9] := by rw [hV]; first | exact K9 | exact K9.alloc _
                have o7x : OwnI 3 V1.heap.size V56 (.slice p7 i7 q7) L := by rw [hV]; first | exact o7 | exact o7.alloc _
                have o9x : OwnI 3 V3.heap.size V56 (.slice p9 i9 q9) L := by rw [hV]; first | exact o9 | exact o9.alloc _
                have o20x : OwnI 3 V45.heap.size V56 (.slice p20 i20 q20) (dvL N L) := by rw [hV]; first | exact o20 | exact o20.alloc _
                clear B C K7 K9 o7 o9 o20
                have B := Bx
                have C := Cx
                have K7 := K7x
                have K9 := K9x
                have o7 := o7x
                have o9 := o9x
                have o20 := o20x
                clear Bx Cx K7x K9x o7x o9x o20x
                clear hV
                refine (claimFunI_c _ N _ L o7.ints fl).mono ?_
                rintro e W57 ⟨u0, j0, r0, u1, j1, r1, u2, j2, r2, u3, j3, r3, rfl, oa, ob, oc, od, _, hb⟩
                have Bx := B.after hb B.size
                have Cx := C.after hb C.size
                have K7x := K7.keep hb
                have K9x := K9.keep hb
                have o7x := o7.keep hb
                have o9x := o9.keep hb
                have o20x := o20.keep hb
                clear B C K7 K9 o7 o9 o20
                have B := Bx
                have C := Cx
                have K7 := K7x
                have K9 := K9x
                have o7 := o7x
                have o9 := o9x
                have o20 := o20x
                clear Bx Cx K7x K9x o7x o9x o20x
                clear hb
                rw [← HGR.out]
                cases gr with
                | false =>
                  have GK7 := K7.cell
                  have ZK7 := K7.lt
                  have GK9 := K9.cell
                  have ZK9 := K9.lt
                  go_wp2
                  go_meet
                  exact ⟨rfl, C.alloc C.size _⟩
                | true =>
                  have hck := cf_ok N L 0 [] 0 [] HGR.out.symm
                  have HCK := Lib.hid hck
                  clear hck
                  have GK7 := K7.cell
                  have ZK7 := K7.lt
                  have GK9 := K9.cell
                  have ZK9 := K9.lt
                  go_wp2_with fail
                  clear GK7 ZK7 GK9 ZK9
                  refine calls_named ?_
                  intro V58 hV
                  have Bx : Below w.heap.size w V58 := by rw [hV]; first | exact B | exact B.alloc B.size _
                  have Cx : Below W6.heap.size W6 V58 := by rw [hV]; first | exact C | exact C.alloc C.size _
                  have K7x : Blk V58 W2.heap.size 32 #[.int .i64 N, .slice p7 i7 q7] := by rw [hV]; first | exact K7 | exact K7.alloc _
                  have K9x : Blk V58 W4.heap.size 32 #[.int .i64 N, .slice p9 i9 q9] := by rw [hV]; first | exact K9 | exact K9.alloc _
                  have o7x : OwnI 3 V1.heap.size V58 (.slice p7 i7 q7) L := by rw [hV]; first | exact o7 | exact o7.alloc _
                  have o9x : OwnI 3 V3.heap.size V58 (.slice p9 i9 q9) L := by rw [hV]; first | exact o9 | exact o9.alloc _
                  have o20x : OwnI 3 V45.heap.size V58 (.slice p20 i20 q20) (dvL N L) := by rw [hV]; first | exact o20 | exact o20.alloc _
                  have oax : OwnW 3 V56.heap.size V58 (.slice u0 j0 r0) (cfL N L) := by rw [hV]; first | exact oa | exact oa.alloc _
                  have obx : OwnW 3 V56.heap.size V58 (.slice u1 j1 r1) [] := by rw [hV]; first | exact ob | exact ob.alloc _
                  have ocx : OwnW 3 V56.heap.size V58 (.slice u2 j2 r2) [] := by rw [hV]; first | exact oc | exact oc.alloc _
                  have odx : OwnW 3 V56.heap.size V58 (.slice u3 j3 r3) (cfE N L) := by rw [hV]; first | exact od | exact od.alloc _
                  have K28 : Blk V58 W57.heap.size 49 #[.int .i64 (cfK N L), .int .i64 (cfA N L), .slice u0 j0 r0, .int .i64 0, .slice u1 j1 r1, .int .i64 0, .slice u2 j2 r2, .int .i64 (cfP N L), .int .i64 (cfS N L), .slice u3 j3 r3] := by rw [hV]; exact Blk.new _ _ _
                  clear B C K7 K9 o7 o9 o20 oa ob oc od
                  have B := Bx
                  have C := Cx
                  have K7 := K7x
                  have K9 := K9x
                  have o7 := o7x
                  have o9 := o9x
                  have o20 := o20x
                  have oa := oax
                  have ob := obx
                  have oc := ocx
                  have od := odx
                  clear Bx Cx K7x K9x o7x o9x o20x oax obx ocx odx
                  clear hV
                  refine (checkClaimI_c _ (cfK N L) (cfA N L) _ _ oa.ints 0 _ _ ob.ints 0 _ _ oc.ints (cfP N L) (cfS N L) _ _ od.ints (cfL_len N L fl) (by simp) (by simp)).mono ?_
                  rintro e W59 ⟨rfl, hb⟩
                  have Bx := B.after hb B.size
                  have Cx := C.after hb C.size
                  have K7x := K7.keep hb
                  have K9x := K9.keep hb
                  have K28x := K28.keep hb
                  have o7x := o7.keep hb
                  have o9x := o9.keep hb
                  have o20x := o20.keep hb
                  have oax := oa.keep hb
                  have obx := ob.keep hb
                  have ocx := oc.keep hb
                  have odx := od.keep hb
                  clear B C K7 K9 K28 o7 o9 o20 oa ob oc od
                  have B := Bx
                  have C := Cx
                  have K7 := K7x
                  have K9 := K9x
                  have K28 := K28x
                  have o7 := o7x
                  have o9 := o9x
                  have o20 := o20x
                  have oa := oax
                  have ob := obx
                  have oc := ocx
                  have od := odx
                  clear Bx Cx K7x K9x K28x o7x o9x o20x oax obx ocx odx
                  clear hb
                  rw [HCK.out]
                  have GK7 := K7.cell
                  have ZK7 := K7.lt
                  have GK9 := K9.cell
                  have ZK9 := K9.lt
                  have GK28 := K28.cell
                  have ZK28 := K28.lt
                  go_wp2
                  go_meet
                  exact ⟨rfl, C⟩
end Go.Proofs.YtipejodijbjpcaaGreatDoor
end
