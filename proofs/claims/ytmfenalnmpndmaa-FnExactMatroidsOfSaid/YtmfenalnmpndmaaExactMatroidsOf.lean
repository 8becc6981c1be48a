/- The statement FnExactMatroidsOf: for every input the call returns true and each argument reads as it did. No condition. -/
import Derived.Test.YtmfenalnmpndmaaRead
import Derived.Test.YtmfenalnmpndmaaMarkF
namespace Go.Proofs.Ytmfenalnmpndmaa
open Go.ChangeShapes Go.WideShapes Go.ChangeAt Go.RowKit Go.G5
theorem matF_lens {its : List FIt} {n : Int} (h : readF its = matF n) : its.length ≤ 65536 ∧ ∀ t ∈ its, t.2.2.length ≤ 8 := by
  have hb := matF_bd n
  rw [← h, readF_len] at hb
  refine ⟨hb.1, fun t ht => hb.2 (t.1, t.2.2) ?_⟩
  unfold readF
  exact List.mem_map.2 ⟨t, ht, rfl⟩
set_option maxHeartbeats 8000000 in
set_option maxRecDepth 100000 in
theorem matroids_walk (w : World) (a : Int) (_ : InR a) :
    Calls Try.prog 4 #[.int .i64 a] w fun e w' => e = .returned (.bool true) ∧ Below w.heap.size w w' := by
  go_enter Try.func4, Try.ntmps4
  go_wp2_with fail
  refine (matSF_any w a).mono ?_
  rintro e W1 ⟨p1, i1, q1, jts, rfl, f1, r1, B⟩
  have hz1 := B.size
  have y1 : ∀ k, (Value.slice p1 i1 q1).ownBlock = some k → k < W1.heap.size := fun k hk => (f1.lt k hk).2
  have y2 : ∀ t ∈ jts, ∀ k, t.2.1.ownBlock = some k → k < W1.heap.size := fun t ht k hk => ((f1.els t ht).2.lt k hk).2
  go_wp2_with fail
  refine (matIF_any W1 a).mono ?_
  rintro e W2 ⟨p2, i2, q2, its, rfl, f2, r2, b2, n2, ap2⟩
  have f1 := f1.keep b2
  have B := B.after b2 B.size
  have n1 := fun k hk => (f2.lt k hk).1
  have he : readF its = readF jts := by rw [r1, r2]
  have hl := matF_lens r2
  have HP := Lib.hid ap2
  have HY := Lib.hid (And.intro y1 y2)
  have HN := Lib.hid (And.intro n1 n2)
  have HL := Lib.hid hl
  have HE := Lib.hid he
  have HR := Lib.hid (And.intro r1 r2)
  clear ap2 y1 y2 n1 n2 hl he r1 r2 b2
  go_wp2_with fail
  refine (eqFunS_any W2 _ _ _ _ its jts f2 f1 HE.out (Nat.le_trans HL.out.1 (by decide))).mono ?_
  rintro e W3 ⟨rfl, b3⟩
  have f1 := f1.keep b3
  have f2 := f2.keep b3
  have B := B.after b3 B.size
  clear b3
  go_wp2_with fail
  refine (markFunS_any W3 _ _ its f2 HP.out HL.out.1 HL.out.2).mono ?_
  rintro e W4 ⟨L, rfl, M, fm, g4⟩
  have f1 := f1.growIn g4 (fun k hk hP => by
    have h1 := HY.out.1 k hk
    rcases hP with h | ⟨t, ht, h⟩
    · have := HN.out.1 k h; omega
    · have := HN.out.2 t ht k h; omega) (fun t ht k hk hP => by
    have h1 := HY.out.2 t ht k hk
    rcases hP with h | ⟨t', ht', h⟩
    · have := HN.out.1 k h; omega
    · have := HN.out.2 t' ht' k h; omega)
  have hz := B.size
  have B := Go.G5.Below.growIn B g4 B.size (fun k hP => by
    rcases hP with h | ⟨t, ht, h⟩
    · have := HN.out.1 k h; have := (f2.lt k h).1; omega
    · have := HN.out.2 t ht k h; omega)
  have HM := Lib.hid M
  have hk0 := (kAt_bd 1 its (by omega) HL.out.2 its.length (Nat.le_refl _)).1
  have HELD := fun W (y : FunsW 26 3 W1.heap.size W (.slice p2 i2 q2) L) => heldFunS_any W _ _ its L HM.out y HL.out.1 HL.out.2
  obtain ⟨K, hK⟩ : ∃ q, q = kAt 1 its its.length := ⟨_, rfl⟩
  simp only [← hK] at HELD
  rw [← hK] at hk0 ⊢
  have HELD := Lib.hid HELD
  clear hK M g4 f2 hz
  go_wp2_with fail
  refine (HELD.out W4 fm).mono ?_
  rintro e W5 ⟨rfl, b5⟩
  have f1 := f1.keep b5
  have fm := fm.keep b5
  have B := B.after b5 B.size
  clear b5
  go_wp2_with fail
  refine (matIF_any W5 a).mono ?_
  rintro e W6 ⟨p6, i6, q6, ats, rfl, f6, r6, b6, n6, ap6⟩
  have f1 := f1.keep b6
  have fm := fm.keep b6
  have B := B.after b6 B.size
  have he6 : readF ats = readF jts := by rw [r6, HR.out.1]
  have hl6 := matF_lens r6
  have HE6 := Lib.hid he6
  have HL6 := Lib.hid hl6
  clear he6 hl6 r6 n6 ap6 b6
  go_wp2_with fail
  refine (eqFunS_any W6 _ _ _ _ ats jts f6 f1 HE6.out (Nat.le_trans HL6.out.1 (by decide))).mono ?_
  rintro e W7 ⟨rfl, b7⟩
  have fm := fm.keep b7
  have B := B.after b7 B.size
  clear b7
  go_wp2_with fail
  refine (HELD.out W7 fm).mono ?_
  rintro e W8 ⟨rfl, b8⟩
  have B := B.after b8 B.size
  go_wp2
  go_ret
  exact ⟨rfl, B⟩

theorem fnExactMatroidsOf_params : Try.f4.params = #[3] := by kernel_rfl
set_option maxRecDepth 100000 in
theorem fnExactMatroidsOf_lifted (os : Os) (started : os.Started) (H : Type) (enc : TypeId × Value → H) :
    ReturnsInHanded {} Try.checked os 4 .any (Rows.fnExactMatroidsOfSpec.pre6 enc Try.prog Try.f4 Rows.fnExactMatroidsOfRow.domain false) (Rows.fnExactMatroidsOfSpec.post enc Try.prog Try.f4 false true false false) := by
  refine law_lift os started H enc Try.func4 (by kernel_rfl) rfl (by kernel_rfl) (by kernel_rfl) ?_
    (ChangeSpec.witness6 (enc := enc) (C := Try.checked) false ⟨#[], #[.int .i64 0], []⟩ 8 (by kernel_rfl) (by kernel_rfl) (by kernel_rfl) (by kernel_rfl)) ?_
  · intro ds hds
    rw [fnExactMatroidsOf_params] at hds
    match ds, hds with
    | [d0], _ => rfl
  · intro W base args ds p hval hA
    rw [fnExactMatroidsOf_params] at hA hval
    obtain ⟨v0, vs0, d0, ds0, p0, q0, hargs, rfl, rfl, h0, r0⟩ := trodAll_cons hA
    obtain ⟨rfl, rfl, rfl⟩ := trodAll_nil r0
    obtain rfl : args = #[v0] := by cases args; simp_all
    obtain ⟨a0, rfl, w0⟩ := rd_int (hval 0 3 v0 rfl rfl) h0
    exact matroids_walk W a0 w0

theorem fnExactMatroidsOf_holds : Rows.FnExactMatroidsOfSaid :=
  OpenClaim.holds_of_wide 4 Try.f4 rfl rfl rfl rfl rfl rfl rfl ⟨rfl, rfl, rfl, rfl, rfl⟩ rfl rfl rfl rfl rfl (by kernel_rfl) Try.func4 (by kernel_rfl)
    (of_decide_eq_true (by kernel_rfl)) (by unfold Func.isWrapper; first | (rw [if_pos (by decide +kernel)]; kernel_rfl) | (rw [if_neg (by decide +kernel)]; exact ⟨rfl, rfl⟩))
    (fun os started H enc _ => fnExactMatroidsOf_lifted os started H enc)
end Go.Proofs.Ytmfenalnmpndmaa
