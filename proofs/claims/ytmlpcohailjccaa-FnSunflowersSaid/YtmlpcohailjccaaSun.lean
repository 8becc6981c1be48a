/- Sunflowers in families. -/
import Derived.Test.YtmlpcohailjccaaFindI
import Derived.Test.YtmlpcohailjccaaFindS
namespace Go.Proofs.Ytmlpcohailjccaa
open Go.RowKit Go.G5

set_option maxHeartbeats 1000000 in
set_option maxRecDepth 100000 in
theorem findSunI_c (w : World) (g : Int) (v : Value) (l : List Int) (hv : Ints w v l) (_ : l.length ≤ 1048576) (k : Int) (hk : InR k) :
    Calls Try.prog 26 #[.agg #[.int .i64 g, v], .int .i64 k] w fun e w' => ∃ ad i cp, e = .returned (.tuple #[.slice ad i cp, .bool (sunB g l k)]) ∧ OwnW 3 w.heap.size w' (.slice ad i cp) (sunL g l k) ∧ Below w.heap.size w w' := by
  obtain ⟨a, c, rfl⟩ := hv.shape
  have hv0 := hv
  have K0 := Blk.new w 28 #[.int .i64 g, .slice a l.length c]
  have G0 := K0.cell
  cases hf : isFamB g l with
  | false =>
    have hok : sunOk g l k = false := by unfold sunOk; rw [hf]; rfl
    have HF := Lib.hid hf
    have hr : sunR g l k = none := by unfold sunR; rw [hok]; rfl
    have hB : sunB g l k = false := by unfold sunB; rw [hr]; rfl
    have hL : sunL g l k = [] := by unfold sunL; rw [hr]; rfl
    have HB := Lib.hid hB
    have HL := Lib.hid hL
    clear hr hB hL hok hf
    go_enter Try.func26, Try.ntmps26
    go_wp2_with (go_at_call 92; refine (isFamI_any g l _ _ (hv0.alloc _)).mono ?_; rintro e w1 ⟨rfl, hb1⟩; rw [HF.out])
    go_ret2
    exact ⟨none, 0, 0, by rw [HB.out]; rfl, by rw [HL.out]; exact OwnW.nil _ _ _, (bl1 _ _).after hb1 (by simp)⟩
  | true =>
    have HF := Lib.hid hf
    cases hin : inB k 1 5 with
    | false =>
      have hok : sunOk g l k = false := by unfold sunOk; rw [hin]; simp
      have HI := Lib.hid hin
      have hr : sunR g l k = none := by unfold sunR; rw [hok]; rfl
      have hB : sunB g l k = false := by unfold sunB; rw [hr]; rfl
      have hL : sunL g l k = [] := by unfold sunL; rw [hr]; rfl
      have HB := Lib.hid hB
      have HL := Lib.hid hL
      clear hr hB hL hok hf hin
      go_enter Try.func26, Try.ntmps26
      go_wp2_with (first
        | (go_at_call 92; refine (isFamI_any g l _ _ (hv0.alloc _)).mono ?_; rintro e w1 ⟨rfl, hb1⟩; rw [HF.out])
        | (go_at_call 93; refine (within_any _ _ _ _).mono ?_; rintro e w2 ⟨rfl, rfl⟩; rw [HI.out]))
      go_ret2
      exact ⟨none, 0, 0, by rw [HB.out]; rfl, by rw [HL.out]; exact OwnW.nil _ _ _, (bl1 _ _).after hb1 (by simp)⟩
    | true =>
      have HI := Lib.hid hin
      have hok : sunOk g l k = true := by unfold sunOk; rw [hf, hin]; rfl
      have hr : sunR g l k = findG inFI l [] k := by unfold sunR; rw [hok]; rfl
      have hB : sunB g l k = (findG inFI l [] k).isSome := by unfold sunB; rw [hr]
      have hL : sunL g l k = (findG inFI l [] k).getD [] := by unfold sunL; rw [hr]
      obtain ⟨h0, h6, hm⟩ := famOk64 hf
      have hl64 : l.length ≤ 64 := by
        obtain ⟨q0, q6, qm, qa⟩ := famOk hf
        have hp := pow_le64 q0 q6
        exact asc_len' l 64 qa (fun x hx => by have := qm x hx; omega)
      have hmm : ∀ x ∈ l, 0 ≤ x ∧ x < 64 := fun x hx => by
        obtain ⟨i, hi, rfl⟩ := List.getElem_of_mem hx
        exact hm i hi
      have hfind : ∀ W, Ints W (.slice a l.length c) l → Calls Try.prog 94 #[.slice a l.length c, .slice none 0 0, .int .i64 k] W fun e w' =>
          ∃ ad i cp, e = .returned (.tuple #[.slice ad i cp, .bool (sunB g l k)]) ∧ OwnI 3 W.heap.size w' (.slice ad i cp) (sunL g l k) ∧ Below W.heap.size W w' := fun W hW => by
        rw [hB, hL]
        exact findI_any l.length l [] _ _ k W W.heap.size rfl hW (OwnI.nil _ _ _) (Nat.le_refl _) hmm (by simp) (by simp; omega) hk
      have HFD := Lib.hid hfind
      clear hr hB hL hok hf hin hfind hm hmm h0 h6 G0
      go_enter Try.func26, Try.ntmps26
      go_wp2_with fail
      refine (isFamI_any g l _ _ (hv0.alloc _)).mono ?_
      rintro e w1 ⟨rfl, hb1⟩
      rw [HF.out]
      have K1 := K0.keep hb1
      have G1 := K1.cell
      have z1 := K1.lt
      have B1 : Below w.heap.size w w1 := (bl1 _ _).after hb1 (by simp)
      have y1 := B1.size
      go_wp2_with (first
        | (go_at_call 93; refine (within_any _ _ _ _).mono ?_; rintro e w2 ⟨rfl, rfl⟩; rw [HI.out])
        | (go_at_call 94; refine (HFD.out _ (hv0.below B1 (Nat.le_refl _))).mono ?_; rintro e w3 ⟨p3, i3, q3, rfl, o3, b3⟩))
      go_ret2
      exact ⟨p3, i3, q3, rfl, o3.toW.mono (by omega), B1.after b3 B1.size⟩

set_option maxHeartbeats 1000000 in
set_option maxRecDepth 100000 in
theorem findSunS_c (w : World) (g : Int) (v : Value) (l : List Int) (hv : Ints w v l) (_ : l.length ≤ 1048576) (k : Int) (hk : InR k) :
    Calls Try.prog 27 #[.agg #[.int .i64 g, v], .int .i64 k] w fun e w' => ∃ ad i cp, e = .returned (.tuple #[.slice ad i cp, .bool (sunB g l k)]) ∧ OwnW 3 w.heap.size w' (.slice ad i cp) (sunL g l k) ∧ Below w.heap.size w w' := by
  obtain ⟨a, c, rfl⟩ := hv.shape
  have hv0 := hv
  have K0 := Blk.new w 28 #[.int .i64 g, .slice a l.length c]
  have G0 := K0.cell
  cases hf : isFamB g l with
  | false =>
    have hok : sunOk g l k = false := by unfold sunOk; rw [hf]; rfl
    have HF := Lib.hid hf
    have hr : sunR g l k = none := by unfold sunR; rw [hok]; rfl
    have hB : sunB g l k = false := by unfold sunB; rw [hr]; rfl
    have hL : sunL g l k = [] := by unfold sunL; rw [hr]; rfl
    have HB := Lib.hid hB
    have HL := Lib.hid hL
    clear hr hB hL hok hf
    go_enter Try.func27, Try.ntmps27
    go_wp2_with (go_at_call 95; refine (isFamS_any g l _ _ (hv0.alloc _)).mono ?_; rintro e w1 ⟨rfl, hb1⟩; rw [HF.out])
    go_ret2
    have B1 : Below w.heap.size w w1 := (bl1 _ _).after hb1 (by simp)
    exact ⟨_, 0, 0, by rw [HB.out]; rfl, by rw [HL.out]; exact (OwnI.lit0 w1 B1.size).toW, B1.alloc B1.size _⟩
  | true =>
    have HF := Lib.hid hf
    cases hin : inB k 1 5 with
    | false =>
      have hok : sunOk g l k = false := by unfold sunOk; rw [hin]; simp
      have HI := Lib.hid hin
      have hr : sunR g l k = none := by unfold sunR; rw [hok]; rfl
      have hB : sunB g l k = false := by unfold sunB; rw [hr]; rfl
      have hL : sunL g l k = [] := by unfold sunL; rw [hr]; rfl
      have HB := Lib.hid hB
      have HL := Lib.hid hL
      clear hr hB hL hok hf hin
      go_enter Try.func27, Try.ntmps27
      go_wp2_with (first
        | (go_at_call 95; refine (isFamS_any g l _ _ (hv0.alloc _)).mono ?_; rintro e w1 ⟨rfl, hb1⟩; rw [HF.out])
        | (go_at_call 96; refine (l1In_any _ _ _ _).mono ?_; rintro e w2 ⟨rfl, rfl⟩; rw [HI.out]))
      go_ret2
      have B1 : Below w.heap.size w w1 := (bl1 _ _).after hb1 (by simp)
      exact ⟨_, 0, 0, by rw [HB.out]; rfl, by rw [HL.out]; exact (OwnI.lit0 w1 B1.size).toW, B1.alloc B1.size _⟩
    | true =>
      have HI := Lib.hid hin
      have hok : sunOk g l k = true := by unfold sunOk; rw [hf, hin]; rfl
      have hr : sunR g l k = findG tstS l [] k := sunR_spec g l k hok
      have hB : sunB g l k = (findG tstS l [] k).isSome := by unfold sunB; rw [hr]
      have hL : sunL g l k = (findG tstS l [] k).getD [] := by unfold sunL; rw [hr]
      obtain ⟨h0, h6, hm⟩ := famOk64 hf
      have hl64 : l.length ≤ 64 := by
        obtain ⟨q0, q6, qm, qa⟩ := famOk hf
        have hp := pow_le64 q0 q6
        exact asc_len' l 64 qa (fun x hx => by have := qm x hx; omega)
      have hmm : ∀ x ∈ l, 0 ≤ x ∧ x < 64 := fun x hx => by
        obtain ⟨i, hi, rfl⟩ := List.getElem_of_mem hx
        exact hm i hi
      have hfind : ∀ W u, Ints W (.slice a l.length c) l → OwnI 3 w.heap.size W u [] → w.heap.size ≤ W.heap.size → Calls Try.prog 97 #[.slice a l.length c, .int .i64 0, u, .int .i64 k] W fun e w' =>
          ∃ ad i cp, e = .returned (.tuple #[.slice ad i cp, .bool (sunB g l k)]) ∧ OwnI 3 w.heap.size w' (.slice ad i cp) (sunL g l k) ∧ Below W.heap.size W w' := fun W u hW hu hB' => by
        rw [hB, hL]
        have := findS_any l (.slice a l.length c) k hmm hk l.length 0 [] u W w.heap.size (by omega) hW hu hB' (by simp) (by simp; omega)
        simpa using this
      have HFD := Lib.hid hfind
      clear hr hB hL hok hf hin hfind hm hmm h0 h6 G0
      go_enter Try.func27, Try.ntmps27
      go_wp2_with fail
      refine (isFamS_any g l _ _ (hv0.alloc _)).mono ?_
      rintro e w1 ⟨rfl, hb1⟩
      rw [HF.out]
      have K1 := K0.keep hb1
      have G1 := K1.cell
      have z1 := K1.lt
      have B1 : Below w.heap.size w w1 := (bl1 _ _).after hb1 (by simp)
      have y1 := B1.size
      have BA := B1.alloc B1.size (.cells #[] 3)
      go_wp2_with (first
        | (go_at_call 96; refine (l1In_any _ _ _ _).mono ?_; rintro e w2 ⟨rfl, rfl⟩; rw [HI.out])
        | (go_at_call 97; refine (HFD.out _ _ (hv0.below BA (Nat.le_refl _)) (OwnI.lit0 w1 y1) BA.size).mono ?_; rintro e w3 ⟨p3, i3, q3, rfl, o3, b3⟩))
      go_ret2
      exact ⟨p3, i3, q3, rfl, o3.toW, BA.after b3 BA.size⟩
end Go.Proofs.Ytmlpcohailjccaa
