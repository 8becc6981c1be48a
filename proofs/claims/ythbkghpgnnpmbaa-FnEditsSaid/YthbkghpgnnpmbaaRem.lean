/- Sets that are taken from a kept blocker. -/
import Derived.Test.YthbkghpgnnpmbaaDel
import Derived.Test.YthbkghpgnnpmbaaKept
import Derived.Test.YthbkghpgnnpmbaaNewKept
namespace Go.Proofs.Ythbkghpgnnpmbaa
open Go.RowKit Go.G5

def remOk (g : Int) (l m : List Int) (s : Int) : Bool := keptB g l m && has l s
def remP (s x : Int) : Bool := x == s
def remN (g : Int) (l m : List Int) (s : Int) : Int := if remOk g l m s then blkN g (keepL (remP s) l) else 0
def remK (g : Int) (l m : List Int) (s : Int) : List Int := if remOk g l m s then nkL g (keepL (remP s) l) else []
def remL (g : Int) (l m : List Int) (s : Int) : List Int := if remOk g l m s then blkL g (keepL (remP s) l) else []
def remF (g : Int) (l m : List Int) (s : Int) : Bool := remOk g l m s && isFamB g (keepL (remP s) l)
theorem remK_len (g : Int) (l m : List Int) (s : Int) (h : l.length ≤ 1048576) : (remK g l m s).length ≤ 1048576 := by
  unfold remK; split
  · exact nkL_len g _ (Nat.le_trans (keepL_len _ _) h)
  · simp
theorem remL_len (g : Int) (l m : List Int) (s : Int) : (remL g l m s).length ≤ 64 := by
  unfold remL; split
  · exact blkL_len g _
  · simp
theorem keptB_fam {g : Int} {l m : List Int} (h : keptB g l m = true) : isFamB g l = true := by unfold keptB at h; exact (Bool.and_eq_true_iff.1 h).1
theorem remClosure (w : World) (g : Nat) (t s : Int) (hc : w.cell? ⟨g, 0, none⟩ = some (.int .i64 s)) :
    Calls Try.prog 71 #[.int .i64 t, .pointer (some ⟨g, 0, none⟩)] w fun e w' => e = .returned (.bool (remP s t)) ∧ Below w.heap.size w w' := by
  cases h : (t == s) with
  | false =>
    have hx : remP s t = false := h
    have HX := Lib.hid hx
    clear hx
    go_enter Try.func71, Try.ntmps71
    go_wp2
    go_ret
    exact ⟨ret_bool HX.out.symm, Below.refl _ _⟩
  | true =>
    have hx : remP s t = true := h
    have HX := Lib.hid hx
    clear hx
    go_enter Try.func71, Try.ntmps71
    go_wp2
    go_ret
    exact ⟨ret_bool HX.out.symm, Below.refl _ _⟩
theorem remClosure_enters : ∀ args w, (callFunc 71 args).run Try.prog w = .ok (.enter 71 args) w := enters_of Try.func71 (by kernel_rfl) rfl

set_option maxHeartbeats 2000000 in
set_option maxRecDepth 100000 in
theorem removeSetI_c (w : World) (g : Int) (v : Value) (l : List Int) (hv : Ints w v l) (hl : l.length ≤ 1048576) (u : Value) (m : List Int) (hu : Ints w u m) (hm : m.length ≤ 1048576) (s : Int) (_ : InR s) :
    Calls Try.prog 12 #[.agg #[.int .i64 g, v, u], .int .i64 s] w fun e w' => ∃ ad i cp ad' i' cp', e = .returned (.tuple #[.agg #[.int .i64 (remN g l m s), .slice ad i cp, .slice ad' i' cp'], .bool (remF g l m s)]) ∧
      OwnW 3 w.heap.size w' (.slice ad i cp) (remK g l m s) ∧ OwnW 3 w.heap.size w' (.slice ad' i' cp') (remL g l m s) ∧ Apart (.slice ad i cp) (.slice ad' i' cp') ∧ Below w.heap.size w w' := by
  obtain ⟨a, c, rfl⟩ := hv.shape
  obtain ⟨a', c', rfl⟩ := hu.shape
  go_enter Try.func12, Try.ntmps12
  go_wp2_with fail
  refine calls_named ?_
  intro V hV
  have B : Below w.heap.size w V := by rw [hV]; exact bl3 _ _ _ _
  have K1 : Blk V w.heap.size 28 #[.int .i64 g, .slice a l.length c, .slice a' m.length c'] := by rw [hV]; exact ((Blk.new _ _ _).alloc _).alloc _
  have K2 : Blk V (w.heap.size + 1) 3 #[.int .i64 s] := by rw [hV]; have := (Blk.new (w.alloc (.cells #[.int .i64 g, .slice a l.length c, .slice a' m.length c'] 28)) 3 #[.int .i64 s]).alloc (.cells #[.int .i64 0, .slice none 0 0, .slice none 0 0] 28); simpa using this
  have K3 : Blk V (w.heap.size + 2) 28 #[.int .i64 0, .slice none 0 0, .slice none 0 0] := by rw [hV]; have := Blk.new ((w.alloc (.cells #[.int .i64 g, .slice a l.length c, .slice a' m.length c'] 28)).alloc (.cells #[.int .i64 s] 3)) 28 #[.int .i64 0, .slice none 0 0, .slice none 0 0]; simpa using this
  clear hV
  refine (isKeptI_c _ g _ l (hv.below B (Nat.le_refl _)) hl _ m (hu.below B (Nat.le_refl _)) hm).mono ?_
  rintro e w1 ⟨rfl, hb1⟩
  have K1 := K1.keep hb1
  have K2 := K2.keep hb1
  have K3 := K3.keep hb1
  have B1 := B.after hb1 B.size
  have hv1 := hv.below B1 (Nat.le_refl _)
  clear hb1 B
  have G1 := K1.cell
  have G2 := K2.cell
  have G3 := K3.cell
  have F3 := K3.frozen
  have z3 := K3.lt
  cases hk : keptB g l m with
  | false =>
      have hN : remN g l m s = 0 := by unfold remN remOk; rw [hk]; rfl
      have hL : remL g l m s = [] := by unfold remL remOk; rw [hk]; rfl
      have hK : remK g l m s = [] := by unfold remK remOk; rw [hk]; rfl
      have hF : remF g l m s = false := by unfold remF remOk; rw [hk]; rfl
      have HN := Lib.hid hN
      have HL := Lib.hid hL
      have HK := Lib.hid hK
      have HF := Lib.hid hF
      clear hN hL hK hF hk
      go_wp2
      refine post_named ?_
      intro Wf hWf
      have K3f : Blk Wf (w.heap.size + 2) 28 #[.int .i64 0, .slice none 0 0, .slice none 0 0] := by
        rw [hWf]
        have := ((K3.set 0 (.int .i64 0)).set 1 (.slice none 0 0)).set 2 (.slice none 0 0)
        simpa using this
      have Bf : Below w.heap.size w Wf := by rw [hWf]; exact Below.setCell (Below.setCell (Below.setCell B1 (by first | omega | (simp; done) | (simp; omega)) _) (by first | omega | (simp; done) | (simp; omega)) _) (by first | omega | (simp; done) | (simp; omega)) _
      have Gf := K3f.cell
      clear hWf
      exact bodyPost_ret (v := .tuple #[.agg #[.int .i64 0, .slice none 0 0, .slice none 0 0], .bool false]) (by simp [results, Try.results12, go_sem, Gf]) rfl ⟨none, 0, 0, none, 0, 0, by rw [HN.out, HF.out], by rw [HK.out]; exact OwnW.nil _ _ _, by rw [HL.out]; exact OwnW.nil _ _ _, by intro k hk; simp [Value.ownBlock] at hk, Bf⟩
  | true =>
    have hasc := (famOk (keptB_fam hk)).2.2.2
    have HKB := Lib.hid hk
    clear hk
    go_wp2_with fail
    refine (hasSet_any g l _ s _ hv1 hasc hl).mono ?_
    rintro e w2 ⟨rfl, hb2⟩
    have K1 := K1.keep hb2
    have K2 := K2.keep hb2
    have K3 := K3.keep hb2
    have B1 := B1.after hb2 B1.size
    have hv1 := hv.below B1 (Nat.le_refl _)
    clear hb2 hasc G1 G2 G3 F3 z3
    have G1 := K1.cell
    have G2 := K2.cell
    have G3 := K3.cell
    have F3 := K3.frozen
    have z3 := K3.lt
    cases hh : has l s with
    | false =>
      have hN : remN g l m s = 0 := by unfold remN remOk; rw [HKB.out, hh]; rfl
      have hL : remL g l m s = [] := by unfold remL remOk; rw [HKB.out, hh]; rfl
      have hK : remK g l m s = [] := by unfold remK remOk; rw [HKB.out, hh]; rfl
      have hF : remF g l m s = false := by unfold remF remOk; rw [HKB.out, hh]; rfl
      have HN := Lib.hid hN
      have HL := Lib.hid hL
      have HK := Lib.hid hK
      have HF := Lib.hid hF
      clear hN hL hK hF hh
      go_wp2
      refine post_named ?_
      intro Wf hWf
      have K3f : Blk Wf (w.heap.size + 2) 28 #[.int .i64 0, .slice none 0 0, .slice none 0 0] := by
        rw [hWf]
        have := ((K3.set 0 (.int .i64 0)).set 1 (.slice none 0 0)).set 2 (.slice none 0 0)
        simpa using this
      have Bf : Below w.heap.size w Wf := by rw [hWf]; exact Below.setCell (Below.setCell (Below.setCell B1 (by first | omega | (simp; done) | (simp; omega)) _) (by first | omega | (simp; done) | (simp; omega)) _) (by first | omega | (simp; done) | (simp; omega)) _
      have Gf := K3f.cell
      clear hWf
      exact bodyPost_ret (v := .tuple #[.agg #[.int .i64 0, .slice none 0 0, .slice none 0 0], .bool false]) (by simp [results, Try.results12, go_sem, Gf]) rfl ⟨none, 0, 0, none, 0, 0, by rw [HN.out, HF.out], by rw [HK.out]; exact OwnW.nil _ _ _, by rw [HL.out]; exact OwnW.nil _ _ _, by intro k hk; simp [Value.ownBlock] at hk, Bf⟩
    | true =>
      have hok : remOk g l m s = true := by unfold remOk; rw [HKB.out, hh]; rfl
      have hN : remN g l m s = blkN g (keepL (remP s) l) := by unfold remN; rw [hok]; rfl
      have hL : remL g l m s = blkL g (keepL (remP s) l) := by unfold remL; rw [hok]; rfl
      have hK : remK g l m s = nkL g (keepL (remP s) l) := by unfold remK; rw [hok]; rfl
      have hF : remF g l m s = isFamB g (keepL (remP s) l) := by unfold remF; rw [hok]; rfl
      have HN := Lib.hid hN
      have HL := Lib.hid hL
      have HK := Lib.hid hK
      have HF := Lib.hid hF
      clear hN hL hK hF hok hh
      go_wp2_with fail
      refine (clone_any _ l _ hv1 hl).mono ?_
      rintro e w3 ⟨p3, i3, q3, rfl, o3, hb3⟩
      have K1 := K1.keep hb3
      have K2 := K2.keep hb3
      have K3 := K3.keep hb3
      have y1 := B1.size
      have B3 := B1.after hb3 B1.size
      clear G1 G2 G3 F3
      go_wp2_with fail
      have d4 := deleteFunc_any w2.heap.size l _ w3 o3.toW hl 71 remClosure_enters (w.heap.size + 1) (remP s) (fun t W' G => remClosure W' (w.heap.size + 1) t s ((K2.growIn G (fun h => by have := (o3.toW.lt _ h).1; omega)).cell 0))
      refine d4.mono ?_
      rintro e w4 ⟨p4, i4, q4, rfl, o4, G4⟩
      have hlow : ∀ k, (Value.slice p3 i3 q3).ownBlock = some k → w2.heap.size ≤ k := fun k h => (o3.toW.lt k h).1
      have K1 := K1.growIn G4 (fun h => by have := hlow _ h; omega)
      have K3 := K3.growIn G4 (fun h => by have := hlow _ h; omega)
      have y3 := B3.size
      have B4 := Below.growIn B3 G4 y3 (fun k h => by have := hlow _ h; omega)
      have G1 := K1.cell
      have hl4 := keepL_len (remP s) l
      obtain ⟨L, hL⟩ : ∃ L, L = keepL (remP s) l := ⟨_, rfl⟩
      rw [← hL] at o4 hl4
      have HLL := Lib.hid hL
      clear hL d4 K2 G4 o3 hb3
      go_wp2_with fail
      refine (newKeptI_c _ g _ L o4.ints (by omega)).mono ?_
      rintro e w5 ⟨p5, i5, q5, p6, i6, q6, rfl, o5, o6, ap, hb5⟩
      have z4 := K3.lt
      have K3 := K3.keep hb5
      have y4 := B4.size
      have B5 := B4.after hb5 B4.size
      have F3 := K3.frozen
      have G3 := K3.cell
      have z5 := K3.lt
      have y5 := B5.size
      have y6 := hb5.size
      clear hb5 K1 G1
      obtain ⟨N, hN⟩ : ∃ N, N = blkN g L := ⟨_, rfl⟩
      obtain ⟨F, hF⟩ : ∃ F, F = isFamB g L := ⟨_, rfl⟩
      have HNN := Lib.hid hN
      have HFF := Lib.hid hF
      rw [← hN, ← hF]
      clear hN hF
      go_wp2
      refine post_named ?_
      intro Wf hWf
      have K3f : Blk Wf (w.heap.size + 2) 28 #[.int .i64 N, .slice p5 i5 q5, .slice p6 i6 q6] := by
        rw [hWf]
        have := ((K3.set 0 (.int .i64 N)).set 1 (.slice p5 i5 q5)).set 2 (.slice p6 i6 q6)
        simpa using this
      have Bf : Below w.heap.size w Wf := by rw [hWf]; exact Below.setCell (Below.setCell (Below.setCell B5 (by first | omega | (simp; done) | (simp; omega)) _) (by first | omega | (simp; done) | (simp; omega)) _) (by first | omega | (simp; done) | (simp; omega)) _
      have f5 : OwnW 3 w.heap.size Wf (.slice p5 i5 q5) (nkL g L) := by rw [hWf]; exact (((o5.setBelow (by first | omega | (simp; done) | (simp; omega)) _).setBelow (by first | omega | (simp; done) | (simp; omega)) _).setBelow (by first | omega | (simp; done) | (simp; omega)) _).mono (by first | omega | (simp; done) | (simp; omega))
      have f6 : OwnW 3 w.heap.size Wf (.slice p6 i6 q6) (blkL g L) := by rw [hWf]; exact (((o6.setBelow (by first | omega | (simp; done) | (simp; omega)) _).setBelow (by first | omega | (simp; done) | (simp; omega)) _).setBelow (by first | omega | (simp; done) | (simp; omega)) _).mono (by first | omega | (simp; done) | (simp; omega))
      have Gf := K3f.cell
      clear hWf
      exact bodyPost_ret (v := .tuple #[.agg #[.int .i64 N, .slice p5 i5 q5, .slice p6 i6 q6], .bool F]) (by simp [results, Try.results12, go_sem, Gf]) rfl ⟨p5, i5, q5, p6, i6, q6, by rw [HN.out, HF.out, ← HLL.out, HNN.out, HFF.out], by rw [HK.out, ← HLL.out]; exact f5, by rw [HL.out, ← HLL.out]; exact f6, ap, Bf⟩
end Go.Proofs.Ythbkghpgnnpmbaa
