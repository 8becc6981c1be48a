/- Minimum cuts: the first program. Minimum cuts: the first program's search, and claims of it. Minimum cuts: the second program. Claims of cuts. Ranks of matroids, by their number: steps of the first program. Ranks of matroids, by their number: the first program. Ranks of matroids, by their number: the first program, all levels. -/
import Derived.Test.YtdagcdgbdhecgaaGreatQ24
import Derived.Deep.RegionHeld3
section
namespace Go.Proofs.YtdagcdgbdhecgaaGreat
open Go.RowKit Go.G5

end Go.Proofs.YtdagcdgbdhecgaaGreat
end
section
namespace Go.Proofs.YtdagcdgbdhecgaaGreat
open Go.RowKit Go.G5

theorem fit_fun {n : Int} {l : List Int} (h : fitB n l = true) : isFunB n l = true ∧ 2 ≤ n := by
  unfold fitB subB at h
  simp only [Bool.and_eq_true, decide_eq_true_eq] at h
  exact ⟨h.1.1.1, h.2⟩
theorem fit_size {n : Int} {l : List Int} (h : fitB n l = true) : 4 ≤ l.length ∧ l.length ≤ 32 ∧ (l.length : Int) = 2 ^ n.toNat ∧ n ≤ 5 ∧ ∀ k, (hk : k < l.length) → -1000 ≤ l[k] ∧ l[k] ≤ 1000 := by
  obtain ⟨h1, h2⟩ := fit_fun h
  obtain ⟨h0, h5, hlen, hlb⟩ := funOk h1
  obtain ⟨m, hm⟩ : ∃ m : Nat, n.toNat = m := ⟨_, rfl⟩
  have hm2 : 2 ≤ m ∧ m ≤ 5 := by omega
  have hp4 : (2 : Nat) ^ 2 ≤ 2 ^ m := Nat.pow_le_pow_right (by decide) hm2.1
  have hp5 : (2 : Nat) ^ m ≤ 2 ^ 5 := Nat.pow_le_pow_right (by decide) hm2.2
  have hln : l.length = 2 ^ m := by rw [hm] at hlen; exact_mod_cast hlen
  exact ⟨by omega, by omega, hlen, h5, hlb⟩

end Go.Proofs.YtdagcdgbdhecgaaGreat
end
section
namespace Go.Proofs.YtdagcdgbdhecgaaGreat
open Go.RowKit Go.G5

end Go.Proofs.YtdagcdgbdhecgaaGreat
end
section
namespace Go.Proofs.YtdagcdgbdhecgaaGreat
open Go.RowKit Go.G5

def ccK (n : Int) (l : List Int) : Int := if fitB n l then 5 else 0
def ccN (n : Int) (l : List Int) : Int := if fitB n l then n else 0
def ccL (n : Int) (l : List Int) : List Int := if fitB n l then l else []
theorem ccL_len (n : Int) (l : List Int) (h : l.length ≤ 1048576) : (ccL n l).length ≤ 1048576 := by unfold ccL; split <;> simp_all

set_option maxHeartbeats 1000000 in
set_option maxRecDepth 100000 in
theorem copyFun_any (w : World) (n : Int) (v : Value) (l : List Int) (hv : Ints w v l) (hl : l.length ≤ 1048576) :
    Calls Tryz.prog 42 #[.agg #[.int .i64 n, v]] w fun e w' => ∃ ad i cp, e = .returned (.agg #[.int .i64 n, .slice ad i cp]) ∧ OwnI 3 w.heap.size w' (.slice ad i cp) l ∧ Below w.heap.size w w' := by
  obtain ⟨a, c, rfl⟩ := hv.shape
  have hll : ([] : List Int).length + l.length ≤ 17592186044416 := by simp; omega
  have HLL := Lib.hid hll
  clear hll
  go_enter Tryz.func42, Tryz.ntmps42
  go_wp2_with fail
  obtain ⟨V, hV⟩ : ∃ V, V = (w.alloc (.cells #[.int .i64 n, .slice a l.length c] 32)).alloc (.cells #[.int .i64 0, .slice none 0 0] 32) := ⟨_, rfl⟩
  rw [← hV]
  have B : Below w.heap.size w V := by rw [hV]; exact bl2 _ _ _
  have K1 : Blk V w.heap.size 32 #[.int .i64 n, .slice a l.length c] := by rw [hV]; exact (Blk.new _ _ _).alloc _
  have K2 : Blk V (w.heap.size + 1) 32 #[.int .i64 0, .slice none 0 0] := by rw [hV]; have := Blk.new (w.alloc (.cells #[.int .i64 n, .slice a l.length c] 32)) 32 #[.int .i64 0, .slice none 0 0]; simpa using this
  clear hV
  have hv1 := hv.below B (Nat.le_refl _)
  have e1 : V.cell? ⟨w.heap.size, 0, none⟩ = some (.int .i64 n) := K1.cell 0
  have e2 : V.cell? ⟨w.heap.size, 1, none⟩ = some (.slice a l.length c) := K1.cell 1
  have z2 := K2.lt
  have z1 := K1.lt
  go_region_held3 (fun w' => w'.cell? ⟨w.heap.size, 0, none⟩ = some (.int .i64 n) ∧ w'.cell? ⟨w.heap.size, 1, none⟩ = some (.slice a l.length c)) (go_keep)
    (first
      | (go_at_call 70; refine (clone_any _ l _ ?_ hl).mono ?_; (with_reducible exact hv1.drew'); rintro e1' w7 ⟨p7, i7, q7, rfl, o7', b7⟩; have o7 : OwnI 3 V.heap.size w7 (.slice p7 i7 q7) l := o7'; have K7 := (K2.drewN 1).keep b7; have G2 := K7.cell; have F2 := K7.frozen; have z7 := K7.lt; obtain ⟨hc1, hf1⟩ := bcellN b7 V.heap.size (Nat.le_refl _)))
  go_wp2
  refine post_named ?_
  intro Wf hWf
  have K2f : Blk Wf (w.heap.size + 1) 32 #[.int .i64 n, .slice p7 i7 q7] := by
    rw [hWf]
    have := (K7.set 0 (.int .i64 n)).set 1 (.slice p7 i7 q7)
    simpa using this
  have hg : w7.grownBy Wf (some (w.heap.size + 1)) := by rw [hWf]; exact grow_set (grow_set (World.grownBy.refl _ _) 0 _) 1 _
  have B7 : Below w.heap.size w w7 := by first | exact B.after b7 B.size | exact (B.drewN' 1).after b7 B.size
  have y7 := B7.size
  have yB := B.size
  have Bf : Below w.heap.size w Wf := B7.grown hg B7.size (fun q hq => by have := Option.some.inj hq; omega)
  have of := (o7.grow hg (fun q hq hq2 => by have := Option.some.inj hq; have := (o7.lt q hq2).1; omega)).mono (B' := w.heap.size) (by omega)
  have Gf := K2f.cell
  clear hWf
  exact bodyPost_ret (v := .agg #[.int .i64 n, .slice p7 i7 q7]) (by simp [results, Tryz.results42, go_sem, Gf]) rfl ⟨p7, i7, q7, rfl, of, Bf⟩
end Go.Proofs.YtdagcdgbdhecgaaGreat
end
section
namespace Go.G5
open Go Go.RowKit

/-- a step of a region that draws its order: append of one function -/
theorem step_putR {P : Program} {w : World} {ops : Array Oper} {o : Oper} {a : Act} {K : Act → World → Prop} {Q : Exit → Act → World → Prop} {F : Prop} (hgd : o.guard = none) (s x : Operand) (t : TypeId)
    (ho : o.op = .call { callee := .builtin .append, args := #[s, x], argTypes := #[t, t] })
    (E : TypeId) (hT : P.underlying t = some (.slice E)) (hE : FunElem P E) (B : Nat) (v : Value) (n : Nat) (hs : a.eval s = v)
    (b : Nat) (p q : Value) (hx : a.eval x = .slice (some ⟨b, 0, none⟩) 1 1) (hown : OwnR E B w v n) (hp : w.cell? ⟨b, 0, none⟩ = some p) (hq : w.cell? ⟨b, 1, none⟩ = some q) (h1p : p.oneCell' = true) (h1q : q.oneCell' = true) (hlen : n ≤ 1099511627776) (hB : B ≤ w.heap.size)
    (h : ∀ v' w', OwnR E B w' v' (n + 1) → w.grownBy w' v.ownBlock → NearBy w v v' → K (a.put o.dst v') w') : if Region.wanted o (yielded ops a.tmps) = true then Oper.wp P o a w K Q else F := by
  have hw : Region.wanted o (yielded ops a.tmps) = true := by simp [Region.wanted, hgd]
  rw [if_pos hw]
  exact wp_appendR1 s x t ho E hT hE B v n hs hown b p q hx hp hq h1p h1q hlen hB h
theorem OwnR.growIn {w w' : World} {P : Nat → Prop} {E : TypeId} {B : Nat} {v : Value} {n : Nat} (h : OwnR E B w v n) (hg : GrownIn w w' P) (hn : ∀ k, v.ownBlock = some k → ¬ P k) : OwnR E B w' v n := by
  obtain ⟨xs, ⟨h0, h1⟩, h2⟩ := h
  refine ⟨xs, ⟨h0, ?_⟩, h2⟩
  rcases h1 with h1 | ⟨g, cap, cur, rfl, hBg, hg2, r⟩
  · exact .inl h1
  · exact .inr ⟨g, cap, cur, rfl, hBg, by rw [hg.block g (Array.getElem?_eq_some_iff.1 hg2).1 (hn g rfl)]; exact hg2, r⟩
end Go.G5
end
section
namespace Go.Proofs.YtdagcdgbdhecgaaGreat
open Go.RowKit Go.G5

/-- what addRanks leaves: k more functions in the slice of the box -/
def RowBox (w w' : World) (bo : Nat) (a : Option Addr) (k : Nat) (c : Nat) (m : Nat) : Prop :=
  ∃ a' c', Blk w' bo 25 #[.slice a' (k + m) c'] ∧ OwnR 32 0 w' (.slice a' (k + m) c') (k + m) ∧ GrownIn w w' (fun b => b = bo ∨ (Value.slice a k c).ownBlock = some b) ∧ (∀ q, (Value.slice a' (k + m) c').ownBlock = some q → (Value.slice a k c).ownBlock = some q ∨ w.heap.size ≤ q)

set_option maxHeartbeats 4000000 in
set_option maxRecDepth 100000 in
theorem addRanks_0 (N : Nat) (hN : N ≤ 3) (l : List Int) (v : Value) (w : World) (hlm : l.length = 2 ^ N) (hv : OwnW 3 0 w v l) (bo : Nat) (a : Option Addr) (k c : Nat)
    (K : Blk w bo 25 #[.slice a k c]) (hr : OwnR 32 0 w (.slice a k c) k) (hk : k ≤ 1000000) (h1 : (Value.slice a k c).ownBlock ≠ some bo) :
    Calls Tryz.prog 24 #[.pointer (some ⟨bo, 0, none⟩), .int .i64 N, v] w fun e w' => e = .returned (.tuple #[]) ∧ RowBox w w' bo a k c (growL N 0 l).length := by
  have hp8 : (2 : Nat) ^ N ≤ 8 := Nat.pow_le_pow_right (n := 2) (by decide) hN
  have hpi : ((2 ^ N : Nat) : Int) = (2 : Int) ^ N := by simp
  obtain ⟨av, cv, rfl⟩ := hv.ints.shape
  have ht : ((l.length : Int) == 2 ^ N) = true := by rw [← hpi]; simp; omega
  have hl9 : l.length ≤ 1048576 := by omega
  have hp1 : (2 : Int) ^ N ≤ 8 := by rw [← hpi]; omega
  have hp2 := (two_pow N N (Nat.le_refl _)).2
  have HLM := Lib.hid hlm
  have zo := K.lt
  clear hpi hlm
  go_enter Tryz.func24, Tryz.ntmps24
  go_wp2_with fail
  refine calls_named ?_
  intro V hV
  have B : Below w.heap.size w V := by rw [hV]; exact bl1 _ _
  have KF : Blk V w.heap.size 32 #[.int .i64 N, .slice av l.length cv] := by rw [hV]; exact Blk.new _ _ _
  clear hV
  refine (rankI_any N l _ _ (hv.ints.below B (Nat.le_refl _)) hl9).mono ?_
  rintro e w1 ⟨rfl, hb1⟩
  have KF1 := KF.keep hb1
  have B1 := B.after hb1 B.size
  have G1 := KF1.cell
  have z1 := KF1.lt
  have y1 := B1.size
  have Ko := K.keep B1
  have r1 := hr.keep B1
  have Go := Ko.cell
  have Fo := Ko.frozen
  cases hrk : rankB N l with
  | false =>
    have hg : (growL N 0 l).length = 0 := by rw [growL, hrk]; rfl
    have HG := Lib.hid hg
    clear hg hrk
    go_wp2
    refine bodyPost_ret (v := .tuple #[]) (results_none rfl _ _ _) rfl ⟨rfl, ?_⟩
    exact (by rw [HG.out]; exact ⟨a, c, Ko, r1, GrownIn.of_below B1, fun q hq => .inl hq⟩)
  | true =>
    have hg : (growL N 0 l).length = 0 + 1 := by rw [growL, hrk]; rfl
    have HG := Lib.hid hg
    clear hg hrk
    have hv1 := hv.ints.below B1 (Nat.le_refl _)
    have HL9 := Lib.hid hl9
    have HK := Lib.hid hk
    go_wp2_with fail
    have Kdr := Ko.drewN 1
    have KFdr := KF1.drewN 1
    go_region_law
      (first
        | (go_simp; go_at_call 42; refine (copyFun_any _ _ _ l ?_ HL9.out).mono ?_; (with_reducible exact hv1.drew'); rintro e1' w7 ⟨p7, i7, q7, rfl, o7', b7⟩; have Ko7 := (Ko.drewN 1).keep b7; have Go7 := Ko7.cell; have Fo7 := Ko7.frozen; have KF7 := (KF1.drewN 1).keep b7; have G7 := KF7.cell; have F7 := KF7.frozen; have r7 := (r1.keep (Below.refl _ _).drew).keep b7; obtain ⟨hc1, hf1⟩ := bcellN b7 w1.heap.size (Nat.le_refl _); have Koa := Ko7.alloc (.cells #[.int .i64 N, .slice p7 i7 q7] 32); have Goa := Koa.cell)
        | (refine step_putR rfl _ _ _ rfl 32 Tryz.underlying25 funElem 0 (.slice a k c) k rfl _ _ _ rfl ?_ (cell_new _ _ _ 0 _ rfl) (cell_new _ _ _ 1 _ rfl) rfl rfl (Nat.le_trans HK.out (by decide)) (Nat.zero_le _) ?_; (with_reducible exact r7.keep (bl1 _ _)); intro v8 w8 o8 g8 n8; obtain ⟨a8, q8, rfl⟩ := o8.shape; have Ko8 := (Ko7.alloc _).grow g8 h1; have KF8 := (KF7.alloc _).grow g8 (fun e => by have := (hr.lt _ e).2; omega); have Go8 := Ko8.cell; have Fo8 := Ko8.frozen; have G8 := KF8.cell))
    all_goals
      go_wp2
      refine post_named ?_
      intro Wf hWf
      have KoF : Blk Wf bo 25 #[.slice a8 (k + 1) q8] := by
        rw [hWf]
        have := Ko8.set 0 (.slice a8 (k + 1) q8)
        simpa using this
      have gF : w8.grownBy Wf (some bo) := by rw [hWf]; exact grow_set (World.grownBy.refl _ _) 0 _
      have B7 : Below w.heap.size w w7 := (B1.drewN' 1).after b7 B1.size
      have y7 := B7.size
      clear hWf
      refine bodyPost_ret (v := .tuple #[]) (results_none rfl _ _ _) rfl ⟨rfl, ?_⟩
      rw [HG.out]
      have near : ∀ q, (Value.slice a8 (k + 1) q8).ownBlock = some q → (Value.slice a k c).ownBlock = some q ∨ w.heap.size ≤ q := by
        intro q hq
        rcases n8 with h | h
        · left; rw [← h]; exact hq
        · right; rw [h] at hq; have := Option.some.inj hq; simp at this; omega
      refine ⟨a8, q8, KoF, o8.grow gF ?_, ?_, near⟩
      · intro q hq hq2
        have hq := Option.some.inj hq
        rcases near q hq2 with h | h
        · exact h1 (by rw [h, ← hq])
        · omega
      · exact (GrownIn.of_below ((B7.alloc B7.size _))).trans ((GrownIn.of_row g8 (fun q hq => .inr hq)).trans (GrownIn.of_row gF (fun q hq => .inl (Option.some.inj hq).symm)))
    skip
end Go.Proofs.YtdagcdgbdhecgaaGreat
end
section
namespace Go.G5
open Go Go.RowKit
theorem GrownIn.into {w w' w'' : World} {P P' : Nat → Prop} (h : GrownIn w w' P) (k : GrownIn w' w'' P') (hP : ∀ b, b < w.heap.size → P' b → P b) : GrownIn w w'' P :=
  ⟨k.os.trans h.os, k.tape.trans h.tape, k.output.trans h.output, Nat.le_trans h.size k.size, fun b hb hr => (k.block b (Nat.lt_of_lt_of_le hb h.size) (fun hp => hr (hP b hb hp))).trans (h.block b hb hr)⟩
theorem OwnW.growInB {w w' : World} {P : Nat → Prop} {E : TypeId} {B : Nat} {v : Value} {l : List Int} (h : OwnW E B w v l) (hg : GrownIn w w' P) (hn : ∀ k, v.ownBlock = some k → ¬ P k) : OwnW E B w' v l := h.growIn hg hn
end Go.G5
namespace Go.Proofs.YtdagcdgbdhecgaaGreat
open Go.RowKit Go.G5

theorem RowBox.start {w : World} {bo : Nat} {a : Option Addr} {k c : Nat} (K : Blk w bo 25 #[.slice a k c]) (hr : OwnR 32 0 w (.slice a k c) k) : RowBox w w bo a k c 0 :=
  ⟨a, c, K, hr, GrownIn.refl _ _, fun _ h => .inl h⟩
theorem lenTo_mul (n m : Nat) (v : List Int) (x : Nat) (h : v.length + (m + 1) ≤ 8) : lenTo n m v x ≤ x * 4 ^ m := by
  unfold lenTo
  have h1 := flat_len (fun x : Nat => growL n m (v ++ [Int.ofNat x])) (4 ^ m) (fun x => growL_len n m _ (by rw [List.length_append, List.length_singleton]; omega)) (List.range x)
  rw [List.length_range] at h1
  exact h1
set_option maxHeartbeats 4000000 in
set_option maxRecDepth 100000 in
theorem addRanks_any (N : Nat) (hN : N ≤ 3) : ∀ (m : Nat) (l : List Int) (v : Value) (w : World), l.length + m = 2 ^ N → OwnW 3 0 w v l → ∀ (bo : Nat) (a : Option Addr) (k c : Nat),
    Blk w bo 25 #[.slice a k c] → OwnR 32 0 w (.slice a k c) k → k + 4 ^ m ≤ 1000000 → (Value.slice a k c).ownBlock ≠ some bo → (∀ q, v.ownBlock = some q → q ≠ bo ∧ (Value.slice a k c).ownBlock ≠ some q) →
    Calls Tryz.prog 24 #[.pointer (some ⟨bo, 0, none⟩), .int .i64 N, v] w fun e w' => e = .returned (.tuple #[]) ∧ RowBox w w' bo a k c (growL N m l).length := by
  have hp8 : (2 : Nat) ^ N ≤ 8 := Nat.pow_le_pow_right (n := 2) (by decide) hN
  have hpi : ((2 ^ N : Nat) : Int) = (2 : Int) ^ N := by simp
  intro m
  induction m with
  | zero =>
    intro l v w hlm hv bo a k c K hr hk h1 _
    exact addRanks_0 N hN l v w (by omega) hv bo a k c K hr (by simp at hk; omega) h1
  | succ m ih =>
    intro l v w hlm hv bo a k c K hr hk h1 hva
    obtain ⟨av, cv, rfl⟩ := hv.ints.shape
    have ht : ((l.length : Int) == 2 ^ N) = false := by rw [← hpi]; simp; omega
    have hl8 : l.length + (m + 1) ≤ 8 := by omega
    have hpop := pop_le3 l.length (by omega)
    have hL1 : ([] : List Int).length + l.length ≤ 17592186044416 := by simp; omega
    have hL2 : ([] ++ l).length < 17592186044415 := by simp; omega
    have HL1 := Lib.hid hL1
    have HL2 := Lib.hid hL2
    have HLM := Lib.hid hlm
    have IH := Lib.hid ih
    have hp1 : (2 : Int) ^ N ≤ 8 := by rw [← hpi]; omega
    have hp2 := (two_pow N N (Nat.le_refl _)).2
    have zo := K.lt
    have HV := Lib.hid hv
    have HVA := Lib.hid hva
    have H1 := Lib.hid h1
    have HK := Lib.hid hk
    have R0 : RowBox w w bo a k c (lenTo N m l 0) := RowBox.start K hr
    clear hL1 hL2 hlm ih hpi hv hva h1 hk K hr
    go_enter Tryz.func24, Tryz.ntmps24
    go_wp2_with fail
    go_loopw [8] (fun i wr => ∃ x : Nat, x ≤ pop l.length + 1 ∧ i = .int .i64 x ∧ RowBox w wr bo a k c (lenTo N m l x)) (fun i _ => 8 - (intOf i).toNat)
    case atStart => exact ⟨0, Nat.zero_le _, rfl, R0⟩
    case round =>
      obtain ⟨x, hx, rfl, R⟩ := hrel
      obtain ⟨P, hP⟩ : ∃ P, P = pop l.length := ⟨_, rfl⟩
      have HP := Lib.hid hP
      have hsz := fun W => sizeOf_any l.length W (by omega)
      rw [← hP] at hx hpop
      simp only [← hP] at hsz
      have HSZ := Lib.hid hsz
      clear hP hsz R0
      by_cases hlt : x ≤ P
      · have hxi : (x : Int) ≤ (P : Int) := by omega
        have hER : InR (x : Int) := ⟨by omega, by omega⟩
        have HER := Lib.hid hER
        obtain ⟨a', c', Kr, orr, gr, nr⟩ := R
        have hvr : OwnW 3 0 wr (.slice av l.length cv) l := HV.out.growInB gr (fun q hq hp => by
          have := HVA.out q hq
          rcases hp with h | h
          · exact this.1 h
          · exact this.2 h)
        have hvi := hvr.ints
        have zr := Kr.lt
        have hsucc := lenTo_succ N m l x
        have hle := lenTo_mul N m l x hl8
        have h4 : 4 ^ (m + 1) = 4 * 4 ^ m := by rw [Nat.pow_succ]; omega
        have hx4 : x * 4 ^ m ≤ 3 * 4 ^ m := Nat.mul_le_mul_right _ (by omega)
        have hkk : (k + lenTo N m l x) + 4 ^ m ≤ 1000000 := by have := HK.out; rw [h4] at this; omega
        have h1r : (Value.slice a' (k + lenTo N m l x) c').ownBlock ≠ some bo := fun e => by
          rcases nr bo e with h | h
          · exact H1.out h
          · omega
        have hrec : ∀ (v6 : Value) (w6 : World), OwnI 3 wr.heap.size w6 v6 (([] ++ l) ++ [(x : Int)]) → Below wr.heap.size wr w6 → Calls Tryz.prog 24 #[.pointer (some ⟨bo, 0, none⟩), .int .i64 N, v6] w6 fun e w' => e = .returned (.tuple #[]) ∧ RowBox w w' bo a k c (lenTo N m l (x + 1)) := fun v6 w6 o6 b6 => by
          refine (IH.out (l ++ [Int.ofNat x]) v6 w6 (by have := HLM.out; rw [List.length_append, List.length_singleton]; omega) (o6.toW.mono (Nat.zero_le _)) bo a' _ c' (Kr.keep b6) (orr.keep b6) hkk h1r ?_).mono ?_
          · intro q hq
            have hq1 := (o6.lt q hq).1
            refine ⟨by omega, fun e => ?_⟩
            have := (orr.lt q e).2
            omega
          · rintro e w' ⟨rfl, a2, c2, K2, o2, g2, n2⟩
            refine ⟨rfl, a2, c2, ?_, ?_, (gr.trans (GrownIn.of_below b6)).into g2 ?_, ?_⟩
            · rw [hsucc, ← Nat.add_assoc]; exact K2
            · rw [hsucc, ← Nat.add_assoc]; exact o2
            · intro b hb hp
              rcases hp with h | h
              · exact .inl h
              · rcases nr b h with h | h
                · exact .inr h
                · omega
            · intro q hq
              rcases n2 q (by rw [← hq, hsucc, ← Nat.add_assoc]) with h | h
              · exact nr q h
              · right; have := gr.size; have := b6.size; omega
        have HREC := Lib.hid hrec
        clear hrec hsucc hle h4 hx4 hkk h1r hER hvr nr gr orr Kr
        go_wp2_with fail
        refine (HSZ.out _).mono ?_
        rintro e1 w1 ⟨rfl, rfl⟩
        go_wp2_with (first
          | (at_builtin; refine wpList_appendN rfl _ _ _ rfl 3 Tryz.underlying30 intElem wr.heap.size (.slice none 0 0) [] rfl (OwnI.nil _ _ _) (.slice av l.length cv) l rfl hvi HL1.out (Nat.le_refl _) ?_; intro v5 w5 o5 g5 n5; have b5 := (Below.refl wr.heap.size wr).grown g5 (Nat.le_refl _) (fun q hq => by simp [Value.ownBlock] at hq))
          | (at_builtin; refine wpList_appendN1 rfl _ _ _ rfl 3 Tryz.underlying30 intElem wr.heap.size v5 ([] ++ l) (x : Int) w5.heap.size rfl rfl (cell_new _ _ _ _ _ rfl) (o5.alloc _) HER.out HL2.out (b5.alloc b5.size _).size ?_; intro v6 w6 o6 g6 n6; have b6 := (b5.alloc b5.size _).grown g6 (b5.alloc b5.size _).size (fun q hq => (o5.lt q hq).1))
          | (go_at_call 24; refine (HREC.out v6 w6 o6 b6).mono ?_; rintro e7 w7 ⟨rfl, R7⟩))
        go_roundw
        case rel => exact ⟨x + 1, by have := HP.out; omega, by go_num, R7⟩
        case measure => simp [intOf]; omega
      · have hxi : ¬ (x : Int) ≤ (P : Int) := by omega
        have hxe : x = pop l.length + 1 := by have := HP.out; omega
        have HXE := Lib.hid hxe
        clear hxe
        go_wp2_with fail
        refine (HSZ.out _).mono ?_
        rintro e1 w1 ⟨rfl, rfl⟩
        go_wp2
        go_end0
        exact ⟨rfl, by rw [lenTo_all, ← HXE.out]; exact R⟩
end Go.Proofs.YtdagcdgbdhecgaaGreat
end
