/- Ranks of matroids, by their number: the first program, all levels. -/
import Derived.Test.YtmfenalnmpndmaaGrowI
namespace Go.G5
open Go Go.RowKit
theorem GrownIn.into {w w' w'' : World} {P P' : Nat → Prop} (h : GrownIn w w' P) (k : GrownIn w' w'' P') (hP : ∀ b, b < w.heap.size → P' b → P b) : GrownIn w w'' P :=
  ⟨k.os.trans h.os, k.tape.trans h.tape, k.output.trans h.output, Nat.le_trans h.size k.size, fun b hb hr => (k.block b (Nat.lt_of_lt_of_le hb h.size) (fun hp => hr (hP b hb hp))).trans (h.block b hb hr)⟩
theorem OwnW.growInB {w w' : World} {P : Nat → Prop} {E : TypeId} {B : Nat} {v : Value} {l : List Int} (h : OwnW E B w v l) (hg : GrownIn w w' P) (hn : ∀ k, v.ownBlock = some k → ¬ P k) : OwnW E B w' v l := h.growIn hg hn
end Go.G5
namespace Go.Proofs.Ytmfenalnmpndmaa
open Go.RowKit Go.G5

theorem RowBox.start {w : World} {bo : Nat} {a : Option Addr} {k c : Nat} (K : Blk w bo 46 #[.slice a k c]) (hr : OwnR 26 0 w (.slice a k c) k) : RowBox w w bo a k c 0 :=
  ⟨a, c, K, hr, GrownIn.refl _ _, fun _ h => .inl h⟩
theorem lenTo_mul (n m : Nat) (v : List Int) (x : Nat) (h : v.length + (m + 1) ≤ 8) : lenTo n m v x ≤ x * 4 ^ m := by
  unfold lenTo
  have h1 := flat_len (fun x : Nat => growL n m (v ++ [Int.ofNat x])) (4 ^ m) (fun x => growL_len n m _ (by rw [List.length_append, List.length_singleton]; omega)) (List.range x)
  rw [List.length_range] at h1
  exact h1
set_option maxHeartbeats 4000000 in
set_option maxRecDepth 100000 in
theorem addRanks_any (N : Nat) (hN : N ≤ 3) : ∀ (m : Nat) (l : List Int) (v : Value) (w : World), l.length + m = 2 ^ N → OwnW 3 0 w v l → ∀ (bo : Nat) (a : Option Addr) (k c : Nat),
    Blk w bo 46 #[.slice a k c] → OwnR 26 0 w (.slice a k c) k → k + 4 ^ m ≤ 1000000 → (Value.slice a k c).ownBlock ≠ some bo → (∀ q, v.ownBlock = some q → q ≠ bo ∧ (Value.slice a k c).ownBlock ≠ some q) →
    Calls Try.prog 90 #[.pointer (some ⟨bo, 0, none⟩), .int .i64 N, v] w fun e w' => e = .returned (.tuple #[]) ∧ RowBox w w' bo a k c (growL N m l).length := by
  have hp8 : (2 : Nat) ^ N ≤ 8 := Nat.pow_le_pow_right (n := 2) (by decide) hN
  have hpi : ((2 ^ N : Nat) : Int) = (2 : Int) ^ N := by simp
  intro m
  induction m with
  | zero =>
    intro l v w hlm hv bo a k c K hr hk h1 _
    exact addRanks_0 N hN l v w (by omega) hv bo a k c K hr (by simp at hk; omega) h1
  | succ m ih =>
    intro l v w hlm hv bo a k c K hr hk h1 hva
    obtain ⟨av, cv, rfl⟩ := hv.ints.shape
    have ht : ((l.length : Int) == 2 ^ N) = false := by rw [← hpi]; simp; omega
    have hl8 : l.length + (m + 1) ≤ 8 := by omega
    have hpop := pop_le3 l.length (by omega)
    have hL1 : ([] : List Int).length + l.length ≤ 17592186044416 := by simp; omega
    have hL2 : ([] ++ l).length < 17592186044415 := by simp; omega
    have HL1 := Lib.hid hL1
    have HL2 := Lib.hid hL2
    have HLM := Lib.hid hlm
    have IH := Lib.hid ih
    have hp1 : (2 : Int) ^ N ≤ 8 := by rw [← hpi]; omega
    have hp2 := (two_pow N N (Nat.le_refl _)).2
    have zo := K.lt
    have HV := Lib.hid hv
    have HVA := Lib.hid hva
    have H1 := Lib.hid h1
    have HK := Lib.hid hk
    have R0 : RowBox w w bo a k c (lenTo N m l 0) := RowBox.start K hr
    clear hL1 hL2 hlm ih hpi hv hva h1 hk K hr
    go_enter Try.func90, Try.ntmps90
    go_wp2_with fail
    go_loopw [8] (fun i wr => ∃ x : Nat, x ≤ pop l.length + 1 ∧ i = .int .i64 x ∧ RowBox w wr bo a k c (lenTo N m l x)) (fun i _ => 8 - (intOf i).toNat)
    case atStart => exact ⟨0, Nat.zero_le _, rfl, R0⟩
    case round =>
      obtain ⟨x, hx, rfl, R⟩ := hrel
      obtain ⟨P, hP⟩ : ∃ P, P = pop l.length := ⟨_, rfl⟩
      have HP := Lib.hid hP
      have hsz := fun W => sizeOf_any l.length W (by omega)
      rw [← hP] at hx hpop
      simp only [← hP] at hsz
      have HSZ := Lib.hid hsz
      clear hP hsz R0
      by_cases hlt : x ≤ P
      · have hxi : (x : Int) ≤ (P : Int) := by omega
        have hER : InR (x : Int) := ⟨by omega, by omega⟩
        have HER := Lib.hid hER
        obtain ⟨a', c', Kr, orr, gr, nr⟩ := R
        have hvr : OwnW 3 0 wr (.slice av l.length cv) l := HV.out.growInB gr (fun q hq hp => by
          have := HVA.out q hq
          rcases hp with h | h
          · exact this.1 h
          · exact this.2 h)
        have hvi := hvr.ints
        have zr := Kr.lt
        have hsucc := lenTo_succ N m l x
        have hle := lenTo_mul N m l x hl8
        have h4 : 4 ^ (m + 1) = 4 * 4 ^ m := by rw [Nat.pow_succ]; omega
        have hx4 : x * 4 ^ m ≤ 3 * 4 ^ m := Nat.mul_le_mul_right _ (by omega)
        have hkk : (k + lenTo N m l x) + 4 ^ m ≤ 1000000 := by have := HK.out; rw [h4] at this; omega
        have h1r : (Value.slice a' (k + lenTo N m l x) c').ownBlock ≠ some bo := fun e => by
          rcases nr bo e with h | h
          · exact H1.out h
          · omega
        have hrec : ∀ (v6 : Value) (w6 : World), OwnI 3 wr.heap.size w6 v6 (([] ++ l) ++ [(x : Int)]) → Below wr.heap.size wr w6 → Calls Try.prog 90 #[.pointer (some ⟨bo, 0, none⟩), .int .i64 N, v6] w6 fun e w' => e = .returned (.tuple #[]) ∧ RowBox w w' bo a k c (lenTo N m l (x + 1)) := fun v6 w6 o6 b6 => by
          refine (IH.out (l ++ [Int.ofNat x]) v6 w6 (by have := HLM.out; rw [List.length_append, List.length_singleton]; omega) (o6.toW.mono (Nat.zero_le _)) bo a' _ c' (Kr.keep b6) (orr.keep b6) hkk h1r ?_).mono ?_
          · intro q hq
            have hq1 := (o6.lt q hq).1
            refine ⟨by omega, fun e => ?_⟩
            have := (orr.lt q e).2
            omega
          · rintro e w' ⟨rfl, a2, c2, K2, o2, g2, n2⟩
            refine ⟨rfl, a2, c2, ?_, ?_, (gr.trans (GrownIn.of_below b6)).into g2 ?_, ?_⟩
            · rw [hsucc, ← Nat.add_assoc]; exact K2
            · rw [hsucc, ← Nat.add_assoc]; exact o2
            · intro b hb hp
              rcases hp with h | h
              · exact .inl h
              · rcases nr b h with h | h
                · exact .inr h
                · omega
            · intro q hq
              rcases n2 q (by rw [← hq, hsucc, ← Nat.add_assoc]) with h | h
              · exact nr q h
              · right; have := gr.size; have := b6.size; omega
        have HREC := Lib.hid hrec
        clear hrec hsucc hle h4 hx4 hkk h1r hER hvr nr gr orr Kr
        go_wp2_with fail
        refine (HSZ.out _).mono ?_
        rintro e1 w1 ⟨rfl, rfl⟩
        go_wp2_with (first
          | (at_builtin; refine wpList_appendN rfl _ _ _ rfl 3 Try.underlying24 intElem wr.heap.size (.slice none 0 0) [] rfl (OwnI.nil _ _ _) (.slice av l.length cv) l rfl hvi HL1.out (Nat.le_refl _) ?_; intro v5 w5 o5 g5 n5; have b5 := (Below.refl wr.heap.size wr).grown g5 (Nat.le_refl _) (fun q hq => by simp [Value.ownBlock] at hq))
          | (at_builtin; refine wpList_appendN1 rfl _ _ _ rfl 3 Try.underlying24 intElem wr.heap.size v5 ([] ++ l) (x : Int) w5.heap.size rfl rfl (cell_new _ _ _ _ _ rfl) (o5.alloc _) HER.out HL2.out (b5.alloc b5.size _).size ?_; intro v6 w6 o6 g6 n6; have b6 := (b5.alloc b5.size _).grown g6 (b5.alloc b5.size _).size (fun q hq => (o5.lt q hq).1))
          | (go_at_call 90; refine (HREC.out v6 w6 o6 b6).mono ?_; rintro e7 w7 ⟨rfl, R7⟩))
        go_roundw
        case rel => exact ⟨x + 1, by have := HP.out; omega, by go_num, R7⟩
        case measure => simp [intOf]; omega
      · have hxi : ¬ (x : Int) ≤ (P : Int) := by omega
        have hxe : x = pop l.length + 1 := by have := HP.out; omega
        have HXE := Lib.hid hxe
        clear hxe
        go_wp2_with fail
        refine (HSZ.out _).mono ?_
        rintro e1 w1 ⟨rfl, rfl⟩
        go_wp2
        go_end0
        exact ⟨rfl, by rw [lenTo_all, ← HXE.out]; exact R⟩
end Go.Proofs.Ytmfenalnmpndmaa
