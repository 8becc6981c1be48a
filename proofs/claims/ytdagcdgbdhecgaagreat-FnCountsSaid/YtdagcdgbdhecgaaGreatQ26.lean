/- Ranks of matroids, with what they hold: the first program. -/
import Derived.Test.YtdagcdgbdhecgaaGreatQ25
section
namespace Go.Proofs.YtdagcdgbdhecgaaGreat
open Go.RowKit Go.G5

theorem bNe1 : (32 : TypeId) ≠ 25 := by decide
theorem bNe2 : (3 : TypeId) ≠ 25 := by decide
/-- what addRanks leaves: more functions in the slice of the box -/
def RowBoxF (w w' : World) (bo : Nat) (v0 : Value) (its : List FIt) (fs : List (Int × List Int)) : Prop :=
  ∃ (a' : Option Addr) (k' c' : Nat) (news : List FIt), Blk w' bo 25 #[.slice a' k' c'] ∧ FunsW 32 3 0 w' (.slice a' k' c') (its ++ news) ∧ readF news = fs ∧ GrownIn w w' (fun b => b = bo ∨ v0.ownBlock = some b) ∧
    (∀ q, (Value.slice a' k' c').ownBlock = some q → v0.ownBlock = some q ∨ w.heap.size ≤ q) ∧ (∀ t ∈ news, ∀ q, t.2.1.ownBlock = some q → w.heap.size ≤ q) ∧ news.Pairwise (fun t u => Apart t.2.1 u.2.1)
theorem RowBoxF.start {w : World} {bo : Nat} {a : Option Addr} {k c : Nat} {its : List FIt} (K : Blk w bo 25 #[.slice a k c]) (hr : FunsW 32 3 0 w (.slice a k c) its) : RowBoxF w w bo (.slice a k c) its [] :=
  ⟨a, k, c, [], K, by rw [List.append_nil]; exact hr, rfl, GrownIn.refl _ _, fun _ h => .inl h, by simp, List.Pairwise.nil⟩
theorem RowBoxF.next {w wr w6 w' : World} {bo : Nat} {v0 : Value} {its : List FIt} {a : Option Addr} {k c : Nat} {fs gs : List (Int × List Int)} {news : List FIt}
    (hr : FunsW 32 3 0 wr (.slice a k c) (its ++ news)) (hf : readF news = fs) (hg : GrownIn w wr (fun b => b = bo ∨ v0.ownBlock = some b)) (hn : ∀ q, (Value.slice a k c).ownBlock = some q → v0.ownBlock = some q ∨ w.heap.size ≤ q)
    (hfr : ∀ t ∈ news, ∀ q, t.2.1.ownBlock = some q → w.heap.size ≤ q) (hp : news.Pairwise (fun t u => Apart t.2.1 u.2.1)) (b6 : Below wr.heap.size wr w6) (h : RowBoxF w6 w' bo (.slice a k c) (its ++ news) gs) : RowBoxF w w' bo v0 its (fs ++ gs) := by
  obtain ⟨a2, k2, c2, n2, K2, o2, f2, g2, r2, e2, p2⟩ := h
  refine ⟨a2, k2, c2, news ++ n2, K2, by rw [← List.append_assoc]; exact o2, by rw [readF_app, hf, f2], (hg.trans (GrownIn.of_below b6)).into g2 ?_, ?_, ?_, ?_⟩
  · intro b hb hq
    rcases hq with h | h
    · exact .inl h
    · rcases hn b h with h | h
      · exact .inr h
      · omega
  · intro q hq
    rcases r2 q hq with h | h
    · exact hn q h
    · right; have := hg.size; have := b6.size; omega
  · intro t ht q hq
    rcases List.mem_append.1 ht with ht | ht
    · exact hfr t ht q hq
    · have := e2 t ht q hq; have := hg.size; have := b6.size; omega
  · rw [List.pairwise_append]
    refine ⟨hp, p2, fun t ht u hu q hq hq2 => ?_⟩
    have h1 := ((hr.els t (List.mem_append_right _ ht)).2.lt q hq).2
    have h2 := e2 u hu q hq2
    have := b6.size
    omega
set_option maxHeartbeats 4000000 in
set_option maxRecDepth 100000 in
theorem addRanksF_0 (N : Nat) (hN : N ≤ 3) (l : List Int) (v : Value) (w : World) (hlm : l.length = 2 ^ N) (hv : OwnW 3 0 w v l) (bo : Nat) (a : Option Addr) (k c : Nat) (its : List FIt)
    (K : Blk w bo 25 #[.slice a k c]) (hr : FunsW 32 3 0 w (.slice a k c) its) (hk : its.length ≤ 1000000) :
    Calls Tryz.prog 24 #[.pointer (some ⟨bo, 0, none⟩), .int .i64 N, v] w fun e w' => e = .returned (.tuple #[]) ∧ RowBoxF w w' bo (.slice a k c) its ((growL N 0 l).map fun l => ((N : Int), l)) := by
  have hp8 : (2 : Nat) ^ N ≤ 8 := Nat.pow_le_pow_right (n := 2) (by decide) hN
  have hpi : ((2 ^ N : Nat) : Int) = (2 : Int) ^ N := by simp
  have h1 := row_blk hr.row K bNe1
  obtain ⟨av, cv, rfl⟩ := hv.ints.shape
  have ht : ((l.length : Int) == 2 ^ N) = true := by rw [← hpi]; simp; omega
  have hl9 : l.length ≤ 1048576 := by omega
  have hp1 : (2 : Int) ^ N ≤ 8 := by rw [← hpi]; omega
  have hp2 := (two_pow N N (Nat.le_refl _)).2
  have HLM := Lib.hid hlm
  have zo := K.lt
  have hNR : InR (N : Int) := ⟨by omega, by omega⟩
  have HNR := Lib.hid hNR
  clear hpi hlm hNR
  go_enter Tryz.func24, Tryz.ntmps24
  go_wp2_with fail
  refine calls_named ?_
  intro V hV
  have B : Below w.heap.size w V := by rw [hV]; exact bl1 _ _
  have KF : Blk V w.heap.size 32 #[.int .i64 N, .slice av l.length cv] := by rw [hV]; exact Blk.new _ _ _
  clear hV
  refine (rankI_any N l _ _ (hv.ints.below B (Nat.le_refl _)) hl9).mono ?_
  rintro e w1 ⟨rfl, hb1⟩
  have KF1 := KF.keep hb1
  have B1 := B.after hb1 B.size
  have G1 := KF1.cell
  have z1 := KF1.lt
  have y1 := B1.size
  have Ko := K.keep B1
  have r1 := hr.keep B1
  have Go := Ko.cell
  have Fo := Ko.frozen
  cases hrk : rankB N l with
  | false =>
    have hg : growL N 0 l = [] := by rw [growL, hrk]; rfl
    have HG := Lib.hid hg
    clear hg hrk
    go_wp2
    refine bodyPost_ret (v := .tuple #[]) (results_none rfl _ _ _) rfl ⟨rfl, ?_⟩
    rw [HG.out]
    exact ⟨a, k, c, [], Ko, by rw [List.append_nil]; exact r1, rfl, GrownIn.of_below B1, fun q hq => .inl hq, by simp, List.Pairwise.nil⟩
  | true =>
    have hg : growL N 0 l = [l] := by rw [growL, hrk]; rfl
    have HG := Lib.hid hg
    clear hg hrk
    have hv1 := hv.ints.below B1 (Nat.le_refl _)
    have HL9 := Lib.hid hl9
    have HK := Lib.hid hk
    go_wp2_with fail
    have Kdr := Ko.drewN 1
    have KFdr := KF1.drewN 1
    go_region_law
      (first
        | (go_simp; go_at_call 42; refine (copyFun_any _ _ _ l ?_ HL9.out).mono ?_; (with_reducible exact hv1.drew'); rintro e1' w7 ⟨p7, i7, q7, rfl, o7', b7⟩; have Ko7 := (Ko.drewN 1).keep b7; have Go7 := Ko7.cell; have Fo7 := Ko7.frozen; have KF7 := (KF1.drewN 1).keep b7; have G7 := KF7.cell; have F7 := KF7.frozen; have r7 := (r1.keep (Below.refl _ _).drew).keep b7; obtain ⟨hc1, hf1⟩ := bcellN b7 w1.heap.size (Nat.le_refl _); have Koa := Ko7.alloc (.cells #[.int .i64 N, .slice p7 i7 q7] 32); have Goa := Koa.cell)
        | (refine step_putF rfl _ _ _ rfl Tryz.underlying25 funElem fNe 0 (.slice a k c) its rfl _ (N : Int) (.slice p7 i7 q7) l rfl ?_ (cell_new _ _ _ 0 _ rfl) (cell_new _ _ _ 1 _ rfl) HNR.out ?_ (Nat.le_trans HK.out (by decide)) (Nat.zero_le _) ?_; (with_reducible exact r7.keep (bl1 _ _)); (with_reducible exact (o7'.toW.mono (Nat.zero_le _)).alloc _); intro v8 w8 o8 g8 n8; obtain ⟨a8, q8, h8s⟩ := o8.shape; rw [List.length_append, List.length_singleton] at h8s; subst h8s; have Ko8 := (Ko7.alloc _).grow g8 h1; have KF8 := (KF7.alloc _).grow g8 (fun e => by have := (hr.lt _ e).2; omega); have Go8 := Ko8.cell; have Fo8 := Ko8.frozen; have G8 := KF8.cell))
    all_goals
      go_wp2
      refine post_named ?_
      intro Wf hWf
      have KoF : Blk Wf bo 25 #[.slice a8 (its.length + 1) q8] := by
        rw [hWf]
        have := Ko8.set 0 (.slice a8 (its.length + 1) q8)
        simpa using this
      have gF : w8.grownBy Wf (some bo) := by rw [hWf]; exact grow_set (World.grownBy.refl _ _) 0 _
      have B7 : Below w.heap.size w w7 := (B1.drewN' 1).after b7 B1.size
      have y7 := B7.size
      have p7l := o7'.lt
      clear hWf
      refine bodyPost_ret (v := .tuple #[]) (results_none rfl _ _ _) rfl ⟨rfl, ?_⟩
      rw [HG.out]
      have near : ∀ q, (Value.slice a8 (its.length + 1) q8).ownBlock = some q → (Value.slice a k c).ownBlock = some q ∨ w.heap.size ≤ q := by
        intro q hq
        rcases n8 with h | h
        · left; rw [← h]; exact hq
        · right; rw [h] at hq; have := Option.some.inj hq; simp at this; omega
      refine ⟨a8, its.length + 1, q8, [((N : Int), Value.slice p7 i7 q7, l)], KoF, o8.box Ko8 bNe1 bNe2 gF, rfl, ?_, near, ?_, List.pairwise_singleton _ _⟩
      · exact (GrownIn.of_below ((B7.alloc B7.size _))).trans ((GrownIn.of_row g8 (fun q hq => .inr hq)).trans (GrownIn.of_row gF (fun q hq => .inl (Option.some.inj hq).symm)))
      · intro t ht q hq
        simp only [List.mem_cons, List.not_mem_nil, or_false] at ht
        subst ht
        have := (p7l q hq).1
        simp at this
        omega
    skip
set_option maxHeartbeats 4000000 in
set_option maxRecDepth 100000 in
theorem addRanksF_any (N : Nat) (hN : N ≤ 3) : ∀ (m : Nat) (l : List Int) (v : Value) (w : World), l.length + m = 2 ^ N → OwnW 3 0 w v l → ∀ (bo : Nat) (a : Option Addr) (k c : Nat) (its : List FIt),
    Blk w bo 25 #[.slice a k c] → FunsW 32 3 0 w (.slice a k c) its → its.length + 4 ^ m ≤ 1000000 →
    Calls Tryz.prog 24 #[.pointer (some ⟨bo, 0, none⟩), .int .i64 N, v] w fun e w' => e = .returned (.tuple #[]) ∧ RowBoxF w w' bo (.slice a k c) its ((growL N m l).map fun l => ((N : Int), l)) := by
  have hp8 : (2 : Nat) ^ N ≤ 8 := Nat.pow_le_pow_right (n := 2) (by decide) hN
  have hpi : ((2 ^ N : Nat) : Int) = (2 : Int) ^ N := by simp
  intro m
  induction m with
  | zero =>
    intro l v w hlm hv bo a k c its K hr hk
    exact addRanksF_0 N hN l v w (by omega) hv bo a k c its K hr (by simp at hk; omega)
  | succ m ih =>
    intro l v w hlm hv bo a k c its K hr hk
    obtain ⟨av, cv, rfl⟩ := hv.ints.shape
    have ht : ((l.length : Int) == 2 ^ N) = false := by rw [← hpi]; simp; omega
    have hl8 : l.length + (m + 1) ≤ 8 := by omega
    have hpop := pop_le3 l.length (by omega)
    have hL1 : ([] : List Int).length + l.length ≤ 17592186044416 := by simp; omega
    have hL2 : ([] ++ l).length < 17592186044415 := by simp; omega
    have HL1 := Lib.hid hL1
    have HL2 := Lib.hid hL2
    have HLM := Lib.hid hlm
    have IH := Lib.hid ih
    have hp1 : (2 : Int) ^ N ≤ 8 := by rw [← hpi]; omega
    have hp2 := (two_pow N N (Nat.le_refl _)).2
    have zo := K.lt
    have hva : ∀ q, (Value.slice av l.length cv).ownBlock = some q → q ≠ bo ∧ (Value.slice a k c).ownBlock ≠ some q := fun q hq =>
      ⟨fun e => own_blk hv K bNe2 (by rw [hq, e]), fun e => own_types hr.row hv fNe q e hq⟩
    have HV := Lib.hid hv
    have HVA := Lib.hid hva
    have HK := Lib.hid hk
    have R0 : RowBoxF w w bo (.slice a k c) its (upTo N m l 0) := RowBoxF.start K hr
    clear hL1 hL2 hlm ih hpi hv hva hk K hr
    go_enter Tryz.func24, Tryz.ntmps24
    go_wp2_with fail
    go_loopw [8] (fun i wr => ∃ x : Nat, x ≤ pop l.length + 1 ∧ i = .int .i64 x ∧ RowBoxF w wr bo (.slice a k c) its (upTo N m l x)) (fun i _ => 8 - (intOf i).toNat)
    case atStart => exact ⟨0, Nat.zero_le _, rfl, R0⟩
    case round =>
      obtain ⟨x, hx, rfl, R⟩ := hrel
      obtain ⟨P, hP⟩ : ∃ P, P = pop l.length := ⟨_, rfl⟩
      have HP := Lib.hid hP
      have hsz := fun W => sizeOf_any l.length W (by omega)
      rw [← hP] at hx hpop
      simp only [← hP] at hsz
      have HSZ := Lib.hid hsz
      clear hP hsz R0
      by_cases hlt : x ≤ P
      · have hxi : (x : Int) ≤ (P : Int) := by omega
        have hER : InR (x : Int) := ⟨by omega, by omega⟩
        have HER := Lib.hid hER
        obtain ⟨a', k', c', news, Kr, orr, fr, gr, nr, er, pr⟩ := R
        have hvr : OwnW 3 0 wr (.slice av l.length cv) l := HV.out.growInB gr (fun q hq hp => by
          have := HVA.out q hq
          rcases hp with h | h
          · exact this.1 h
          · exact this.2 h)
        have hvi := hvr.ints
        have zr := Kr.lt
        have hle := lenTo_mul N m l x hl8
        have h4 : 4 ^ (m + 1) = 4 * 4 ^ m := by rw [Nat.pow_succ]; omega
        have hx4 : x * 4 ^ m ≤ 3 * 4 ^ m := Nat.mul_le_mul_right _ (by omega)
        have hkk : (its ++ news).length + 4 ^ m ≤ 1000000 := by
          have := HK.out
          have e1 := congrArg List.length fr
          rw [readF_len, upTo_len] at e1
          rw [h4] at this
          rw [List.length_append]
          omega
        have hrec : ∀ (v6 : Value) (w6 : World), OwnI 3 wr.heap.size w6 v6 (([] ++ l) ++ [(x : Int)]) → Below wr.heap.size wr w6 → Calls Tryz.prog 24 #[.pointer (some ⟨bo, 0, none⟩), .int .i64 N, v6] w6 fun e w' => e = .returned (.tuple #[]) ∧ RowBoxF w w' bo (.slice a k c) its (upTo N m l (x + 1)) := fun v6 w6 o6 b6 => by
          refine (IH.out (l ++ [Int.ofNat x]) v6 w6 (by have := HLM.out; rw [List.length_append, List.length_singleton]; omega) (o6.toW.mono (Nat.zero_le _)) bo a' k' c' (its ++ news) (Kr.keep b6) (orr.keep b6) hkk).mono ?_
          rintro e w' ⟨rfl, R2⟩
          refine ⟨rfl, ?_⟩
          rw [upTo_succ]
          exact RowBoxF.next orr fr gr nr er pr b6 R2
        have HREC := Lib.hid hrec
        clear hrec hle h4 hx4 hkk hER hvr nr gr orr Kr fr er pr
        go_wp2_with fail
        refine (HSZ.out _).mono ?_
        rintro e1 w1 ⟨rfl, rfl⟩
        go_wp2_with (first
          | (at_builtin; refine wpList_appendN rfl _ _ _ rfl 3 Tryz.underlying30 intElem wr.heap.size (.slice none 0 0) [] rfl (OwnI.nil _ _ _) (.slice av l.length cv) l rfl hvi HL1.out (Nat.le_refl _) ?_; intro v5 w5 o5 g5 n5; have b5 := (Below.refl wr.heap.size wr).grown g5 (Nat.le_refl _) (fun q hq => ((OwnI.nil 3 wr.heap.size wr).lt q hq).1))
          | (at_builtin; refine wpList_appendN1 rfl _ _ _ rfl 3 Tryz.underlying30 intElem wr.heap.size v5 ([] ++ l) (x : Int) w5.heap.size rfl rfl (cell_new _ _ _ _ _ rfl) (o5.alloc _) HER.out HL2.out (b5.alloc b5.size _).size ?_; intro v6 w6 o6 g6 n6; have b6 := (b5.alloc b5.size _).grown g6 (b5.alloc b5.size _).size (fun q hq => (o5.lt q hq).1))
          | (go_at_call 24; refine (HREC.out v6 w6 o6 b6).mono ?_; rintro e7 w7 ⟨rfl, R7⟩))
        go_roundw
        case rel => exact ⟨x + 1, by have := HP.out; omega, by go_num, R7⟩
        case measure => simp [intOf]; omega
      · have hxi : ¬ (x : Int) ≤ (P : Int) := by omega
        have hxe : x = pop l.length + 1 := by have := HP.out; omega
        have HXE := Lib.hid hxe
        clear hxe
        go_wp2_with fail
        refine (HSZ.out _).mono ?_
        rintro e1 w1 ⟨rfl, rfl⟩
        go_wp2
        go_end0
        exact ⟨rfl, by rw [upTo_all, ← HXE.out]; exact R⟩
end Go.Proofs.YtdagcdgbdhecgaaGreat
end
