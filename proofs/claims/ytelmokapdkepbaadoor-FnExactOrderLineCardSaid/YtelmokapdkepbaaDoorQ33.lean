/- Largest antichains: the first program's function. Orders in which sets are intervals: the first program. -/
import Derived.Test.YtelmokapdkepbaaDoorQ32
section
namespace Go.G5
open Go Go.RowKit
variable {P : Program} {w : World} {a : Addr} {m : Mode}
@[go_sem] theorem run_store_funcA (f : Fn) (x y : Array Value) : (store a (.func f x y) m).run P w = stored P w a (.func f x y) m := run_store P w a _ m rfl
end Go.G5
namespace Go.Proofs.YtelmokapdkepbaaDoor
open Go.RowKit Go.G5

set_option maxHeartbeats 1000000 in
set_option maxRecDepth 100000 in
theorem longestList_any (w : World) (v : Value) (l : List Int) (hv : Ints w v l) (hm : ∀ x ∈ l, 0 ≤ x ∧ x < 64) (hl : l.length ≤ 64) :
    Calls Tryd.prog 51 #[v, .func (.func 52) #[] #[]] w fun e w' => ∃ ad i cp, e = .returned (.slice ad i cp) ∧ Ints w' (.slice ad i cp) (acS acI l [] []) ∧ Up w.heap.size (.slice ad i cp) (acS acI l [] []) ∧ Below w.heap.size w w' := by
  have hv0 := hv
  obtain ⟨a, c, rfl⟩ := hv.shape
  have hfar : Far w.heap.size (.slice a l.length c) l := fun hne k hk e => by
    have h1 := ints_lt hv0 hne k hk
    omega
  have hvis : ∀ V, Below w.heap.size w V → Blk V w.heap.size 78 #[.slice none 0 0, .func (.func 52) #[] #[]] → Calls Tryd.prog 71 #[.pointer (some ⟨w.heap.size, 0, none⟩), .slice a l.length c, .slice none 0 0] V (acPost w.heap.size (acS acI l [] []) V) := fun V hB hK => by
    have h := acVisit_any w.heap.size l.length l (.slice a l.length c) [] (.slice none 0 0) [] (.slice none 0 0) V rfl hm (hv0.below hB (Nat.le_refl _)) hfar (Ints.empty _ _ _ _ rfl (by decide)) (fun h => absurd rfl h) (by simp) hK (Ints.empty _ _ _ _ rfl (by decide)) (fun h => absurd rfl h) (by simpa using hl) (by simp)
    have he : longer ([] : List Int) [] = [] := rfl
    rw [he, acV_top] at h
    exact h
  have HV := Lib.hid hvis
  clear hvis
  go_enter Tryd.func51, Tryd.ntmps51
  go_wp2_with fail
  refine calls_named ?_
  intro V hV
  have B : Below w.heap.size w V := by rw [hV]; exact bl1 _ _
  have KV : Blk V w.heap.size 78 #[.slice none 0 0, .func (.func 52) #[] #[]] := by rw [hV]; exact Blk.new _ _ _
  clear hV
  refine (HV.out V B KV).mono ?_
  rintro e w2 ⟨rfl, bv, K, hb, hfb, g2⟩
  obtain ⟨pb, qb, rfl⟩ := hb.shape
  have B2 : Below w.heap.size w w2 := Below.growIn B g2 B.size (by rintro k rfl; exact Nat.le_refl _)
  have G := K.cell
  go_wp2
  go_ret
  exact ⟨_, _, _, rfl, hb, hfb, B2⟩

set_option maxHeartbeats 1000000 in
set_option maxRecDepth 100000 in
theorem acmaxI_c (w : World) (g : Int) (v : Value) (l : List Int) (hv : Ints w v l) :
    Calls Tryd.prog 27 #[.agg #[.int .i64 g, v]] w fun e w' => ∃ ad i cp, e = .returned (.tuple #[.agg #[.int .i64 (laN g l), .slice ad i cp], .bool (laB g l)]) ∧ Ints w' (.slice ad i cp) (laL g l) ∧ Below w.heap.size w w' := by
  have hv0 := hv
  obtain ⟨a, c, rfl⟩ := hv.shape
  go_enter Tryd.func27, Tryd.ntmps27
  go_wp2_with fail
  refine calls_named ?_
  intro V hV
  have B : Below w.heap.size w V := by rw [hV]; exact bl2 _ _ _
  have K1 : Blk V w.heap.size 27 #[.int .i64 g, .slice a l.length c] := by rw [hV]; exact (Blk.new _ _ _).alloc _
  have K2 : Blk V (w.heap.size + 1) 27 #[.int .i64 0, .slice none 0 0] := by rw [hV]; have := Blk.new (w.alloc (.cells #[.int .i64 g, .slice a l.length c] 27)) 27 #[.int .i64 0, .slice none 0 0]; simpa using this
  clear hV
  refine (isFamI_any g l _ _ (hv.below B (Nat.le_refl _))).mono ?_
  rintro e w1 ⟨rfl, hb1⟩
  have K1' := K1.keep hb1
  have K2' := K2.keep hb1
  have B1 := B.after hb1 B.size
  have hv1 := hv.below B1 (Nat.le_refl _)
  clear K1 K2 B hb1
  have G1 := K1'.cell
  have z1 := K1'.lt
  have z2 := K2'.lt
  cases hla : laB g l with
  | false =>
    have hno := And.intro (laB_no hla) hla
    have HN := Lib.hid hno
    have hor : isFamB g l = false ∨ (isFamB g l = true ∧ ¬ l.length ≤ 12) := by
      unfold laB at hla
      cases hf : isFamB g l with
      | false => exact .inl rfl
      | true => rw [hf] at hla; simp at hla; exact .inr ⟨rfl, by omega⟩
    clear hno hla
    have G2 := K2'.cell
    have F2 := K2'.frozen
    have key : ∀ Wf, Wf = (w1.setCell ⟨w.heap.size + 1, 0, none⟩ (.int .i64 0)).setCell ⟨w.heap.size + 1, 1, none⟩ (.slice none 0 0) → Blk Wf (w.heap.size + 1) 27 #[.int .i64 0, .slice none 0 0] ∧ Below w.heap.size w Wf := fun Wf hWf => by
      refine ⟨?_, by rw [hWf]; exact Below.setCell (Below.setCell B1 (by first | omega | (simp; done) | (simp; omega)) _) (by first | omega | (simp; done) | (simp; omega)) _⟩
      rw [hWf]
      have := (K2'.set 0 (.int .i64 0)).set 1 (.slice none 0 0)
      simpa using this
    rcases hor with hf | ⟨hf, hgt⟩
    · rw [hf]
      go_wp2
      refine post_named ?_
      intro Wf hWf
      obtain ⟨Kf, Bf⟩ := key Wf hWf
      have Gf := Kf.cell
      clear hWf G1 G2 F2 key
      exact bodyPost_ret (v := .tuple #[.agg #[.int .i64 0, .slice none 0 0], .bool false]) (by simp [results, Tryd.results27, go_sem, Gf]) rfl ⟨none, 0, 0, by rw [HN.out.1.1, HN.out.2], by rw [HN.out.1.2]; exact Ints.empty _ _ _ _ rfl (by decide), Bf⟩
    · rw [hf]
      have hgt2 : (12 : Int) < (l.length : Int) := by omega
      go_wp2
      refine post_named ?_
      intro Wf hWf
      obtain ⟨Kf, Bf⟩ := key Wf hWf
      have Gf := Kf.cell
      clear hWf G1 G2 F2 key
      exact bodyPost_ret (v := .tuple #[.agg #[.int .i64 0, .slice none 0 0], .bool false]) (by simp [results, Tryd.results27, go_sem, Gf]) rfl ⟨none, 0, 0, by rw [HN.out.1.1, HN.out.2], by rw [HN.out.1.2]; exact Ints.empty _ _ _ _ rfl (by decide), Bf⟩
  | true =>
    have hyes := And.intro (laB_yes hla) hla
    have HY := Lib.hid hyes
    unfold laB at hla
    rw [Bool.and_eq_true, decide_eq_true_eq] at hla
    obtain ⟨hf, h12⟩ := hla
    have h12b : ¬ (12 : Int) < (l.length : Int) := by omega
    have hll := longestList_any w1 _ l hv1 (fam_mem hf) (by omega)
    have HLL := Lib.hid hll
    rw [hf]
    clear hyes hf hll
    go_wp2_with fail
    refine HLL.out.mono ?_
    rintro e w3 ⟨p3, i3, q3, rfl, o3, u3, b3⟩
    have K1f := K1'.keep b3
    have K2f := K2'.keep b3
    have B3 := B1.after b3 B1.size
    have z2a := z2
    clear G1 z1 z2 K1' K2' b3
    have G1 := K1f.cell
    have G2 := K2f.cell
    have F2 := K2f.frozen
    have z2 := K2f.lt
    have hfar3 : acS acI l [] [] ≠ [] → ∀ k, (Value.slice p3 i3 q3).ownBlock = some k → ¬ k = w.heap.size + 1 := fun hne k hk => by have := u3 hne k hk; omega
    go_wp2
    refine post_named ?_
    intro Wf hWf
    have Kf : Blk Wf (w.heap.size + 1) 27 #[.int .i64 g, .slice p3 i3 q3] := by
      rw [hWf]
      have := (K2f.set 0 (.int .i64 g)).set 1 (.slice p3 i3 q3)
      simpa using this
    have Bf : Below w.heap.size w Wf := by rw [hWf]; exact Below.setCell (Below.setCell B3 (by first | omega | (simp; done) | (simp; omega)) _) (by first | omega | (simp; done) | (simp; omega)) _
    have gf : GrownIn w3 Wf (fun k => k = w.heap.size + 1) := by
      rw [hWf]
      exact (GrownIn.of_row (grown_setCell w3 ⟨w.heap.size + 1, 0, none⟩ _) (fun k hk => (Option.some.inj hk).symm)).trans (GrownIn.of_row (grown_setCell _ ⟨w.heap.size + 1, 1, none⟩ _) (fun k hk => (Option.some.inj hk).symm))
    have of := ints_growIn o3 gf hfar3
    have Gf := Kf.cell
    clear hWf G1 G2 F2
    exact bodyPost_ret (v := .tuple #[.agg #[.int .i64 g, .slice p3 i3 q3], .bool true]) (by simp [results, Tryd.results27, go_sem, Gf]) rfl ⟨_, _, _, by rw [HY.out.1.1, HY.out.2], by rw [HY.out.1.2]; exact of, Bf⟩
end Go.Proofs.YtelmokapdkepbaaDoor
end
section
namespace Go.Proofs.YtelmokapdkepbaaDoor
open Go.RowKit Go.G5

set_option maxHeartbeats 1000000 in
set_option maxRecDepth 100000 in
theorem spanI_any (p : List Int) (v : Value) (s : Nat) (w : World) (hv : Ints w v p) (hpl : p.length ≤ 6) (hpm : ∀ x ∈ p, 0 ≤ x ∧ x < 6) (hs : s < 64) :
    Calls Tryd.prog 76 #[v, .int .i64 (s : Int)] w fun e w' => e = .returned (.tuple #[.int .i64 (spF p s p.length), .int .i64 (spL p s p.length), .bool (spOk p s)]) ∧ w = w' := by
  obtain ⟨a, b, off, c, rfl, hlen, hix, hc, hb⟩ := hv.view Tryd.prog 22 3 Tryd.underlying22 intElem
  have HC := Lib.hid hc
  have HIX := Lib.hid hix
  have HPM := Lib.hid hpm
  have HSZ := Lib.hid (sizeOf_any s w (by omega))
  clear hc hix hpm
  go_enter Tryd.func76, Tryd.ntmps76
  go_wp2
  go_loop [7, 8, 13] (fun fi la i => ∃ k : Nat, k ≤ p.length ∧ i = .int .i64 k ∧ fi = .int .i64 (spF p s k) ∧ la = .int .i64 (spL p s k)) (fun _ _ i => p.length - (intOf i).toNat)
  case atStart => exact ⟨0, Nat.zero_le _, rfl, rfl, rfl⟩
  case round =>
    obtain ⟨k, hk, rfl, rfl, rfl⟩ := hrel
    by_cases hlt : k < p.length
    · have hlt2 : (k : Int) < (p.length : Int) := by omega
      have ck := HC.out k hlt
      have ik := fun W => HIX.out W k hlt
      have hm := HPM.out _ (List.getElem_mem hlt)
      have h1 := spF_succ p s k
      have h2 := spL_succ p s k
      have h3 := spF_bd p s k
      obtain ⟨e, he⟩ : ∃ e : Nat, p[k] = (e : Int) := ⟨p[k].toNat, by omega⟩
      have hin : inP p s k = nbit s e := by
        unfold inP
        rw [List.getD_eq_getElem?_getD, List.getElem?_eq_getElem hlt, Option.getD_some, he, Int.toNat_natCast]
      rw [he] at ck hm
      rw [hin] at h1 h2
      have he6 : e < 6 := by omega
      have hbit := bit_is (s : Int) e (by omega) (by omega)
      have hnb := nbit_is s e
      obtain ⟨y, hy⟩ : ∃ y, y = ibit (s : Int) e := ⟨_, rfl⟩
      rw [← hy] at hbit hnb
      have hp := two_pow e 6 (by omega)
      have hp1 : (2 : Int) ^ e ≤ 64 := by simpa using hp.1
      have hp2 := hp.2
      obtain ⟨F, hF⟩ : ∃ F, F = spF p s k := ⟨_, rfl⟩
      obtain ⟨L, hL⟩ : ∃ F, F = spL p s k := ⟨_, rfl⟩
      rw [← hF] at h1 h3 ⊢
      rw [← hL] at h2 ⊢
      clear hp hy hin he hm hF hL
      cases hbb : nbit s e with
      | false =>
        have hy1 : (y == 1) = false := by rw [hnb, hbb]
        rw [hbb, Bool.false_and, if_neg (by simp)] at h1
        rw [hbb, if_neg (by simp)] at h2
        have H1 := Lib.hid h1
        have H2 := Lib.hid h2
        clear hbb hnb h1 h2
        go_wp2
        go_round
        case rel => exact ⟨k + 1, by omega, by go_num, by rw [H1.out], by rw [H2.out]⟩
        case measure => simp [intOf]; omega
      | true =>
        have hy1 : (y == 1) = true := by rw [hnb, hbb]
        rw [hbb, Bool.true_and] at h1
        rw [hbb, if_pos rfl] at h2
        have H2 := Lib.hid h2
        clear hbb hnb h2
        by_cases hneg : F < 0
        · rw [decide_eq_true hneg, if_pos rfl] at h1
          have H1 := Lib.hid h1
          clear h1
          go_wp2
          go_round
          case rel => exact ⟨k + 1, by omega, by go_num, by rw [H1.out], by rw [H2.out]⟩
          case measure => simp [intOf]; omega
        · rw [decide_eq_false hneg, if_neg (by simp)] at h1
          have H1 := Lib.hid h1
          clear h1
          go_wp2
          go_round
          case rel => exact ⟨k + 1, by omega, by go_num, by rw [H1.out], by rw [H2.out]⟩
          case measure => simp [intOf]; omega
    · have hkp : k = p.length := by omega
      have hlt2 : ¬ (k : Int) < (p.length : Int) := by omega
      have h3 := spF_bd p s p.length
      have h4 := spL_bd p s p.length
      have hok : spOk p s = decide (spL p s p.length - spF p s p.length + 1 = (pop s : Int)) := rfl
      subst hkp
      obtain ⟨F, hF⟩ : ∃ F, F = spF p s p.length := ⟨_, rfl⟩
      obtain ⟨L, hL⟩ : ∃ F, F = spL p s p.length := ⟨_, rfl⟩
      rw [← hF, ← hL] at hok ⊢
      rw [← hF] at h3
      rw [← hL] at h4
      have wr1 : IntKind.i64.wrap (L - F) = L - F := by rw [IntKind.wrap_i64]; omega
      have wr2 : IntKind.i64.wrap (L - F + 1) = L - F + 1 := by rw [IntKind.wrap_i64]; omega
      have hbe : (L - F + 1 == (pop s : Int)) = spOk p s := by rw [hok]; by_cases h : L - F + 1 = (pop s : Int) <;> simp [h]
      obtain ⟨o, ho⟩ : ∃ o, o = spOk p s := ⟨_, rfl⟩
      rw [← ho] at hbe
      have HH := Lib.hid (And.intro hF (And.intro hL ho))
      clear hok hF hL ho
      go_wp2_with (go_at_call 83; refine HSZ.out.mono ?_; rintro e w3 ⟨rfl, rfl⟩)
      go_ret3
      exact ⟨by rw [← HH.out.1, ← HH.out.2.1, ← HH.out.2.2]; rfl, rfl⟩
set_option maxHeartbeats 1000000 in
set_option maxRecDepth 100000 in
theorem fitsI_any (g : Int) (l p : List Int) (v u : Value) (w : World) (hv : Ints w v l) (hu : Ints w u p) (hpl : p.length ≤ 6) (hpm : ∀ x ∈ p, 0 ≤ x ∧ x < 6) (hlm : ∀ s ∈ l, 0 ≤ s ∧ s < 64) :
    Calls Tryd.prog 56 #[.agg #[.int .i64 g, v], u] w fun e w' => e = .returned (.bool (fitP l p)) ∧ Below w.heap.size w w' := by
  have hv0 := hv
  have hu0 := hu
  obtain ⟨a, b, off, c, rfl, hlen, hix, hc, hb⟩ := hv.view Tryd.prog 22 3 Tryd.underlying22 intElem
  obtain ⟨a', c', rfl⟩ := hu.shape
  have hc1 := cells_below hc hb (bl1 w (.cells #[.int .i64 g, .slice a l.length c] 27)) (Nat.le_refl _)
  have hsp := fun (s : Nat) (hs : s < 64) => spanI_any p _ s _ (hu0.alloc (.cells #[.int .i64 g, .slice a l.length c] 27)) hpl hpm hs
  have HC := Lib.hid hc1
  have HIX := Lib.hid hix
  have HLM := Lib.hid hlm
  have HSP := Lib.hid hsp
  clear hc hc1 hix hlm hsp hpm
  go_enter Tryd.func56, Tryd.ntmps56
  go_wp2
  go_loop [13] (fun i => ∃ k : Nat, k ≤ l.length ∧ i = .int .i64 k ∧ (∀ j, (hj : j < l.length) → j < k → setOkP p l[j] = true)) (fun i => l.length - (intOf i).toNat)
  case atStart => exact ⟨0, Nat.zero_le _, rfl, by intros; omega⟩
  case round =>
    obtain ⟨k, hk, rfl, hyes⟩ := hrel
    have HY := Lib.hid hyes
    clear hyes
    by_cases hlt : k < l.length
    · have hlt2 : (k : Int) < (l.length : Int) := by omega
      have ck := HC.out k hlt
      have ik := fun W => HIX.out W k hlt
      have hm := HLM.out _ (List.getElem_mem hlt)
      obtain ⟨s, hse⟩ : ∃ s : Nat, l[k] = (s : Int) := ⟨l[k].toNat, by omega⟩
      have hok : setOkP p l[k] = ((s : Int) == 0 || spOk p s) := by unfold setOkP; rw [hse, Int.toNat_natCast]
      have hst := HSP.out s (by omega)
      have hno : setOkP p l[k] = false → fitP l p = false := fun h => by
        unfold fitP
        rw [List.all_eq_false]
        exact ⟨l[k], List.getElem_mem hlt, by rw [h]; simp⟩
      have hnx : setOkP p l[k] = true → ∀ j, (hj : j < l.length) → j < k + 1 → setOkP p l[j] = true := fun h j hj hjk => by
        by_cases e : j = k
        · subst e; exact h
        · exact HY.out j hj (by omega)
      rw [hse] at ck
      obtain ⟨o, ho⟩ : ∃ o, o = spOk p s := ⟨_, rfl⟩
      rw [← ho] at hok hst
      have HNO := Lib.hid hno
      have HNX := Lib.hid hnx
      have HST := Lib.hid hst
      clear hno hnx hst ho hse hm
      cases h0 : ((s : Int) == 0) with
      | true =>
        rw [h0, Bool.true_or] at hok
        have HOK := Lib.hid hok
        clear hok
        go_wp2
        go_round
        case rel => exact ⟨k + 1, by omega, by go_num, HNX.out HOK.out⟩
        case measure => simp [intOf]; omega
      | false =>
        rw [h0, Bool.false_or] at hok
        have HOK := Lib.hid hok
        clear hok
        cases o with
        | true =>
          go_wp2_with (go_at_call 76; refine HST.out.mono ?_; rintro e w3 ⟨rfl, rfl⟩)
          go_round
          case rel => exact ⟨k + 1, by omega, by go_num, HNX.out HOK.out⟩
          case measure => simp [intOf]; omega
        | false =>
          go_wp2_with (go_at_call 76; refine HST.out.mono ?_; rintro e w3 ⟨rfl, rfl⟩)
          go_ret
          exact ⟨by rw [HNO.out HOK.out]; rfl, bl1 _ _⟩
    · have hlt2 : ¬ (k : Int) < (l.length : Int) := by omega
      have hr : fitP l p = true := by
        unfold fitP
        rw [List.all_eq_true]
        intro x hx
        obtain ⟨j, hj, rfl⟩ := List.getElem_of_mem hx
        exact HY.out j hj (by omega)
      have HR := Lib.hid hr
      clear hr
      go_wp2
      go_ret
      exact ⟨by rw [HR.out]; rfl, bl1 _ _⟩
set_option maxHeartbeats 1000000 in
set_option maxRecDepth 100000 in
theorem ivI_c (w : World) (g : Int) (v : Value) (l : List Int) (hv : Ints w v l) :
    Calls Tryd.prog 29 #[.agg #[.int .i64 g, v]] w fun e w' => ∃ ad i cp, e = .returned (.tuple #[.slice ad i cp, .bool (ivB g l)]) ∧ OwnI 3 w.heap.size w' (.slice ad i cp) (ivL g l) ∧ Below w.heap.size w w' := by
  have hv0 := hv
  obtain ⟨a, c, rfl⟩ := hv.shape
  go_enter Tryd.func29, Tryd.ntmps29
  go_wp2_with fail
  refine calls_named ?_
  intro V hV
  have B : Below w.heap.size w V := by rw [hV]; exact bl1 _ _
  have K : Blk V w.heap.size 27 #[.int .i64 g, .slice a l.length c] := by rw [hV]; exact Blk.new _ _ _
  clear hV
  refine (isFamI_any g l _ V (hv.below B (Nat.le_refl _))).mono ?_
  rintro e w1 ⟨rfl, b1⟩
  have K := K.keep b1
  have B := B.after b1 B.size
  have G := K.cell
  have z := K.lt
  cases hf : isFamB g l with
  | false =>
    have hx : ivB g l = false ∧ ivL g l = [] := by unfold ivB ivL; rw [hf]; exact ⟨rfl, rfl⟩
    have HX := Lib.hid hx
    clear hx hf
    go_wp2
    go_ret2
    exact ⟨none, 0, 0, by rw [HX.out.1]; rfl, by rw [HX.out.2]; exact OwnI.nil _ _ _, B⟩
  | true =>
    obtain ⟨hg0, hg6, hlm, _⟩ := famOk hf
    obtain ⟨N, rfl⟩ : ∃ N : Nat, g = N := ⟨g.toNat, by omega⟩
    have h64 : ∀ s ∈ l, 0 ≤ s ∧ s < 64 := fun s hs => by obtain ⟨k, hk, rfl⟩ := List.getElem_of_mem hs; exact (famOk64 hf).2.2 k hk
    have hmem := ordersN_mem N N
    have hR : ivR (N : Int) l = (ordersN N N).find? (fitP l) := by unfold ivR; rw [Int.toNat_natCast]
    have hB : ivB (N : Int) l = (ivR (N : Int) l).isSome := by unfold ivB; rw [hf]; rfl
    have hL : ivL (N : Int) l = (ivR (N : Int) l).getD [] := by unfold ivL; rw [hf]; rfl
    have HOR := Lib.hid (ordersOf6_any N (by omega) w1)
    obtain ⟨ls, hls⟩ : ∃ ls, ls = ordersN N N := ⟨_, rfl⟩
    have hln := ordersN_len6 N (by omega) N
    have h66 : (6 : Nat) ^ N ≤ 6 ^ 6 := Nat.pow_le_pow_right (by decide) (by omega)
    rw [← hls] at hR hmem HOR hln
    have hln2 : ls.length ≤ 46656 := by omega
    have HRR := Lib.hid hR
    have HBB := Lib.hid hB
    have HLL := Lib.hid hL
    have HME := Lib.hid hmem
    have H64 := Lib.hid h64
    clear hf hlm hmem hR hB hL hls h64 hln h66
    go_wp2_with fail
    refine HOR.out.mono ?_
    rintro e w2 ⟨pO, iO, qO, rfl, oO, b2⟩
    obtain ⟨_, _, hsh, _⟩ := oO.len
    have hiO : iO = ls.length := by injection hsh
    subst hiO
    have K := K.keep b2
    have z1 := B.size
    have B := B.after b2 B.size
    clear G z hsh
    have zk := K.lt
    go_wp2_with fail
    go_loopw [13] (fun i wr => ∃ k : Nat, k ≤ ls.length ∧ i = .int .i64 k ∧ (∀ j, (hj : j < ls.length) → j < k → fitP l ls[j] = false) ∧ Below w2.heap.size w2 wr) (fun i _ => ls.length - (intOf i).toNat)
    case atStart => exact ⟨0, Nat.zero_le _, rfl, by intros; omega, Below.refl _ _⟩
    case round =>
      obtain ⟨k, hk, rfl, hno, Br⟩ := hrel
      obtain ⟨wo, rfl⟩ : ∃ z : World, z = wr := ⟨_, rfl⟩
      have HN := Lib.hid hno
      clear hno
      have Bw := B.after Br B.size
      by_cases hlt : k < ls.length
      · have hlt2 : (k : Int) < (ls.length : Int) := by omega
        obtain ⟨gg, u, hix, hcell, hu⟩ := (oO.keep Br).view Tryd.prog 35 Tryd.underlying35 sliceElem k hlt
        have hm := HME.out _ (List.getElem_mem hlt)
        have hft := fitsI_any (N : Int) l ls[k] _ _ wo (hv0.below Bw (Nat.le_refl _)) hu.ints (by omega) (fun x hx => by have := hm.2 x hx; omega) H64.out
        have hhit : fitP l ls[k] = true → ivR (N : Int) l = some ls[k] := fun h => by rw [HRR.out]; exact find_hit k hlt HN.out h
        have hnx : fitP l ls[k] = false → ∀ j, (hj : j < ls.length) → j < k + 1 → fitP l ls[j] = false := fun h j hj hjk => by
          by_cases e : j = k
          · subst e; exact h
          · exact HN.out j hj (by omega)
        have HNX := Lib.hid hnx
        obtain ⟨p, hp⟩ : ∃ p, p = ls[k] := ⟨_, rfl⟩
        rw [← hp] at hft hhit hu hnx HNX
        obtain ⟨o, ho⟩ : ∃ o, o = fitP l p := ⟨_, rfl⟩
        rw [← ho] at hft
        have HFT := Lib.hid hft
        have HHI := Lib.hid hhit
        have HOO := Lib.hid ho
        have HU := Lib.hid (hu.mono (show w.heap.size ≤ w1.heap.size from z1))
        obtain ⟨ua, un, uc, rfl⟩ := hu.shape3
        have Kw := K.keep Br
        have G := Kw.cell
        have zz := Kw.lt
        clear hnx hhit hft ho hp hm hu
        cases o with
        | true =>
          go_wp2_with fail
          refine HFT.out.mono ?_
          rintro e w3 ⟨rfl, b3⟩
          go_wp2
          go_ret2
          exact ⟨ua, un, uc, by rw [HBB.out, HHI.out HOO.out.symm]; rfl, by rw [HLL.out, HHI.out HOO.out.symm]; exact HU.out.keep b3, Bw.after b3 Bw.size⟩
        | false =>
          go_wp2_with fail
          refine HFT.out.mono ?_
          rintro e w3 ⟨rfl, b3⟩
          go_wp2
          go_roundw
          case rel => exact ⟨k + 1, by omega, by go_num, HNX.out HOO.out.symm, Br.after b3 Br.size⟩
          case measure => simp [intOf]; omega
      · have hlt2 : ¬ (k : Int) < (ls.length : Int) := by omega
        have hr : ivR (N : Int) l = none := by rw [HRR.out]; exact find_miss (fun j hj => HN.out j hj (by omega))
        have HR := Lib.hid hr
        clear hr
        go_wp2
        go_ret2
        exact ⟨none, 0, 0, by rw [HBB.out, HR.out]; rfl, by rw [HLL.out, HR.out]; exact OwnI.nil _ _ _, Bw⟩
end Go.Proofs.YtelmokapdkepbaaDoor
end
