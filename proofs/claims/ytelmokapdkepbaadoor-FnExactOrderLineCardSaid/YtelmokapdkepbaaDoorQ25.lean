/- Orders and corners: the second program. -/
import Derived.Test.YtelmokapdkepbaaDoorQ24
import Derived.Maps.AppendAt
section
namespace Go.G5
open Go Go.RowKit
theorem OwnLL.lit0 {EI EO : TypeId} {B : Nat} (w : World) (hB : B ≤ w.heap.size) : OwnLL EI EO B (w.alloc (.cells #[] EO)) (.slice (some ⟨w.heap.size, 0, none⟩) 0 0) [] :=
  ⟨[], World.ownsRow_lit w #[] 0 hB (Nat.zero_le _) rfl, by simp⟩
theorem OwnLL.alloc {EI EO : TypeId} {B : Nat} {w : World} {v : Value} {ls : List (List Int)} (h : OwnLL EI EO B w v ls) (o : Obj) : OwnLL EI EO B (w.alloc o) v ls := h.keep (bl1 w o)
theorem OwnLL.one {EI EO : TypeId} {B : Nat} {w : World} {v : Value} {l : List Int} (h : OwnI EI B w v l) (hB : B ≤ w.heap.size) : OwnLL EI EO B (w.alloc (.cells #[v] EO)) (.slice (some ⟨w.heap.size, 0, none⟩) 1 1) [l] := by
  refine ⟨[v], World.ownsRow_lit w #[v] 1 hB (by decide) rfl, ?_⟩
  intro k u hu
  cases k with
  | zero => simp only [List.getElem?_cons_zero, Option.some.injEq] at hu; subst hu; exact ⟨l, rfl, h.alloc _⟩
  | succ k => simp at hu
theorem run_appendLL {P : Program} {w : World} {EI EO : TypeId} (T ty : TypeId) (hT : P.underlying T = some (.slice EO)) (hE : SliceElem P EO) (hne : EI ≠ EO) (B : Nat) (v : Value) (ls : List (List Int)) (hown : OwnLL EI EO B w v ls)
    (B' : Nat) (sv : Value) (ms : List (List Int)) (hs : OwnLL EI EO B' w sv ms) (hBB : B ≤ B') (hlen : ls.length + ms.length ≤ 5497558138879) (hB : B ≤ w.heap.size) :
    ∃ v' w', (Builtin.append_ #[T, T] ty #[v, sv]).run P w = .ok v' w' ∧ OwnLL EI EO B w' v' (ls ++ ms) ∧ w.grownBy w' v.ownBlock ∧ NearBy w v v' := by
  obtain ⟨i, hi, hz, h1, h8⟩ := hE.get
  obtain ⟨vs, ho1, ho2⟩ := hown
  obtain ⟨us, hs1, hs2⟩ := hs
  have hso0 := hs1
  have hul := hs1.1
  rcases hs1.2 with ⟨rfl, hn0⟩ | ⟨g, cap, cur, rfl, hBg, hg, hmc, hmm, hcs, ht⟩
  · have : ms = [] := List.eq_nil_of_length_eq_zero hn0
    subst this
    refine ⟨v, w, ?_, by rw [List.append_nil]; exact ⟨vs, ho1, ho2⟩, World.grownBy.refl w _, .inl rfl⟩
    rcases ho1.2 with ⟨rfl, hn⟩ | ⟨g, cap, cur, rfl, _, _, hnc, _⟩
    · simp [Builtin.append_, run_underlying hT, sizeOf, typeInfo, hi, Builtin.lenOf, Builtin.firstCells]
    · simp [Builtin.append_, run_underlying hT, sizeOf, typeInfo, hi, Builtin.lenOf, Builtin.firstCells, hnc, storeCells]
  · have hone : ∀ u ∈ us, u.oneCell' = true := by
      intro u hu
      obtain ⟨j, hj, rfl⟩ := List.getElem_of_mem hu
      obtain ⟨l, _, h4⟩ := hs2 j us[j] (List.getElem?_eq_getElem hj)
      obtain ⟨a', n', c', e⟩ := h4.shape3
      rw [e]; rfl
    obtain ⟨v', w', hrun, h2, h3, _, h5⟩ := run_append_own_at (P := P) w B T ty EO i (.slice none 0 0) 1 24 hT hi hz h1 h8 rfl (by decide) v ls.length vs ho1 ⟨g, 0, none⟩ ms.length cap us (by omega)
      (by
        intro j u hj
        have hjl : j < us.length := by
          rcases Nat.lt_or_ge j us.length with h | h
          · exact h
          · rw [List.getElem?_eq_none h] at hj; cases hj
        have e : (⟨g, 0, none⟩ : Addr).add j = ⟨g, j, none⟩ := by
          unfold Addr.add; split
          · rename_i h0; rw [h0]
          · simp
        rw [e, hso0.cellAt j (by omega)]
        exact hj)
      hone (by unfold maxLen; omega) (by omega) hB
    refine ⟨v', w', hrun, ⟨vs ++ us, by rw [List.length_append]; exact h2, fun k q hq => ?_⟩, h3, h5⟩
    have hl := ho1.1
    by_cases hk : k < vs.length
    · rw [List.getElem?_append_left hk] at hq
      obtain ⟨l', h3', h4⟩ := ho2 k q hq
      exact ⟨l', by rw [List.getElem?_append_left (by omega)]; exact h3', h4.grow h3 (own_ne h4.1 ho1 hne)⟩
    · rw [List.getElem?_append_right (by omega)] at hq
      obtain ⟨l', h3', h4⟩ := hs2 _ q hq
      exact ⟨l', by rw [List.getElem?_append_right (by omega), show k - ls.length = k - vs.length by omega]; exact h3', (h4.grow h3 (own_ne h4.1 ho1 hne)).mono hBB⟩
theorem wp_appendLL {P : Program} {w : World} {EI EO : TypeId} {o : Oper} {a : Act} {K : Act → World → Prop} {Q : Exit → Act → World → Prop} (s x : Operand) (t : TypeId)
    (ho : o.op = .call { callee := .builtin .append, args := #[s, x], argTypes := #[t, t] })
    (hT : P.underlying t = some (.slice EO)) (hE : SliceElem P EO) (hne : EI ≠ EO) (B : Nat) (v : Value) (ls : List (List Int)) (hs : a.eval s = v) (hown : OwnLL EI EO B w v ls)
    (B' : Nat) (sv : Value) (ms : List (List Int)) (hx : a.eval x = sv) (hsv : OwnLL EI EO B' w sv ms) (hBB : B ≤ B') (hlen : ls.length + ms.length ≤ 5497558138879) (hB : B ≤ w.heap.size)
    (h : ∀ v' w', OwnLL EI EO B w' v' (ls ++ ms) → w.grownBy w' v.ownBlock → NearBy w v v' → K (a.put o.dst v') w') : o.wp P a w K Q := by
  obtain ⟨v', w', hrun, h2, h3, h4⟩ := run_appendLL (P := P) t o.type hT hE hne B v ls hown B' sv ms hsv hBB hlen hB
  unfold Oper.wp execOp
  simp only [ho, resolve, invoke, builtin, Sem.run_bind, Sem.run_pure, Result.andThen_ok, List.map_toArray, List.map_cons, List.map_nil, hs, hx, hrun]
  exact h v' w' h2 h3 h4
theorem wpList_appendLL {P : Program} {w : World} {EI EO : TypeId} {ops : Array Oper} {rest : List Oper} {o : Oper} {a : Act} {Q : Exit → Act → World → Prop} (hgd : o.guard = none) (s x : Operand) (t : TypeId)
    (ho : o.op = .call { callee := .builtin .append, args := #[s, x], argTypes := #[t, t] })
    (hT : P.underlying t = some (.slice EO)) (hE : SliceElem P EO) (hne : EI ≠ EO) (B : Nat) (v : Value) (ls : List (List Int)) (hs : a.eval s = v) (hown : OwnLL EI EO B w v ls)
    (B' : Nat) (sv : Value) (ms : List (List Int)) (hx : a.eval x = sv) (hsv : OwnLL EI EO B' w sv ms) (hBB : B ≤ B') (hlen : ls.length + ms.length ≤ 5497558138879) (hB : B ≤ w.heap.size)
    (h : ∀ v' w', OwnLL EI EO B w' v' (ls ++ ms) → w.grownBy w' v.ownBlock → NearBy w v v' → wpList P ops Q rest (a.put o.dst v') w') : wpList P ops Q (o :: rest) a w :=
  wpList_plain hgd fun _ hK => wp_appendLL s x t ho hT hE hne B v ls hs hown B' sv ms hx hsv hBB hlen hB fun v' w' h2 h3 h4 => hK _ _ (h v' w' h2 h3 h4)
end Go.G5
namespace Go.Proofs.YtelmokapdkepbaaDoor
open Go.RowKit Go.G5

/-- the elements below N, each at most once -/
structure Dist (N : Nat) (o : List Int) : Prop where
  bd : ∀ x ∈ o, 0 ≤ x ∧ x < (N : Int)
  nd : o.Nodup
set_option maxHeartbeats 8000000 in
set_option maxRecDepth 100000 in
theorem l8Orders_any (N : Nat) (hN : N ≤ 5) : ∀ (m : Nat) (p : List Int) (v : Value) (w : World) (B : Nat), p.length + m = N → Dist N p → OwnI 3 B w v p → B ≤ w.heap.size →
    Calls Tryd.prog 41 #[.int .i64 (N : Int), v] w fun e w' => ∃ a i c ls, e = .returned (.slice a i c) ∧ OwnLL 3 22 B w' (.slice a i c) ls ∧ ls.length ≤ 5 ^ m ∧ (∀ o ∈ ls, o.length = N ∧ Dist N o) ∧ Below w.heap.size w w' := by
  intro m
  induction m with
  | zero =>
    intro p v w B hpm hd hv hB
    obtain ⟨av, cv, rfl⟩ := hv.shape
    have ht : ((p.length : Int) == (N : Int)) = true := by simp; omega
    have o1 := OwnLL.one (EO := 22) hv hB
    have hpn : p.length = N := by omega
    have HP := Lib.hid hpn
    clear hpm hpn
    go_enter Tryd.func41, Tryd.ntmps41
    go_wp2
    go_ret
    first
      | exact ⟨_, _, _, [p], rfl, o1, by simp, fun o ho => by rw [List.mem_singleton.1 ho]; exact ⟨HP.out, hd⟩, bl1 _ _⟩
      | exact ⟨_, _, _, rfl, [p], o1, by simp, fun o ho => by rw [List.mem_singleton.1 ho]; exact ⟨HP.out, hd⟩, bl1 _ _⟩
  | succ m ih =>
    intro p v w B hpm hd hv hB
    obtain ⟨av, cv, rfl⟩ := hv.shape
    have ht : ((p.length : Int) == (N : Int)) = false := by simp; omega
    have hp5 : p.length ≤ 5 := by omega
    have IH := Lib.hid ih
    have HPM := Lib.hid hpm
    have HV := Lib.hid hv
    have HD := Lib.hid hd
    have hm4 : m ≤ 4 := by omega
    have h5m : (5 : Nat) ^ m ≤ 625 := Nat.le_trans (Nat.pow_le_pow_right (by decide) hm4) (by decide)
    have o0 := OwnLL.lit0 (EI := 3) (EO := 22) (B := w.heap.size) w (Nat.le_refl _)
    clear ih hpm hv hd
    go_enter Tryd.func41, Tryd.ntmps41
    go_wp2_with fail
    go_loopw [5, 6] (fun out i wr => ∃ (x : Nat) (a : Option Addr) (q c : Nat) (ls : List (List Int)), x ≤ N ∧ i = .int .i64 x ∧ out = .slice a q c ∧ OwnLL 3 22 w.heap.size wr (.slice a q c) ls ∧ ls.length ≤ x * 5 ^ m ∧ (∀ o ∈ ls, o.length = N ∧ Dist N o) ∧ Below w.heap.size w wr) (fun _ i _ => N - (intOf i).toNat)
    case atStart => exact ⟨0, _, _, _, [], Nat.zero_le _, rfl, rfl, o0, by simp, by simp, bl1 _ _⟩
    case round =>
      obtain ⟨x, a, q, c, ls, hx, rfl, rfl, ho, hll, hls, Bw⟩ := hrel
      have HO := Lib.hid ho
      have HLS := Lib.hid hls
      have HLL := Lib.hid hll
      have hl5 : ls.length ≤ 3125 := Nat.le_trans hll (Nat.le_trans (Nat.mul_le_mul (show x ≤ 5 by omega) h5m) (by decide))
      have hvr := (HV.out.below Bw (Nat.le_refl _)).ints
      clear o0 ho hls hll
      obtain ⟨wz, hwz⟩ : ∃ wz : World, wz = wr := ⟨_, rfl⟩
      by_cases hlt : x < N
      · have hlt2 : (x : Int) < (N : Int) := by omega
        obtain ⟨_, b, off, _, hva, _, hix, hc, hb⟩ := hvr.view Tryd.prog 22 3 Tryd.underlying22 intElem
        injection hva with e1 _ e3
        subst e1 e3
        have HC := Lib.hid hc
        have HIX := Lib.hid hix
        clear hc hix hb
        go_wp2_with fail
        go_loop [7, 8] (fun u i => ∃ k : Nat, k ≤ p.length ∧ i = .int .i64 k ∧ u = .bool (decide ((x : Int) ∈ p.take k))) (fun _ i => p.length - (intOf i).toNat)
        case atStart => exact ⟨0, Nat.zero_le _, rfl, by simp⟩
        case round =>
          obtain ⟨k, hk, rfl, rfl⟩ := hrel
          by_cases hkl : k < p.length
          · have hkl2 : (k : Int) < (p.length : Int) := by omega
            have ck := HC.out k hkl
            have ik := fun W => HIX.out W k hkl
            have hsu : decide ((x : Int) ∈ p.take (k + 1)) = (decide ((x : Int) ∈ p.take k) || (p[k] == (x : Int))) := by
              rw [List.take_succ_eq_append_getElem hkl]
              simp only [List.mem_append, List.mem_singleton, Bool.decide_or]
              congr 1
              exact decide_eq_decide.2 ⟨fun e => e.symm, fun e => e.symm⟩
            obtain ⟨y, hy⟩ : ∃ y, y = p[k] := ⟨_, rfl⟩
            rw [← hy] at ck hsu
            have HSU := Lib.hid hsu
            clear hsu hy
            obtain ⟨t, ht2⟩ : ∃ t, decide ((x : Int) ∈ p.take k) = t := ⟨_, rfl⟩
            rw [ht2] at HSU ⊢
            clear ht2
            obtain ⟨t3, ht3⟩ : ∃ t, (y == (x : Int)) = t := ⟨_, rfl⟩
            rw [ht3] at HSU
            cases t with
            | true =>
              go_wp2
              go_round
              case rel => exact ⟨k + 1, by omega, by go_num, by rw [HSU.out]; rfl⟩
              case measure => simp [intOf]; omega
            | false =>
              cases t3 with
              | true =>
                go_wp2
                go_round
                case rel => exact ⟨k + 1, by omega, by go_num, by rw [HSU.out]; rfl⟩
                case measure => simp [intOf]; omega
              | false =>
                go_wp2
                go_round
                case rel => exact ⟨k + 1, by omega, by go_num, by rw [HSU.out]; rfl⟩
                case measure => simp [intOf]; omega
          · have hkp : k = p.length := by omega
            have hkl2 : ¬ (k : Int) < (p.length : Int) := by omega
            obtain ⟨t, ht2⟩ : ∃ t, decide ((x : Int) ∈ p.take k) = t := ⟨_, rfl⟩
            rw [ht2]
            cases t with
            | true =>
              clear ht2 hkp
              go_wp2
              go_roundw
              case rel => exact ⟨x + 1, a, q, c, ls, by omega, by go_num, rfl, HO.out, Nat.le_trans HLL.out (Nat.mul_le_mul_right _ (by omega)), HLS.out, Bw⟩
              case measure => simp [intOf]; omega
            | false =>
              have hnx : (x : Int) ∉ p := by
                have := of_decide_eq_false ht2
                rw [hkp, List.take_length] at this
                exact this
              have hER : InR (x : Int) := ⟨by omega, by omega⟩
              have HER := Lib.hid hER
              have hdx : Dist N (([] ++ p) ++ [(x : Int)]) := by
                refine ⟨fun z hz => ?_, ?_⟩
                · rw [List.nil_append] at hz
                  rcases List.mem_append.1 hz with hz | hz
                  · exact HD.out.bd z hz
                  · rw [List.mem_singleton.1 hz]; omega
                · rw [List.nil_append]
                  refine List.nodup_append.2 ⟨HD.out.nd, by simp, ?_⟩
                  intro z hz y hy e
                  rw [List.mem_singleton.1 hy] at e
                  exact hnx (e ▸ hz)
              have hrec := fun (v6 : Value) (w6 : World) (h1 : OwnI 3 wr.heap.size w6 v6 (([] ++ p) ++ [(x : Int)])) (h2 : wr.heap.size ≤ w6.heap.size) => IH.out (([] ++ p) ++ [(x : Int)]) v6 w6 wr.heap.size (by have := HPM.out; simp; omega) hdx h1 h2
              have HREC := Lib.hid hrec
              clear ht2 hkp hnx hdx hrec hER
              go_wp2_with (first
  | (at_builtin; refine wpList_appendN rfl _ _ _ rfl 3 Tryd.underlying22 intElem wr.heap.size (.slice (some ⟨wr.heap.size, 0, none⟩) 0 0) [] rfl (OwnI.lit0 wr (Nat.le_refl _)) (.slice av p.length cv) p rfl (hvr.alloc _) (by simp; omega) (bl1 wr _).size ?_; intro v5 w5 o5 g5 n5; have b5 := (bl1 wr (.cells #[] 3)).grown g5 (bl1 wr (.cells #[] 3)).size (fun q hq => ((OwnI.lit0 (E := 3) wr (Nat.le_refl wr.heap.size)).lt q hq).1))
  | (at_builtin; refine wpList_appendN1 rfl _ _ _ rfl 3 Tryd.underlying22 intElem wr.heap.size v5 ([] ++ p) (x : Int) w5.heap.size rfl rfl (cell_new _ _ _ _ _ rfl) (o5.alloc _) HER.out (by simp; omega) (b5.alloc b5.size _).size ?_; intro v6 w6 o6 g6 n6; have b6 := (b5.alloc b5.size _).grown g6 (b5.alloc b5.size _).size (fun q hq => (o5.lt q hq).1))
  | (go_at_call 41; refine (HREC.out v6 w6 o6 b6.size).mono ?_; rintro e7 w7 ⟨p7, q7, c7, ms, rfl, o7, hm7, hms, b7⟩; have bb := b6.after b7 b6.size; have oo := HO.out.keep bb)
  | (at_builtin; refine wpList_appendLL rfl _ _ _ rfl Tryd.underlying35 sliceElem noMeet w.heap.size _ ls rfl oo wr.heap.size _ ms rfl o7 Bw.size (by omega) (Bw.after bb Bw.size).size ?_; intro v8 w8 o8 g8 _))
              obtain ⟨a8, n8, c8, rfl⟩ := o8.shape3
              have B7 := Bw.after bb Bw.size
              go_roundw
              case rel =>
                refine ⟨x + 1, a8, n8, c8, ls ++ ms, by omega, by go_num, rfl, o8, ?_, fun o ho => ?_, B7.grown g8 B7.size (fun k hk => (oo.lt k hk).1)⟩
                · rw [List.length_append, Nat.succ_mul]; have := HLL.out; omega
                · rcases List.mem_append.1 ho with ho | ho
                  · exact HLS.out o ho
                  · exact hms o ho
              case measure => simp [intOf]; omega
      · have hxN : x = N := by omega
        have hlt2 : ¬ (x : Int) < (N : Int) := by omega
        have hle : ls.length ≤ 5 ^ (m + 1) := by
          rw [Nat.pow_succ, Nat.mul_comm]
          exact Nat.le_trans HLL.out (Nat.mul_le_mul_right _ (by omega))
        have HLE := Lib.hid hle
        clear hxN hle
        go_wp2
        go_ret
        first
          | exact ⟨a, q, c, ls, rfl, HO.out.mono hB, HLE.out, HLS.out, Bw⟩
          | exact ⟨a, q, c, rfl, ls, HO.out.mono hB, HLE.out, HLS.out, Bw⟩
end Go.Proofs.YtelmokapdkepbaaDoor
end
