/- Modular functions: the second program's contract. -/
import Derived.Test.YtmlpcohailjccaaModI
import Derived.Test.YtmlpcohailjccaaFomS
namespace Go.Proofs.Ytmlpcohailjccaa
open Go.RowKit Go.G5

set_option maxHeartbeats 2000000 in
set_option maxRecDepth 100000 in
theorem modS_c (w : World) (v : Value) (x : List Int) (hv : Ints w v x) (c : Int) :
    Calls Try.prog 84 #[v, .int .i64 c] w fun e w' => ∃ ad i cp, e = .returned (.tuple #[.agg #[.int .i64 (modN x c), .slice ad i cp], .bool (modB x c)]) ∧ OwnI 3 w.heap.size w' (.slice ad i cp) (modL x c) ∧ Below w.heap.size w w' := by
  have hv0 := hv
  obtain ⟨a, b, off, d, rfl, hlen, hix, hc, hb⟩ := hv.view Try.prog 22 3 Try.underlying22 intElem
  have hno : modG x c = false → modN x c = 0 ∧ modL x c = [] ∧ modB x c = false := fun h => by
    have hb : modB x c = false := by unfold modB; rw [h]; rfl
    exact ⟨by unfold modN; rw [hb]; rfl, by unfold modL; rw [hb]; rfl, hb⟩
  obtain ⟨wl, hV⟩ : ∃ V, V = w.alloc (.cells #[.int .i64 0, .slice none 0 0] 26) := ⟨_, rfl⟩
  have B : Below w.heap.size w wl := by rw [hV]; exact bl1 _ _
  have K3 : Blk wl w.heap.size 26 #[.int .i64 0, .slice none 0 0] := by rw [hV]; exact Blk.new _ _ _
  have G3 := K3.cell
  have F3 := K3.frozen
  have z3 := K3.lt
  by_cases h5 : x.length ≤ 5
  · have h5i : ¬ (5 : Int) < (x.length : Int) := by omega
    have HIN := Lib.hid (l1In_any c (-1000) 1000 wl)
    have hc1 := cells_below hc hb B (Nat.le_refl _)
    cases hi : inB c (-1000) 1000 with
    | false =>
      have H := Lib.hid (hno (by unfold modG; rw [hi]; simp))
      rw [hi] at HIN
      clear hi hno hc hc1 hix
      go_enter Try.func84, Try.ntmps84
      go_wp2_with fail
      rw [← hV]
      clear hV
      refine HIN.out.mono ?_
      rintro e w1 ⟨rfl, rfl⟩
      go_wp2
      refine post_named ?_
      intro Wf hWf
      have K3f : Blk Wf w.heap.size 26 #[.int .i64 0, .slice none 0 0] := by
        rw [hWf]
        first
          | exact K3
          | (have := (K3.set 0 (.int .i64 0)).set 1 (.slice none 0 0); simpa using this)
      have hg : wl.grownBy Wf (some w.heap.size) := by
        rw [hWf]
        first
          | exact World.grownBy.refl _ _
          | exact grow_set (grow_set (World.grownBy.refl _ _) 0 _) 1 _
      have Bf : Below w.heap.size w Wf := B.grown hg B.size (fun q hq => by have := Option.some.inj hq; omega)
      have Gf := K3f.cell
      clear hWf
      exact bodyPost_ret (v := .tuple #[.agg #[.int .i64 0, .slice none 0 0], .bool false]) (by simp [results, Try.results84, go_sem, Gf]) rfl ⟨none, 0, 0, by rw [H.out.1, H.out.2.2], by rw [H.out.2.1]; exact OwnI.nil _ _ _, Bf⟩
    | true =>
      rw [hi] at HIN
      have HNO := Lib.hid hno
      have HI := Lib.hid hi
      have HC1 := Lib.hid hc1
      have HIX := Lib.hid hix
      clear hi hno hc hc1 hix
      go_enter Try.func84, Try.ntmps84
      go_wp2_with fail
      rw [← hV]
      clear hV
      refine HIN.out.mono ?_
      rintro e w1 ⟨rfl, rfl⟩
      go_wp2_with fail
      go_loop [6] (fun i => ∃ k : Nat, k ≤ x.length ∧ i = .int .i64 k ∧ (x.take k).all (fun y => inB y (-1000) 1000) = true) (fun i => x.length - (intOf i).toNat)
      case atStart => exact ⟨0, Nat.zero_le _, rfl, by simp⟩
      case round =>
        obtain ⟨k, hk, rfl, hall⟩ := hrel
        have HA := Lib.hid hall
        clear hall
        by_cases hlt : k < x.length
        · have hlt2 : (k : Int) < (x.length : Int) := by omega
          have ck := HC1.out k hlt
          have ik := fun W => HIX.out W k hlt
          have htk : (x.take (k + 1)).all (fun y => inB y (-1000) 1000) = ((x.take k).all (fun y => inB y (-1000) 1000) && inB x[k] (-1000) 1000) := all_take_succ _ _ _ hlt
          have hff : inB x[k] (-1000) 1000 = false → modG x c = false := fun h => by
            unfold modG allIn
            rw [all_false_at (fun y => inB y (-1000) 1000) x k hlt h]; simp
          obtain ⟨y, hy⟩ : ∃ y, y = x[k] := ⟨_, rfl⟩
          rw [← hy] at ck htk hff
          have HT := Lib.hid htk
          have HFF := Lib.hid hff
          have HIY := Lib.hid (l1In_any y (-1000) 1000 wl)
          clear htk hff hy
          cases hyb : inB y (-1000) 1000 with
          | false =>
            have H := Lib.hid (HNO.out (HFF.out hyb))
            rw [hyb] at HIY
            clear hyb
            go_wp2_with fail
            refine HIY.out.mono ?_
            rintro e w1 ⟨rfl, rfl⟩
            go_wp2
            refine post_named ?_
            intro Wf hWf
            have K3f : Blk Wf w.heap.size 26 #[.int .i64 0, .slice none 0 0] := by
              rw [hWf]
              first
                | exact K3
                | (have := (K3.set 0 (.int .i64 0)).set 1 (.slice none 0 0); simpa using this)
            have hg : wl.grownBy Wf (some w.heap.size) := by
              rw [hWf]
              first
                | exact World.grownBy.refl _ _
                | exact grow_set (grow_set (World.grownBy.refl _ _) 0 _) 1 _
            have Bf : Below w.heap.size w Wf := B.grown hg B.size (fun q hq => by have := Option.some.inj hq; omega)
            have Gf := K3f.cell
            clear hWf
            exact bodyPost_ret (v := .tuple #[.agg #[.int .i64 0, .slice none 0 0], .bool false]) (by simp [results, Try.results84, go_sem, Gf]) rfl ⟨none, 0, 0, by rw [H.out.1, H.out.2.2], by rw [H.out.2.1]; exact OwnI.nil _ _ _, Bf⟩
          | true =>
            have HYB := Lib.hid hyb
            rw [hyb] at HIY
            clear hyb
            go_wp2_with fail
            refine HIY.out.mono ?_
            rintro e w1 ⟨rfl, rfl⟩
            go_wp2
            go_round
            case rel => exact ⟨k + 1, by omega, by go_num, by rw [HT.out, HA.out, HYB.out]; rfl⟩
            case measure => simp [intOf]; omega
        · have hlt2 : ¬ (k : Int) < (x.length : Int) := by omega
          have hal : allIn x (-1000) 1000 = true := by unfold allIn; rw [← all_of_take (fun y => inB y (-1000) 1000) x k (by omega), HA.out]
          have hG : modG x c = true := by unfold modG; rw [hal, HI.out, decide_eq_true h5]; rfl
          have HG := Lib.hid hG
          have p5 := two_pow x.length 5 h5
          obtain ⟨N, hN⟩ : ∃ N : Nat, N = 2 ^ x.length := ⟨_, rfl⟩
          have hNi : (2 : Int) ^ x.length = (N : Int) := by rw [hN]; push_cast; rfl
          have HN := Lib.hid hN
          have HNI := Lib.hid hNi
          have HZ := Lib.hid z3
          clear hal hG hN hNi G3 F3 HA
          go_wp2_with fail
          go_loopw [7, 8] (fun vv i wr => ∃ (t : Nat) (ad : Option Addr) (nn cp : Nat), t ≤ N ∧ i = .int .i64 t ∧ vv = .slice ad nn cp ∧ OwnI 3 wl.heap.size wr (.slice ad nn cp) (madeL (modF x c) t) ∧ Below wl.heap.size wl wr) (fun _ i _ => N - (intOf i).toNat)
          case atStart => exact ⟨0, _, _, _, Nat.zero_le _, rfl, rfl, OwnI.lit0 wl (Nat.le_refl _), bl1 _ _⟩
          case round =>
            obtain ⟨t, ad, nn, cp, ht, rfl, rfl, ho, Bt⟩ := hrel
            have hvt := (hv0.below B (Nat.le_refl _)).keep Bt
            have hN32 : N ≤ 32 := by
              rw [HN.out]
              have : (2 : Nat) ^ x.length ≤ 2 ^ 5 := Nat.pow_le_pow_right (by decide) h5
              omega
            have hml : (madeL (modF x c) t).length = t := by unfold madeL; simp
            by_cases hlt : t < N
            · have hlt2 : (t : Int) < 2 ^ x.length := by rw [HNI.out]; omega
              have hwb := mod_wt_bd HG.out (t : Int)
              have hcb := (modG_true HG.out).2.2
              have hxb := (modG_true HG.out).2.1
              have HW := Lib.hid (fun W (h : Ints W (.slice a x.length d) x) => l3Weigh_any x (.slice a x.length d) (t : Int) W h (by omega) (by omega) (fun k hk => by have := hxb k hk; omega) (by omega))
              have hsu := madeL_succ (modF x c) t
              have hmt : modF x c t = c + wt x (t : Int) := rfl
              obtain ⟨q, hq⟩ : ∃ q, q = wt x (t : Int) := ⟨_, rfl⟩
              rw [← hq] at hwb hmt
              simp only [← hq] at HW
              rw [hmt] at hsu
              have HSU := Lib.hid hsu
              have hlen9 : (madeL (modF x c) t).length < 17592186044415 := by omega
              have hy : InR (c + q) := ⟨by omega, by omega⟩
              have HY := Lib.hid (And.intro hlen9 hy)
              have hrow := ho.lt
              have HO := Lib.hid ho
              clear hq hmt hsu hxb hml hlen9 hy ho
              go_wp2_with fail
              refine (HW.out _ hvt).mono ?_
              rintro e w5 ⟨rfl, rfl⟩
              go_wp2_with (at_builtin; refine wpList_appendI rfl _ _ _ rfl 3 Try.underlying22 intElem wl.heap.size _ _ (c + q) wr.heap.size rfl rfl (cell_new _ _ _ 0 _ rfl) (HO.out.alloc _) HY.out.2 (by have := HY.out.1; omega) (by have := Bt.size; simp; omega) ?_; intro v' w6 hown hgr; obtain ⟨av, nv, cv, rfl⟩ := hown.shape3)
              go_roundw
              case rel => exact ⟨t + 1, av, nv, cv, by omega, by go_num, rfl, by rw [HSU.out]; exact hown, (Bt.alloc Bt.size _).grown hgr (Bt.alloc Bt.size _).size (fun q hq => (hrow q hq).1)⟩
              case measure => simp [intOf]; omega
            · have hlt2 : ¬ (t : Int) < 2 ^ x.length := by rw [HNI.out]; omega
              have htN : t = N := by omega
              subst htN
              have hB : modB x c = isFunB x.length (madeL (modF x c) t) := by unfold modB; rw [HG.out, HN.out]; rfl
              have K3 := K3.keep Bt
              have B := B.after Bt B.size
              have z3 := K3.lt
              cases hf : isFunB x.length (madeL (modF x c) t) with
              | false =>
                have hbF : modB x c = false := by rw [hB, hf]
                have hN0 : modN x c = 0 := by unfold modN; rw [hbF]; rfl
                have hL0 : modL x c = [] := by unfold modL; rw [hbF]; rfl
                have H := Lib.hid (And.intro hN0 (And.intro hL0 hbF))
                have HM := Lib.hid (l2Made_no wr (x.length : Int) ad nn cp _ ho.ints hf)
                clear hbF hN0 hL0 hf hB
                go_wp2_with fail
                refine HM.out.mono ?_
                rintro e w6 ⟨rfl, b6⟩
                have K3 := K3.keep b6
                have B := B.after b6 B.size
                have z3 := K3.lt
                obtain ⟨wl, rfl⟩ : ∃ wl : World, wl = w6 := ⟨_, rfl⟩
                have F3 := K3.frozen
                have G3 := K3.cell
                go_wp2
                refine post_named ?_
                intro Wf hWf
                have K3f : Blk Wf w.heap.size 26 #[.int .i64 0, .slice none 0 0] := by
                  rw [hWf]
                  have := ((K3.set 0 (.int .i64 0)).set 1 (.slice none 0 0)).alloc (.cells #[.int .i64 0, .slice none 0 0] 26)
                  simpa using this
                have hg : wl.grownBy Wf (some w.heap.size) := by rw [hWf]; exact gr_trans (grow_set (grow_set (World.grownBy.refl _ _) 0 _) 1 _) (gr_below _ (bl1 _ _))
                have Bf : Below w.heap.size w Wf := B.grown hg B.size (fun q hq => by have := Option.some.inj hq; omega)
                have Gf := K3f.cell
                clear hWf
                exact bodyPost_ret (v := .tuple #[.agg #[.int .i64 0, .slice none 0 0], .bool false]) (by simp [results, Try.results84, go_sem, Gf]) rfl ⟨none, 0, 0, by rw [H.out.1, H.out.2.2], by rw [H.out.2.1]; exact OwnI.nil _ _ _, Bf⟩
              | true =>
                have hbF : modB x c = true := by rw [hB, hf]
                have hN0 : modN x c = (x.length : Int) := by unfold modN; rw [hbF]; rfl
                have hL0 : modL x c = madeL (modF x c) t := by unfold modL; rw [hbF, if_pos rfl, HN.out]
                have H := Lib.hid (And.intro hN0 (And.intro hL0 hbF))
                have HM := Lib.hid (l2Made_yes wr (x.length : Int) ad nn cp _ ho.ints hf)
                have zb := Bt.size
                have zw := B.size
                clear hbF hN0 hL0 hf hB
                go_wp2_with fail
                refine HM.out.mono ?_
                rintro e w6 ⟨rfl, b6⟩
                have K3 := K3.keep b6
                have B := B.after b6 B.size
                have z3 := K3.lt
                have o6 := ho.keep b6
                have ro := ho.lt
                have F3 := K3.frozen
                have G3 := K3.cell
                go_wp2
                refine post_named ?_
                intro Wf hWf
                have K3f : Blk Wf w.heap.size 26 #[.int .i64 (x.length : Int), .slice ad nn cp] := by
                  rw [hWf]
                  have := ((K3.set 0 (.int .i64 (x.length : Int))).set 1 (.slice ad nn cp)).alloc (.cells #[.int .i64 (x.length : Int), .slice ad nn cp] 26)
                  simpa using this
                have hg : w6.grownBy Wf (some w.heap.size) := by rw [hWf]; exact gr_trans (grow_set (grow_set (World.grownBy.refl _ _) 0 _) 1 _) (gr_below _ (bl1 _ _))
                have Bf : Below w.heap.size w Wf := B.grown hg B.size (fun q hq => by have := Option.some.inj hq; omega)
                have zwl : w.heap.size < wl.heap.size := HZ.out
                have of := (o6.grow hg (fun q hq e => by have := Option.some.inj hq; have := (ro _ e).1; omega)).mono (B' := w.heap.size) (by omega)
                have Gf := K3f.cell
                clear hWf
                exact bodyPost_ret (v := .tuple #[.agg #[.int .i64 (x.length : Int), .slice ad nn cp], .bool true]) (by simp [results, Try.results84, go_sem, Gf]) rfl ⟨ad, nn, cp, by rw [H.out.1, H.out.2.2], by rw [H.out.2.1]; exact of, Bf⟩
  · have h5i : (5 : Int) < (x.length : Int) := by omega
    have H := Lib.hid (hno (by unfold modG; rw [decide_eq_false h5]; rfl))
    clear hno hc hix
    go_enter Try.func84, Try.ntmps84
    go_wp2
    rw [← hV]
    clear hV
    refine post_named ?_
    intro Wf hWf
    have K3f : Blk Wf w.heap.size 26 #[.int .i64 0, .slice none 0 0] := by
      rw [hWf]
      first
        | exact K3
        | (have := (K3.set 0 (.int .i64 0)).set 1 (.slice none 0 0); simpa using this)
    have hg : wl.grownBy Wf (some w.heap.size) := by
      rw [hWf]
      first
        | exact World.grownBy.refl _ _
        | exact grow_set (grow_set (World.grownBy.refl _ _) 0 _) 1 _
    have Bf : Below w.heap.size w Wf := B.grown hg B.size (fun q hq => by have := Option.some.inj hq; omega)
    have Gf := K3f.cell
    clear hWf
    exact bodyPost_ret (v := .tuple #[.agg #[.int .i64 0, .slice none 0 0], .bool false]) (by simp [results, Try.results84, go_sem, Gf]) rfl ⟨none, 0, 0, by rw [H.out.1, H.out.2.2], by rw [H.out.2.1]; exact OwnI.nil _ _ _, Bf⟩
end Go.Proofs.Ytmlpcohailjccaa
