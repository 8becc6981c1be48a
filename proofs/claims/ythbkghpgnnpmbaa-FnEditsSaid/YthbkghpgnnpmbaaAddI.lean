/- Sets that are added to a kept blocker: the first program. -/
import Derived.Test.YthbkghpgnnpmbaaAddP
import Derived.Test.YthbkghpgnnpmbaaGather
import Derived.Test.YthbkghpgnnpmbaaRem
import Derived.Test.YthbkghpgnnpmbaaApp
namespace Go.Proofs.Ythbkghpgnnpmbaa
open Go.RowKit Go.G5

set_option maxHeartbeats 4000000 in
set_option maxRecDepth 100000 in
theorem addSetI_c (w : World) (g : Int) (v : Value) (l : List Int) (hv : Ints w v l) (hl : l.length ≤ 1048576) (u : Value) (m : List Int) (hu : Ints w u m) (hm : m.length ≤ 1048576) (s : Int) (_ : InR s) :
    Calls Try.prog 8 #[.agg #[.int .i64 g, v, u], .int .i64 s] w fun e w' => ∃ ad i cp ad' i' cp', e = .returned (.tuple #[.agg #[.int .i64 (addN g l m s), .slice ad i cp, .slice ad' i' cp'], .bool (addOk g l m s)]) ∧
      OwnW 3 w.heap.size w' (.slice ad i cp) (addK g l m s) ∧ OwnW 3 w.heap.size w' (.slice ad' i' cp') (addL g l m s) ∧ Apart (.slice ad i cp) (.slice ad' i' cp') ∧ Below w.heap.size w w' := by
  obtain ⟨a, c, rfl⟩ := hv.shape
  obtain ⟨a', b', off', c', rfl, hlen', hix', hc', hb'⟩ := hu.view Try.prog 24 3 Try.underlying24 intElem
  have hfd : ∀ (n : Int) (p : Option Addr) (i q : Nat) (w' : World), (Instr.field 26 (.agg #[.int .i64 n, .slice p i q]) 1).run Try.prog w' = .ok (.slice p i q) w' := fun _ _ _ _ _ => rfl
  go_enter Try.func8, Try.ntmps8
  go_wp2_with fail
  refine calls_named ?_
  intro V hV
  have B : Below w.heap.size w V := by rw [hV]; exact bl2 _ _ _
  have K1 : Blk V w.heap.size 28 #[.int .i64 g, .slice a l.length c, .slice a' m.length c'] := by rw [hV]; exact (Blk.new _ _ _).alloc _
  have K3 : Blk V (w.heap.size + 1) 28 #[.int .i64 0, .slice none 0 0, .slice none 0 0] := by rw [hV]; have := Blk.new (w.alloc (.cells #[.int .i64 g, .slice a l.length c, .slice a' m.length c'] 28)) 28 #[.int .i64 0, .slice none 0 0, .slice none 0 0]; simpa using this
  clear hV
  refine (isKeptI_c _ g _ l (hv.below B (Nat.le_refl _)) hl _ m (hu.below B (Nat.le_refl _)) hm).mono ?_
  rintro e w1 ⟨rfl, hb1⟩
  have K1 := K1.keep hb1
  have K3 := K3.keep hb1
  have B1 := B.after hb1 B.size
  have hv1 := hv.below B1 (Nat.le_refl _)
  clear hb1 B
  have out : addOk g l m s = false → addN g l m s = 0 ∧ addK g l m s = [] ∧ addL g l m s = [] := fun h => by unfold addN addK addL; rw [h]; exact ⟨rfl, rfl, rfl⟩
  have G1 := K1.cell
  have G3 := K3.cell
  have F3 := K3.frozen
  have z3 := K3.lt
  cases hk : keptB g l m with
  | false =>
    have hok : addOk g l m s = false := by unfold addOk; rw [hk]; rfl
    obtain ⟨hN, hK, hL⟩ := out hok
    have HN := Lib.hid hN
    have HL := Lib.hid hL
    have HK := Lib.hid hK
    have HF := Lib.hid hok
    clear hN hL hK hok hk out
    go_wp2
    refine post_named ?_
    intro Wf hWf
    have K3f : Blk Wf (w.heap.size + 1) 28 #[.int .i64 0, .slice none 0 0, .slice none 0 0] := by
      rw [hWf]
      have := ((K3.set 0 (.int .i64 0)).set 1 (.slice none 0 0)).set 2 (.slice none 0 0)
      simpa using this
    have Bf : Below w.heap.size w Wf := by rw [hWf]; exact Below.setCell (Below.setCell (Below.setCell B1 (by first | omega | (simp; done) | (simp; omega)) _) (by first | omega | (simp; done) | (simp; omega)) _) (by first | omega | (simp; done) | (simp; omega)) _
    have Gf := K3f.cell
    clear hWf
    exact bodyPost_ret (v := .tuple #[.agg #[.int .i64 0, .slice none 0 0, .slice none 0 0], .bool false]) (by simp [results, Try.results8, go_sem, Gf]) rfl ⟨none, 0, 0, none, 0, 0, by rw [HN.out, HF.out], by rw [HK.out]; exact OwnW.nil _ _ _, by rw [HL.out]; exact OwnW.nil _ _ _, by intro k hk; simp [Value.ownBlock] at hk, Bf⟩
  | true =>
    obtain ⟨hfam, hmb, hml⟩ := keptB_m hk
    obtain ⟨hg0, hg6, hmem, hasc⟩ := famOk hfam
    have HASC := Lib.hid hasc
    have HMEM := Lib.hid hmem
    clear hmem
    have hp64 := pow_le64 hg0 hg6
    have HKB := Lib.hid hk
    clear hk
    go_wp2_with fail
    refine (isSetOf_i g s _ hg0 (by omega)).mono ?_
    rintro e w2 ⟨rfl, rfl⟩
    cases hs : isSet g.toNat s with
    | false =>
      have hok : addOk g l m s = false := by unfold addOk; rw [hs]; simp
      obtain ⟨hN, hK, hL⟩ := out hok
      have HN := Lib.hid hN
      have HL := Lib.hid hL
      have HK := Lib.hid hK
      have HF := Lib.hid hok
      clear hN hL hK hok hs out
      go_wp2
      refine post_named ?_
      intro Wf hWf
      have K3f : Blk Wf (w.heap.size + 1) 28 #[.int .i64 0, .slice none 0 0, .slice none 0 0] := by
        rw [hWf]
        have := ((K3.set 0 (.int .i64 0)).set 1 (.slice none 0 0)).set 2 (.slice none 0 0)
        simpa using this
      have Bf : Below w.heap.size w Wf := by rw [hWf]; exact Below.setCell (Below.setCell (Below.setCell B1 (by first | omega | (simp; done) | (simp; omega)) _) (by first | omega | (simp; done) | (simp; omega)) _) (by first | omega | (simp; done) | (simp; omega)) _
      have Gf := K3f.cell
      clear hWf
      exact bodyPost_ret (v := .tuple #[.agg #[.int .i64 0, .slice none 0 0, .slice none 0 0], .bool false]) (by simp [results, Try.results8, go_sem, Gf]) rfl ⟨none, 0, 0, none, 0, 0, by rw [HN.out, HF.out], by rw [HK.out]; exact OwnW.nil _ _ _, by rw [HL.out]; exact OwnW.nil _ _ _, by intro k hk; simp [Value.ownBlock] at hk, Bf⟩
    | true =>
      have hs2 := isSet_true.1 hs
      have hs0 : 0 ≤ s := hs2.1
      have hs64 : s < 64 := by have := hs2.2; omega
      clear hs2
      go_wp2_with fail
      refine (hasSet_any g l _ s _ hv1 hasc hl).mono ?_
      rintro e w2 ⟨rfl, hb2⟩
      have K1 := K1.keep hb2
      have K3 := K3.keep hb2
      have B1 := B1.after hb2 B1.size
      have hv1 := hv.below B1 (Nat.le_refl _)
      clear hb2 hasc G1 G3 F3 z3
      have G1 := K1.cell
      have G3 := K3.cell
      have F3 := K3.frozen
      have z3 := K3.lt
      cases hh : has l s with
      | true =>
        have hok : addOk g l m s = false := by unfold addOk; rw [hh]; simp
        obtain ⟨hN, hK, hL⟩ := out hok
        have HN := Lib.hid hN
        have HL := Lib.hid hL
        have HK := Lib.hid hK
        have HF := Lib.hid hok
        clear hN hL hK hok hs hh out
        go_wp2
        refine post_named ?_
        intro Wf hWf
        have K3f : Blk Wf (w.heap.size + 1) 28 #[.int .i64 0, .slice none 0 0, .slice none 0 0] := by
          rw [hWf]
          have := ((K3.set 0 (.int .i64 0)).set 1 (.slice none 0 0)).set 2 (.slice none 0 0)
          simpa using this
        have Bf : Below w.heap.size w Wf := by rw [hWf]; exact Below.setCell (Below.setCell (Below.setCell B1 (by first | omega | (simp; done) | (simp; omega)) _) (by first | omega | (simp; done) | (simp; omega)) _) (by first | omega | (simp; done) | (simp; omega)) _
        have Gf := K3f.cell
        clear hWf
        exact bodyPost_ret (v := .tuple #[.agg #[.int .i64 0, .slice none 0 0, .slice none 0 0], .bool false]) (by simp [results, Try.results8, go_sem, Gf]) rfl ⟨none, 0, 0, none, 0, 0, by rw [HN.out, HF.out], by rw [HK.out]; exact OwnW.nil _ _ _, by rw [HL.out]; exact OwnW.nil _ _ _, by intro k hk; simp [Value.ownBlock] at hk, Bf⟩
      | false =>
        have hok : addOk g l m s = true := by unfold addOk; rw [HKB.out, hs, hh]; rfl
        have hN : addN g l m s = g := by unfold addN; rw [hok]; rfl
        have hK : addK g l m s = gatherL (l ++ [s]) := by unfold addK; rw [hok]; rfl
        have hL : addL g l m s = minL (gatherL (addList m s)) := by unfold addL; rw [hok]; rfl
        have HN := Lib.hid hN
        have HL := Lib.hid hL
        have HK := Lib.hid hK
        have HF := Lib.hid hok
        have HMB := Lib.hid hmb
        clear hN hL hK hok hs hh out hmb
        have hu2 := hu.below B1 (Nat.le_refl _)
        have el := addList_len m s
        go_wp2_with fail
        go_loopw [6, 33] (fun out i wr => ∃ (k : Nat) (ad : Option Addr) (nn cp : Nat), k ≤ m.length ∧ out = .slice ad nn cp ∧ i = .int .i64 k ∧ OwnI 3 w2.heap.size wr (.slice ad nn cp) (addList (m.take k) s) ∧ Below w2.heap.size w2 wr)
          (fun _ i _ => m.length - (intOf i).toNat)
        case atStart => exact ⟨0, none, 0, 0, Nat.zero_le _, rfl, rfl, OwnI.nil _ _ _, Below.refl _ _⟩
        case round =>
          obtain ⟨k, ad, nn, cp, hk, rfl, rfl, ho, B⟩ := hrel
          obtain ⟨wo, rfl⟩ : ∃ wo : World, wo = wr := ⟨_, rfl⟩
          have HO := Lib.hid ho
          clear ho
          by_cases hlt : k < m.length
          · have hck := cells_below hc' hb' (B1.after B B1.size) (Nat.le_refl _) k hlt
            have hmk := HMB.out _ (List.getElem_mem hlt)
            have htk := addList_take m s k hlt
            have hlk : (addList (m.take k) s).length ≤ 6 * 64 := by have := addList_len (m.take k) s; simp at this; omega
            obtain ⟨t, ht⟩ : ∃ t, t = m[k] := ⟨_, rfl⟩
            rw [← ht] at hck hmk htk
            have hand := iand_is hs0 (show s < 4611686018427387904 by omega) hmk.1 (show t < 4611686018427387904 by omega)
            obtain ⟨A, hA⟩ : ∃ A, A = addList (m.take k) s := ⟨_, rfl⟩
            rw [← hA] at HO hlk htk
            have HTK := Lib.hid htk
            have ht0 := hmk.1
            have ht1 := hmk.2
            clear ht hA htk hmk
            have yo := B.size
            by_cases hz : iand s t = 0
            · have htest : (iand s t != 0) = false := by simp [hz]
              have hone : addOne s t = (elL s).map (addEl t) := by unfold addOne; rw [htest]; rfl
              have HONE := Lib.hid hone
              obtain ⟨q, hq⟩ : ∃ q, q = iand s t := ⟨_, rfl⟩
              rw [← hq] at hand htest hz
              clear hq hone
              go_wp2_with fail
              refine (elementsOf_i s _ hs0 hs64).mono ?_
              rintro e w4 ⟨p4, i4, q4, rfl, o4, hb4⟩
              have hi4 : i4 = (elL s).length := o4.ints.capLe.1
              have hap : Apart (.slice ad nn cp) (.slice p4 i4 q4) := Apart.of_lt HO.out.toW o4.toW (Nat.le_refl _)
              have hel6 := elL_len6 s
              have hebd := elL_bd6 s
              obtain ⟨E, hE⟩ : ∃ E, E = elL s := ⟨_, rfl⟩
              rw [← hE] at HONE o4 hi4 hel6 hebd
              subst hi4
              have HEB := Lib.hid hebd
              have AP := Lib.hid hap
              clear hE hebd hap
              obtain ⟨a4, ha4⟩ : ∃ a, a = p4 := ⟨_, rfl⟩
              obtain ⟨c4, hc4⟩ : ∃ a, a = q4 := ⟨_, rfl⟩
              subst ha4 hc4
              have y4 := hb4.size
              have HO4 := Lib.hid (HO.out.keep hb4)
              have B4 := B.after hb4 B.size
              go_wp2_with fail
              go_loopw [6, 48] (fun out i wi => ∃ (j : Nat) (ad : Option Addr) (nn cp : Nat), j ≤ E.length ∧ out = .slice ad nn cp ∧ i = .int .i64 j ∧ OwnI 3 w2.heap.size wi (.slice ad nn cp) (A ++ (E.take j).map (addEl t)) ∧ OwnI 3 wo.heap.size wi (.slice a4 E.length c4) E ∧ Apart (.slice ad nn cp) (.slice a4 E.length c4) ∧ Below w2.heap.size w2 wi)
                (fun _ i _ => E.length - (intOf i).toNat)
              case atStart => exact ⟨0, _, _, _, Nat.zero_le _, rfl, rfl, by simpa using HO4.out, o4, AP.out, B4⟩
              case round =>
                obtain ⟨j, ad', nn', cp', hj, rfl, rfl, ho', oE, ap, Bi⟩ := hrel
                obtain ⟨wi, rfl⟩ : ∃ wi : World, wi = wr := ⟨_, rfl⟩
                have HO' := Lib.hid ho'
                have APi := Lib.hid ap
                clear ho' ap
                have yi := Bi.size
                by_cases hje : j < E.length
                · obtain ⟨a5, bj, offj, c5, he5, hlenj, hixj, hcj, _⟩ := oE.ints.view Try.prog 24 3 Try.underlying24 intElem
                  simp only [Value.slice.injEq, true_and] at he5
                  obtain ⟨rfl, rfl⟩ := he5
                  have hejb := HEB.out _ (List.getElem_mem hje)
                  have hcjj := hcj j hje
                  obtain ⟨e, he⟩ : ∃ e : Nat, E[j] = (e : Int) := ⟨E[j].toNat, by omega⟩
                  rw [he] at hcjj hejb
                  have hstep : A ++ (E.take (j + 1)).map (addEl t) = (A ++ (E.take j).map (addEl t)) ++ [addEl t e] := by
                    rw [List.take_succ_eq_append_getElem hje, List.map_append, List.map_cons, List.map_nil, he, List.append_assoc]
                  have hp := pow2_bd e hejb
                  have hto : (2 : Int) ^ (e : Int).toNat = 2 ^ e := by simp
                  rw [hto] at hp
                  have hor : bits .or .i64 t (2 ^ e) = addEl t e := by
                    unfold addEl; rw [hto]
                    exact ior_is ht0 (by omega) (by omega) (by omega)
                  have hbd := addEl_bd t e ⟨ht0, ht1⟩ hejb
                  obtain ⟨y, hy⟩ : ∃ y, y = addEl t e := ⟨_, rfl⟩
                  rw [← hy] at hor hbd hstep
                  have HST := Lib.hid hstep
                  have HOE := Lib.hid oE
                  have hp1 := hp.1
                  have hp2 := hp.2
                  have he6 : e < 6 := by omega
                  have hAl : (A ++ (E.take j).map (addEl t)).length ≤ 400 := by simp; omega
                  clear hcj hstep hy hto he hejb hp oE
                  go_wp2_with (at_builtin; refine wpList_appendN1 rfl _ _ _ rfl 3 Try.underlying24 intElem w2.heap.size _ _ y wi.heap.size rfl rfl (cell_new wi #[.int .i64 y] 3 0 _ rfl) (HO'.out.alloc _) ⟨by omega, by omega⟩ (by omega) (by simp; omega) ?_; intro v' w6 hown hgr hnb; obtain ⟨av, nv, cv, rfl⟩ := hown.shape3)
                  have B6 : Below w2.heap.size w2 w6 := (Bi.alloc Bi.size (.cells #[.int .i64 y] 3)).grown hgr (by simp; omega) (fun q hq => (HO'.out.lt q hq).1)
                  have oE6 := ((HOE.out.alloc (.cells #[.int .i64 y] 3)).growA hgr APi.out)
                  have ap6 := hnb.apart APi.out (fun k hk => by have := (HOE.out.lt k hk).2; simp; omega)
                  go_roundw
                  case rel => exact ⟨j + 1, av, nv, cv, by omega, rfl, by go_num, by rw [HST.out]; exact hown, oE6, ap6, B6⟩
                  case measure => simp [intOf]; omega
                · have hAl : A ++ (E.take j).map (addEl t) = addList (m.take (k + 1)) s := by rw [List.take_of_length_le (by omega), HTK.out, HONE.out]
                  have HAL := Lib.hid hAl
                  clear hAl
                  go_wp2
                  go_roundw
                  case rel => exact ⟨k + 1, ad', nn', cp', by omega, rfl, by go_num, by rw [← HAL.out]; exact HO'.out, Bi⟩
                  case measure => simp [intOf]; omega
            · have htest : (iand s t != 0) = true := by simp [hz]
              have hone : addOne s t = [t] := by unfold addOne; rw [htest]; rfl
              have HONE := Lib.hid hone
              obtain ⟨q, hq⟩ : ∃ q, q = iand s t := ⟨_, rfl⟩
              rw [← hq] at hand htest hz
              clear hq hone
              go_wp2_with (at_builtin; refine wpList_appendN1 rfl _ _ _ rfl 3 Try.underlying24 intElem w2.heap.size _ _ t wo.heap.size rfl rfl (cell_new wo #[.int .i64 t] 3 0 _ rfl) (HO.out.alloc _) ⟨by omega, by omega⟩ (by omega) (by simp; omega) ?_; intro v' w6 hown hgr hnb; obtain ⟨av, nv, cv, rfl⟩ := hown.shape3)
              have B6 : Below w2.heap.size w2 w6 := (B.alloc B.size (.cells #[.int .i64 t] 3)).grown hgr (by simp; omega) (fun q hq => (HO.out.lt q hq).1)
              go_roundw
              case rel => exact ⟨k + 1, av, nv, cv, by omega, rfl, by go_num, by rw [HTK.out, HONE.out]; exact hown, B6⟩
              case measure => simp [intOf]; omega
          · have hkm : k = m.length := by omega
            subst hkm
            have hall : addList (m.take m.length) s = addList m s := by rw [List.take_length]
            have hO : OwnI 3 w2.heap.size wo (.slice ad nn cp) (addList m s) := by rw [← hall]; exact HO.out
            have HO := Lib.hid hO
            have hlb := addList_bd m s HMB.out
            obtain ⟨hgb, hgl⟩ := gather64 _ hlb
            have hl64 : l.length ≤ 64 := asc_len l 64 HASC.out (fun x hx => by have := HMEM.out x hx; omega)
            have BB := B1.after B B1.size
            have K1 := K1.keep B
            have K3 := K3.keep B
            have hvo := hv.below BB (Nat.le_refl _)
            have zo := K3.lt
            have yB := BB.size
            obtain ⟨A, hA⟩ : ∃ A, A = addList m s := ⟨_, rfl⟩
            rw [← hA] at hlb hgb hgl HO el
            have HA := Lib.hid hA
            have HLB := Lib.hid hlb
            have HGB := Lib.hid hgb
            clear hall hlb hgb hO hA B B1 hv1 hu2
            clear G1 G3 F3 z3
            have G1 := K1.cell
            have z1 := K1.lt
            go_wp2_with fail
            refine (clone_any _ l _ hvo hl).mono ?_
            rintro e w5 ⟨p5, i5, q5, rfl, o5, hb5⟩
            have K3 := K3.keep hb5
            have B5 := BB.after hb5 BB.size
            have HO5 := HO.out.keep hb5
            have y5 := B5.size
            have y5' := hb5.size
            clear hb5 G1 BB K1
            go_wp2_with (at_builtin; refine wpList_appendN1 rfl _ _ _ rfl 3 Try.underlying24 intElem wo.heap.size _ l s w5.heap.size rfl rfl (cell_new w5 #[.int .i64 s] 3 0 _ rfl) (o5.alloc _) ⟨by omega, by omega⟩ (by omega) (by simp; omega) ?_; intro v6 w6 o6 hg6 hn6; obtain ⟨a6, n6, c6, rfl⟩ := o6.shape3)
            have K3 := (K3.alloc (.cells #[.int .i64 s] 3)).grow hg6 (by intro hq; have := (o5.lt _ hq).1; have := K3.lt; omega)
            have B6 : Below w.heap.size w w6 := (B5.alloc B5.size (.cells #[.int .i64 s] 3)).grown hg6 (by simp; omega) (fun q hq => by have := (o5.lt q hq).1; omega)
            have HO6 := (HO5.alloc (.cells #[.int .i64 s] 3)).grow hg6 (fun k hk hk2 => by have := (o5.lt k hk).1; have := (HO.out.lt k hk2).2; omega)
            have y6 := B6.size
            have y6' := hg6.size
            simp at y6'
            clear o5 hg6 hn6 B5 HO5 HO
            refine (gather_any g _ _ _ o6.ints (by simp; omega)).mono ?_
            rintro e w7 ⟨p7, i7, q7, rfl, o7, hb7⟩
            have K3 := K3.keep hb7
            have B7 := B6.after hb7 B6.size
            have HO7 := HO6.keep hb7
            have y7 := hb7.size
            have yy7 := B7.size
            clear hb7 o6 B6 HO6
            go_wp2_with fail
            refine (gather_any g _ _ _ HO7.ints (by omega)).mono ?_
            rintro e w8 ⟨p8, i8, q8, rfl, o8, hb8⟩
            have K3 := K3.keep hb8
            have B8 := B7.after hb8 B7.size
            have o7 := o7.keep hb8
            have y8 := hb8.size
            have yy8 := B8.size
            clear hb8 B7 HO7
            go_wp2_with fail
            refine (minimalOf_any _ _ _ o8.ints HGB.out (by omega)).mono ?_
            rintro e w9 ⟨p9, i9, q9, rfl, o9, hb9⟩
            have K3 := K3.keep hb9
            have B9 := B8.after hb9 B8.size
            have ap : Apart (.slice p7 i7 q7) (.slice p9 i9 q9) := Apart.of_lt o7 o9.toW (Nat.le_refl _)
            have o7 := o7.keep hb9
            have y9 := hb9.size
            have yy9 := B9.size
            clear hb9 B8 o8
            have F3 := K3.frozen
            have G3 := K3.cell
            have z3 := K3.lt
            have o9 := o9.toW
            obtain ⟨L7, h7⟩ : ∃ L, L = gatherL (l ++ [s]) := ⟨_, rfl⟩
            obtain ⟨L9, h9⟩ : ∃ L, L = minL (gatherL A) := ⟨_, rfl⟩
            rw [← h7] at o7
            rw [← h9] at o9
            have H7 := Lib.hid h7
            have H9 := Lib.hid h9
            clear h7 h9
            go_wp2
            refine post_named ?_
            intro Wf hWf
            have K3f : Blk Wf (w.heap.size + 1) 28 #[.int .i64 g, .slice p7 i7 q7, .slice p9 i9 q9] := by
              rw [hWf]
              have := ((K3.set 0 (.int .i64 g)).set 1 (.slice p7 i7 q7)).set 2 (.slice p9 i9 q9)
              simpa using this
            have Bf : Below w.heap.size w Wf := by rw [hWf]; exact Below.setCell (Below.setCell (Below.setCell B9 (by first | omega | (simp; done) | (simp; omega)) _) (by first | omega | (simp; done) | (simp; omega)) _) (by first | omega | (simp; done) | (simp; omega)) _
            have f7 : OwnW 3 w.heap.size Wf (.slice p7 i7 q7) L7 := by rw [hWf]; exact (((o7.setBelow (by first | omega | (simp; done) | (simp; omega)) _).setBelow (by first | omega | (simp; done) | (simp; omega)) _).setBelow (by first | omega | (simp; done) | (simp; omega)) _).mono (by first | omega | (simp; done) | (simp; omega))
            have f9 : OwnW 3 w.heap.size Wf (.slice p9 i9 q9) L9 := by rw [hWf]; exact (((o9.setBelow (by first | omega | (simp; done) | (simp; omega)) _).setBelow (by first | omega | (simp; done) | (simp; omega)) _).setBelow (by first | omega | (simp; done) | (simp; omega)) _).mono (by first | omega | (simp; done) | (simp; omega))
            have Gf := K3f.cell
            clear hWf
            exact bodyPost_ret (v := .tuple #[.agg #[.int .i64 g, .slice p7 i7 q7, .slice p9 i9 q9], .bool true]) (by simp [results, Try.results8, go_sem, Gf]) rfl ⟨p7, i7, q7, p9, i9, q9, by rw [HN.out, HF.out], by rw [HK.out, ← H7.out]; exact f7, by rw [HL.out, ← HA.out, ← H9.out]; exact f9, ap, Bf⟩
end Go.Proofs.Ythbkghpgnnpmbaa
