/- Sets that are added to a kept blocker: the second program. -/
import Derived.Test.YthbkghpgnnpmbaaAddP
import Derived.Test.YthbkghpgnnpmbaaPutW
import Derived.Test.YthbkghpgnnpmbaaRem
import Derived.Deep.CutRange
namespace Go.Proofs.Ythbkghpgnnpmbaa
open Go.RowKit Go.G5

theorem gatherL_nil : gatherL [] = [] := List.eq_nil_of_length_eq_zero (by have := gatherL_len []; simpa using this)
theorem iand_comm (a b : Int) : iand a b = iand b a := by unfold iand; rw [Nat.and_comm]
theorem putL_len64 (l : List Int) (x : Int) (hl : ∀ y ∈ l, 0 ≤ y ∧ y < 64) (hx : 0 ≤ x ∧ x < 64) : (putL l x).length ≤ 64 :=
  asc_len _ 64 (putL_asc l x) (fun y hy => by rcases (putL_mem l x y).1 hy with h | h; exact hl y h; rw [h]; exact hx)

set_option maxHeartbeats 4000000 in
set_option maxRecDepth 100000 in
theorem addSetS_c (w : World) (g : Int) (v : Value) (l : List Int) (hv : Ints w v l) (hl : l.length ≤ 1048576) (u : Value) (m : List Int) (hu : Ints w u m) (hm : m.length ≤ 1048576) (s : Int) (_ : InR s) :
    Calls Try.prog 9 #[.agg #[.int .i64 g, v, u], .int .i64 s] w fun e w' => ∃ ad i cp ad' i' cp', e = .returned (.tuple #[.agg #[.int .i64 (addN g l m s), .slice ad i cp, .slice ad' i' cp'], .bool (addOk g l m s)]) ∧
      OwnW 3 w.heap.size w' (.slice ad i cp) (addK g l m s) ∧ OwnW 3 w.heap.size w' (.slice ad' i' cp') (addL g l m s) ∧ Apart (.slice ad i cp) (.slice ad' i' cp') ∧ Below w.heap.size w w' := by
  obtain ⟨a, c, rfl⟩ := hv.shape
  obtain ⟨a', b', off', c', rfl, hlen', hix', hc', hb'⟩ := hu.view Try.prog 24 3 Try.underlying24 intElem
  have hfd : ∀ (n : Int) (p : Option Addr) (i q : Nat) (w' : World), (Instr.field 26 (.agg #[.int .i64 n, .slice p i q]) 1).run Try.prog w' = .ok (.slice p i q) w' := fun _ _ _ _ _ => rfl
  go_enter Try.func9, Try.ntmps9
  go_wp2_with fail
  refine calls_named ?_
  intro V hV
  have B : Below w.heap.size w V := by rw [hV]; exact bl2 _ _ _
  have K1 : Blk V w.heap.size 28 #[.int .i64 g, .slice a l.length c, .slice a' m.length c'] := by rw [hV]; exact (Blk.new _ _ _).alloc _
  have K3 : Blk V (w.heap.size + 1) 28 #[.int .i64 0, .slice none 0 0, .slice none 0 0] := by rw [hV]; have := Blk.new (w.alloc (.cells #[.int .i64 g, .slice a l.length c, .slice a' m.length c'] 28)) 28 #[.int .i64 0, .slice none 0 0, .slice none 0 0]; simpa using this
  clear hV
  refine (isKeptS_c _ g _ l (hv.below B (Nat.le_refl _)) hl _ m (hu.below B (Nat.le_refl _)) hm).mono ?_
  rintro e w1 ⟨rfl, hb1⟩
  have K1 := K1.keep hb1
  have K3 := K3.keep hb1
  have B1 := B.after hb1 B.size
  have hv1 := hv.below B1 (Nat.le_refl _)
  clear hb1 B
  have out : addOk g l m s = false → addN g l m s = 0 ∧ addK g l m s = [] ∧ addL g l m s = [] := fun h => by unfold addN addK addL; rw [h]; exact ⟨rfl, rfl, rfl⟩
  have G1 := K1.cell
  have G3 := K3.cell
  have F3 := K3.frozen
  have z3 := K3.lt
  cases hk : keptB g l m with
  | false =>
    have hok : addOk g l m s = false := by unfold addOk; rw [hk]; rfl
    obtain ⟨hN, hK, hL⟩ := out hok
    have HN := Lib.hid hN
    have HL := Lib.hid hL
    have HK := Lib.hid hK
    have HF := Lib.hid hok
    clear hN hL hK hok hk out
    go_wp2
    refine post_named ?_
    intro Wf hWf
    have K3f : Blk Wf (w.heap.size + 1) 28 #[.int .i64 0, .slice none 0 0, .slice none 0 0] := by
      rw [hWf]
      have := ((K3.set 0 (.int .i64 0)).set 1 (.slice none 0 0)).set 2 (.slice none 0 0)
      simpa using this
    have Bf : Below w.heap.size w Wf := by rw [hWf]; exact Below.setCell (Below.setCell (Below.setCell B1 (by first | omega | (simp; done) | (simp; omega)) _) (by first | omega | (simp; done) | (simp; omega)) _) (by first | omega | (simp; done) | (simp; omega)) _
    have Gf := K3f.cell
    clear hWf
    exact bodyPost_ret (v := .tuple #[.agg #[.int .i64 0, .slice none 0 0, .slice none 0 0], .bool false]) (by simp [results, Try.results9, go_sem, Gf]) rfl ⟨none, 0, 0, none, 0, 0, by rw [HN.out, HF.out], by rw [HK.out]; exact OwnW.nil _ _ _, by rw [HL.out]; exact OwnW.nil _ _ _, by intro k hk; simp [Value.ownBlock] at hk, Bf⟩
  | true =>
    obtain ⟨hfam, hmb, hml⟩ := keptB_m hk
    obtain ⟨hg0, hg6, hmem, hasc⟩ := famOk hfam
    have HASC := Lib.hid hasc
    have HMEM := Lib.hid hmem
    clear hmem
    have hp64 := pow_le64 hg0 hg6
    have HKB := Lib.hid hk
    clear hk
    have hin : inB s 0 (2 ^ g.toNat - 1) = isSet g.toNat s := isSet_inB _ _
    cases hs : isSet g.toNat s with
    | false =>
      have hok : addOk g l m s = false := by unfold addOk; rw [hs]; simp
      obtain ⟨hN, hK, hL⟩ := out hok
      have HN := Lib.hid hN
      have HL := Lib.hid hL
      have HK := Lib.hid hK
      have HF := Lib.hid hok
      rw [hs] at hin
      clear hN hL hK hok hs out
      go_wp2_with (first
  | (go_at_call 63; refine (l2Full_i g _ hg0 (by omega)).mono ?_; rintro e w2 ⟨rfl, rfl⟩)
  | (go_at_call 62; refine (l1In_any _ _ _ _).mono ?_; rintro e w2 ⟨rfl, rfl⟩; rw [hin]))
      refine post_named ?_
      intro Wf hWf
      have K3f : Blk Wf (w.heap.size + 1) 28 #[.int .i64 0, .slice none 0 0, .slice none 0 0] := by
        rw [hWf]
        have := ((K3.set 0 (.int .i64 0)).set 1 (.slice none 0 0)).set 2 (.slice none 0 0)
        simpa using this
      have Bf : Below w.heap.size w Wf := by rw [hWf]; exact Below.setCell (Below.setCell (Below.setCell B1 (by first | omega | (simp; done) | (simp; omega)) _) (by first | omega | (simp; done) | (simp; omega)) _) (by first | omega | (simp; done) | (simp; omega)) _
      have Gf := K3f.cell
      clear hWf
      exact bodyPost_ret (v := .tuple #[.agg #[.int .i64 0, .slice none 0 0, .slice none 0 0], .bool false]) (by simp [results, Try.results9, go_sem, Gf]) rfl ⟨none, 0, 0, none, 0, 0, by rw [HN.out, HF.out], by rw [HK.out]; exact OwnW.nil _ _ _, by rw [HL.out]; exact OwnW.nil _ _ _, by intro k hk; simp [Value.ownBlock] at hk, Bf⟩
    | true =>
      have hs2 := isSet_true.1 hs
      have hs0 : 0 ≤ s := hs2.1
      have hs64 : s < 64 := by have := hs2.2; omega
      have hsn2 := hs2.2
      rw [hs] at hin
      clear hs2
      go_wp2_with (first
  | (go_at_call 63; refine (l2Full_i g _ hg0 (by omega)).mono ?_; rintro e w2 ⟨rfl, rfl⟩)
  | (go_at_call 62; refine (l1In_any _ _ _ _).mono ?_; rintro e w2 ⟨rfl, rfl⟩; rw [hin]))
      refine (l10Has_any l _ s _ hv1).mono ?_
      rintro e w2 ⟨rfl, rfl⟩
      clear hasc
      cases hh : has l s with
      | true =>
        have hok : addOk g l m s = false := by unfold addOk; rw [hh]; simp
        obtain ⟨hN, hK, hL⟩ := out hok
        have HN := Lib.hid hN
        have HL := Lib.hid hL
        have HK := Lib.hid hK
        have HF := Lib.hid hok
        clear hN hL hK hok hs hh out
        go_wp2
        refine post_named ?_
        intro Wf hWf
        have K3f : Blk Wf (w.heap.size + 1) 28 #[.int .i64 0, .slice none 0 0, .slice none 0 0] := by
          rw [hWf]
          have := ((K3.set 0 (.int .i64 0)).set 1 (.slice none 0 0)).set 2 (.slice none 0 0)
          simpa using this
        have Bf : Below w.heap.size w Wf := by rw [hWf]; exact Below.setCell (Below.setCell (Below.setCell B1 (by first | omega | (simp; done) | (simp; omega)) _) (by first | omega | (simp; done) | (simp; omega)) _) (by first | omega | (simp; done) | (simp; omega)) _
        have Gf := K3f.cell
        clear hWf
        exact bodyPost_ret (v := .tuple #[.agg #[.int .i64 0, .slice none 0 0, .slice none 0 0], .bool false]) (by simp [results, Try.results9, go_sem, Gf]) rfl ⟨none, 0, 0, none, 0, 0, by rw [HN.out, HF.out], by rw [HK.out]; exact OwnW.nil _ _ _, by rw [HL.out]; exact OwnW.nil _ _ _, by intro k hk; simp [Value.ownBlock] at hk, Bf⟩
      | false =>
        have hok : addOk g l m s = true := by unfold addOk; rw [HKB.out, hs, hh]; rfl
        have hN : addN g l m s = g := by unfold addN; rw [hok]; rfl
        have hK : addK g l m s = gatherL (l ++ [s]) := by unfold addK; rw [hok]; rfl
        have hL : addL g l m s = minL (gatherL (addList m s)) := by unfold addL; rw [hok]; rfl
        have HN := Lib.hid hN
        have HL := Lib.hid hL
        have HK := Lib.hid hK
        have HF := Lib.hid hok
        have HMB := Lib.hid hmb
        clear hN hL hK hok hs hh out hmb
        have hu2 := hu.below B1 (Nat.le_refl _)
        have el := addList_len m s
        obtain ⟨n, rfl⟩ := Int.eq_ofNat_of_zero_le hg0
        obtain ⟨sn, rfl⟩ := Int.eq_ofNat_of_zero_le hs0
        have hn6 : n ≤ 6 := by omega
        have hpn : sn < 2 ^ n := by
          have := hsn2
          have e2 : (n : Int).toNat = n := by omega
          rw [e2] at this
          exact_mod_cast this
        have hell : elL (sn : Int) = famOf sn n := by
          unfold elL
          rw [show ((sn : Int)).toNat = sn by omega]
          exact famOf_same sn 6 n (Nat.lt_of_lt_of_le hpn (Nat.pow_le_pow_right (by decide) hn6)) hpn
        have HELL := Lib.hid hell
        have HPN := Lib.hid hpn
        have z1 := K1.lt
        have o0 := OwnI.lit0 (E := 3) (B := w1.heap.size) w1 (Nat.le_refl _)
        clear hsn2 hell hin hpn
        go_wp2_with fail
        go_loopw [6, 7] (fun out i wr => ∃ (k : Nat) (ad : Option Addr) (nn cp : Nat), k ≤ m.length ∧ out = .slice ad nn cp ∧ i = .int .i64 k ∧ OwnI 3 w1.heap.size wr (.slice ad nn cp) (gatherL (addList (m.take k) sn)) ∧ Below w1.heap.size w1 wr)
          (fun _ i _ => m.length - (intOf i).toNat)
        case atStart => exact ⟨0, _, _, _, Nat.zero_le _, rfl, rfl, by rw [List.take_zero, show addList [] (sn : Int) = [] from rfl, gatherL_nil]; exact o0, bl1 _ _⟩
        case round =>
          obtain ⟨k, ad, nn, cp, hk, rfl, rfl, ho, B⟩ := hrel
          obtain ⟨wo, rfl⟩ : ∃ wo : World, wo = wr := ⟨_, rfl⟩
          have HO := Lib.hid ho
          clear ho o0 G1 G3 F3
          have Ko := K1.keep B
          have G1 := Ko.cell
          have zo := Ko.lt
          by_cases hlt : k < m.length
          · have hck := cells_below hc' hb' (B1.after B B1.size) (Nat.le_refl _) k hlt
            have hmk := HMB.out _ (List.getElem_mem hlt)
            have htk := addList_take m sn k hlt
            have hlk : (addList (m.take k) (sn : Int)).length ≤ 6 * 64 := by have := addList_len (m.take k) sn; simp at this; omega
            have hbk : ∀ x ∈ addList (m.take k) (sn : Int), 0 ≤ x ∧ x < 64 := addList_bd _ _ (fun x hx => HMB.out x (List.mem_of_mem_take hx))
            obtain ⟨t, ht⟩ : ∃ t, t = m[k] := ⟨_, rfl⟩
            rw [← ht] at hck hmk htk
            have hand := iand_is hmk.1 (show t < 4611686018427387904 by omega) hs0 (show (sn : Int) < 4611686018427387904 by omega)
            rw [iand_comm] at hand
            obtain ⟨A, hA⟩ : ∃ A, A = addList (m.take k) (sn : Int) := ⟨_, rfl⟩
            rw [← hA] at HO hlk htk hbk
            have hgl := gatherL_len A
            have HTK := Lib.hid htk
            have HBK := Lib.hid hbk
            have ht0 := hmk.1
            have ht1 := hmk.2
            clear ht hA htk hmk hbk
            have yo := B.size
            by_cases hz : iand (sn : Int) t = 0
            · have htest : (iand (sn : Int) t != 0) = false := by simp [hz]
              have hone : addOne (sn : Int) t = (elL (sn : Int)).map (addEl t) := by unfold addOne; rw [htest]; rfl
              have HONE := Lib.hid hone
              obtain ⟨q, hq⟩ : ∃ q, q = iand (sn : Int) t := ⟨_, rfl⟩
              rw [← hq] at hand htest hz
              clear hq hone
              go_wp2_with fail
              go_loopw [6, 9] (fun out i wi => ∃ (j : Nat) (ad : Option Addr) (nn cp : Nat), j ≤ n ∧ out = .slice ad nn cp ∧ i = .int .i64 j ∧ OwnI 3 w1.heap.size wi (.slice ad nn cp) (gatherL (A ++ (famOf sn j).map (addEl t))) ∧ Below w1.heap.size w1 wi)
                (fun _ i _ => n - (intOf i).toNat)
              case atStart => exact ⟨0, _, _, _, Nat.zero_le _, rfl, rfl, by rw [show famOf sn 0 = [] from rfl, List.map_nil, List.append_nil]; exact HO.out, B⟩
              case round =>
                obtain ⟨j, ad', nn', cp', hj, rfl, rfl, ho', Bi⟩ := hrel
                obtain ⟨wi, rfl⟩ : ∃ wi : World, wi = wr := ⟨_, rfl⟩
                have HO' := Lib.hid ho'
                clear ho' G1
                have G1 := (K1.keep Bi).cell
                have yi := Bi.size
                by_cases hje : j < n
                · have hbit := bit_is (sn : Int) j hs0 (by omega)
                  have hnb := nbit_is sn j
                  obtain ⟨y, hy⟩ : ∃ y, y = ibit (sn : Int) j := ⟨_, rfl⟩
                  rw [← hy] at hbit hnb
                  have hcs : famOf sn (j + 1) = if nbit sn j then famOf sn j ++ [(j : Int)] else famOf sn j := chosen_succ (nbit sn) j
                  have HCS := Lib.hid hcs
                  clear hy hcs
                  cases hb : nbit sn j with
                  | false =>
                    have hy1 : (y == 1) = false := by rw [hnb, hb]
                    have HBB := Lib.hid hb
                    clear hb hnb
                    go_wp2
                    go_roundw
                    case rel => exact ⟨j + 1, ad', nn', cp', by omega, rfl, by go_num, by rw [HCS.out, HBB.out]; exact HO'.out, Bi⟩
                    case measure => simp [intOf]; omega
                  | true =>
                    have hy1 : (y == 1) = true := by rw [hnb, hb]
                    have HBB := Lib.hid hb
                    clear hb hnb
                    have hp := pow2_bd (j : Int) (by omega)
                    have hto : (2 : Int) ^ (j : Int).toNat = 2 ^ j := by simp
                    rw [hto] at hp
                    have hor : bits .or .i64 t (2 ^ j) = addEl t j := by
                      unfold addEl; rw [hto]
                      exact ior_is ht0 (by omega) (by omega) (by omega)
                    have hbd := addEl_bd t j ⟨ht0, ht1⟩ (by omega)
                    have hstep : putL (gatherL (A ++ (famOf sn j).map (addEl t))) (addEl t j) = gatherL (A ++ (famOf sn j ++ [(j : Int)]).map (addEl t)) := by
                      rw [putL_gather, List.map_append, List.append_assoc]; rfl
                    have hAl : (gatherL (A ++ (famOf sn j).map (addEl t))).length ≤ 1048576 := by
                      have h1 := gatherL_len (A ++ (famOf sn j).map (addEl t))
                      have h2 : (famOf sn j).length ≤ j := chosen_len _ j
                      simp at h1; omega
                    have hasc2 := gatherL_asc (A ++ (famOf sn j).map (addEl t))
                    obtain ⟨y2, hy2⟩ : ∃ y, y = addEl t j := ⟨_, rfl⟩
                    rw [← hy2] at hor hbd hstep
                    have HST := Lib.hid hstep
                    have HPUT := Lib.hid (l15Put_any w1.heap.size _ _ y2 wi HO'.out Bi.size hasc2 hAl ⟨by omega, by omega⟩)
                    have hp1 := hp.1
                    have hp2 := hp.2
                    have hj6 : j < 6 := by omega
                    clear hstep hto hp hy2 hasc2 hAl
                    go_wp2_with (go_at_call 65; refine HPUT.out.mono ?_; rintro e w6 ⟨av, nv, cv, rfl, o6, hb6, _⟩)
                    have B6 := Bi.after hb6 Bi.size
                    go_roundw
                    case rel => exact ⟨j + 1, av, nv, cv, by omega, rfl, by go_num, by rw [HCS.out, HBB.out, if_pos rfl, ← HST.out]; exact o6, B6⟩
                    case measure => simp [intOf]; omega
                · have hAl : A ++ (famOf sn j).map (addEl t) = addList (m.take (k + 1)) sn := by rw [show j = n by omega, ← HELL.out, HTK.out, HONE.out]
                  have HAL := Lib.hid hAl
                  clear hAl
                  go_wp2
                  go_roundw
                  case rel => exact ⟨k + 1, ad', nn', cp', by omega, rfl, by go_num, by rw [← HAL.out]; exact HO'.out, Bi⟩
                  case measure => simp [intOf]; omega
            · have htest : (iand (sn : Int) t != 0) = true := by simp [hz]
              have hone : addOne (sn : Int) t = [t] := by unfold addOne; rw [htest]; rfl
              have HONE := Lib.hid hone
              obtain ⟨q, hq⟩ : ∃ q, q = iand (sn : Int) t := ⟨_, rfl⟩
              rw [← hq] at hand htest hz
              have hstep : putL (gatherL A) t = gatherL (A ++ [t]) := putL_gather A t
              have HST := Lib.hid hstep
              have HPUT := Lib.hid (l15Put_any w1.heap.size _ _ t wo HO.out B.size (gatherL_asc A) (by omega) ⟨by omega, by omega⟩)
              clear hq hone hstep
              go_wp2_with (go_at_call 65; refine HPUT.out.mono ?_; rintro e w6 ⟨av, nv, cv, rfl, o6, hb6, _⟩)
              have B6 := B.after hb6 B.size
              go_roundw
              case rel => exact ⟨k + 1, av, nv, cv, by omega, rfl, by go_num, by rw [HTK.out, HONE.out, ← HST.out]; exact o6, B6⟩
              case measure => simp [intOf]; omega
          · have hkm : k = m.length := by omega
            subst hkm
            have hall : addList (m.take m.length) (sn : Int) = addList m sn := by rw [List.take_length]
            have hO : OwnI 3 w1.heap.size wo (.slice ad nn cp) (gatherL (addList m sn)) := by rw [← hall]; exact HO.out
            have HO := Lib.hid hO
            clear hall hO
            have hv2 := hv1.below B (Nat.le_refl _)
            have hl64 : l.length ≤ 64 := asc_len l 64 HASC.out (fun x hx => by have := HMEM.out x hx; omega)
            have K3o := K3.keep B
            have hInR : InR (sn : Int) := ⟨by omega, by omega⟩
            have G1a : wo.cell? ⟨w.heap.size, 0, none⟩ = some (.int .i64 n) := G1 0
            have G1b : wo.cell? ⟨w.heap.size, 1, none⟩ = some (.slice a l.length c) := G1 1
            have yo := B.size
            have BB := B1.after B B1.size
            have yB := BB.size
            have z3o := K3o.lt
            have hasc0 : ([] ++ l).Pairwise (· < ·) := by rw [List.nil_append]; exact HASC.out
            have hl0 : ([] ++ l).length ≤ 1048576 := by rw [List.nil_append]; omega
            have nz0 : ¬ wo.heap.size = w.heap.size := by omega
            have nz1 : ¬ wo.heap.size + 1 = w.heap.size := by omega
            clear z1
            go_wp2_with fail
            clear G1
            go_cut [6, 10] from 11 (fun lst fp wc => ∃ (gb : Nat) (p : Option Addr) (i q : Nat), lst = .slice ad nn cp ∧ fp = .pointer (some ⟨gb, 0, none⟩) ∧ wo.heap.size ≤ gb ∧ Blk wc gb 26 #[.int .i64 n, .slice p i q] ∧ OwnI 3 wo.heap.size wc (.slice p i q) (putL l sn) ∧ Below wo.heap.size wo wc)
            case first =>
              go_region_held3? (fun w' => w'.cell? ⟨w.heap.size, 0, none⟩ = some (.int .i64 n) ∧ w'.cell? ⟨w.heap.size, 1, none⟩ = some (.slice a l.length c)) (go_keep)
                (first
                  | (refine step_putB rfl _ _ _ rfl 3 Try.underlying24 intElem wo.heap.size (.slice (some ⟨_, 0, none⟩) 0 0) [] rfl (.slice a l.length c) l rfl ?_ ?_ ?_ wo ?_ (Nat.le_refl _) ?_; (first | (with_reducible exact (OwnI.lit0 wo (Nat.le_refl _)).drew') | (with_reducible exact ((OwnI.lit0 wo (Nat.le_refl _)).alloc _).drew') | (with_reducible exact (OwnI.lit0' wo _).drew')); (first | (with_reducible exact (hv2.alloc _).drew') | (with_reducible exact ((hv2.alloc _).alloc _).drew')); (simp; omega); (first | (with_reducible exact (bl1 wo _).drew) | (with_reducible exact (bl2 wo _ _).drew)); (intro v1 w1' o1 b1 pc; have nz2 := size_ne b1 zo; obtain ⟨hc1, hf1⟩ := bcellN b1 wo.heap.size (Nat.le_refl _); first | (have hKF := pc _ _ _ (Blk.second wo _ 26 #[.int .i64 0, .slice none 0 0]) (own_ne1 _ _ _); obtain ⟨KF, ne1⟩ := hKF) | (have hKF := pc _ _ _ (Blk.first wo _ 26 #[.int .i64 0, .slice none 0 0]) (own_ne2 _ _ _); obtain ⟨KF, ne1⟩ := hKF) | skip))
                  | (go_at_call 65; refine (l15Put_any wo.heap.size _ _ sn _ ?_ ?_ hasc0 hl0 hInR).mono ?_; (first | (with_reducible exact o1) | (with_reducible exact o1.alloc _)); (first | (with_reducible exact b1.size) | (with_reducible exact (b1.alloc b1.size _).size)); rintro e w2' ⟨p2, i2, q2, rfl, o2, hb2, hn2⟩; first | (have ne2 := far_of hn2 ne1 KF.lt; have KF := KF.keep hb2; have GF := KF.cell; have FF := KF.frozen; have zF := KF.lt; have b2 := b1.after hb2 b1.size; obtain ⟨hc2, hf2⟩ := bcellN b2 wo.heap.size (Nat.le_refl _)) | (have ne2 := far_of hn2 (own_neF o1 (Nat.le_refl _)) (Blk.new w1' 26 #[.int .i64 0, .slice none 0 0]).lt; have KF := (Blk.new w1' 26 #[.int .i64 0, .slice none 0 0]).keep hb2; have GF := KF.cell; have FF := KF.frozen; have zF := KF.lt; have b2 := (b1.alloc b1.size _).after hb2 (b1.alloc b1.size _).size; obtain ⟨hc2, hf2⟩ := bcellN b2 wo.heap.size (Nat.le_refl _)) | (have b2 := b1.after hb2 b1.size; obtain ⟨hc2, hf2⟩ := bcellN b2 wo.heap.size (Nat.le_refl _)))
                )
              · go_wp2
                go_meet
                case rel =>
                  refine ⟨_, p2, i2, q2, rfl, rfl, b2.size, Blk.new _ _ _, o2.alloc _, b2.alloc b2.size _⟩
              all_goals
                go_wp2
                go_meet
                case rel =>
                  have KF2 := (KF.set 0 (.int .i64 n)).set 1 (.slice p2 i2 q2)
                  simp at KF2
                  have yb1 := b1.size
                  refine ⟨_, p2, i2, q2, rfl, rfl, (by first | exact Nat.le_refl _ | omega | exact b1.size), KF2, (o2.setFar ⟨_, 0, none⟩ ne2 _).setFar ⟨_, 1, none⟩ ne2 _, (by repeat (first | exact Below.refl _ _ | (with_reducible refine Below.setCell ?_ (by first | omega | (simp; done) | (simp; omega)) _) | (with_reducible refine Below.alloc ?_ (by first | omega | (simp; done) | (simp; omega)) _) | (with_reducible refine Below.drewN' ?_ _) | (with_reducible refine Below.drew ?_) | (with_reducible assumption) | refine Below.trans ?_ (Below.mono (by assumption) (by first | omega | (simp; done) | (simp; omega)))))⟩
            case rest =>
              obtain ⟨gb, p, i, q, rfl, rfl, hgb, KF, of, Bc⟩ := hcut
              have K3c := K3o.keep Bc
              have HOc := HO.out.keep Bc
              have Bw := BB.after Bc BB.size
              have ofl := of.lt
              have hGB := gather64 _ (addList_bd m (sn : Int) HMB.out)
              have hmt := minTo_all (gatherL (addList m (sn : Int))) (gatherL_asc _) (fun x hx => (hGB.1 x hx).1)
              have hml := l15Minimal_any (gatherL (addList m (sn : Int))) (.slice ad nn cp)
              rw [hmt] at hml
              obtain ⟨A, hA⟩ : ∃ A, A = gatherL (addList m (sn : Int)) := ⟨_, rfl⟩
              rw [← hA] at hml hGB HOc
              have HA := Lib.hid hA
              have HML := Lib.hid hml
              have HGB := Lib.hid hGB
              have HOC := Lib.hid HOc.ints
              have HOf := Lib.hid of
              have of2 := Lib.hid of
              have ycc := Bc.size
              have yBw := Bw.size
              have zKF := KF.lt
              clear hmt hml hGB hA HOc of HO K3o G1a G1b nz0 nz1 hv2 hfd
              have zK3 := K3c.lt
              have nz3 : ¬ w.heap.size + 1 = gb := by omega
              go_wp2_with fail
              have GF0 : wc.cell? ⟨gb, 0, none⟩ = some (.int .i64 n) := KF.cell 0
              have GF1 : wc.cell? ⟨gb, 1, none⟩ = some (.slice p i q) := KF.cell 1
              go_region_held3 (fun w' => w'.cell? ⟨gb, 0, none⟩ = some (.int .i64 n) ∧ w'.cell? ⟨gb, 1, none⟩ = some (.slice p i q)) (go_keep)
                (first
                  | (go_at_call 66; refine (HML.out _ (HOC.out.below (B := wc.heap.size) (by repeat (first | exact Below.refl _ _ | (with_reducible refine Below.setCell ?_ (by first | omega | (simp; done) | (simp; omega)) _) | (with_reducible refine Below.alloc ?_ (by first | omega | (simp; done) | (simp; omega)) _) | (with_reducible refine Below.drewN' ?_ _) | (with_reducible refine Below.drew ?_) | (with_reducible assumption) | refine Below.trans ?_ (Below.mono (by assumption) (by first | omega | (simp; done) | (simp; omega))))) (Nat.le_refl _)) HGB.out.1 HGB.out.2).mono ?_; rintro e w3 ⟨p3, i3, q3, rfl, o3, hb3⟩; have K3d := (K3c.drewN 1).keep hb3; have G3 := K3d.cell; have F3 := K3d.frozen; have z3d := K3d.lt; obtain ⟨hc3, hf3⟩ := bcellN hb3 wc.heap.size (by first | omega | (simp; done) | (simp; omega)); have z3 := hb3.size; (try simp at z3)))
              have HOf := (HOf.out.drewN 1).keep hb3
              have ap : Apart (.slice p i q) (.slice p3 i3 q3) := Apart.of_lt (of2.out.toW.drewN 1) o3.toW (Nat.le_refl _)
              have B3 : Below w.heap.size w w3 := (Bw.drewN' 1).after hb3 (by first | omega | (simp; done) | (simp; omega))
              have y3 := B3.size
              obtain ⟨L9, h9⟩ : ∃ L, L = minL A := ⟨_, rfl⟩
              rw [← h9] at o3
              have H9 := Lib.hid h9
              clear h9
              go_wp2
              refine post_named ?_
              intro Wf hWf
              have K3f : Blk Wf (w.heap.size + 1) 28 #[.int .i64 n, .slice p i q, .slice p3 i3 q3] := by
                rw [hWf]
                have := ((K3d.set 0 (.int .i64 n)).set 1 (.slice p i q)).set 2 (.slice p3 i3 q3)
                simpa using this
              have Bf : Below w.heap.size w Wf := by rw [hWf]; exact Below.setCell (Below.setCell (Below.setCell B3 (by first | omega | (simp; done) | (simp; omega)) _) (by first | omega | (simp; done) | (simp; omega)) _) (by first | omega | (simp; done) | (simp; omega)) _
              have f7 : OwnW 3 w.heap.size Wf (.slice p i q) (putL l sn) := by rw [hWf]; exact (((HOf.toW.setBelow (by first | omega | (simp; done) | (simp; omega)) _).setBelow (by first | omega | (simp; done) | (simp; omega)) _).setBelow (by first | omega | (simp; done) | (simp; omega)) _).mono (by first | omega | (simp; done) | (simp; omega))
              have f9 : OwnW 3 w.heap.size Wf (.slice p3 i3 q3) L9 := by rw [hWf]; exact (((o3.toW.setBelow (by first | omega | (simp; done) | (simp; omega)) _).setBelow (by first | omega | (simp; done) | (simp; omega)) _).setBelow (by first | omega | (simp; done) | (simp; omega)) _).mono (by first | omega | (simp; done) | (simp; omega))
              have Gf := K3f.cell
              clear hWf
              exact bodyPost_ret (v := .tuple #[.agg #[.int .i64 n, .slice p i q, .slice p3 i3 q3], .bool true]) (by simp [results, Try.results9, go_sem, Gf]) rfl ⟨p, i, q, p3, i3, q3, by rw [HN.out, HF.out], by rw [HK.out]; exact f7, by rw [HL.out, ← HA.out, ← H9.out]; exact f9, ap, Bf⟩
end Go.Proofs.Ythbkghpgnnpmbaa
