/- Representatives: the search of the first program. Representatives and violators: the first program. -/
import Derived.Test.YtipejodijbjpcaaGreatDoorQ15
section
namespace Go.Proofs.YtipejodijbjpcaaGreatDoor
open Go.RowKit Go.G5

def visPost (bo bf B : Nat) (w : World) (R : Option (List Int)) (e : Ending) (w' : World) : Prop := match R with
  | none => e = .returned (.bool true) ∧ Below w.heap.size w w'
  | some x => e = .returned (.bool false) ∧ (∃ ad i cp, OwnI 3 B w' (.slice ad i cp) x ∧ Blk w' bo 22 #[.slice ad i cp]) ∧ Blk w' bf 4 #[.bool true] ∧ GrownIn w w' (fun k => k = bo ∨ k = bf)
set_option maxHeartbeats 4000000 in
set_option maxRecDepth 100000 in
theorem visit_any (l : List Int) (lv : Value) (hm : ∀ x ∈ l, 0 ≤ x ∧ x < 64) (hl6 : l.length ≤ 6) (bo bf : Nat) (hne : bo ≠ bf) : ∀ (n : Nat) (used : Int) (list : List Int) (v : Value) (w : World) (B : Nat), list.length + n = l.length → Ints w lv l → OwnI 3 B w v list → B ≤ w.heap.size → bo < B → bf < B →
    Blk w bo 22 #[.slice none 0 0] → Blk w bf 4 #[.bool false] → 0 ≤ used ∧ used < 64 →
    Calls Tryz.prog 267 #[lv, .int .i64 used, v, .func (.func 268) #[] #[.pointer (some ⟨bo, 0, none⟩), .pointer (some ⟨bf, 0, none⟩)]] w (visPost bo bf B w (repG l n used list)) := by
  have HM := Lib.hid hm
  have he := repClosure_enters
  clear hm
  intro n
  induction n with
  | zero =>
    intro used list v w B hn hlv own hB hbo hbf Ko Kf hu
    obtain ⟨a, c, rfl⟩ := hlv.shape
    obtain ⟨av, cv, rfl⟩ := own.shape
    have ht : ((list.length : Int) == (l.length : Int)) = true := by simp; omega
    have HN := Lib.hid hn
    have HNE := Lib.hid hne
    clear hn hne
    go_enter Tryz.func267, Tryz.ntmps267
    go_wp2_with (go_at_fn 268; refine (repClosure _ bo bf _ _ _ _ rfl #[] Ko Kf HNE.out rfl).mono ?_; rintro e w1 ⟨rfl, K1, K2, hg⟩)
    go_ret
    refine ⟨rfl, ⟨av, list.length, cv, ?_, K1⟩, K2, hg⟩
    refine ⟨?_, own.2⟩
    have h1 := own.1
    rcases h1.2 with h2 | ⟨g, cap, cur, h2, hBg, hg2, r⟩
    · exact ⟨h1.1, .inl h2⟩
    · refine ⟨h1.1, .inr ⟨g, cap, cur, h2, hBg, ?_, r⟩⟩
      rw [hg.block g (Array.getElem?_eq_some_iff.1 hg2).1 (by rintro (h | h) <;> omega)]
      exact hg2
  | succ n ih =>
    intro used list v w B hn hlv own hB hbo hbf Ko Kf hu
    have hlv0 := hlv
    obtain ⟨a, b, off, c, rfl, hlen, hix, hc, hb⟩ := hlv.view Tryz.prog 22 3 Tryz.underlying22 intElem
    obtain ⟨av, cv, rfl⟩ := own.shape
    have hlt : list.length < l.length := by omega
    have ht : ((list.length : Int) == (l.length : Int)) = false := by simp; omega
    have hxb := HM.out _ (List.getElem_mem hlt)
    have hck := hc list.length hlt
    have hixk := fun W => hix W list.length hlt
    have hrep := repG_succ l n used list
    rw [getD_at l list.length hlt] at hrep
    obtain ⟨x, hx⟩ : ∃ x, x = l[list.length] := ⟨_, rfl⟩
    rw [← hx] at hxb hck hrep
    have hdif := idif_is hxb.1 hxb.2 hu.1 hu.2
    have hdb := idif_bd x used 64 hxb.1 hxb.2
    obtain ⟨d, hd⟩ : ∃ d, d = idif x used := ⟨_, rfl⟩
    rw [← hd] at hdif hdb hrep
    have hu0 := hu.1
    have hu1 := hu.2
    obtain ⟨F, hF⟩ : ∃ F : Int → Option (List Int), F = repOne l n used list := ⟨_, rfl⟩
    rw [← hF] at hrep
    have hel6 := elL_len6 d
    have hebd := elL_bd6 d
    have HN := Lib.hid hn
    have HF := Lib.hid hF
    have IH := Lib.hid ih
    clear hn hx hd hF ih hc hix hu hxb
    go_enter Tryz.func267, Tryz.ntmps267
    go_wp2_with fail
    refine (elementsOf_i d _ hdb.1 hdb.2).mono ?_
    rintro e w1 ⟨p1, i1, q1, rfl, o1, hb1⟩
    have hi1 : i1 = (elL d).length := o1.ints.capLe.1
    obtain ⟨E, hE⟩ : ∃ E, E = elL d := ⟨_, rfl⟩
    rw [← hE] at o1 hi1 hrep hel6 hebd
    subst hi1
    have HREP := Lib.hid hrep
    have HEB := Lib.hid hebd
    clear hE hrep hebd
    go_wp2_with fail
    go_loopw [29] (fun i wr => ∃ j : Nat, j ≤ E.length ∧ i = .int .i64 j ∧ (E.take j).findSome? F = none ∧ Below w.heap.size w wr ∧ OwnI 3 w.heap.size wr (.slice p1 E.length q1) E) (fun i _ => E.length - (intOf i).toNat)
    case atStart => exact ⟨0, Nat.zero_le _, rfl, by simp, hb1, o1⟩
    case round =>
      obtain ⟨j, hj, rfl, hnone, Bw, oE⟩ := hrel
      have H := Lib.hid hnone
      clear hnone
      have yw := Bw.size
      by_cases hje : j < E.length
      · have ol := own.keep Bw
        obtain ⟨a5, bj, offj, c5, he5, hlenj, hixj, hcj, _⟩ := oE.ints.view Tryz.prog 22 3 Tryz.underlying22 intElem
        simp only [Value.slice.injEq, true_and] at he5
        obtain ⟨rfl, rfl⟩ := he5
        have hejb := HEB.out _ (List.getElem_mem hje)
        have hcjj := hcj j hje
        have hixjj := fun W => hixj W j hje
        have htake := findSome_take F E j hje
        rw [H.out] at htake
        have hhit := fun y => findSome_hit F E j hje y H.out
        obtain ⟨e, he'⟩ : ∃ e : Nat, E[j] = (e : Int) := ⟨E[j].toNat, by omega⟩
        rw [he'] at hcjj hejb htake
        simp only [he'] at hhit
        have hp := pow2_bd' e hejb
        have hto : (2 : Int) ^ (e : Int).toNat = 2 ^ e := by simp
        rw [hto] at hp
        have hor : bits .or .i64 used (2 ^ e) = ior used (2 ^ e) := ior_is hu0 (by omega) (by omega) (by omega)
        have hob := ior_bd used (2 ^ e) 6 hu0 (by omega) (by omega) (by omega)
        have hFe : F (e : Int) = repG l n (ior used (2 ^ e)) (list ++ [(e : Int)]) := by rw [HF.out]; unfold repOne; rw [hto]
        have hrec : ∀ (v6 : Value) (w6 : World), OwnI 3 wr.heap.size w6 v6 (list ++ [(e : Int)]) → Below wr.heap.size wr w6 →
            Calls Tryz.prog 267 #[.slice a l.length c, .int .i64 (ior used (2 ^ e)), v6, .func (.func 268) #[] #[.pointer (some ⟨bo, 0, none⟩), .pointer (some ⟨bf, 0, none⟩)]] w6 (visPost bo bf wr.heap.size w6 (F (e : Int))) := fun v6 w6 h1 h2 => by
          rw [hFe]
          have BB := Bw.after h2 Bw.size
          exact IH.out _ _ v6 w6 wr.heap.size (by have := HN.out; rw [List.length_append, List.length_singleton]; omega) (hlv0.below BB (Nat.le_refl _)) h1 h2.size (by omega) (by omega) (Ko.keep BB) (Kf.keep BB) hob
        obtain ⟨R, hR⟩ : ∃ R, R = F (e : Int) := ⟨_, rfl⟩
        rw [← hR] at htake
        simp only [← hR] at hhit hrec
        obtain ⟨u2, hu2⟩ : ∃ u, u = ior used (2 ^ e) := ⟨_, rfl⟩
        rw [← hu2] at hor
        simp only [← hu2] at hrec
        have HREC := Lib.hid hrec
        have hL1 : ([] : List Int).length + list.length ≤ 17592186044416 := by simp; omega
        have hL2 : ([] ++ list).length < 17592186044415 := by simp; omega
        have hER : InR (e : Int) := ⟨by omega, by omega⟩
        have HL1 := Lib.hid hL1
        have HL2 := Lib.hid hL2
        have HER := Lib.hid hER
        have HHIT := Lib.hid hhit
        have HTAKE := Lib.hid htake
        have HOE := Lib.hid oE
        have hp1 := hp.1
        have hp2 := hp.2
        have he6 : e < 6 := by omega
        clear hrec hL1 hL2 hER hhit htake hFe hu2 hR hob hto he' hejb hp oE hcj hixj
        cases R with
        | none =>
          go_wp2_with (first
  | (at_builtin; refine wpList_appendN rfl _ _ _ rfl 3 Tryz.underlying22 intElem wr.heap.size (.slice none 0 0) [] rfl (OwnI.nil _ _ _) (.slice av list.length cv) list rfl ol.ints HL1.out (Nat.le_refl _) ?_; intro v5 w5 o5 g5 n5; have b5 := (Below.refl wr.heap.size wr).grown g5 (Nat.le_refl _) (fun q hq => ((OwnI.nil 3 wr.heap.size wr).lt q hq).1))
  | (at_builtin; refine wpList_appendN1 rfl _ _ _ rfl 3 Tryz.underlying22 intElem wr.heap.size v5 ([] ++ list) (e : Int) w5.heap.size rfl rfl (cell_new _ _ _ _ _ rfl) (o5.alloc _) HER.out HL2.out (b5.alloc b5.size _).size ?_; intro v6 w6 o6 g6 n6; have b6 := (b5.alloc b5.size _).grown g6 (b5.alloc b5.size _).size (fun q hq => (o5.lt q hq).1))
  | (go_at_call 267; refine (HREC.out v6 w6 o6 b6).mono ?_; rintro e7 w7 ⟨rfl, b7⟩))
          have B6 := Bw.after b6 Bw.size
          have B7 := B6.after b7 B6.size
          go_roundw
          case rel => exact ⟨j + 1, by omega, by go_num, by rw [HTAKE.out]; rfl, B7, (HOE.out.keep b6).keep b7⟩
          case measure => simp [intOf]; omega
        | some y =>
          have hyes : repG l (n + 1) used list = some y := by rw [HREP.out]; exact HHIT.out y rfl
          have HYES := Lib.hid hyes
          clear hyes
          go_wp2_with (first
  | (at_builtin; refine wpList_appendN rfl _ _ _ rfl 3 Tryz.underlying22 intElem wr.heap.size (.slice none 0 0) [] rfl (OwnI.nil _ _ _) (.slice av list.length cv) list rfl ol.ints HL1.out (Nat.le_refl _) ?_; intro v5 w5 o5 g5 n5; have b5 := (Below.refl wr.heap.size wr).grown g5 (Nat.le_refl _) (fun q hq => ((OwnI.nil 3 wr.heap.size wr).lt q hq).1))
  | (at_builtin; refine wpList_appendN1 rfl _ _ _ rfl 3 Tryz.underlying22 intElem wr.heap.size v5 ([] ++ list) (e : Int) w5.heap.size rfl rfl (cell_new _ _ _ _ _ rfl) (o5.alloc _) HER.out HL2.out (b5.alloc b5.size _).size ?_; intro v6 w6 o6 g6 n6; have b6 := (b5.alloc b5.size _).grown g6 (b5.alloc b5.size _).size (fun q hq => (o5.lt q hq).1))
  | (go_at_call 267; refine (HREC.out v6 w6 o6 b6).mono ?_; rintro e7 w7 ⟨rfl, ⟨p7, i7, q7, o7, K7⟩, Kf7, g7⟩))
          go_ret
          show visPost bo bf B w (repG l (n + 1) used list) _ _
          rw [HYES.out]
          exact ⟨rfl, ⟨p7, i7, q7, o7.mono (by omega), K7⟩, Kf7, (GrownIn.of_below (Bw.after b6 Bw.size)).trans g7⟩
      · have hnil : repG l (n + 1) used list = none := by rw [HREP.out, ← List.take_of_length_le (show E.length ≤ j by omega), H.out]
        have HNIL := Lib.hid hnil
        clear hnil
        go_wp2
        go_ret
        show visPost bo bf B w (repG l (n + 1) used list) _ _
        rw [HNIL.out]
        exact ⟨rfl, Bw⟩
end Go.Proofs.YtipejodijbjpcaaGreatDoor
end
section
namespace Go.Proofs.YtipejodijbjpcaaGreatDoor
open Go.RowKit Go.G5

set_option maxHeartbeats 2000000 in
set_option maxRecDepth 100000 in
theorem repI_c (w : World) (g : Int) (_ : InR g) (v : Value) (l : List Int) (hv : Ints w v l) (_ : l.length ≤ 1048576) :
    Calls Tryz.prog 154 #[.int .i64 g, v] w fun e w' => ∃ ad i cp, e = .returned (.tuple #[.slice ad i cp, .bool (repB g l)]) ∧ OwnW 3 w.heap.size w' (.slice ad i cp) (repL g l) ∧ Below w.heap.size w w' := by
  have hv0 := hv
  obtain ⟨a, c, rfl⟩ := hv.shape
  cases hf : fewB g l with
  | false =>
    have hr : repR g l = none := by unfold repR; rw [hf]; rfl
    have hB : repB g l = false := by unfold repB; rw [hr]; rfl
    have hL : repL g l = [] := repL_none hB
    have H := Lib.hid (And.intro hB hL)
    have HF := Lib.hid hf
    clear hr hB hL hf
    go_enter Tryz.func154, Tryz.ntmps154
    go_wp2_with (go_at_call 266; refine (areFew_any g l _ _ hv0).mono ?_; rintro e w1 ⟨rfl, rfl⟩; rw [HF.out])
    go_ret2
    exact ⟨none, 0, 0, by rw [H.out.1]; rfl, by rw [H.out.2]; exact OwnW.nil _ _ _, Below.refl _ _⟩
  | true =>
    have hr : repR g l = repG l l.length 0 [] := by unfold repR; rw [hf]; rfl
    obtain ⟨hl6, _, _, _, hm⟩ := few_ok hf
    have HF := Lib.hid hf
    have hmf : ∀ (fn : Fn) (first cap : Array Value) (w : World), (Instr.makeFunc fn first cap).run Tryz.prog w = .ok (.func fn first cap) w := fun _ _ _ _ => rfl
    have hvis : ∀ V, Below w.heap.size w V → w.heap.size + 2 ≤ V.heap.size → Blk V w.heap.size 22 #[.slice none 0 0] → Blk V (w.heap.size + 1) 4 #[.bool false] →
        Calls Tryz.prog 267 #[.slice a l.length c, .int .i64 0, .slice none 0 0, .func (.func 268) #[] #[.pointer (some ⟨w.heap.size, 0, none⟩), .pointer (some ⟨w.heap.size + 1, 0, none⟩)]] V (visPost w.heap.size (w.heap.size + 1) (w.heap.size + 2) V (repR g l)) := fun V hB hz h1 h2 => by
      rw [hr]
      exact visit_any l _ hm hl6 _ _ (by omega) l.length 0 [] _ V (w.heap.size + 2) (by simp) (hv0.below hB (Nat.le_refl _)) (OwnI.nil _ _ _) hz (by omega) (by omega) h1 h2 (by omega)
    obtain ⟨R, hR⟩ : ∃ R, R = repR g l := ⟨_, rfl⟩
    simp only [← hR] at hvis
    have HV := Lib.hid hvis
    clear hvis hr hf hm hl6
    cases R with
    | none =>
      have hB : repB g l = false := by unfold repB; rw [← hR]; rfl
      have H := Lib.hid (And.intro hB (repL_none hB))
      clear hB hR
      go_enter Tryz.func154, Tryz.ntmps154
      go_wp2_with (go_at_call 266; refine (areFew_any g l _ _ hv0).mono ?_; rintro e w1 ⟨rfl, rfl⟩; rw [HF.out])
      refine calls_named ?_
      intro V hV
      have B : Below w.heap.size w V := by rw [hV]; exact bl2 _ _ _
      have K1 : Blk V w.heap.size 22 #[.slice none 0 0] := by rw [hV]; exact (Blk.new _ _ _).alloc _
      have K2 : Blk V (w.heap.size + 1) 4 #[.bool false] := by rw [hV]; have := Blk.new (w.alloc (.cells #[.slice none 0 0] 22)) 4 #[.bool false]; simpa using this
      have z2 := K2.lt
      clear hV
      refine (HV.out V B (by omega) K1 K2).mono ?_
      rintro e w3 ⟨rfl, hb3⟩
      have K1 := K1.keep hb3
      have K2 := K2.keep hb3
      have B3 := B.after hb3 B.size
      have G1 := K1.cell
      have G2 := K2.cell
      go_wp2_with fail
      go_quiet (fail)
      go_wp2
      go_ret2
      exact ⟨none, 0, 0, by rw [H.out.1]; rfl, by rw [H.out.2]; exact OwnW.nil _ _ _, B3.drewN' _⟩
    | some y =>
      have hB : repB g l = true := by unfold repB; rw [← hR]; rfl
      have hL : repL g l = y := by unfold repL; rw [← hR]; rfl
      have H := Lib.hid (And.intro hB hL)
      clear hB hR hL
      go_enter Tryz.func154, Tryz.ntmps154
      go_wp2_with (go_at_call 266; refine (areFew_any g l _ _ hv0).mono ?_; rintro e w1 ⟨rfl, rfl⟩; rw [HF.out])
      refine calls_named ?_
      intro V hV
      have B : Below w.heap.size w V := by rw [hV]; exact bl2 _ _ _
      have K1 : Blk V w.heap.size 22 #[.slice none 0 0] := by rw [hV]; exact (Blk.new _ _ _).alloc _
      have K2 : Blk V (w.heap.size + 1) 4 #[.bool false] := by rw [hV]; have := Blk.new (w.alloc (.cells #[.slice none 0 0] 22)) 4 #[.bool false]; simpa using this
      have z2 := K2.lt
      clear hV
      refine (HV.out V B (by omega) K1 K2).mono ?_
      rintro e w3 ⟨rfl, ⟨p3, i3, q3, o3, K3⟩, K4, g3⟩
      have B3 := Below.growIn B g3 B.size (by rintro k (h | h) <;> omega)
      have G1 := K3.cell
      have G2 := K4.cell
      clear K1 K2
      go_wp2_with fail
      go_quiet (fail)
      go_wp2
      go_ret2
      exact ⟨p3, i3, q3, by rw [H.out.1]; rfl, by rw [H.out.2]; exact (o3.toW.mono (by omega)).drewN _, B3.drewN' _⟩

set_option maxHeartbeats 1000000 in
set_option maxRecDepth 100000 in
theorem lackOf_any (l : List Int) (v : Value) (w : World) (hv : Ints w v l) (hm : ∀ x ∈ l, 0 ≤ x ∧ x < 64) (hl6 : l.length ≤ 6) (code : Nat) (hcode : code < 64) :
    Calls Tryz.prog 257 #[v, .int .i64 code] w fun e w' => e = .returned (.int .i64 ((pop code : Int) - ipop (unionTo l code l.length))) ∧ w = w' := by
  obtain ⟨a, b, off, c, rfl, hlen, hix, hc, hb⟩ := hv.view Tryz.prog 22 3 Tryz.underlying22 intElem
  have HM := Lib.hid hm
  clear hm
  go_enter Tryz.func257, Tryz.ntmps257
  go_wp2
  go_loop [5, 10] (fun u i => ∃ k : Nat, k ≤ l.length ∧ i = .int .i64 k ∧ u = .int .i64 (unionTo l code k)) (fun _ i => l.length - (intOf i).toNat)
  case atStart => exact ⟨0, Nat.zero_le _, rfl, rfl⟩
  case round =>
    obtain ⟨k, hk, rfl, rfl⟩ := hrel
    by_cases hlt : k < l.length
    · have hck := hc k hlt
      have hmk := HM.out _ (List.getElem_mem hlt)
      have hub := unionTo_bd l code HM.out k hk
      have hs : unionTo l code (k + 1) = if nbit code k then ior (unionTo l code k) l[k] else unionTo l code k := by rw [unionTo, getD_at l k hlt]
      have hbit := bit_is (code : Int) k (by omega) (by omega)
      have hnb := nbit_is code k
      obtain ⟨y, hy⟩ : ∃ y, y = ibit (code : Int) k := ⟨_, rfl⟩
      rw [← hy] at hbit hnb
      have hor := ior_is hub.1 (show unionTo l code k < 4611686018427387904 by omega) hmk.1 (show l[k] < 4611686018427387904 by omega)
      obtain ⟨u, hu⟩ : ∃ u, u = unionTo l code k := ⟨_, rfl⟩
      rw [← hu] at hor hs ⊢
      have HS := Lib.hid hs
      clear hs hy hu hub hmk
      cases hbb : nbit code k with
      | false =>
        have hy1 : (y == 1) = false := by rw [hnb, hbb]
        have HBB := Lib.hid hbb
        clear hbb hnb
        go_wp2
        go_round
        case rel => exact ⟨k + 1, by omega, by go_num, by rw [HS.out, HBB.out]; rfl⟩
        case measure => simp [intOf]; omega
      | true =>
        have hy1 : (y == 1) = true := by rw [hnb, hbb]
        have HBB := Lib.hid hbb
        clear hbb hnb
        go_wp2
        go_round
        case rel => exact ⟨k + 1, by omega, by go_num, by rw [HS.out, HBB.out, if_pos rfl]⟩
        case measure => simp [intOf]; omega
    · have hkl : k = l.length := by omega
      subst hkl
      have hub := unionTo_bd l code HM.out l.length (Nat.le_refl _)
      obtain ⟨u, hu⟩ : ∃ u, u = unionTo l code l.length := ⟨_, rfl⟩
      rw [← hu] at hub ⊢
      have hpu := ipop_bd u (by omega)
      have hpc := pop_le code (by omega)
      have HU := Lib.hid hu
      have hub0 := hub.1
      have hub1 := hub.2
      clear hu hub
      go_wp2_with (first
        | (go_at_call 170; refine (sizeOf_any code _ (by omega)).mono ?_; rintro e w1 ⟨rfl, rfl⟩)
        | (go_at_call 170; refine (sizeOf_i u _ hub0 (by omega)).mono ?_; rintro e w1 ⟨rfl, rfl⟩))
      go_ret
      exact ⟨ret_int (by rw [← HU.out]), rfl⟩

set_option maxHeartbeats 2000000 in
set_option maxRecDepth 100000 in
theorem vioI_c (w : World) (g : Int) (_ : InR g) (v : Value) (l : List Int) (hv : Ints w v l) (_ : l.length ≤ 1048576) :
    Calls Tryz.prog 155 #[.int .i64 g, v] w fun e w' => ∃ ad i cp, e = .returned (.tuple #[.slice ad i cp, .bool (vioB g l)]) ∧ OwnW 3 w.heap.size w' (.slice ad i cp) (vioL g l) ∧ Below w.heap.size w w' := by
  have hv0 := hv
  obtain ⟨a, c, rfl⟩ := hv.shape
  cases hf : fewB g l with
  | false =>
    have hr : vioR g l = none := by unfold vioR; rw [hf]; rfl
    have hB : vioB g l = false := by unfold vioB; rw [hr]; rfl
    have hL : vioL g l = [] := by unfold vioL; rw [hr]
    have H := Lib.hid (And.intro hB hL)
    have HF := Lib.hid hf
    clear hr hB hL hf
    go_enter Tryz.func155, Tryz.ntmps155
    go_wp2_with (go_at_call 266; refine (areFew_any g l _ _ hv0).mono ?_; rintro e w1 ⟨rfl, rfl⟩; rw [HF.out])
    go_ret2
    exact ⟨none, 0, 0, by rw [H.out.1]; rfl, by rw [H.out.2]; exact OwnW.nil _ _ _, Below.refl _ _⟩
  | true =>
    have hr : vioR g l = firstFrom (lackB l) (2 ^ l.length) 0 := by unfold vioR; rw [hf]; rfl
    obtain ⟨hl6, _, _, _, hm⟩ := few_ok hf
    have HF := Lib.hid hf
    have HM := Lib.hid hm
    have hp6 : (2 : Nat) ^ l.length ≤ 64 := Nat.pow_le_pow_right (n := 2) (by decide) hl6
    have hpi : ((2 ^ l.length : Nat) : Int) = (2 : Int) ^ l.length := by simp
    have hp1 : (2 : Int) ^ l.length ≤ 64 := by rw [← hpi]; exact_mod_cast hp6
    have hp2 := (two_pow l.length 6 hl6).2
    obtain ⟨N, hN⟩ : ∃ N : Nat, N = 2 ^ l.length := ⟨_, rfl⟩
    rw [← hN] at hr hp6 hpi
    obtain ⟨P, hP⟩ : ∃ P, P = lackB l := ⟨_, rfl⟩
    rw [← hP] at hr
    have HR := Lib.hid hr
    have HPI := Lib.hid hpi
    have HP := Lib.hid hP
    clear hr hf hm hN hpi hP
    go_enter Tryz.func155, Tryz.ntmps155
    go_wp2_with (go_at_call 266; refine (areFew_any g l _ _ hv0).mono ?_; rintro e w1 ⟨rfl, rfl⟩; rw [HF.out])
    go_loop [15] (fun i => ∃ k : Nat, k ≤ N ∧ i = .int .i64 k ∧ firstFrom P (N - k) k = firstFrom P N 0) (fun i => N - (intOf i).toNat)
    case atStart => exact ⟨0, Nat.zero_le _, rfl, rfl⟩
    case round =>
      obtain ⟨k, hk, rfl, hfirst⟩ := hrel
      have H := Lib.hid hfirst
      clear hfirst
      by_cases hlt : k < N
      · have hlt2 : (k : Int) < 2 ^ l.length := by rw [← HPI.out]; exact_mod_cast hlt
        have hstep : firstFrom P (N - k) k = if P k then some k else firstFrom P (N - (k + 1)) (k + 1) := by
          rw [show N - k = (N - (k + 1)) + 1 by omega]; rfl
        have hPk : P k = decide (ipop (unionTo l k l.length) < (pop k : Int)) := by rw [HP.out]; rfl
        have hlk := lackOf_any l _ w hv0 HM.out hl6 k (by omega)
        have hub := unionTo_bd l k HM.out l.length (Nat.le_refl _)
        have hpu := ipop_bd (unionTo l k l.length) (by omega)
        have hpc := pop_le k (by omega)
        obtain ⟨q, hq⟩ : ∃ q, q = ipop (unionTo l k l.length) := ⟨_, rfl⟩
        obtain ⟨r, hr⟩ : ∃ r, r = (pop k : Int) := ⟨_, rfl⟩
        rw [← hq] at hPk hlk hpu
        rw [← hr] at hPk hlk
        have hr8 : r ≤ 8 ∧ 0 ≤ r := by rw [hr]; omega
        have HLK := Lib.hid hlk
        have HST := Lib.hid hstep
        have hk64 : k < 64 := by omega
        clear hlk hstep hub hq hr hpc
        cases hbb : P k with
        | false =>
          have hnl : ¬ 0 < r - q := by rw [hbb] at hPk; have := of_decide_eq_false hPk.symm; omega
          have HBB := Lib.hid hbb
          clear hbb hPk
          go_wp2_with (go_at_call 257; refine HLK.out.mono ?_; rintro e w1 ⟨rfl, rfl⟩)
          go_round
          case rel => exact ⟨k + 1, by omega, by go_num, by rw [← H.out, HST.out, HBB.out]; rfl⟩
          case measure => simp [intOf]; omega
        | true =>
          have hyl : 0 < r - q := by rw [hbb] at hPk; have := of_decide_eq_true hPk.symm; omega
          have hR : vioR g l = some k := by rw [HR.out, ← H.out, HST.out, hbb]; rfl
          have hB : vioB g l = true := by unfold vioB; rw [hR]; rfl
          have hL : vioL g l = elL (k : Int) := by unfold vioL; rw [hR]
          have HB := Lib.hid (And.intro hB hL)
          clear hbb hPk hR hB hL
          go_wp2_with (first
            | (go_at_call 257; refine HLK.out.mono ?_; rintro e w1 ⟨rfl, rfl⟩)
            | (go_at_call 171; refine (elementsOf_i (k : Int) _ (by omega) (by omega)).mono ?_; rintro e w2 ⟨p2, i2, q2, rfl, o2, hb2⟩))
          go_ret2
          exact ⟨p2, i2, q2, by rw [HB.out.1]; rfl, by rw [HB.out.2]; exact o2.toW, hb2⟩
      · have hlt2 : ¬ (k : Int) < 2 ^ l.length := by rw [← HPI.out]; exact_mod_cast hlt
        have hR : vioR g l = none := by rw [HR.out, ← H.out, show N - k = 0 by omega]; rfl
        have hB : vioB g l = false := by unfold vioB; rw [hR]; rfl
        have hL : vioL g l = [] := by unfold vioL; rw [hR]
        have HB := Lib.hid (And.intro hB hL)
        clear hR hB hL
        go_wp2
        go_ret2
        exact ⟨none, 0, 0, by rw [HB.out.1]; rfl, by rw [HB.out.2]; exact OwnW.nil _ _ _, Below.refl _ _⟩
end Go.Proofs.YtipejodijbjpcaaGreatDoor
end
