/- Representatives: the search of the first program. -/
import Derived.Test.YtmfenalnmpndmaaHallI
namespace Go.Proofs.Ytmfenalnmpndmaa
open Go.RowKit Go.G5

def visPost (bo bf B : Nat) (w : World) (R : Option (List Int)) (e : Ending) (w' : World) : Prop := match R with
  | none => e = .returned (.bool true) ∧ Below w.heap.size w w'
  | some x => e = .returned (.bool false) ∧ (∃ ad i cp, OwnI 3 B w' (.slice ad i cp) x ∧ Blk w' bo 24 #[.slice ad i cp]) ∧ Blk w' bf 4 #[.bool true] ∧ GrownIn w w' (fun k => k = bo ∨ k = bf)
set_option maxHeartbeats 4000000 in
set_option maxRecDepth 100000 in
theorem visit_any (l : List Int) (lv : Value) (hm : ∀ x ∈ l, 0 ≤ x ∧ x < 64) (hl6 : l.length ≤ 6) (bo bf : Nat) (hne : bo ≠ bf) : ∀ (n : Nat) (used : Int) (list : List Int) (v : Value) (w : World) (B : Nat), list.length + n = l.length → Ints w lv l → OwnI 3 B w v list → B ≤ w.heap.size → bo < B → bf < B →
    Blk w bo 24 #[.slice none 0 0] → Blk w bf 4 #[.bool false] → 0 ≤ used ∧ used < 64 →
    Calls Try.prog 96 #[lv, .int .i64 used, v, .func (.func 97) #[] #[.pointer (some ⟨bo, 0, none⟩), .pointer (some ⟨bf, 0, none⟩)]] w (visPost bo bf B w (repG l n used list)) := by
  have HM := Lib.hid hm
  have he := repClosure_enters
  clear hm
  intro n
  induction n with
  | zero =>
    intro used list v w B hn hlv own hB hbo hbf Ko Kf hu
    obtain ⟨a, c, rfl⟩ := hlv.shape
    obtain ⟨av, cv, rfl⟩ := own.shape
    have ht : ((list.length : Int) == (l.length : Int)) = true := by simp; omega
    have HN := Lib.hid hn
    have HNE := Lib.hid hne
    clear hn hne
    go_enter Try.func96, Try.ntmps96
    go_wp2_with (go_at_fn 97; refine (repClosure _ bo bf _ _ _ _ rfl #[] Ko Kf HNE.out rfl).mono ?_; rintro e w1 ⟨rfl, K1, K2, hg⟩)
    go_ret
    refine ⟨rfl, ⟨av, list.length, cv, ?_, K1⟩, K2, hg⟩
    refine ⟨?_, own.2⟩
    have h1 := own.1
    rcases h1.2 with h2 | ⟨g, cap, cur, h2, hBg, hg2, r⟩
    · exact ⟨h1.1, .inl h2⟩
    · refine ⟨h1.1, .inr ⟨g, cap, cur, h2, hBg, ?_, r⟩⟩
      rw [hg.block g (Array.getElem?_eq_some_iff.1 hg2).1 (by rintro (h | h) <;> omega)]
      exact hg2
  | succ n ih =>
    intro used list v w B hn hlv own hB hbo hbf Ko Kf hu
    have hlv0 := hlv
    obtain ⟨a, b, off, c, rfl, hlen, hix, hc, hb⟩ := hlv.view Try.prog 24 3 Try.underlying24 intElem
    obtain ⟨av, cv, rfl⟩ := own.shape
    have hlt : list.length < l.length := by omega
    have ht : ((list.length : Int) == (l.length : Int)) = false := by simp; omega
    have hxb := HM.out _ (List.getElem_mem hlt)
    have hck := hc list.length hlt
    have hixk := fun W => hix W list.length hlt
    have hrep := repG_succ l n used list
    rw [getD_at l list.length hlt] at hrep
    obtain ⟨x, hx⟩ : ∃ x, x = l[list.length] := ⟨_, rfl⟩
    rw [← hx] at hxb hck hrep
    have hdif := idif_is hxb.1 hxb.2 hu.1 hu.2
    have hdb := idif_bd x used 64 hxb.1 hxb.2
    obtain ⟨d, hd⟩ : ∃ d, d = idif x used := ⟨_, rfl⟩
    rw [← hd] at hdif hdb hrep
    have hu0 := hu.1
    have hu1 := hu.2
    obtain ⟨F, hF⟩ : ∃ F : Int → Option (List Int), F = repOne l n used list := ⟨_, rfl⟩
    rw [← hF] at hrep
    have hel6 := elL_len6 d
    have hebd := elL_bd6 d
    have HN := Lib.hid hn
    have HF := Lib.hid hF
    have IH := Lib.hid ih
    clear hn hx hd hF ih hc hix hu hxb
    go_enter Try.func96, Try.ntmps96
    go_wp2_with fail
    refine (elementsOf_i d _ hdb.1 hdb.2).mono ?_
    rintro e w1 ⟨p1, i1, q1, rfl, o1, hb1⟩
    have hi1 : i1 = (elL d).length := o1.ints.capLe.1
    obtain ⟨E, hE⟩ : ∃ E, E = elL d := ⟨_, rfl⟩
    rw [← hE] at o1 hi1 hrep hel6 hebd
    subst hi1
    have HREP := Lib.hid hrep
    have HEB := Lib.hid hebd
    clear hE hrep hebd
    go_wp2_with fail
    go_loopw [29] (fun i wr => ∃ j : Nat, j ≤ E.length ∧ i = .int .i64 j ∧ (E.take j).findSome? F = none ∧ Below w.heap.size w wr ∧ OwnI 3 w.heap.size wr (.slice p1 E.length q1) E) (fun i _ => E.length - (intOf i).toNat)
    case atStart => exact ⟨0, Nat.zero_le _, rfl, by simp, hb1, o1⟩
    case round =>
      obtain ⟨j, hj, rfl, hnone, Bw, oE⟩ := hrel
      have H := Lib.hid hnone
      clear hnone
      have yw := Bw.size
      by_cases hje : j < E.length
      · have ol := own.keep Bw
        obtain ⟨a5, bj, offj, c5, he5, hlenj, hixj, hcj, _⟩ := oE.ints.view Try.prog 24 3 Try.underlying24 intElem
        simp only [Value.slice.injEq, true_and] at he5
        obtain ⟨rfl, rfl⟩ := he5
        have hejb := HEB.out _ (List.getElem_mem hje)
        have hcjj := hcj j hje
        have hixjj := fun W => hixj W j hje
        have htake := findSome_take F E j hje
        rw [H.out] at htake
        have hhit := fun y => findSome_hit F E j hje y H.out
        obtain ⟨e, he'⟩ : ∃ e : Nat, E[j] = (e : Int) := ⟨E[j].toNat, by omega⟩
        rw [he'] at hcjj hejb htake
        simp only [he'] at hhit
        have hp := pow2_bd' e hejb
        have hto : (2 : Int) ^ (e : Int).toNat = 2 ^ e := by simp
        rw [hto] at hp
        have hor : bits .or .i64 used (2 ^ e) = ior used (2 ^ e) := ior_is hu0 (by omega) (by omega) (by omega)
        have hob := ior_bd used (2 ^ e) 6 hu0 (by omega) (by omega) (by omega)
        have hFe : F (e : Int) = repG l n (ior used (2 ^ e)) (list ++ [(e : Int)]) := by rw [HF.out]; unfold repOne; rw [hto]
        have hrec : ∀ (v6 : Value) (w6 : World), OwnI 3 wr.heap.size w6 v6 (list ++ [(e : Int)]) → Below wr.heap.size wr w6 →
            Calls Try.prog 96 #[.slice a l.length c, .int .i64 (ior used (2 ^ e)), v6, .func (.func 97) #[] #[.pointer (some ⟨bo, 0, none⟩), .pointer (some ⟨bf, 0, none⟩)]] w6 (visPost bo bf wr.heap.size w6 (F (e : Int))) := fun v6 w6 h1 h2 => by
          rw [hFe]
          have BB := Bw.after h2 Bw.size
          exact IH.out _ _ v6 w6 wr.heap.size (by have := HN.out; rw [List.length_append, List.length_singleton]; omega) (hlv0.below BB (Nat.le_refl _)) h1 h2.size (by omega) (by omega) (Ko.keep BB) (Kf.keep BB) hob
        obtain ⟨R, hR⟩ : ∃ R, R = F (e : Int) := ⟨_, rfl⟩
        rw [← hR] at htake
        simp only [← hR] at hhit hrec
        obtain ⟨u2, hu2⟩ : ∃ u, u = ior used (2 ^ e) := ⟨_, rfl⟩
        rw [← hu2] at hor
        simp only [← hu2] at hrec
        have HREC := Lib.hid hrec
        have hL1 : ([] : List Int).length + list.length ≤ 17592186044416 := by simp; omega
        have hL2 : ([] ++ list).length < 17592186044415 := by simp; omega
        have hER : InR (e : Int) := ⟨by omega, by omega⟩
        have HL1 := Lib.hid hL1
        have HL2 := Lib.hid hL2
        have HER := Lib.hid hER
        have HHIT := Lib.hid hhit
        have HTAKE := Lib.hid htake
        have HOE := Lib.hid oE
        have hp1 := hp.1
        have hp2 := hp.2
        have he6 : e < 6 := by omega
        clear hrec hL1 hL2 hER hhit htake hFe hu2 hR hob hto he' hejb hp oE hcj hixj
        cases R with
        | none =>
          go_wp2_with (first
  | (at_builtin; refine wpList_appendN rfl _ _ _ rfl 3 Try.underlying24 intElem wr.heap.size (.slice none 0 0) [] rfl (OwnI.nil _ _ _) (.slice av list.length cv) list rfl ol.ints HL1.out (Nat.le_refl _) ?_; intro v5 w5 o5 g5 n5; have b5 := (Below.refl wr.heap.size wr).grown g5 (Nat.le_refl _) (fun q hq => ((OwnI.nil 3 wr.heap.size wr).lt q hq).1))
  | (at_builtin; refine wpList_appendN1 rfl _ _ _ rfl 3 Try.underlying24 intElem wr.heap.size v5 ([] ++ list) (e : Int) w5.heap.size rfl rfl (cell_new _ _ _ _ _ rfl) (o5.alloc _) HER.out HL2.out (b5.alloc b5.size _).size ?_; intro v6 w6 o6 g6 n6; have b6 := (b5.alloc b5.size _).grown g6 (b5.alloc b5.size _).size (fun q hq => (o5.lt q hq).1))
  | (go_at_call 96; refine (HREC.out v6 w6 o6 b6).mono ?_; rintro e7 w7 ⟨rfl, b7⟩))
          have B6 := Bw.after b6 Bw.size
          have B7 := B6.after b7 B6.size
          go_roundw
          case rel => exact ⟨j + 1, by omega, by go_num, by rw [HTAKE.out]; rfl, B7, (HOE.out.keep b6).keep b7⟩
          case measure => simp [intOf]; omega
        | some y =>
          have hyes : repG l (n + 1) used list = some y := by rw [HREP.out]; exact HHIT.out y rfl
          have HYES := Lib.hid hyes
          clear hyes
          go_wp2_with (first
  | (at_builtin; refine wpList_appendN rfl _ _ _ rfl 3 Try.underlying24 intElem wr.heap.size (.slice none 0 0) [] rfl (OwnI.nil _ _ _) (.slice av list.length cv) list rfl ol.ints HL1.out (Nat.le_refl _) ?_; intro v5 w5 o5 g5 n5; have b5 := (Below.refl wr.heap.size wr).grown g5 (Nat.le_refl _) (fun q hq => ((OwnI.nil 3 wr.heap.size wr).lt q hq).1))
  | (at_builtin; refine wpList_appendN1 rfl _ _ _ rfl 3 Try.underlying24 intElem wr.heap.size v5 ([] ++ list) (e : Int) w5.heap.size rfl rfl (cell_new _ _ _ _ _ rfl) (o5.alloc _) HER.out HL2.out (b5.alloc b5.size _).size ?_; intro v6 w6 o6 g6 n6; have b6 := (b5.alloc b5.size _).grown g6 (b5.alloc b5.size _).size (fun q hq => (o5.lt q hq).1))
  | (go_at_call 96; refine (HREC.out v6 w6 o6 b6).mono ?_; rintro e7 w7 ⟨rfl, ⟨p7, i7, q7, o7, K7⟩, Kf7, g7⟩))
          go_ret
          show visPost bo bf B w (repG l (n + 1) used list) _ _
          rw [HYES.out]
          exact ⟨rfl, ⟨p7, i7, q7, o7.mono (by omega), K7⟩, Kf7, (GrownIn.of_below (Bw.after b6 Bw.size)).trans g7⟩
      · have hnil : repG l (n + 1) used list = none := by rw [HREP.out, ← List.take_of_length_le (show E.length ≤ j by omega), H.out]
        have HNIL := Lib.hid hnil
        clear hnil
        go_wp2
        go_ret
        show visPost bo bf B w (repG l (n + 1) used list) _ _
        rw [HNIL.out]
        exact ⟨rfl, Bw⟩
end Go.Proofs.Ytmfenalnmpndmaa
