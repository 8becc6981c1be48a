/- The number of lists and the largest part: the first program. -/
import Derived.Test.YtmfenalnmpndmaaHallN
namespace Go.G5
open Go Go.RowKit
theorem OwnI.growIn {w w' : World} {P : Nat → Prop} {E : TypeId} {B : Nat} {v : Value} {l : List Int} (h : OwnI E B w v l) (hg : GrownIn w w' P) (hn : ∀ k, B ≤ k → k < w.heap.size → ¬ P k) : OwnI E B w' v l := by
  obtain ⟨⟨h0, h1⟩, h2⟩ := h
  refine ⟨⟨h0, ?_⟩, h2⟩
  rcases h1 with h1 | ⟨g, cap, cur, rfl, hBg, hg2, r⟩
  · exact .inl h1
  · have hz := (Array.getElem?_eq_some_iff.1 hg2).1
    exact .inr ⟨g, cap, cur, rfl, hBg, by rw [hg.block g hz (hn g hBg hz)]; exact hg2, r⟩
end Go.G5
namespace Go.Proofs.Ytmfenalnmpndmaa
open Go.RowKit Go.G5

theorem cntClosure (w : World) (bo : Nat) (v : Value) (a : Option Addr) (n c : Nat) (hv : v = .slice a n c) (q : Nat) (hq : q ≤ 1000000) (co : Array Value) (K : Blk w bo 3 #[.int .i64 (q : Int)]) (_ : co = #[]) :
    Calls Try.prog 105 #[v, .pointer (some ⟨bo, 0, none⟩)] w fun e w' => e = .returned (.bool true) ∧ Blk w' bo 3 #[.int .i64 ((q + 1 : Nat) : Int)] ∧ GrownIn w w' (fun k => k = bo) := by
  subst hv
  have Go := K.cell
  have Fo := K.frozen
  have hw : IntKind.i64.wrap ((q : Int) + 1) = (q : Int) + 1 := IntWalk.i64_in _ ⟨by omega, by omega⟩
  go_enter Try.func105, Try.ntmps105
  go_wp2
  refine post_named ?_
  intro Wf hWf
  have K1 : Blk Wf bo 3 #[.int .i64 ((q + 1 : Nat) : Int)] := by
    rw [hWf]
    have := K.set 0 (.int .i64 ((q : Int) + 1))
    simpa using this
  have hg : GrownIn w Wf (fun k => k = bo) := by
    rw [hWf]
    exact GrownIn.of_row (grown_setCell w ⟨bo, 0, none⟩ _) (fun k hk => (Option.some.inj hk).symm)
  clear hWf Go Fo
  go_ret
  exact ⟨rfl, K1, hg⟩
theorem cntClosure_enters : ∀ args w, (callFunc 105 args).run Try.prog w = .ok (.enter 105 args) w := enters_of Try.func105 (by kernel_rfl) rfl

def sE (F : Nat → Nat) (E : List Int) : Nat := E.foldl (fun a e => a + F e.toNat) 0
theorem sE_from (F : Nat → Nat) : ∀ (E : List Int) (z : Nat), E.foldl (fun a e => a + F e.toNat) z = z + sE F E := by
  intro E
  induction E with
  | nil => intro z; rfl
  | cons e E ih =>
    intro z
    unfold sE
    rw [List.foldl_cons, List.foldl_cons, ih, ih (0 + F e.toNat)]
    omega
theorem sE_succ (F : Nat → Nat) (E : List Int) (j : Nat) (h : j < E.length) : sE F (E.take (j + 1)) = sE F (E.take j) + F E[j].toNat := fold_take _ 0 E j h
theorem sE_le (F : Nat → Nat) (E : List Int) (j : Nat) : sE F (E.take j) ≤ sE F E := by
  have e : E = E.take j ++ E.drop j := (List.take_append_drop _ _).symm
  have : sE F E = sE F (E.take j) + sE F (E.drop j) := by
    conv => lhs; rw [e]
    unfold sE
    rw [List.foldl_append]
    exact sE_from F _ _
  omega
theorem sE_chosen (F : Nat → Nat) (P : Nat → Bool) : ∀ n, sE F (chosen P n) = sumTo P F n := by
  intro n
  induction n with
  | zero => rfl
  | succ n ih =>
    rw [chosen_succ, sumTo, ← ih]
    cases P n with
    | false => simp
    | true => rw [if_pos rfl, if_pos rfl]; unfold sE; rw [List.foldl_append]; simp

set_option maxHeartbeats 4000000 in
set_option maxRecDepth 100000 in
theorem visitC_any (l : List Int) (lv : Value) (G : Nat) (hG : G ≤ 6) (hm : ∀ x ∈ l, 0 ≤ x ∧ x < 2 ^ G) (hl6 : l.length ≤ 6) (bo : Nat) : ∀ (n used : Nat) (list : List Int) (v : Value) (w : World) (B q : Nat), list.length + n = l.length →
    (∀ W, GrownIn w W (fun k => k = bo) → Ints W lv l) → OwnI 3 B w v list → B ≤ w.heap.size → bo < B → Blk w bo 3 #[.int .i64 (q : Int)] → used < 64 → q + cntL G ((natL l).drop list.length) used ≤ 1000000 →
    Calls Try.prog 96 #[lv, .int .i64 (used : Int), v, .func (.func 105) #[] #[.pointer (some ⟨bo, 0, none⟩)]] w fun e w' => e = .returned (.bool true) ∧ Blk w' bo 3 #[.int .i64 ((q + cntL G ((natL l).drop list.length) used : Nat) : Int)] ∧ GrownIn w w' (fun k => k = bo) := by
  have HM := Lib.hid hm
  have he := cntClosure_enters
  clear hm
  intro n
  induction n with
  | zero =>
    intro used list v w B q hn hlv own hB hbo K hu hq
    obtain ⟨a, c, rfl⟩ := (hlv w (GrownIn.refl _ _)).shape
    obtain ⟨av, cv, rfl⟩ := own.shape
    have ht : ((list.length : Int) == (l.length : Int)) = true := by simp; omega
    have hx : cntL G ((natL l).drop list.length) used = 1 := by rw [List.drop_eq_nil_of_le (by rw [natL_len]; omega)]; rfl
    rw [hx] at hq ⊢
    clear hn hx hlv
    go_enter Try.func96, Try.ntmps96
    go_wp2_with (go_at_fn 105; refine (cntClosure _ bo _ _ _ _ rfl q (by omega) #[] K rfl).mono ?_; rintro e w1 ⟨rfl, K1, hg⟩)
    go_ret
    exact ⟨rfl, K1, hg⟩
  | succ n ih =>
    intro used list v w B q hn hlv own hB hbo K hu hq
    obtain ⟨a, b, off, c, rfl, hlen, hix, hc, hb⟩ := (hlv w (GrownIn.refl _ _)).view Try.prog 24 3 Try.underlying24 intElem
    obtain ⟨av, cv, rfl⟩ := own.shape
    have hlt : list.length < l.length := by omega
    have ht : ((list.length : Int) == (l.length : Int)) = false := by simp; omega
    have hxb := HM.out _ (List.getElem_mem hlt)
    have hck := hc list.length hlt
    have hixk := fun W => hix W list.length hlt
    have hd := natL_drop l list.length hlt
    rw [getD_at l list.length hlt] at hd
    obtain ⟨x, hx⟩ : ∃ x : Nat, l[list.length] = (x : Int) := ⟨l[list.length].toNat, by omega⟩
    rw [hx] at hxb hck hd
    rw [Int.toNat_natCast] at hd
    have hxG : x < 2 ^ G := by have := hxb.2; exact_mod_cast this
    have hx64 : x < 64 := Nat.lt_of_lt_of_le hxG (Nat.pow_le_pow_right (n := 2) (by decide) hG)
    have hel := elL_diff x used G hG hxG hu
    obtain ⟨P, hP⟩ : ∃ P, P = frB x used := ⟨_, rfl⟩
    rw [show (fun e => nbit x e && !nbit used e) = P from hP.symm] at hel
    have hdif := idif_is (a := (x : Int)) (b := (used : Int)) (by omega) (by omega) (by omega) (by omega)
    have hdb := idif_bd (x : Int) used 64 (by omega) (by omega)
    obtain ⟨d, hdd⟩ : ∃ d, d = idif (x : Int) used := ⟨_, rfl⟩
    rw [← hdd] at hdif hdb hel
    obtain ⟨t, ht'⟩ : ∃ t, t = (natL l).drop (list.length + 1) := ⟨_, rfl⟩
    rw [← ht'] at hd
    obtain ⟨F, hF⟩ : ∃ F : Nat → Nat, F = fun e => cntL G t (used ||| 2 ^ e) := ⟨_, rfl⟩
    have hcn : cntL G ((natL l).drop list.length) used = sE F (elL d) := by rw [hd, cntL, hel, sE_chosen, hP, hF]
    rw [hcn] at hq ⊢
    have hel6 := elL_len6 d
    have hebd := elL_bd6 d
    have HN := Lib.hid hn
    have HF := Lib.hid hF
    have HT := Lib.hid ht'
    have IH := Lib.hid ih
    have HLV := Lib.hid hlv
    clear hn hx hd hF hP ih hc hix hxb hxG hx64 hel ht' hcn hlv hdd
    go_enter Try.func96, Try.ntmps96
    go_wp2_with fail
    refine (elementsOf_i d _ hdb.1 hdb.2).mono ?_
    rintro e w1 ⟨p1, i1, q1, rfl, o1, hb1⟩
    have hi1 : i1 = (elL d).length := o1.ints.capLe.1
    obtain ⟨E, hE⟩ : ∃ E, E = elL d := ⟨_, rfl⟩
    rw [← hE] at o1 hi1 hel6 hebd hq
    subst hi1
    have HE := Lib.hid hE
    have HEB := Lib.hid hebd
    have HQ := Lib.hid hq
    have K1 := K.keep hb1
    have s1 : sE F (E.take 0) = 0 := by simp [sE]
    have HS1 := Lib.hid s1
    clear hE hebd hq s1 K
    go_wp2_with fail
    go_loopw [29] (fun i wr => ∃ j : Nat, j ≤ E.length ∧ i = .int .i64 j ∧ Blk wr bo 3 #[.int .i64 ((q + sE F (E.take j) : Nat) : Int)] ∧ GrownIn w wr (fun k => k = bo) ∧ OwnI 3 w.heap.size wr (.slice p1 E.length q1) E) (fun i _ => E.length - (intOf i).toNat)
    case atStart => exact ⟨0, Nat.zero_le _, rfl, by rw [HS1.out]; exact K1, GrownIn.of_below hb1, o1⟩
    case round =>
      clear K1 o1 hb1
      obtain ⟨j, hj, rfl, K, gw, oE⟩ := hrel
      have yw := gw.size
      by_cases hje : j < E.length
      · have ol := own.growIn gw (fun k h1 _ h3 => by omega)
        obtain ⟨a5, bj, offj, c5, he5, hlenj, hixj, hcj, _⟩ := oE.ints.view Try.prog 24 3 Try.underlying24 intElem
        simp only [Value.slice.injEq, true_and] at he5
        obtain ⟨rfl, rfl⟩ := he5
        have hejb := HEB.out _ (List.getElem_mem hje)
        have hcjj := hcj j hje
        have hixjj := fun W => hixj W j hje
        have hss := sE_succ F E j hje
        have hsl := sE_le F E (j + 1)
        obtain ⟨e, he'⟩ : ∃ e : Nat, E[j] = (e : Int) := ⟨E[j].toNat, by omega⟩
        rw [he'] at hcjj hejb hss
        rw [Int.toNat_natCast] at hss
        have hp := pow2_bd' e hejb
        have hto : (2 : Int) ^ (e : Int).toNat = 2 ^ e := by simp
        rw [hto] at hp
        have hor : bits .or .i64 (used : Int) (2 ^ e) = ior used (2 ^ e) := ior_is (by omega) (by omega) (by omega) (by omega)
        have hob := ior_bd used (2 ^ e) 6 (by omega) (by omega) (by omega) (by omega)
        rw [ior_nat] at hor hob
        have hFe : F e = cntL G t (used ||| 2 ^ e) := by rw [HF.out]
        obtain ⟨S, hS⟩ : ∃ S, S = sE F (E.take j) := ⟨_, rfl⟩
        rw [← hS] at hss K
        have hrec : ∀ (v6 : Value) (w6 : World), OwnI 3 wr.heap.size w6 v6 (list ++ [(e : Int)]) → Below wr.heap.size wr w6 →
            Calls Try.prog 96 #[.slice a l.length c, .int .i64 ((used ||| 2 ^ e : Nat) : Int), v6, .func (.func 105) #[] #[.pointer (some ⟨bo, 0, none⟩)]] w6 fun e' w' => e' = .returned (.bool true) ∧ Blk w' bo 3 #[.int .i64 ((q + sE F (E.take (j + 1)) : Nat) : Int)] ∧ GrownIn w6 w' (fun k => k = bo) := fun v6 w6 h1 h2 => by
          have gg := gw.trans (GrownIn.of_below h2)
          have hlen : (list ++ [(e : Int)]).length = list.length + 1 := by rw [List.length_append, List.length_singleton]
          have := IH.out (used ||| 2 ^ e) (list ++ [(e : Int)]) v6 w6 wr.heap.size (q + S) (by have := HN.out; rw [hlen]; omega) (fun W hW => HLV.out W (gg.trans hW)) h1 h2.size (by omega) (K.keep h2) (by omega) (by rw [hlen, ← HT.out, ← hFe]; have := HQ.out; omega)
          rw [hlen, ← HT.out, ← hFe] at this
          rw [hss, ← Nat.add_assoc]
          exact this
        obtain ⟨u2, hu2⟩ : ∃ u, u = used ||| 2 ^ e := ⟨_, rfl⟩
        rw [← hu2] at hor
        simp only [← hu2] at hrec
        obtain ⟨S2, hS2⟩ : ∃ S, S = sE F (E.take (j + 1)) := ⟨_, rfl⟩
        simp only [← hS2] at hrec
        have HREC := Lib.hid hrec
        have HS2 := Lib.hid hS2
        have hL1 : ([] : List Int).length + list.length ≤ 17592186044416 := by simp; omega
        have hL2 : ([] ++ list).length < 17592186044415 := by simp; omega
        have hER : InR (e : Int) := ⟨by omega, by omega⟩
        have HL1 := Lib.hid hL1
        have HL2 := Lib.hid hL2
        have HER := Lib.hid hER
        have HOE := Lib.hid oE
        have hp1 := hp.1
        have hp2 := hp.2
        have he6 : e < 6 := by omega
        clear hrec hL1 hL2 hER hFe hu2 hob hto he' hejb hp oE hcj hixj hss hsl hS hS2
        go_wp2_with (first
  | (at_builtin; refine wpList_appendN rfl _ _ _ rfl 3 Try.underlying24 intElem wr.heap.size (.slice none 0 0) [] rfl (OwnI.nil _ _ _) (.slice av list.length cv) list rfl ol.ints HL1.out (Nat.le_refl _) ?_; intro v5 w5 o5 g5 n5; have b5 := (Below.refl wr.heap.size wr).grown g5 (Nat.le_refl _) (fun q hq => ((OwnI.nil 3 wr.heap.size wr).lt q hq).1))
  | (at_builtin; refine wpList_appendN1 rfl _ _ _ rfl 3 Try.underlying24 intElem wr.heap.size v5 ([] ++ list) (e : Int) w5.heap.size rfl rfl (cell_new _ _ _ _ _ rfl) (o5.alloc _) HER.out HL2.out (b5.alloc b5.size _).size ?_; intro v6 w6 o6 g6 n6; have b6 := (b5.alloc b5.size _).grown g6 (b5.alloc b5.size _).size (fun q hq => (o5.lt q hq).1))
  | (go_at_call 96; refine (HREC.out v6 w6 o6 b6).mono ?_; rintro e7 w7 ⟨rfl, K7, g7⟩))
        go_roundw
        case rel => exact ⟨j + 1, by omega, by go_num, by rw [← HS2.out]; exact K7, (gw.trans (GrownIn.of_below b6)).trans g7, (HOE.out.keep b6).growIn g7 (fun k h1 _ h3 => by omega)⟩
        case measure => simp [intOf]; omega
      · rw [List.take_of_length_le (by omega)] at K
        have HK := Lib.hid K
        clear K
        go_wp2
        go_ret
        exact ⟨rfl, by rw [← HE.out]; exact HK.out, gw⟩
set_option maxHeartbeats 2000000 in
set_option maxRecDepth 100000 in
theorem cntI28_any (w : World) (g : Int) (v : Value) (l : List Int) (hv : Ints w v l) :
    Calls Try.prog 48 #[.int .i64 g, v] w fun e w' => e = .returned (.int .i64 (cntR g l)) ∧ Below w.heap.size w w' := by
  have hv0 := hv
  obtain ⟨a, c, rfl⟩ := hv.shape
  cases hf : fewB g l with
  | false =>
    have hx : cntR g l = -1 := by unfold cntR; rw [hf]; rfl
    have HX := Lib.hid hx
    have HF := Lib.hid hf
    clear hx hf
    go_enter Try.func48, Try.ntmps48
    go_wp2_with (go_at_call 95; refine (areFew_any g l _ _ hv0).mono ?_; rintro e w1 ⟨rfl, rfl⟩; rw [HF.out])
    go_ret
    exact ⟨ret_int HX.out.symm, Below.refl _ _⟩
  | true =>
    have HF := Lib.hid hf
    obtain ⟨G, rfl, hG, hl6, hm, _⟩ := few_set hf
    have hx : cntR (G : Int) l = ((cntL G (natL l) 0 : Nat) : Int) := by unfold cntR; rw [hf, Int.toNat_natCast]; rfl
    have hle : cntL G (natL l) 0 ≤ 46656 := Nat.le_trans (cntL_le G hG _ 0) (by rw [natL_len]; exact Nat.le_trans (Nat.pow_le_pow_right (by decide) hl6) (by decide))
    have hmf : ∀ (fn : Fn) (first cap : Array Value) (w : World), (Instr.makeFunc fn first cap).run Try.prog w = .ok (.func fn first cap) w := fun _ _ _ _ => rfl
    have hvis := fun V (hB : Below w.heap.size w V) (hz : w.heap.size + 1 ≤ V.heap.size) (hK : Blk V w.heap.size 3 #[.int .i64 ((0 : Nat) : Int)]) =>
      visitC_any l (.slice a l.length c) G hG hm hl6 w.heap.size l.length 0 [] (.slice none 0 0) V (w.heap.size + 1) 0 (by simp) (fun W hW => hv0.below (Below.growIn hB hW hB.size (fun k hk => by omega)) (Nat.le_refl _)) (OwnI.nil _ _ _) hz (by omega) hK (by omega) (by simp only [List.length_nil, List.drop_zero]; omega)
    simp only [List.length_nil, List.drop_zero, Nat.zero_add] at hvis
    obtain ⟨R, hR⟩ : ∃ R, R = cntL G (natL l) 0 := ⟨_, rfl⟩
    simp only [← hR] at hvis
    rw [← hR] at hx
    have HV := Lib.hid hvis
    have HX := Lib.hid hx
    clear hvis hf hm hx hR hle
    go_enter Try.func48, Try.ntmps48
    go_wp2_with (go_at_call 95; refine (areFew_any (G : Int) l _ _ hv0).mono ?_; rintro e w1 ⟨rfl, rfl⟩; rw [HF.out])
    refine calls_named ?_
    intro V hV
    have B : Below w.heap.size w V := by rw [hV]; exact bl1 _ _
    have K1 : Blk V w.heap.size 3 #[.int .i64 ((0 : Nat) : Int)] := by rw [hV]; exact Blk.new _ _ _
    have z2 := K1.lt
    clear hV
    refine (HV.out V B (by omega) K1).mono ?_
    rintro e w3 ⟨rfl, K3, g3⟩
    have B3 := Below.growIn B g3 B.size (fun k hk => by omega)
    have G1 := K3.cell
    clear K1
    go_wp2
    go_ret
    exact ⟨ret_int HX.out.symm, B3⟩
end Go.Proofs.Ytmfenalnmpndmaa
