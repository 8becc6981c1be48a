/- The order of a vector's elements by descending numbers: the plain list. -/
import Derived.Test.YtipejodijbjpcaaGreatDoorQ23
import Derived.Shelf.Abstract
section
namespace Go.Proofs.YtipejodijbjpcaaGreatDoor
open Go.RowKit Go.G5

def scanO (x o : List Int) (y : Int) : Nat → Nat
  | 0 => 0
  | k + 1 => if x.getD (o.getD k 0).toNat 0 < y then scanO x o y k else k + 1
def insO (o : List Int) (e : Int) (k : Nat) : List Int := (o.take k ++ [e]) ++ o.drop k
def ordN (x : List Int) : Nat → List Int
  | 0 => []
  | i + 1 => insO (ordN x i) i (scanO x (ordN x i) (x.getD i 0) i)
def restL (i n : Nat) : List Int := (List.range' i (n - i)).map fun (t : Nat) => (t : Int)
theorem scanO_le (x o : List Int) (y : Int) : ∀ k, scanO x o y k ≤ k := by
  intro k
  induction k with
  | zero => exact Nat.le_refl _
  | succ k ih => rw [scanO]; split <;> omega
theorem insO_len (o : List Int) (e : Int) (k : Nat) (hk : k ≤ o.length) : (insO o e k).length = o.length + 1 := by
  unfold insO
  simp
  omega
theorem ordN_len (x : List Int) : ∀ i, (ordN x i).length = i := by
  intro i
  induction i with
  | zero => rfl
  | succ i ih =>
    have h := scanO_le x (ordN x i) (x.getD i 0) i
    rw [ordN, insO_len _ _ _ (by omega), ih]
theorem insO_mem (o : List Int) (e y : Int) (k : Nat) (h : y ∈ insO o e k) : y ∈ o ∨ y = e := by
  unfold insO at h
  rcases List.mem_append.1 h with h | h
  · rcases List.mem_append.1 h with h | h
    · exact .inl (List.mem_of_mem_take h)
    · exact .inr (List.mem_singleton.1 h)
  · exact .inl (List.mem_of_mem_drop h)
theorem ordN_mem (x : List Int) : ∀ i, ∀ e ∈ ordN x i, 0 ≤ e ∧ e < i := by
  intro i
  induction i with
  | zero => intro e h; simp [ordN] at h
  | succ i ih =>
    intro e h
    rcases insO_mem _ _ _ _ h with h | h
    · have := ih e h; omega
    · subst h; omega
theorem restL_len (i n : Nat) : (restL i n).length = n - i := by unfold restL; simp
theorem restL_cons (i n : Nat) (h : i < n) : restL i n = (i : Int) :: restL (i + 1) n := by
  unfold restL
  rw [show n - i = (n - (i + 1)) + 1 by omega, List.range'_succ]
  rfl
theorem restL_at (n k : Nat) (h : k < (restL 0 n).length) : (restL 0 n)[k] = (k : Int) := by
  unfold restL
  simp
theorem insO_end (o r : List Int) (e : Int) : insO o e o.length ++ r = o ++ e :: r := by
  unfold insO
  simp
theorem insO_at (o r : List Int) (e : Int) (k : Nat) (hk : k ≤ o.length) : (insO o e k ++ r)[k]? = some e := by
  unfold insO
  have h1 : (o.take k).length = k := by rw [List.length_take]; omega
  rw [List.append_assoc, List.append_assoc, List.getElem?_append_right (by omega), h1]
  simp
theorem insO_before (o r : List Int) (e : Int) (k : Nat) (hk : k + 1 ≤ o.length) : (insO o e (k + 1) ++ r)[k]? = some (o[k]'(by omega)) := by
  unfold insO
  have h1 : (o.take (k + 1)).length = k + 1 := by rw [List.length_take]; omega
  rw [List.append_assoc, List.append_assoc, List.getElem?_append_left (by omega), List.getElem?_take, if_pos (by omega), List.getElem?_eq_getElem (by omega)]
theorem insO_swap (o r : List Int) (e : Int) (k : Nat) (hk : k + 1 ≤ o.length) : ((insO o e (k + 1) ++ r).set (k + 1) (o[k]'(by omega))).set k e = insO o e k ++ r := by
  obtain ⟨p, q, t, rfl, hp⟩ : ∃ p q t, o = p ++ q :: t ∧ p.length = k := ⟨o.take k, o[k]'(by omega), o.drop (k + 1), by rw [List.getElem_cons_drop, List.take_append_drop], by rw [List.length_take]; omega⟩
  subst hp
  have h1 : (p ++ q :: t).take (p.length + 1) = p ++ [q] := by rw [List.take_append]; simp [List.take_of_length_le]
  have h2 : (p ++ q :: t).drop (p.length + 1) = t := by rw [List.drop_append]; simp
  have h3 : (p ++ q :: t).take p.length = p := by simp
  have h4 : (p ++ q :: t).drop p.length = q :: t := by simp
  have h5 : (p ++ q :: t)[p.length]'(by simp) = q := by simp
  unfold insO
  rw [h1, h2, h3, h4, h5]
  simp
theorem ordN_at (x : List Int) (i k : Nat) (hk : k < i) : ∃ e : Nat, e < i ∧ (ordN x i)[k]? = some (e : Int) := by
  have h : k < (ordN x i).length := by rw [ordN_len]; exact hk
  have hm := ordN_mem x i _ (List.getElem_mem h)
  refine ⟨((ordN x i)[k]).toNat, by omega, ?_⟩
  rw [List.getElem?_eq_getElem h, show (((ordN x i)[k].toNat : Nat) : Int) = (ordN x i)[k] by omega]
/-- the row in a round of the insertion sort -/
def datO (x : List Int) (n i : Nat) : List Int := ordN x (min i n) ++ restL (min i n) n
theorem datO_start (x : List Int) (n : Nat) : datO x n 1 = restL 0 n := by
  unfold datO
  cases n with
  | zero => rfl
  | succ n =>
    rw [show min 1 (n + 1) = 1 by omega, restL_cons 0 (n + 1) (by omega)]
    rfl
theorem datO_end (x : List Int) (n i : Nat) (h : n ≤ i) : datO x n i = ordN x n := by
  unfold datO
  rw [Nat.min_eq_right h]
  unfold restL
  simp
theorem datO_in (x : List Int) (n i : Nat) (h : i < n) : datO x n i = insO (ordN x i) i i ++ restL (i + 1) n := by
  unfold datO
  rw [Nat.min_eq_left (Nat.le_of_lt h), restL_cons i n h]
  have := insO_end (ordN x i) (restL (i + 1) n) i
  rw [ordN_len] at this
  exact this.symm
theorem datO_next (x : List Int) (n i : Nat) (h : i < n) : datO x n (i + 1) = insO (ordN x i) i (scanO x (ordN x i) (x.getD i 0) i) ++ restL (i + 1) n := by
  unfold datO
  rw [Nat.min_eq_left (by omega)]
  rfl

set_option maxHeartbeats 400000 in
theorem descClosure (W : World) (x : List Int) (v : Value) (gb a b : Nat) (p q : Int) (hv : Ints W v x) (ha : x[a]? = some p) (hb : x[b]? = some q) (hx : ∀ y ∈ x, -1000 ≤ y ∧ y ≤ 1000) (d : W.cell? ⟨gb, 0, none⟩ = some v) :
    Calls Tryz.prog 331 #[.int .i64 (a : Int), .int .i64 (b : Int), .pointer (some ⟨gb, 0, none⟩)] W fun e w' => e = .returned (.int .i64 (q - p)) ∧ Below W.heap.size W w' := by
  obtain ⟨ad, bk, off, c, rfl, hlen, hix, hc, hbk⟩ := hv.view Tryz.prog 22 3 Tryz.underlying22 intElem
  obtain ⟨ha1, hp⟩ := List.getElem?_eq_some_iff.1 ha
  obtain ⟨hb1, hq⟩ := List.getElem?_eq_some_iff.1 hb
  have ca := hc a ha1
  have cb := hc b hb1
  have ia := fun W' => hix W' a ha1
  have ib := fun W' => hix W' b hb1
  have ba := hx _ (List.getElem_mem ha1)
  have bb := hx _ (List.getElem_mem hb1)
  rw [hp] at ca ba
  rw [hq] at cb bb
  have hw : IntKind.i64.wrap (q - p) = q - p := by rw [IntKind.wrap_i64]; omega
  clear hc hix ha hb hx hp hq ha1 hb1 hlen hbk hv
  go_enter Tryz.func331, Tryz.ntmps331
  go_wp2_with fail
  go_quiet (fail)
  go_wp2
  go_ret
  exact ⟨rfl, (Below.refl _ _).drewN' _⟩
theorem descClosure_enters : ∀ args w, (callFunc 331 args).run Tryz.prog w = .ok (.enter 331 args) w := enters_of Tryz.func331 (by kernel_rfl) rfl

set_option maxHeartbeats 2000000 in
set_option maxRecDepth 100000 in
theorem insertion_any (x : List Int) (v : Value) (W0 w : World) (gb g n cap : Nat) (hn : n = x.length) (h5 : n ≤ 5) (hv : Ints W0 v x) (hx : ∀ y ∈ x, -1000 ≤ y ∧ y ≤ 1000) (d : W0.cell? ⟨gb, 0, none⟩ = some v)
    (hb : Below W0.heap.size W0 w) (ho : OwnI 3 W0.heap.size w (.slice (some ⟨g, 0, none⟩) n cap) (restL 0 n)) :
    Calls Tryz.prog 387 #[.slice (some ⟨g, 0, none⟩) n cap, .int .i64 0, .int .i64 (n : Int), .func (.func 331) #[] #[.pointer (some ⟨gb, 0, none⟩)]] w fun e w' => e = .returned (.tuple #[]) ∧ OwnI 3 W0.heap.size w' (.slice (some ⟨g, 0, none⟩) n cap) (ordN x n) ∧ Below W0.heap.size W0 w' := by
  have hgb := World.block_lt_of_cell? W0 _ d
  have hg := (ho.lt g rfl).1
  have hd : ∀ W a b p q, Below W0.heap.size W0 W → x[a]? = some p → x[b]? = some q → Calls Tryz.prog 331 #[.int .i64 (a : Nat), .int .i64 (b : Nat), .pointer (some ⟨gb, 0, none⟩)] W fun e w' => e = .returned (.int .i64 (q - p)) ∧ Below W.heap.size W w' :=
    fun W a b p q hB ha hb => descClosure W x v gb a b p q (hv.below hB (Nat.le_refl _)) ha hb hx ((hB.cell (p := ⟨gb, 0, none⟩) hgb).trans d)
  have he := descClosure_enters
  have HD := Lib.hid hd
  have HX := Lib.hid hx
  have HN := Lib.hid hn
  clear hd hv d hx hn
  rw [← datO_start x n] at ho
  go_enter Tryz.func387, Tryz.ntmps387
  go_wp2_with fail
  go_loopw [8] (fun i wr => ∃ k : Nat, i = .int .i64 k ∧ 1 ≤ k ∧ k ≤ n + 1 ∧ OwnI 3 W0.heap.size wr (.slice (some ⟨g, 0, none⟩) n cap) (datO x n k) ∧ Below W0.heap.size W0 wr) (fun i _ => n + 1 - (intOf i).toNat)
  case atStart => exact ⟨1, rfl, by omega, by omega, ho, hb⟩
  case round =>
    obtain ⟨i, rfl, hi1, hin, o, B⟩ := hrel
    clear ho hb
    have HO := Lib.hid o
    clear o
    by_cases hlt : i < n
    · have hlt2 : (i : Int) < (n : Int) := by omega
      have o := HO.out
      rw [datO_in x n i hlt] at o
      obtain ⟨wo, rfl⟩ : ∃ wo : World, wo = wr := ⟨_, rfl⟩
      go_wp2_with fail
      go_loopw [9] (fun j wi => ∃ k : Nat, j = .int .i64 k ∧ k ≤ i ∧ scanO x (ordN x i) (x.getD i 0) k = scanO x (ordN x i) (x.getD i 0) i ∧ OwnI 3 W0.heap.size wi (.slice (some ⟨g, 0, none⟩) n cap) (insO (ordN x i) i k ++ restL (i + 1) n) ∧ Below W0.heap.size W0 wi) (fun j _ => (intOf j).toNat)
      case atStart => exact ⟨i, rfl, Nat.le_refl _, rfl, o, B⟩
      case round =>
        obtain ⟨j, rfl, hji, hsc, oi, Bi⟩ := hrel
        clear o B HO
        have HS := Lib.hid hsc
        clear hsc
        have hl2 : (insO (ordN x i) i j ++ restL (i + 1) n).length = n := by rw [List.length_append, insO_len _ _ _ (by rw [ordN_len]; omega), ordN_len, restL_len]; omega
        cases j with
        | zero =>
          go_wp2
          go_quiet (fail)
          go_wp2
          go_roundw
          case rel =>
            refine ⟨i + 1, by go_num, by omega, by omega, ?_, Bi.drewN' _⟩
            rw [datO_next x n i hlt, ← HS.out]
            exact oi.drewN _
          case measure => simp [intOf]; omega
        | succ k =>
          obtain ⟨e0, hel, hek⟩ := ordN_at x i k (by omega)
          have hlo : k + 1 ≤ (ordN x i).length := by rw [ordN_len]; omega
          have hek1 : (ordN x i)[k]'(by omega) = (e0 : Int) := (List.getElem?_eq_some_iff.1 hek).2
          have hgd : (ordN x i).getD k 0 = (e0 : Int) := by rw [List.getD_eq_getElem?_getD, hek]; rfl
          obtain ⟨hj, hje⟩ := List.getElem?_eq_some_iff.1 (insO_at (ordN x i) (restL (i + 1) n) i (k + 1) hlo)
          obtain ⟨hk, hke⟩ := List.getElem?_eq_some_iff.1 (insO_before (ordN x i) (restL (i + 1) n) i k hlo)
          have hsw := insO_swap (ordN x i) (restL (i + 1) n) i k hlo
          rw [hek1] at hke hsw
          have cj := oi.cellAt hl2.symm (k + 1) hj
          have ck := oi.cellAt hl2.symm k hk
          rw [hje] at cj
          rw [hke] at ck
          have fj := oi.frozenAt hl2.symm (k + 1)
          have fk := oi.frozenAt hl2.symm k
          have xi : x[i]? = some (x.getD i 0) := by rw [List.getD_eq_getElem?_getD, List.getElem?_eq_getElem (by rw [← HN.out]; omega)]; rfl
          have xe : x[e0]? = some (x.getD e0 0) := by rw [List.getD_eq_getElem?_getD, List.getElem?_eq_getElem (by rw [← HN.out]; omega)]; rfl
          have hq1 := HX.out _ (List.mem_of_getElem? xi)
          have hq2 := HX.out _ (List.mem_of_getElem? xe)
          have hsc : scanO x (ordN x i) (x.getD i 0) (k + 1) = if x.getD e0 0 < x.getD i 0 then scanO x (ordN x i) (x.getD i 0) k else k + 1 := by rw [scanO, hgd]; rfl
          have hcl := fun y : Ext wr => HD.out y.w i e0 _ _ (Bi.after y.b Bi.size) xi xe
          obtain ⟨r, hr⟩ : ∃ r, r = x.getD e0 0 - x.getD i 0 := ⟨_, rfl⟩
          rw [← hr] at hcl
          have HC := Lib.hid hcl
          have HSC := Lib.hid hsc
          have HSW := Lib.hid hsw
          have HOI := Lib.hid oi
          have HL2 := Lib.hid hl2
          have hk1 : IntKind.i64.wrap ((((k + 1 : Nat) : Int)) - 1) = (k : Int) := by rw [IntWalk.i64_in _ ⟨by omega, by omega⟩]; omega
          have hz : (0 : Int) < ((k + 1 : Nat) : Int) := by omega
          have hkn : ((k + 1 : Nat) : Int) < (n : Int) := by omega
          have hkn' : (k : Int) < (n : Int) := by omega
          have yj : ∀ y : Ext wr, y.w.cell? ⟨g, k + 1, none⟩ = some (.int .i64 i) := fun y => y.cell cj
          have yk : ∀ y : Ext wr, y.w.cell? ⟨g, k, none⟩ = some (.int .i64 e0) := fun y => y.cell ck
          by_cases hlt3 : x.getD e0 0 < x.getD i 0
          · have hr0 : r < 0 := by omega
            have HLT := Lib.hid hlt3
            have HR := Lib.hid hr
            clear hcl hsc hsw oi hl2 hr hlt3 hq1 hq2 hj hje hk hke xi xe hek hek1 hgd hlo
            go_wp2_with fail
            refine wp_region_ext _ (by kernel_rfl) (by kernel_rfl) ?_
            repeat (first | go_big_quiet_skip | (go_big_quiet_want; go_big_quiet_op; first | go_big_quiet_on | (apply Exists.intro; refine ⟨fun _ => ?_, ?_⟩; (go_at_fn 331; exact ext_call (HC.out _)); go_big_quiet_on)))
            refine wpQuiet_nil ?_
            rintro w3 ⟨⟨w3, hb3⟩, rfl⟩
            try dsimp only
            have oi3 := HOI.out.keep hb3
            have cj3 := keep hb3 cj
            have ck3 := keep hb3 ck
            have fj3 := oi3.frozenAt HL2.out.symm (k + 1)
            have fk3 := oi3.frozenAt HL2.out.symm k
            have HO3 := Lib.hid oi3
            have B3 := Bi.after hb3 Bi.size
            clear yj yk cj ck fj fk oi3
            go_wp2
            go_region
            all_goals go_wp2
            go_roundw
            case rel =>
              have S : ∀ z, OwnI 3 W0.heap.size (((w3.drewN z).setCell ⟨g, k + 1, none⟩ (.int .i64 e0)).setCell ⟨g, k, none⟩ (.int .i64 i)) (.slice (some ⟨g, 0, none⟩) n cap) (insO (ordN x i) i k ++ restL (i + 1) n) ∧ Below W0.heap.size W0 (((w3.drewN z).setCell ⟨g, k + 1, none⟩ (.int .i64 e0)).setCell ⟨g, k, none⟩ (.int .i64 i)) := by
                intro z
                have s1 := (HO3.out.drewN z).stored HL2.out.symm (k + 1) e0 ⟨by omega, by omega⟩
                have s2 := s1.1.stored (by rw [List.length_set]; exact HL2.out.symm) k i ⟨by omega, by omega⟩
                rw [HSW.out] at s2
                have b1 := (B3.drewN' z).grown s1.2 (B3.drewN' z).size (fun q hq => by have := Option.some.inj hq; omega)
                exact ⟨s2.1, b1.grown s2.2 b1.size (fun q hq => by have := Option.some.inj hq; omega)⟩
              refine ⟨k, rfl, by omega, ?_, (S _).1, (S _).2⟩
              rw [← HS.out, HSC.out, if_pos HLT.out]
            case measure => simp [intOf]; done
          · have hr0 : ¬ r < 0 := by omega
            have HLT := Lib.hid hlt3
            have HR := Lib.hid hr
            clear hcl hsc hsw oi hl2 hr hlt3 hq1 hq2 hj hje hk hke xi xe hek hek1 hgd hlo
            go_wp2_with fail
            refine wp_region_ext _ (by kernel_rfl) (by kernel_rfl) ?_
            repeat (first | go_big_quiet_skip | (go_big_quiet_want; go_big_quiet_op; first | go_big_quiet_on | (apply Exists.intro; refine ⟨fun _ => ?_, ?_⟩; (go_at_fn 331; exact ext_call (HC.out _)); go_big_quiet_on)))
            refine wpQuiet_nil ?_
            rintro w3 ⟨⟨w3, hb3⟩, rfl⟩
            try dsimp only
            go_wp2
            go_roundw
            case rel =>
              refine ⟨i + 1, by go_num, by omega, by omega, ?_, Bi.after hb3 Bi.size⟩
              rw [datO_next x n i hlt, ← HS.out, HSC.out, if_neg (Int.not_lt.2 HLT.out)]
              exact HOI.out.keep hb3
            case measure => simp [intOf]; omega
    · have hlt2 : ¬ (i : Int) < (n : Int) := by omega
      have o := HO.out
      rw [datO_end x n i (by omega)] at o
      go_wp2
      go_end0
      exact ⟨rfl, o, B⟩
set_option maxHeartbeats 1000000 in
set_option maxRecDepth 100000 in
theorem stable_any (x : List Int) (v : Value) (W0 w : World) (gb g n cap : Nat) (hn : n = x.length) (h5 : n ≤ 5) (hv : Ints W0 v x) (hx : ∀ y ∈ x, -1000 ≤ y ∧ y ≤ 1000) (d : W0.cell? ⟨gb, 0, none⟩ = some v)
    (hb : Below W0.heap.size W0 w) (ho : OwnI 3 W0.heap.size w (.slice (some ⟨g, 0, none⟩) n cap) (restL 0 n)) :
    Calls Tryz.prog 368 #[.slice (some ⟨g, 0, none⟩) n cap, .int .i64 (n : Int), .func (.func 331) #[] #[.pointer (some ⟨gb, 0, none⟩)]] w fun e w' => e = .returned (.tuple #[]) ∧ OwnI 3 W0.heap.size w' (.slice (some ⟨g, 0, none⟩) n cap) (ordN x n) ∧ Below W0.heap.size W0 w' := by
  have HC := Lib.hid (insertion_any x v W0 w gb g n cap hn h5 hv hx d hb ho)
  have h20 : ¬ (20 : Int) ≤ (n : Int) := by omega
  have h20' : ¬ (20 : Int) < (n : Int) := by omega
  clear hv hx d hb ho hn
  go_enter Tryz.func368, Tryz.ntmps368
  go_wp2_with fail
  go_loopw [7, 8, 18] (fun a b t wr => a = .int .i64 0 ∧ b = .int .i64 20 ∧ wr = w) (fun _ _ _ _ => 0)
  case atStart => exact ⟨rfl, rfl, rfl⟩
  case round =>
    obtain ⟨rfl, rfl, rfl⟩ := hrel
    go_wp2_with (go_at_call 387; refine HC.out.mono ?_; rintro e w2 ⟨rfl, o, b⟩)
    have HO := Lib.hid o
    clear o
    go_loopw [6] (fun a wr => a = .int .i64 20 ∧ wr = w2) (fun _ _ => 0)
    case atStart => exact ⟨rfl, rfl⟩
    case round =>
      obtain ⟨rfl, rfl⟩ := hrel
      go_wp2
      go_end0
      exact ⟨rfl, HO.out, b⟩
set_option maxHeartbeats 1000000 in
set_option maxRecDepth 100000 in
theorem sortStable_any (x : List Int) (v : Value) (W0 w : World) (gb g n cap : Nat) (hn : n = x.length) (h5 : n ≤ 5) (hv : Ints W0 v x) (hx : ∀ y ∈ x, -1000 ≤ y ∧ y ≤ 1000) (d : W0.cell? ⟨gb, 0, none⟩ = some v)
    (hb : Below W0.heap.size W0 w) (ho : OwnI 3 W0.heap.size w (.slice (some ⟨g, 0, none⟩) n cap) (restL 0 n)) :
    Calls Tryz.prog 330 #[.slice (some ⟨g, 0, none⟩) n cap, .func (.func 331) #[] #[.pointer (some ⟨gb, 0, none⟩)]] w fun e w' => e = .returned (.tuple #[]) ∧ OwnI 3 W0.heap.size w' (.slice (some ⟨g, 0, none⟩) n cap) (ordN x n) ∧ Below W0.heap.size W0 w' := by
  have HC := Lib.hid (stable_any x v W0 w gb g n cap hn h5 hv hx d hb ho)
  clear hv hx d hb ho hn
  go_enter Tryz.func330, Tryz.ntmps330
  go_wp2_with (go_at_call 368; refine HC.out.mono ?_; rintro e w2 ⟨rfl, o, b⟩)
  go_end0
  exact ⟨rfl, o, b⟩

set_option maxHeartbeats 1000000 in
set_option maxRecDepth 100000 in
theorem descending_any (x : List Int) (v : Value) (w : World) (h5 : x.length ≤ 5) (hv : Ints w v x) (hx : ∀ y ∈ x, -1000 ≤ y ∧ y ≤ 1000) :
    Calls Tryz.prog 276 #[v] w fun e w' => ∃ ad i c, e = .returned (.slice ad i c) ∧ OwnI 3 w.heap.size w' (.slice ad i c) (ordN x x.length) ∧ Below w.heap.size w w' := by
  obtain ⟨a, c, rfl⟩ := hv.shape
  obtain ⟨W0, hW0⟩ : ∃ W, W = w.alloc (.cells #[.slice a x.length c] 22) := ⟨_, rfl⟩
  have z0 : W0.heap.size = w.heap.size + 1 := by rw [hW0]; simp
  have d : W0.cell? ⟨w.heap.size, 0, none⟩ = some (.slice a x.length c) := by rw [hW0]; exact cell_new _ _ _ _ _ rfl
  have B0 : Below w.heap.size w W0 := by rw [hW0]; exact bl1 _ _
  have hv0 := hv.below B0 (Nat.le_refl _)
  have hmf : ∀ (fn : Fn) (first cap : Array Value) (w : World), (Instr.makeFunc fn first cap).run Tryz.prog w = .ok (.func fn first cap) w := fun _ _ _ _ => rfl
  have HX := Lib.hid hx
  clear hx
  go_enter Tryz.func276, Tryz.ntmps276
  have d1 := cell_new w #[.slice a x.length c] 22 0 _ rfl
  go_wp2_with (at_make; refine wpList_makeI rfl _ _ _ rfl 3 Tryz.underlying22 intElem x.length _ _ rfl rfl rfl rfl (by omega) ?_; intro w2 hown hg)
  rw [← hW0] at hown hg
  have B2 : Below W0.heap.size W0 w2 := (Below.refl _ _).grown hg (Nat.le_refl _) (by simp)
  clear hg d1
  have hown : OwnI 3 W0.heap.size w2 (.slice (some ⟨w.heap.size + 1, 0, none⟩) x.length x.length) (List.replicate x.length 0) := by rw [z0] at hown ⊢; exact hown
  obtain ⟨n, hn⟩ : ∃ n, n = x.length := ⟨_, rfl⟩
  obtain ⟨l, hl⟩ : ∃ l, l = restL 0 n := ⟨_, rfl⟩
  have hll : l.length = n := by rw [hl, restL_len]; omega
  have hlk : ∀ k, (h : k < l.length) → l[k] = (k : Int) := by subst hl; exact fun k h => restL_at n k h
  have hgr : W0.heap.size ≤ w.heap.size + 1 := by omega
  have e0 : List.replicate x.length (0 : Int) = l.take 0 ++ List.replicate (l.length - 0) 0 := by rw [hll, hn]; rfl
  rw [e0] at hown
  simp only [← hn] at hown h5 hv hv0 d ⊢
  have HLK := Lib.hid hlk
  have HLL := Lib.hid hll
  have HL := Lib.hid hl
  have HN := Lib.hid hn
  clear hlk hll hl hn e0 z0 hW0
  go_loopw [10] (fun i wr => ∃ k : Nat, i = .int .i64 k ∧ k ≤ n ∧ OwnI 3 W0.heap.size wr (.slice (some ⟨w.heap.size + 1, 0, none⟩) n n) (l.take k ++ List.replicate (l.length - k) 0) ∧ Below W0.heap.size W0 wr) (fun i _ => n - (intOf i).toNat)
  case atStart => exact ⟨0, rfl, by omega, hown, B2⟩
  case round =>
    obtain ⟨k, rfl, hk, o, B⟩ := hrel
    clear hown B2
    have HO := Lib.hid o
    clear o
    have hl2 := fill_len l k (by rw [HLL.out]; exact hk)
    rw [HLL.out] at hl2
    rw [HLL.out] at HO
    by_cases hlt : k < n
    · have hlt2 : (k : Int) < (n : Int) := by omega
      have hcell : ∃ q, wr.cell? ⟨w.heap.size + 1, k, none⟩ = some q := ⟨_, HO.out.cellAt hl2.symm k (by omega)⟩
      obtain ⟨q, hcell⟩ := hcell
      have hfr := HO.out.frozenAt hl2.symm k
      have st := HO.out.stored hl2.symm k k ⟨by omega, by omega⟩
      have fs := fill_step l k (by rw [HLL.out]; exact hlt)
      rw [HLK.out, HLL.out] at fs
      rw [fs] at st
      have B1 := B.grown st.2 B.size (fun q hq => by have := Option.some.inj hq; omega)
      have HST := Lib.hid st.1
      clear st fs hl2
      go_wp2
      go_roundw
      case rel => exact ⟨k + 1, by go_num, by omega, by rw [HLL.out]; exact HST.out, B1⟩
      case measure => simp [intOf]; omega
    · have hlt2 : ¬ (k : Int) < (n : Int) := by omega
      have hkn : k = n := by omega
      have o := HO.out
      rw [hkn, Nat.sub_self, List.take_of_length_le (by rw [HLL.out]; exact Nat.le_refl _)] at o
      simp only [List.replicate_zero, List.append_nil] at o
      rw [HL.out] at o
      have HC := Lib.hid (sortStable_any x _ W0 wr w.heap.size (w.heap.size + 1) n n HN.out h5 (HN.out ▸ hv0) HX.out d B o)
      have B0w := B0.trans (B.mono B0.size)
      clear o hkn
      go_wp2_with (go_at_call 330; refine HC.out.mono ?_; rintro e w5 ⟨rfl, o, b⟩)
      go_ret
      exact ⟨_, _, _, rfl, by rw [← HN.out]; exact o.mono B0.size, B0.trans (b.mono B0.size)⟩
end Go.Proofs.YtipejodijbjpcaaGreatDoor
end
