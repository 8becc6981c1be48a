/- Representatives and violators: the second program. The deficiency: both programs. Which lists are representations: plain, and the first program's test of an element. Sets and families that are read: what is computed. Greedy covers, in plain words. Greedy covers. Sets that are read: the first program. -/
import Derived.Test.YtipejodijbjpcaaGreatDoorQ16
import Derived.Deep.RegionHeld3
import Derived.Deep.CutRange
section
namespace Go.Proofs.YtipejodijbjpcaaGreatDoor
open Go.RowKit Go.G5

/-! the elements of a difference -/
theorem nbit_diff : ∀ x : Nat, x < 64 → ∀ u : Nat, u < 64 → ∀ e : Nat, e < 6 → nbit (ndiff x u) e = (nbit x e && !nbit u e) := by decide +kernel
theorem chosen_congr (P Q : Nat → Bool) (n : Nat) (h : ∀ e, e < n → P e = Q e) : chosen P n = chosen Q n := by
  induction n with
  | zero => rfl
  | succ n ih => rw [chosen_succ, chosen_succ, ih (fun e he => h e (by omega)), h n (by omega)]
theorem elL_diff (x u G : Nat) (hG : G ≤ 6) (hx : x < 2 ^ G) (hu : u < 64) : elL (idif (x : Int) (u : Int)) = chosen (fun e => nbit x e && !nbit u e) G := by
  have hx64 : x < 64 := Nat.lt_of_lt_of_le hx (Nat.pow_le_pow_right (n := 2) (by decide) hG)
  have hd : ndiff x u < 2 ^ G := ndiff_lt x u _ hx
  have e1 : elL (idif (x : Int) (u : Int)) = famOf (ndiff x u) 6 := by
    unfold elL idif; rfl
  rw [e1, famOf_same (ndiff x u) 6 G (Nat.lt_of_lt_of_le hd (Nat.pow_le_pow_right (by decide) hG)) hd]
  unfold famOf
  exact chosen_congr _ _ G (fun e he => nbit_diff x hx64 u hu e (by omega))
theorem ibit_zero (c s : Nat) : (ibit (c : Int) s == 0) = !nbit c s := by
  have h := nbit_is c s
  have h2 : ibit (c : Int) s = 0 ∨ ibit (c : Int) s = 1 := by
    unfold ibit
    omega
  rcases h2 with h2 | h2
  · rw [h2] at h ⊢; rw [← h]; rfl
  · rw [h2] at h ⊢; rw [← h]; rfl

end Go.Proofs.YtipejodijbjpcaaGreatDoor
end
section
namespace Go.Proofs.YtipejodijbjpcaaGreatDoor
open Go.RowKit Go.G5

def lackN (l : List Int) (code : Nat) : Int := (pop code : Int) - ipop (unionTo l code l.length)
def defTo (l : List Int) : Nat → Int
  | 0 => 0
  | k + 1 => max (defTo l k) (lackN l k)
def defN (g : Int) (l : List Int) : Int := if fewB g l then defTo l (2 ^ l.length) else -1
end Go.Proofs.YtipejodijbjpcaaGreatDoor
end
section
namespace Go.Proofs.YtipejodijbjpcaaGreatDoor
open Go.RowKit Go.G5

def usedAt (x : List Int) : Nat → Nat
  | 0 => 0
  | k + 1 => setBit (usedAt x k) (x.getD k 0).toNat
def rpAt (g : Int) (l x : List Int) (k : Nat) : Bool := (decide (0 ≤ x.getD k 0) && decide (x.getD k 0 < g)) && (nbit (l.getD k 0).toNat (x.getD k 0).toNat && !nbit (usedAt x k) (x.getD k 0).toNat)
def isRepB (g : Int) (l x : List Int) : Bool := fewB g l && (decide (x.length = l.length) && allTo (rpAt g l x) x.length)
theorem usedAt_lt (x : List Int) (G : Nat) : ∀ k, (∀ i, i < k → 0 ≤ x.getD i 0 ∧ x.getD i 0 < (G : Int)) → usedAt x k < 2 ^ G := by
  intro k
  induction k with
  | zero => intro _; exact Nat.two_pow_pos G
  | succ k ih =>
    intro h
    have h1 := ih (fun i hi => h i (by omega))
    have h2 := h k (by omega)
    rw [usedAt]
    exact setBit_lt _ _ _ h1 (by omega)
set_option maxHeartbeats 400000 in
theorem isElem_any (n e : Int) (w : World) :
    Calls Tryz.prog 248 #[.int .i64 n, .int .i64 e] w fun e' w' => e' = .returned (.bool (decide (0 ≤ e) && decide (e < n))) ∧ w = w' := by
  by_cases h0 : 0 ≤ e
  · have t := decide_eq_true h0
    go_enter Tryz.func248, Tryz.ntmps248
    go_wp2
    go_ret
    exact ⟨ret_bool (by first | rfl | (rw [t]; rfl)), rfl⟩
  · have t := decide_eq_false h0
    go_enter Tryz.func248, Tryz.ntmps248
    go_wp2
    go_ret
    exact ⟨ret_bool (by first | rfl | (rw [t]; rfl)), rfl⟩
end Go.Proofs.YtipejodijbjpcaaGreatDoor
end
section
namespace Go.Proofs.YtipejodijbjpcaaGreatDoor
open Go.RowKit Go.G5

/-- what strings.Index reads of the library -/
def MaxL (w : World) : Prop := ∃ m, w.cell? ⟨0, 0, none⟩ = some (.int .i64 m)
theorem MaxL.keep {w w' : World} (h : MaxL w) (hb : Below w.heap.size w w') : MaxL w' := by
  obtain ⟨m, hm⟩ := h
  exact ⟨m, Go.G5.keep hb hm⟩
theorem split_c (c : UInt8) (s : ByteArray) (w : World) (hm : MaxL w) (hs : s.size < 4294967281) :
    Calls Tryz.prog 108 #[.string s, .string ⟨#[c]⟩] w fun e w' => e = .returned (.slice (some ⟨w.heap.size, 0, none⟩) (cutB c s).length (cutB c s).length) ∧ w' = w.alloc (.cells ((cutB c s).map Value.string).toArray 9) := by
  obtain ⟨m, hm⟩ := hm
  have h := sh_strings_Split s ⟨#[c]⟩ m w hs hm (by show 1 ≤ 1; exact Nat.le_refl _)
  rw [splitB_cut] at h
  have hl : Lib.countB s ⟨#[c]⟩ + 1 = (cutB c s).length := by
    rw [← splitB_cut]
    exact (Lib.splitB_all ⟨#[c]⟩ (by show 1 ≤ 1; exact Nat.le_refl _) 0 _ s rfl).symm
  rw [hl] at h
  exact h
/-- the element that a text tells -/
def elP (n : Int) (p : ByteArray) : Bool := pB p && (decide (0 ≤ pN p) && decide (pN p < n))
def psTo (ps : List ByteArray) : Nat → Nat
  | 0 => 0
  | k + 1 => setBit (psTo ps k) (pN (ps.getD k ByteArray.empty)).toNat
def psF (ps : List ByteArray) : Nat := psTo ps ps.length
def psB (n : Int) (s : ByteArray) : Bool := inB n 0 6 && (decide (s = dashB) || ((cutB 44 s).all (elP n) && decide (setTx n (psF (cutB 44 s) : Int) = s)))
def psV (n : Int) (s : ByteArray) : Int := if psB n s then (if s = dashB then 0 else (psF (cutB 44 s) : Int)) else 0
theorem psV_no {n : Int} {s : ByteArray} (h : psB n s = false) : psV n s = 0 := by unfold psV; rw [h]; rfl
theorem elP_nat {N : Nat} {p : ByteArray} (h : elP (N : Int) p = true) : pB p = true ∧ ∃ e : Nat, pN p = (e : Int) ∧ e < N := by
  unfold elP at h
  simp only [Bool.and_eq_true, decide_eq_true_eq] at h
  obtain ⟨h1, h2, h3⟩ := h
  obtain ⟨e, he⟩ := Int.eq_ofNat_of_zero_le h2
  exact ⟨h1, e, he, by omega⟩
theorem getD_b (ps : List ByteArray) (k : Nat) (h : k < ps.length) : ps.getD k ByteArray.empty = ps[k] := by
  rw [List.getD_eq_getElem?_getD, List.getElem?_eq_getElem h]; rfl
theorem psTo_lt (N : Nat) (ps : List ByteArray) : ∀ k, k ≤ ps.length → (ps.take k).all (elP (N : Int)) = true → psTo ps k < 2 ^ N := by
  intro k
  induction k with
  | zero => intro _ _; exact Nat.two_pow_pos N
  | succ k ih =>
    intro hk h
    rw [List.take_succ_eq_append_getElem hk, List.all_append, Bool.and_eq_true] at h
    have h2 : elP (N : Int) ps[k] = true := by simpa using h.2
    obtain ⟨_, e, he, heN⟩ := elP_nat h2
    rw [psTo, getD_b ps k hk, he, Int.toNat_natCast]
    exact setBit_lt _ e N (ih (by omega) h.1) heN
theorem all_false_b (P : ByteArray → Bool) (l : List ByteArray) (k : Nat) (h : k < l.length) (hx : P l[k] = false) : l.all P = false := by
  cases ha : l.all P with
  | false => rfl
  | true =>
    have := List.all_eq_true.1 ha l[k] (List.getElem_mem h)
    rw [hx] at this; cases this
theorem psB_bad {n : Int} {s : ByteArray} (hd : s ≠ dashB) (h : (cutB 44 s).all (elP n) = false) : psB n s = false := by
  unfold psB
  rw [h, decide_eq_false hd]
  simp
theorem psB_fin {n : Int} {s : ByteArray} (hn : inB n 0 6 = true) (hd : s ≠ dashB) (h : (cutB 44 s).all (elP n) = true) : psB n s = decide (setTx n (psF (cutB 44 s) : Int) = s) := by
  unfold psB
  rw [h, decide_eq_false hd, hn]
  simp
theorem psV_yes {n : Int} {s : ByteArray} (hd : s ≠ dashB) (h : psB n s = true) : psV n s = (psF (cutB 44 s) : Int) := by unfold psV; rw [if_pos h, if_neg hd]
theorem psB_dash {n : Int} (hn : inB n 0 6 = true) : psB n dashB = true ∧ psV n dashB = 0 := by
  have : psB n dashB = true := by unfold psB; rw [hn]; simp
  exact ⟨this, by unfold psV; rw [if_pos this, if_pos rfl]⟩
theorem psB_out {n : Int} {s : ByteArray} (hn : inB n 0 6 = false) : psB n s = false := by unfold psB; rw [hn]; rfl
/-- what is read is a set -/
theorem psV_set {N : Nat} {s : ByteArray} (h : psB (N : Int) s = true) : 0 ≤ psV (N : Int) s ∧ psV (N : Int) s < 2 ^ N := by
  have hp : ((2 ^ N : Nat) : Int) = (2 : Int) ^ N := by push_cast; rfl
  have hp0 := Nat.two_pow_pos N
  by_cases hd : s = dashB
  · subst hd
    have : psV (N : Int) dashB = 0 := by unfold psV; rw [if_pos h, if_pos rfl]
    rw [this]; omega
  · rw [psV_yes hd h]
    have ha : (cutB 44 s).all (elP (N : Int)) = true := by
      cases hx : (cutB 44 s).all (elP (N : Int)) with
      | true => rfl
      | false => rw [psB_bad hd hx] at h; cases h
    have := psTo_lt N (cutB 44 s) _ (Nat.le_refl _) (by rw [List.take_length]; exact ha)
    unfold psF
    omega
end Go.Proofs.YtipejodijbjpcaaGreatDoor
end
section
namespace Go.Proofs.YtipejodijbjpcaaGreatDoor
open Go.RowKit Go.G5

def betterF (left : Int) (b s : Int) : Int := if ipop (iand b left) < ipop (iand s left) then s else b
def bestOf (l : List Int) (left : Int) : Int := l.foldl (betterF left) 0
def greedyRun (l : List Int) : Nat → Int → Option (List Int)
  | 0, left => if left = 0 then some [] else none
  | n + 1, left => if left = 0 then some [] else if iand (bestOf l left) left = 0 then none else (greedyRun l n (idif left (bestOf l left))).map (bestOf l left :: ·)
def greedyOf (g : Int) (l : List Int) : Option (List Int) := if isFamB g l then greedyRun l 64 (2 ^ g.toNat - 1) else none
def greedyL (g : Int) (l : List Int) : List Int := (greedyOf g l).getD []
def greedyB (g : Int) (l : List Int) : Bool := (greedyOf g l).isSome

end Go.Proofs.YtipejodijbjpcaaGreatDoor
end
section
namespace Go.Proofs.YtipejodijbjpcaaGreatDoor
open Go.RowKit Go.G5

end Go.Proofs.YtipejodijbjpcaaGreatDoor
end
section
namespace Go.Proofs.YtipejodijbjpcaaGreatDoor
open Go.RowKit Go.G5

theorem ix_str (b n c k : Nat) (hk : k < n) (W : World) : (Instr.indexAt 94 (.slice (some ⟨b, 0, none⟩) n c) (.int .i64 (k : Int))).run Tryz.prog W = .ok (.pointer (some ⟨b, k, none⟩)) W := by
  have hT := Tryz.underlying94
  have hE : Tryz.prog.elem 94 = 9 := by simp [Program.elem, hT]
  obtain ⟨i, hi, _, hi', _⟩ := strElem.get
  rw [run_indexAt_slice W 94 ⟨b, 0, none⟩ n c .i64 k (by rw [hE]; exact hT), if_pos ⟨by omega, by omega⟩, hE]
  simp [sizeOf, typeInfo, hi, hi', Addr.add]
  omega
theorem cut_cell {w : World} {g : Nat} {t : TypeId} {ps : List ByteArray} (K : Blk w g t (ps.map Value.string).toArray) (k : Nat) (h : k < ps.length) : w.cell? ⟨g, k, none⟩ = some (.string ps[k]) := by
  rw [K.cell]
  simp [h]
set_option maxHeartbeats 2000000 in
set_option maxRecDepth 100000 in
theorem psetI_any (n : Int) (s : ByteArray) (w : World) (hs : s.size ≤ 2000000) (hp : Pow w) (hm : MaxL w) :
    Calls Tryz.prog 144 #[.int .i64 n, .string s] w fun e w' => e = .returned (.tuple #[.int .i64 (psV n s), .bool (psB n s)]) ∧ Below w.heap.size w w' := by
  have hwi := within_any n 0 6 w
  cases hn : inB n 0 6 with
  | false =>
    rw [hn] at hwi
    have HPB := Lib.hid (psB_out (s := s) hn)
    have HW := Lib.hid hwi
    clear hn hwi
    go_enter Tryz.func144, Tryz.ntmps144
    go_wp2_with fail
    refine HW.out.mono ?_
    rintro e w1 ⟨rfl, rfl⟩
    go_wp2
    go_ret2
    exact ⟨ret_pair (psV_no HPB.out).symm HPB.out.symm, Below.refl _ _⟩
  | true =>
  rw [hn] at hwi
  have HW := Lib.hid hwi
  clear hwi
  by_cases hd : s = dashB
  · subst hd
    have HD := Lib.hid (psB_dash hn)
    have hte : ((dashB).toList == [45]) = true := by rw [show ([45] : List UInt8) = dashB.toList by decide +kernel, str_eq]; simp
    clear hn
    go_enter Tryz.func144, Tryz.ntmps144
    go_wp2_with fail
    refine HW.out.mono ?_
    rintro e w1 ⟨rfl, rfl⟩
    go_wp2
    go_ret2
    exact ⟨ret_pair HD.out.2.symm HD.out.1.symm, Below.refl _ _⟩
  have hte : (s.toList == [45]) = false := by rw [show ([45] : List UInt8) = dashB.toList by decide +kernel, str_eq, decide_eq_false hd]
  obtain ⟨h0, h6⟩ := inB_true.1 hn
  obtain ⟨N, rfl⟩ := Int.eq_ofNat_of_zero_le h0
  have hbad := psB_bad (n := (N : Int)) hd
  have hfin := psB_fin hn hd
  have hyes := psV_yes (n := (N : Int)) hd
  have hlt0 := psTo_lt N (cutB 44 s)
  have hlen := cutB_len 44 s
  have hpart := cutB_part 44 s
  have hsp := split_c 44 s w hm (by omega)
  obtain ⟨ps, hps⟩ : ∃ ps, ps = cutB 44 s := ⟨_, rfl⟩
  rw [← hps] at hbad hfin hyes hlt0 hlen hpart hsp
  have hat := fun k => getD_b ps k
  have hN6 : (2 : Nat) ^ N ≤ 2 ^ 6 := Nat.pow_le_pow_right (by decide) (by omega)
  have HBAD := Lib.hid hbad
  have HFIN := Lib.hid hfin
  have HYES := Lib.hid hyes
  have HLT := Lib.hid hlt0
  have HPART := Lib.hid hpart
  have HSP := Lib.hid hsp
  have HAT := Lib.hid hat
  clear hbad hfin hyes hlt0 hpart hsp hat hps hd hn
  go_enter Tryz.func144, Tryz.ntmps144
  go_wp2_with fail
  refine HW.out.mono ?_
  rintro e w1 ⟨rfl, rfl⟩
  go_wp2_with fail
  refine HSP.out.mono ?_
  rintro e w1 ⟨rfl, rfl⟩
  have K1 : Blk (w.alloc (.cells (ps.map Value.string).toArray 9)) w.heap.size 9 (ps.map Value.string).toArray := Blk.new _ _ _
  have B1 : Below w.heap.size w (w.alloc (.cells (ps.map Value.string).toArray 9)) := bl1 _ _
  obtain ⟨V, hV⟩ : ∃ V, V = w.alloc (.cells (ps.map Value.string).toArray 9) := ⟨_, rfl⟩
  rw [← hV] at K1 B1 ⊢
  clear hV HW HSP hte
  go_wp2_with fail
  go_loopw [19, 6] (fun iv uv wr => ∃ k : Nat, k ≤ ps.length ∧ iv = .int .i64 k ∧ uv = .int .i64 (psTo ps k : Int) ∧ (ps.take k).all (elP (N : Int)) = true ∧ Below w.heap.size w wr ∧ Blk wr w.heap.size 9 (ps.map Value.string).toArray) (fun iv _ _ => ps.length - (intOf iv).toNat)
  case atStart => exact ⟨0, Nat.zero_le _, rfl, rfl, rfl, B1, K1⟩
  case round =>
    obtain ⟨k, hk, rfl, rfl, hall, Bw, Kw⟩ := hrel
    have hu := HLT.out k hk hall
    have HALL := Lib.hid hall
    clear hall B1 K1
    by_cases hlt : k < ps.length
    · have hlt2 : (k : Int) < (ps.length : Int) := by omega
      have hcell := cut_cell Kw k hlt
      have hix := fun W => ix_str w.heap.size ps.length ps.length k hlt W
      have hgd := HAT.out k hlt
      have hsz := HPART.out _ (List.getElem_mem hlt)
      have hps1 : psTo ps (k + 1) = setBit (psTo ps k) (pN ps[k]).toNat := by rw [psTo, hgd]
      have htk : (ps.take (k + 1)).all (elP (N : Int)) = elP (N : Int) ps[k] := by rw [List.take_succ_eq_append_getElem hlt, List.all_append, HALL.out]; simp
      have hfls := all_false_b (elP (N : Int)) ps k hlt
      obtain ⟨x, hx⟩ : ∃ x, x = ps[k] := ⟨_, rfl⟩
      rw [← hx] at hcell hsz hps1 htk hfls
      obtain ⟨u, hue⟩ : ∃ u, u = psTo ps k := ⟨_, rfl⟩
      rw [← hue] at hps1 hu ⊢
      have hpi := parseI_any x wr (by omega) (hp.keep Bw)
      have HPS := Lib.hid hps1
      have HTK := Lib.hid htk
      have HFLS := Lib.hid hfls
      clear hgd hps1 htk hfls hx hue HAT
      cases hpb : pB x with
      | false =>
        rw [hpb] at hpi
        have hel : elP (N : Int) x = false := by unfold elP; rw [hpb]; rfl
        have HPI := Lib.hid hpi
        have HPB := Lib.hid (HBAD.out (HFLS.out hel))
        clear hpi hel hpb
        go_wp2_with fail
        refine HPI.out.mono ?_
        rintro e w2 ⟨rfl, b2⟩
        go_wp2
        go_ret2
        exact ⟨ret_pair (psV_no HPB.out).symm HPB.out.symm, Bw.after b2 Bw.size⟩
      | true =>
        rw [hpb, pV_yes hpb] at hpi
        have hei := fun W => isElem_any (N : Int) (pN x) W
        cases hel : (decide (0 ≤ pN x) && decide (pN x < (N : Int))) with
        | false =>
          simp only [hel] at hei
          have hel2 : elP (N : Int) x = false := by unfold elP; rw [hel]; simp
          obtain ⟨y, hy⟩ : ∃ y, y = pN x := ⟨_, rfl⟩
          rw [← hy] at hpi
          simp only [← hy] at hei
          have HPI := Lib.hid hpi
          have HEI := Lib.hid hei
          have HPB := Lib.hid (HBAD.out (HFLS.out hel2))
          clear hpi hel hel2 hpb hei hy
          go_wp2_with fail
          refine HPI.out.mono ?_
          rintro e w2 ⟨rfl, b2⟩
          go_wp2_with fail
          refine (HEI.out _).mono ?_
          rintro e w3 ⟨rfl, rfl⟩
          go_wp2
          go_ret2
          exact ⟨ret_pair (psV_no HPB.out).symm HPB.out.symm, Bw.after b2 Bw.size⟩
        | true =>
          simp only [hel] at hei
          have hel2 : elP (N : Int) x = true := by unfold elP; rw [hpb, hel]; rfl
          obtain ⟨_, e, he, heN⟩ := elP_nat hel2
          have hps1 := HPS.out
          rw [he] at hpi hps1
          simp only [he] at hei
          rw [Int.toNat_natCast] at hps1
          have hsb := setBit_is u e (by omega) (by omega)
          have htk : (ps.take (k + 1)).all (elP (N : Int)) = true := by rw [HTK.out, hel2]
          have he6 : (e : Int) < 6 := by omega
          have hp2 := pow2_bd' (e : Int) (by omega)
          rw [Int.toNat_natCast] at hp2
          have hp3 := hp2.1
          have hp4 := hp2.2
          obtain ⟨u2, hu2⟩ : ∃ u2, u2 = setBit u e := ⟨_, rfl⟩
          rw [← hu2] at hsb hps1
          have HPS1 := Lib.hid hps1
          have HPI := Lib.hid hpi
          have HEI := Lib.hid hei
          have HTK1 := Lib.hid htk
          clear hpi hel hel2 hpb hei htk he hp2 hps1 hu2
          go_wp2_with fail
          refine HPI.out.mono ?_
          rintro e w2 ⟨rfl, b2⟩
          have B2 := Bw.after b2 Bw.size
          have K2 := Kw.keep b2
          clear Bw Kw hcell
          go_wp2_with fail
          refine (HEI.out _).mono ?_
          rintro e w3 ⟨rfl, rfl⟩
          go_wp2
          go_roundw
          case rel => exact ⟨k + 1, by omega, by go_num, by rw [HPS1.out], HTK1.out, B2, K2⟩
          case measure => simp [intOf]; omega
    · have hlt2 : ¬ (k : Int) < (ps.length : Int) := by omega
      have hkl : k = ps.length := by omega
      have hall := HALL.out
      rw [hkl, List.take_length] at hall
      have hfb := HFIN.out hall
      have hyy := HYES.out
      rw [show psF ps = psTo ps k by unfold psF; rw [hkl]] at hfb hyy
      have hfs := fmtSetI_any (N : Int) (psTo ps k : Int) wr (hp.keep Bw)
      obtain ⟨T, hT⟩ : ∃ T, T = setTx (N : Int) (psTo ps k : Int) := ⟨_, rfl⟩
      rw [← hT] at hfs hfb
      obtain ⟨u, hue⟩ : ∃ u, u = psTo ps k := ⟨_, rfl⟩
      rw [← hue] at hfs hyy hu ⊢
      have HFS := Lib.hid hfs
      have HFB := Lib.hid hfb
      have HYY := Lib.hid hyy
      clear hkl hall hfb hyy hfs hT hue
      go_wp2_with fail
      refine HFS.out.mono ?_
      rintro e w2 ⟨rfl, b2⟩
      by_cases ht : T = s
      · have hpb : psB (N : Int) s = true := by rw [HFB.out, decide_eq_true ht]
        have hte : (T.toList == s.toList) = true := by rw [str_eq, decide_eq_true ht]
        have HPB := Lib.hid hpb
        clear hpb ht
        go_wp2
        go_ret2
        exact ⟨ret_pair (HYY.out HPB.out).symm HPB.out.symm, Bw.after b2 Bw.size⟩
      · have hpb : psB (N : Int) s = false := by rw [HFB.out, decide_eq_false ht]
        have hte : (T.toList == s.toList) = false := by rw [str_eq, decide_eq_false ht]
        have HPB := Lib.hid hpb
        clear hpb ht
        go_wp2
        go_ret2
        exact ⟨ret_pair (psV_no HPB.out).symm HPB.out.symm, Bw.after b2 Bw.size⟩
end Go.Proofs.YtipejodijbjpcaaGreatDoor
end
