/- Rows of texts that the call has made: append, join, contains. Numbers that are joined: the first program. Numbers that are joined: the second program. The elements of a set. -/
import Derived.Test.YtipejodijbjpcaaGreatDoorQ13
import Derived.Laws.AppendOwn
import Derived.OwnWalk
section
namespace Go.G5
open Go Go.RowKit
structure StrElem (P : Program) (E : TypeId) : Prop where
  info : (P.info? E).map (fun i => (i.zero, i.size, i.bytes)) = some (some (.string ByteArray.empty), 1, 16)
theorem StrElem.get {P : Program} {E : TypeId} (h : StrElem P E) : ∃ i, P.info? E = some i ∧ i.zero = some (.string ByteArray.empty) ∧ i.size = 1 ∧ i.bytes = 16 := info_parts h.info
/-- the slice value v owns a row from block B on that reads as the texts xs -/
def OwnS (E : TypeId) (B : Nat) (w : World) (v : Value) (xs : List ByteArray) : Prop := w.ownsRow B E 1 v xs.length (xs.map Value.string)
theorem OwnS.nil (E : TypeId) (B : Nat) (w : World) : OwnS E B w (.slice none 0 0) [] := World.ownsRow_nil _ _ _ _
theorem OwnS.below {E : TypeId} {B B' : Nat} {w w' : World} {v : Value} {l : List ByteArray} (h : OwnS E B w v l) (hb : Below B' w w') (hB : w.heap.size ≤ B') : OwnS E B w' v l := by
  obtain ⟨h0, h1⟩ := h
  refine ⟨h0, ?_⟩
  rcases h1 with h1 | ⟨g, cap, cur, rfl, hBg, hg, r⟩
  · exact .inl h1
  · exact .inr ⟨g, cap, cur, rfl, hBg, by rw [hb.block g (by have := (Array.getElem?_eq_some_iff.1 hg).1; omega)]; exact hg, r⟩
theorem OwnS.keep {E : TypeId} {B : Nat} {W w1 : World} {v : Value} {l : List ByteArray} (h : OwnS E B W v l) (hb : Below W.heap.size W w1) : OwnS E B w1 v l := h.below hb (Nat.le_refl _)
theorem OwnS.alloc {E : TypeId} {B : Nat} {w : World} {v : Value} {l : List ByteArray} (h : OwnS E B w v l) (o : Obj) : OwnS E B (w.alloc o) v l := h.keep (bl1 w o)
theorem OwnS.drewN {E : TypeId} {B : Nat} {w : World} {v : Value} {l : List ByteArray} (h : OwnS E B w v l) (n : Nat) : OwnS E B (w.drewN n) v l := h.keep ((Below.refl w.heap.size w).drewN' n)
theorem OwnS.mono {E : TypeId} {B B' : Nat} {w : World} {v : Value} {l : List ByteArray} (h : OwnS E B w v l) (hB : B' ≤ B) : OwnS E B' w v l := by
  obtain ⟨h0, h1⟩ := h
  refine ⟨h0, ?_⟩
  rcases h1 with h1 | ⟨g, cap, cur, rfl, hBg, r⟩
  · exact .inl h1
  · exact .inr ⟨g, cap, cur, rfl, by omega, r⟩
theorem OwnS.lt {E : TypeId} {B : Nat} {w : World} {v : Value} {l : List ByteArray} (h : OwnS E B w v l) : ∀ k, v.ownBlock = some k → B ≤ k ∧ k < w.heap.size := World.ownsRow.lt h
theorem OwnS.grown {E : TypeId} {B : Nat} {w w' : World} {row : Option Nat} {v : Value} {l : List ByteArray} (h : OwnS E B w v l) (hg : w.grownBy w' row) (hne : v.ownBlock = none ∨ v.ownBlock ≠ row) : OwnS E B w' v l := World.ownsRow.kept h hg hne
theorem OwnS.lit {E : TypeId} {B : Nat} (w : World) (xs : List ByteArray) (n : Nat) (hn : n = xs.length) (hl : n ≤ maxLen) (hB : B ≤ w.heap.size) : OwnS E B (w.alloc (.cells (xs.map Value.string).toArray E)) (.slice (some ⟨w.heap.size, 0, none⟩) n n) xs := by
  subst hn
  have this : (w.alloc (.cells (xs.map Value.string).toArray E)).ownsRow B E 1 (.slice (some ⟨w.heap.size, 0, none⟩) xs.length xs.length) xs.length (xs.map Value.string).toArray.toList := World.ownsRow_lit w _ xs.length hB hl (by simp)
  simpa [OwnS] using this
/-- where the texts lie -/
theorem OwnS.at {E : TypeId} {B : Nat} {w : World} {v : Value} {xs : List ByteArray} (h : OwnS E B w v xs) : (∃ a c, v = .slice a 0 c ∧ xs = []) ∨ ∃ g c, v = .slice (some ⟨g, 0, none⟩) xs.length c ∧ xs.length ≤ c ∧ g < w.heap.size ∧ ∀ (j : Nat) x, xs[j]? = some x → w.cell? ⟨g, 0 + j, none⟩ = some (.string x) := by
  have h2 := h
  obtain ⟨h0, h1⟩ := h
  rcases h1 with ⟨rfl, hn⟩ | ⟨g, cap, cur, rfl, hB, hg, hn, hm, hcs, ht⟩
  · exact .inl ⟨none, 0, rfl, List.eq_nil_of_length_eq_zero hn⟩
  · refine .inr ⟨g, cap, rfl, hn, (Array.getElem?_eq_some_iff.1 hg).1, fun j x hx => ?_⟩
    have hj : j < xs.length := (List.getElem?_eq_some_iff.1 hx).1
    rw [Nat.zero_add, World.ownsRow.cellAt h2 j (by omega)]
    simp [hx]
theorem OwnS.shape3 {E : TypeId} {B : Nat} {w : World} {v : Value} {xs : List ByteArray} (h : OwnS E B w v xs) : ∃ a n c, v = .slice a n c := by
  rcases h.at with ⟨a, c, rfl, _⟩ | ⟨g, c, rfl, _⟩
  · exact ⟨_, _, _, rfl⟩
  · exact ⟨_, _, _, rfl⟩
/-- out = append(out, ys...), ys the texts of a fresh row -/
theorem wpList_appendT {P : Program} {w : World} {ops : Array Oper} {rest : List Oper} {o : Oper} {a : Act} {Q : Exit → Act → World → Prop} (hgd : o.guard = none) (s x : Operand) (t : TypeId)
    (ho : o.op = .call { callee := .builtin .append, args := #[s, x], argTypes := #[t, t] })
    (E : TypeId) (ht : P.underlying t = some (.slice E)) (hE : StrElem P E) (B : Nat) (v : Value) (l ys : List ByteArray) (b m c : Nat) (hs : a.eval s = v) (hx : a.eval x = .slice (some ⟨b, 0, none⟩) m c) (hm : m = ys.length)
    (hy : ∀ (j : Nat) y, ys[j]? = some y → w.cell? ⟨b, 0 + j, none⟩ = some (.string y))
    (hown : OwnS E B w v l) (hlen : l.length + ys.length < 1000000) (hB : B ≤ w.heap.size)
    (h : ∀ v' w', OwnS E B w' v' (l ++ ys) → w.grownBy w' v.ownBlock → wpList P ops Q rest (a.put o.dst v') w') : wpList P ops Q (o :: rest) a w := by
  obtain ⟨i, hi, hz, h1, h8⟩ := hE.get
  subst hm
  refine wpList_append_own w hgd s x t ho B E i (.string ByteArray.empty) 1 16 ht hi hz h1 h8 rfl (by decide) v l.length (l.map Value.string) hs hown ⟨b, 0, none⟩ ys.length c (ys.map Value.string) hx (by simp) ?_ ?_ ?_ ?_ hB ?_
  · intro j u hj
    rw [List.getElem?_map] at hj
    cases hq : ys[j]? with
    | none => rw [hq] at hj; cases hj
    | some y =>
      rw [hq] at hj
      cases hj
      have := hy j y hq
      have e : (⟨b, 0, none⟩ : Addr).add j = ⟨b, 0 + j, none⟩ := by
        unfold Addr.add
        by_cases hj0 : j = 0
        · subst hj0; simp
        · simp [hj0]
      rw [e]; exact this
  · intro u hu
    obtain ⟨y, _, rfl⟩ := List.mem_map.1 hu
    rfl
  · unfold maxLen; omega
  · omega
  · intro v' w' hown' hg _
    refine h v' w' ?_ hg
    simpa [OwnS] using hown'
/-- make([]string, 0, n) -/
theorem wpList_makeT {P : Program} {w : World} {ops : Array Oper} {rest : List Oper} {o : Oper} {a : Act} {Q : Exit → Act → World → Prop} (hg : o.guard = none) (x c : Operand) (t : TypeId) (hop : o.op = Op.makeSlice t x c)
    (E : TypeId) (ht : P.underlying t = some (.slice E)) (hE : StrElem P E) (n : Nat) (C : Int) (hl : a.eval x = .int .i64 0) (hc : a.eval c = .int .i64 C) (hC : C = (n : Int)) (hn : n ≤ 1000000)
    (hK : ∀ w', OwnS E w.heap.size w' (.slice (some ⟨w.heap.size, 0, none⟩) 0 n) [] → w.grownBy w' none → wpList P ops Q rest (a.put o.dst (.slice (some ⟨w.heap.size, 0, none⟩) 0 n)) w') : wpList P ops Q (o :: rest) a w := by
  obtain ⟨i, hi, hz, h1, h8⟩ := hE.get
  exact wpList_make_own w hg x c t hop w.heap.size E i (.string ByteArray.empty) 1 ht hi hz h1 .i64 .i64 C n hl hc hC (by rw [h8]; omega) (by unfold maxLen; omega) (Nat.le_refl _) hK
end Go.G5
namespace Go.Proofs.YtipejodijbjpcaaGreatDoor
open Go.RowKit Go.G5
theorem strElem : StrElem Tryz.prog 9 := ⟨by kernel_rfl⟩
/-- strings.Join of an own row -/
theorem join_own (B : Nat) (w : World) (v : Value) (xs : List ByteArray) (sep : ByteArray) (h : OwnS 9 B w v xs) (hlen : (joinB sep xs).size ≤ 100000000) (hn : xs.length ≤ 1000000) :
    Calls Tryz.prog 146 #[v, .string sep] w fun e w' => e = .returned (.string (joinB sep xs)) ∧ Below w.heap.size w w' := by
  rcases h.at with ⟨a, c, rfl, rfl⟩ | ⟨g, c, rfl, hc, hg, hcell⟩
  · refine (sh_strings_Join_none a c sep w).mono ?_
    rintro e w' ⟨rfl, rfl⟩
    exact ⟨rfl, Below.refl _ _⟩
  · refine (sh_strings_Join g 0 c xs sep w hcell hg (by omega) hc ?_).mono ?_
    · rw [ba_size] at hlen
      have : (joinB sep xs).data.toList = Lib.join (xs.map (·.data.toList)) sep.data.toList := rfl
      rw [← this]; omega
    · rintro e w' ⟨rfl, hb⟩
      exact ⟨rfl, hb⟩
end Go.Proofs.YtipejodijbjpcaaGreatDoor
end
section
namespace Go.Proofs.YtipejodijbjpcaaGreatDoor
open Go.RowKit Go.G5

def comma : ByteArray := ⟨#[44]⟩
theorem commas_size (l : List Int) (h : ∀ x ∈ l, InR x) : (joinB comma (l.map itoaB)).size ≤ l.length * 22 := by
  have := joinB_size comma 21 (l.map itoaB) (fun x hx => by
    obtain ⟨y, hy, rfl⟩ := List.mem_map.1 hx
    exact itoaB_size y (h y hy))
  rw [List.length_map] at this
  exact this
set_option maxHeartbeats 1000000 in
set_option maxRecDepth 100000 in
theorem joinIntsI_any (l : List Int) (v : Value) (w : World) (hv : Ints w v l) (hl : l.length ≤ 1000) (hp : Pow w) :
    Calls Tryz.prog 115 #[v] w fun e w' => e = .returned (.string (joinB comma (l.map itoaB))) ∧ Below w.heap.size w w' := by
  have hin := hv.inR
  have hsz := commas_size l hin
  obtain ⟨a, b, off, c, rfl, hlen, hix, hc, hb⟩ := hv.view Tryz.prog 22 3 Tryz.underlying22 intElem
  have HC := Lib.hid hc
  have HIN := Lib.hid hin
  have HIX := Lib.hid hix
  clear hc hin hix hlen
  go_enter Tryz.func115, Tryz.ntmps115
  go_wp2_with (at_make; refine wpList_makeT rfl _ _ _ rfl 9 Tryz.underlying94 strElem l.length _ rfl rfl rfl (by omega) ?_; intro w2 hown hg)
  have b2 : Below w.heap.size w w2 := (Below.refl _ _).grown hg (Nat.le_refl _) (by simp)
  go_loopw [3, 11] (fun ov iv wr => ∃ (k : Nat) (p : Option Addr) (n cp : Nat), k ≤ l.length ∧ iv = .int .i64 k ∧ ov = .slice p n cp ∧ OwnS 9 w.heap.size wr (.slice p n cp) ((l.take k).map itoaB) ∧ Below w.heap.size w wr) (fun _ iv _ => l.length - (intOf iv).toNat)
  case atStart => exact ⟨0, _, _, _, Nat.zero_le _, rfl, rfl, hown, b2⟩
  case round =>
    obtain ⟨k, p, n, cp, hk, rfl, rfl, ho, B⟩ := hrel
    obtain ⟨wz, rfl⟩ : ∃ q : World, q = wr := ⟨_, rfl⟩
    have hpz := hp.keep B
    clear hown b2 hg
    by_cases hlt : k < l.length
    · have hlt2 : (k : Int) < (l.length : Int) := by omega
      have hrow := cells_below HC.out hb B (Nat.le_refl _)
      have hck := hrow k hlt
      have hik := fun W => HIX.out W k hlt
      have hst : (l.take (k + 1)).map itoaB = (l.take k).map itoaB ++ [itoaB l[k]] := by
        rw [List.take_succ_eq_append_getElem hlt, List.map_append]; rfl
      have hxr := HIN.out l[k] (List.getElem_mem hlt)
      have hkl : ((l.take k).map itoaB).length = k := by simp; omega
      obtain ⟨x, hx⟩ : ∃ x, x = l[k] := ⟨_, rfl⟩
      rw [← hx] at hck hst hxr
      have HST := Lib.hid hst
      have HKL := Lib.hid hkl
      clear hx hrow hst hkl
      have hF := Lib.hid (fmtI_any x hxr wz hpz)
      go_wp2_with fail
      refine hF.out.mono ?_
      rintro e w3 ⟨rfl, b3⟩
      have ho := ho.keep b3
      have B := B.after b3 B.size
      have zB := B.size
      clear b3 hF
      go_wp2_with (at_builtin; refine wpList_appendT rfl _ _ _ rfl 9 Tryz.underlying94 strElem w.heap.size (.slice p n cp) ((l.take k).map itoaB) [itoaB x] w3.heap.size 1 1 rfl rfl rfl (fun j y hy => by match j, hy with | 0, hy => (cases hy; exact cell_new _ _ _ _ _ rfl)) (ho.alloc _) (by rw [HKL.out]; simp; omega) (by simp; omega) ?_; intro v7 w7 o7 g7; obtain ⟨p7, i7, q7, rfl⟩ := o7.shape3)
      have rr := ho.lt
      have B7 := (B.alloc zB (.cells #[.string (itoaB x)] 9)).grown g7 (by simp; omega) (fun q hq => (rr _ hq).1)
      go_roundw
      case rel => exact ⟨k + 1, p7, i7, q7, by omega, by go_num, rfl, by rw [HST.out]; exact o7, B7⟩
      case measure => simp [intOf]; omega
    · have hkl : k = l.length := by omega
      have ho2 : OwnS 9 w.heap.size wz (.slice p n cp) (l.map itoaB) := by
        rw [hkl, List.take_length] at ho; exact ho
      have hlt2 : ¬ (k : Int) < (l.length : Int) := by omega
      have HJ := Lib.hid (join_own w.heap.size wz _ (l.map itoaB) comma ho2 (by omega) (by rw [List.length_map]; omega))
      clear hkl ho ho2 hpz
      go_wp2_with fail
      refine HJ.out.mono ?_
      rintro e w3 ⟨rfl, b3⟩
      go_wp2
      go_ret
      exact ⟨rfl, B.after b3 B.size⟩
end Go.Proofs.YtipejodijbjpcaaGreatDoor
end
section
namespace Go.Proofs.YtipejodijbjpcaaGreatDoor
open Go.RowKit Go.G5

def noneB : ByteArray := ⟨#[110, 111, 110, 101]⟩
theorem commas_take (l : List Int) (k : Nat) (h : ∀ x ∈ l, InR x) (hl : l.length ≤ 1000) (hk : k ≤ l.length) : (joinB comma ((l.take k).map itoaB)).size ≤ 22000 := by
  have h1 := commas_size (l.take k) (fun x hx => h x (List.mem_of_mem_take hx))
  rw [List.length_take] at h1
  have : min k l.length = k := by omega
  rw [this] at h1
  omega
theorem commas_next (l : List Int) (k : Nat) (hk : k < l.length) : joinB comma ((l.take (k + 1)).map itoaB) = if k = 0 then itoaB l[k] else joinB comma ((l.take k).map itoaB) ++ comma ++ itoaB l[k] := by
  have h := joinB_take comma (l.map itoaB) k (by rw [List.length_map]; exact hk)
  rw [List.getElem_map, ← List.map_take, ← List.map_take] at h
  exact h
theorem commas_emp (l : List Int) : (joinB comma (l.map itoaB) = ByteArray.empty) = (l = []) := by
  refine propext ⟨fun h => ?_, fun h => by subst h; rfl⟩
  cases l with
  | nil => rfl
  | cons x l => exact absurd h (joinB_ne comma (itoaB x) (l.map itoaB) (itoaB_ne x))
theorem str_emp (b : ByteArray) : (b.toList == []) = decide (b = ByteArray.empty) := by
  rw [Lib.toList_data]
  by_cases h : b = ByteArray.empty
  · subst h; rfl
  · rw [decide_eq_false h]
    cases hb : b.data.toList with
    | nil => exact absurd (ba_ext (by rw [hb]; rfl)) h
    | cons x r => rfl

end Go.Proofs.YtipejodijbjpcaaGreatDoor
end
section
namespace Go.Proofs.YtipejodijbjpcaaGreatDoor
open Go.RowKit Go.G5

def elL (s : Int) : List Int := famOf s.toNat 6
theorem elL_bd6 (s : Int) : ∀ x ∈ elL s, 0 ≤ x ∧ x < 6 := by
  intro x hx
  unfold elL at hx
  have := famOf_bd s.toNat 6 x hx
  omega
theorem elL_len6 (s : Int) : (elL s).length ≤ 6 := by
  unfold elL famOf
  exact chosen_len _ 6
theorem elL_len : ∀ s : Nat, s < 64 → (famOf s 6).length = pop s := by decide +kernel
theorem elL_pop (s : Int) (h : s < 64) : ((elL s).length : Int) = ipop s := by
  unfold elL ipop
  rw [elL_len s.toNat (by omega)]

theorem l2List_i (s : Int) (w : World) (h0 : 0 ≤ s) (h1 : s < 64) :
    Calls Tryz.prog 174 #[.int .i64 s] w fun e w' => ∃ ad i cp, e = .returned (.slice ad i cp) ∧ OwnI 3 w.heap.size w' (.slice ad i cp) (elL s) ∧ Below w.heap.size w w' := by
  have := l2List_any w s.toNat (by omega)
  rw [show ((s.toNat : Nat) : Int) = s by omega, famOf_same s.toNat 32 6 (by omega) (by omega)] at this
  exact this

set_option maxHeartbeats 1000000 in
theorem elementsOf_i (s : Int) (w : World) (h0 : 0 ≤ s) (h1 : s < 64) :
    Calls Tryz.prog 171 #[.int .i64 s] w fun e w' => ∃ ad i cp, e = .returned (.slice ad i cp) ∧ OwnI 3 w.heap.size w' (.slice ad i cp) (elL s) ∧ Below w.heap.size w w' := by
  obtain ⟨code, rfl⟩ := Int.eq_ofNat_of_zero_le h0
  have hc : code < 64 := by omega
  have hel : elL (code : Int) = famOf code 6 := by unfold elL; rw [show ((code : Int)).toNat = code by omega]
  have HEL := Lib.hid hel
  clear hel
  go_enter Tryz.func171, Tryz.ntmps171
  go_wp2
  go_loopw [3, 4] (fun out i wr => ∃ (k : Nat) (ad : Option Addr) (nn cp : Nat), k ≤ 6 ∧ out = .slice ad nn cp ∧ i = .int .i64 k ∧ OwnI 3 w.heap.size wr (.slice ad nn cp) (famOf code k) ∧ Below w.heap.size w wr)
    (fun _ i _ => 7 - (intOf i).toNat)
  case atStart => exact ⟨0, none, 0, 0, by omega, rfl, rfl, OwnI.nil _ _ _, Below.refl _ _⟩
  case round =>
    obtain ⟨k, ad, nn, cp, hk, rfl, rfl, ho, B⟩ := hrel
    have hbit := bit_is (code : Int) k (by omega) (by omega)
    have hnb := nbit_is code k
    have hlen := chosen_len (nbit code) k
    have hdiv : ((code : Int) / 2 ^ k) = ((code / 2 ^ k : Nat) : Int) := by push_cast; rfl
    have hql : code / 2 ^ k ≤ code := Nat.div_le_self _ _
    have hz : code / 2 ^ k ≠ 0 → k + 1 ≤ 6 := by
      intro h
      by_cases h2 : k + 1 ≤ 6
      · exact h2
      · exfalso
        have : k = 6 := by omega
        rw [this, Nat.div_eq_of_lt hc] at h
        exact h rfl
    have hcs : famOf code (k + 1) = if nbit code k then famOf code k ++ [(k : Int)] else famOf code k := chosen_succ (nbit code) k
    obtain ⟨q, hq⟩ : ∃ q, q = code / 2 ^ k := ⟨_, rfl⟩
    obtain ⟨y, hy⟩ : ∃ y, y = ibit (code : Int) k := ⟨_, rfl⟩
    rw [← hq] at hdiv hz hql
    rw [← hy] at hbit hnb
    rw [hdiv] at hbit
    have HQ := Lib.hid hq
    have HO := Lib.hid ho
    have HB := Lib.hid B
    have HCS := Lib.hid hcs
    have HZ := Lib.hid hz
    clear hq hy ho B hcs hz
    by_cases h0 : q = 0
    · subst h0
      have hr : famOf code k = famOf code 6 := by
        have hlt : code < 2 ^ k := by
          rcases Nat.lt_or_ge code (2 ^ k) with h | h
          · exact h
          · have := Nat.div_pos h (Nat.two_pow_pos k)
            have := HQ.out
            omega
        exact famOf_same code k 6 hlt (by omega)
      have HR := Lib.hid hr
      clear hr
      go_wp2
      go_ret
      exact ⟨ad, nn, cp, rfl, by rw [HEL.out, ← HR.out]; exact HO.out, HB.out⟩
    · have hk1 := HZ.out h0
      have ht : ((q : Int) != 0) = true := by simp; omega
      have hrow := HO.out.lt
      cases hb : nbit code k with
      | true =>
        have hy1 : (y == 1) = true := by rw [hnb, hb]
        have HBB := Lib.hid hb
        clear hb hnb
        go_wp2_with (at_builtin; refine wpList_appendI rfl _ _ _ rfl 3 Tryz.underlying22 intElem w.heap.size _ _ (k : Int) wr.heap.size rfl rfl (cell_new wr #[.int .i64 k] 3 0 _ rfl) (HO.out.alloc _) ⟨by omega, by omega⟩ (by unfold famOf; omega) (by have := HB.out.size; simp; omega) ?_; intro v' w6 hown hgr; obtain ⟨av, nv, cv, rfl⟩ := hown.shape3)
        have B6 : Below w.heap.size w w6 := (HB.out.alloc HB.out.size (.cells #[.int .i64 k] 3)).grown hgr (by have := HB.out.size; simp; omega) (fun p hp => (hrow p hp).1)
        go_roundw
        case rel => exact ⟨k + 1, av, nv, cv, hk1, rfl, by go_num, by rw [HCS.out, HBB.out]; exact hown, B6⟩
        case measure => simp [intOf]; omega
      | false =>
        have hy1 : (y == 1) = false := by rw [hnb, hb]
        have HBB := Lib.hid hb
        clear hb hnb
        go_wp2
        go_roundw
        case rel => exact ⟨k + 1, ad, nn, cp, hk1, rfl, by go_num, by rw [HCS.out, HBB.out]; exact HO.out, HB.out⟩
        case measure => simp [intOf]; omega
end Go.Proofs.YtipejodijbjpcaaGreatDoor
end
