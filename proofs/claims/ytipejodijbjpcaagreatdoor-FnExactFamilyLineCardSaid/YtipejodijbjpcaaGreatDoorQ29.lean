/- Cross-free families, antichains, laminar and intersecting families: what is computed. Families of bases: what is computed. Families that are closed downward: what is computed. The line of a family: what is computed. -/
import Derived.Test.YtipejodijbjpcaaGreatDoorQ28
section
namespace Go.Proofs.YtipejodijbjpcaaGreatDoor
open Go.RowKit Go.G5

def crI (g : Nat) (a b : Int) : Bool := clashI a b && ior a b != 2 ^ g - 1
def crossB (g : Int) (l : List Int) : Bool := isFamB g l && allTo (fun i => allTo (fun k => !crI g.toNat (l.getD i 0) (l.getD k 0)) i) l.length
theorem idif_beq {a b : Int} (h0 : 0 ≤ a) : (idif a b != 0) = (iand a b != a) := by
  rw [Bool.eq_iff_iff, bne_iff_ne, bne_iff_ne]
  exact idif_ne h0
theorem clash_same {a b : Int} (ha : 0 ≤ a) (hb : 0 ≤ b) : clashI a b = clashS a b := by
  unfold clashI clashS
  rw [idif_beq ha, idif_beq hb, iand_comm b a]
theorem getD_fam {l : List Int} (hm : ∀ x ∈ l, 0 ≤ x ∧ x < 64) (k : Nat) : 0 ≤ l.getD k 0 ∧ l.getD k 0 < 64 := by
  rw [List.getD_eq_getElem?_getD]
  cases hk : l[k]? with
  | none => simp
  | some x => exact hm x (List.mem_of_getElem? hk)
theorem clash_swap (a b : Int) : clashI a b = clashI b a := by
  unfold clashI
  rw [iand_comm b a]
  cases (iand a b != 0) <;> cases (idif a b != 0) <;> cases (idif b a != 0) <;> rfl
theorem lam_same {l : List Int} (hm : ∀ x ∈ l, 0 ≤ x ∧ x < 64) : lamI l = lamS l := by
  unfold lamI lamS
  rw [Bool.eq_iff_iff]
  simp only [allTo_iff, Bool.or_eq_true, decide_eq_true_eq, Bool.not_eq_true']
  constructor
  · intro h i hi k hk
    rcases h k (by omega) i hi with h1 | h1
    · omega
    · rw [← clash_same (getD_fam hm i).1 (getD_fam hm k).1, clash_swap]; exact h1
  · intro h i hi j hj
    by_cases hij : j ≤ i
    · exact .inl hij
    · right
      have := h j hj i (by omega)
      rw [← clash_same (getD_fam hm j).1 (getD_fam hm i).1, clash_swap] at this
      exact this
theorem anti_same {l : List Int} (hm : ∀ x ∈ l, 0 ≤ x ∧ x < 64) : antiI l = freeS l := by
  rw [Bool.eq_iff_iff, freeS_iff]
  unfold antiI apartB
  simp only [allTo_iff, Bool.and_eq_true, bne_iff_ne]
  constructor
  · intro h i hi k hk hne
    rcases Nat.lt_or_gt_of_ne hne with h1 | h1
    · exact (idif_ne (getD_fam hm k).1).1 (h i hi k h1).2
    · exact (idif_ne (getD_fam hm k).1).1 (h k hk i h1).1
  · intro h i hi j hj
    exact ⟨(idif_ne (getD_fam hm i).1).2 (h j (by omega) i hi (by omega)), (idif_ne (getD_fam hm j).1).2 (h i hi j (by omega) (by omega))⟩
theorem inter_same {l : List Int} : l.all (meetB l) = meetS l := by
  unfold meetS meetB
  rw [Bool.eq_iff_iff]
  simp only [allTo_iff, List.all_eq_true, bne_iff_ne]
  constructor
  · intro h i hi k hk
    rw [getD_at l i hi, getD_at l k (by omega), iand_comm]
    exact h _ (List.getElem_mem hi) _ (List.getElem_mem (show k < l.length by omega))
  · intro h s hs t ht
    obtain ⟨i, hi, rfl⟩ := List.getElem_of_mem hs
    obtain ⟨k, hk, rfl⟩ := List.getElem_of_mem ht
    by_cases hik : k ≤ i
    · have := h i hi k (by omega)
      rw [getD_at l i hi, getD_at l k hk, iand_comm] at this
      exact this
    · have := h k hk i (by omega)
      rw [getD_at l i hi, getD_at l k hk] at this
      exact this
end Go.Proofs.YtipejodijbjpcaaGreatDoor
end
section
namespace Go.Proofs.YtipejodijbjpcaaGreatDoor
open Go.RowKit Go.G5

/-- what the first program asks of two sets -/
def swI (l : List Int) (a e d : Int) : Bool := has l (ior (idif a (2 ^ e.toNat)) (2 ^ d.toNat))
def exI (l : List Int) (a b : Int) : Bool := (elL (idif a b)).all fun e => (elL (idif b a)).any (swI l a e)
def bfB (g : Int) (l : List Int) : Bool := isFamB g l && (!l.isEmpty && l.all fun a => l.all (exI l a))
/-- what the second one asks -/
def anTo (p : Nat → Bool) : Nat → Bool
  | 0 => false
  | k + 1 => anTo p k || p k
def swS (l : List Int) (a b : Int) (e d : Nat) : Bool := nbit b.toNat d && (!nbit a.toNat d && has l (a - 2 ^ e + 2 ^ d))
def outS (a b : Int) (e : Nat) : Bool := !nbit a.toNat e || nbit b.toNat e
def exS (g : Nat) (l : List Int) (a b : Int) : Bool := allTo (fun e => outS a b e || anTo (swS l a b e) g) g
theorem anTo_iff (p : Nat → Bool) : ∀ n, anTo p n = true ↔ ∃ k, k < n ∧ p k = true := by
  intro n
  induction n with
  | zero => simp [anTo]
  | succ n ih =>
    rw [anTo, Bool.or_eq_true, ih]
    constructor
    · rintro (⟨k, hk, h⟩ | h)
      · exact ⟨k, by omega, h⟩
      · exact ⟨n, by omega, h⟩
    · rintro ⟨k, hk, h⟩
      by_cases e : k = n
      · right; rw [← e]; exact h
      · left; exact ⟨k, by omega, h⟩
theorem mem_chosenB (P : Nat → Bool) (n : Nat) (x : Int) : x ∈ chosen P n ↔ ∃ k : Nat, k < n ∧ P k = true ∧ x = (k : Int) := by
  unfold chosen
  rw [List.mem_map]
  constructor
  · rintro ⟨k, hk, rfl⟩
    rw [List.mem_filter, List.mem_range] at hk
    exact ⟨k, hk.1, hk.2, rfl⟩
  · rintro ⟨k, h1, h2, rfl⟩
    exact ⟨k, by rw [List.mem_filter, List.mem_range]; exact ⟨h1, h2⟩, rfl⟩
theorem mem_elL (s x : Int) : x ∈ elL s ↔ ∃ k : Nat, k < 6 ∧ nbit s.toNat k = true ∧ x = (k : Int) := mem_chosenB _ _ _
theorem nbit_dif : ∀ a : Nat, a < 64 → ∀ b : Nat, b < 64 → ∀ e : Nat, e < 6 → nbit (ndiff a b) e = (nbit a e && !nbit b e) := by decide +kernel
theorem dif_pow : ∀ a : Nat, a < 64 → ∀ e : Nat, e < 6 → nbit a e = true → ndiff a (2 ^ e) = a - 2 ^ e ∧ 2 ^ e ≤ a := by decide +kernel
theorem or_powB : ∀ a : Nat, a < 64 → ∀ e : Nat, e < 6 → nbit a e = false → a ||| 2 ^ e = a + 2 ^ e := by decide +kernel
theorem bit_small : ∀ g : Nat, g < 7 → ∀ a : Nat, a < 2 ^ g → ∀ e : Nat, e < 6 → nbit a e = true → e < g := by decide +kernel
theorem sw_same (l : List Int) (a : Int) (e d : Nat) (ha : 0 ≤ a ∧ a < 64) (he : e < 6) (hd : d < 6) (h1 : nbit a.toNat e = true) (h2 : nbit a.toNat d = false) : swI l a e d = has l (a - 2 ^ e + 2 ^ d) := by
  unfold swI
  congr 1
  obtain ⟨n, rfl⟩ : ∃ n : Nat, a = (n : Int) := ⟨a.toNat, by omega⟩
  rw [Int.toNat_natCast] at h1 h2
  have e1 := dif_pow n (by omega) e he h1
  have hp : ∀ k : Nat, ((2 : Int) ^ k).toNat = 2 ^ k := fun k => by
    have : ((2 : Int) ^ k) = ((2 ^ k : Nat) : Int) := by simp
    rw [this, Int.toNat_natCast]
  unfold ior idif
  simp only [Int.toNat_natCast, hp]
  have hb : nbit (ndiff n (2 ^ e)) d = false := by
    have := nbit_dif n (by omega) (2 ^ e) (by
      have : (2 : Nat) ^ e ≤ 2 ^ 5 := Nat.pow_le_pow_right (by decide) (by omega)
      omega) d hd
    rw [this, h2]; rfl
  rw [e1.1] at hb ⊢
  rw [or_powB (n - 2 ^ e) (Nat.lt_of_le_of_lt (Nat.sub_le _ _) (by omega)) d hd hb]
  have : ((2 : Int) ^ e) = ((2 ^ e : Nat) : Int) := by simp
  have h3 : ((2 : Int) ^ d) = ((2 ^ d : Nat) : Int) := by simp
  rw [this, h3]
  omega
theorem ex_same (g : Nat) (hg : g ≤ 6) (l : List Int) (a b : Int) (ha : 0 ≤ a ∧ a < 2 ^ g) (hb : 0 ≤ b ∧ b < 2 ^ g) : exI l a b = exS g l a b := by
  have hp : (2 : Nat) ^ g ≤ 2 ^ 6 := Nat.pow_le_pow_right (by decide) hg
  have hpi : ((2 : Int) ^ g) = ((2 ^ g : Nat) : Int) := by simp
  have ha6 : 0 ≤ a ∧ a < 64 := by omega
  have hb6 : 0 ≤ b ∧ b < 64 := by omega
  have hab : ∀ e, e < 6 → nbit (idif a b).toNat e = (nbit a.toNat e && !nbit b.toNat e) := fun e he => by
    unfold idif; rw [Int.toNat_natCast]; exact nbit_dif _ (by omega) _ (by omega) e he
  have hba : ∀ e, e < 6 → nbit (idif b a).toNat e = (nbit b.toNat e && !nbit a.toNat e) := fun e he => by
    unfold idif; rw [Int.toNat_natCast]; exact nbit_dif _ (by omega) _ (by omega) e he
  unfold exI exS
  rw [Bool.eq_iff_iff, List.all_eq_true, allTo_iff]
  constructor
  · intro h e he
    rw [Bool.or_eq_true]
    by_cases ho : outS a b e = true
    · exact .inl ho
    · right
      unfold outS at ho
      rw [Bool.or_eq_true, not_or, Bool.not_eq_true', Bool.not_eq_false, Bool.not_eq_true] at ho
      have h1 := h (e : Int) ((mem_elL _ _).2 ⟨e, by omega, by rw [hab e (by omega), ho.1, ho.2]; rfl, rfl⟩)
      rw [List.any_eq_true] at h1
      obtain ⟨x, hx, h2⟩ := h1
      obtain ⟨d, hd, hd2, rfl⟩ := (mem_elL _ _).1 hx
      rw [hba d hd, Bool.and_eq_true, Bool.not_eq_true'] at hd2
      rw [sw_same l a e d ha6 (by omega) hd ho.1 hd2.2] at h2
      exact (anTo_iff _ _).2 ⟨d, bit_small g (by omega) b.toNat (by omega) d hd hd2.1, by unfold swS; rw [hd2.1, hd2.2, h2]; rfl⟩
  · intro h x hx
    obtain ⟨e, he, he2, rfl⟩ := (mem_elL _ _).1 hx
    rw [hab e he, Bool.and_eq_true, Bool.not_eq_true'] at he2
    have h1 := h e (bit_small g (by omega) a.toNat (by omega) e he he2.1)
    rw [Bool.or_eq_true] at h1
    rcases h1 with h1 | h1
    · unfold outS at h1
      rw [he2.1, he2.2] at h1
      simp at h1
    · obtain ⟨d, hd, h2⟩ := (anTo_iff _ _).1 h1
      unfold swS at h2
      rw [Bool.and_eq_true, Bool.and_eq_true, Bool.not_eq_true'] at h2
      rw [List.any_eq_true]
      exact ⟨(d : Int), (mem_elL _ _).2 ⟨d, by omega, by rw [hba d (by omega), h2.1, h2.2.1]; rfl, rfl⟩, by rw [sw_same l a e d ha6 he (by omega) he2.1 h2.2.1]; exact h2.2.2⟩
end Go.Proofs.YtipejodijbjpcaaGreatDoor
end
section
namespace Go.Proofs.YtipejodijbjpcaaGreatDoor
open Go.RowKit Go.G5

def lessEl (s e : Int) : Int := idif s (2 ^ e.toNat)
def shadOne (s : Int) : List Int := (elL s).map (lessEl s)
def shadL (l : List Int) : List Int := l.flatMap shadOne
def shN (g : Int) (l : List Int) : Int := if isFamB g l then g else 0
def shL (g : Int) (l : List Int) : List Int := if isFamB g l then gatherL (shadL l) else []
/-- without one element s is in l -/
def downOne (l : List Int) (s : Int) : Bool := (elL s).all fun e => has l (s - 2 ^ e.toNat)
def downB (g : Int) (l : List Int) : Bool := isFamB g l && l.all (downOne l)
theorem lessEl_sub : ∀ s : Nat, s < 64 → ∀ e ∈ elL (s : Int), lessEl s e = (s : Int) - 2 ^ e.toNat := by decide +kernel
theorem lessEl_is (s e : Int) (h0 : 0 ≤ s) (h1 : s < 64) (he : e ∈ elL s) : lessEl s e = s - 2 ^ e.toNat := by
  obtain ⟨n, rfl⟩ := Int.eq_ofNat_of_zero_le h0
  exact lessEl_sub n (by omega) e he
theorem lessEl_bd (s e : Int) (hs : 0 ≤ s ∧ s < 64) : 0 ≤ lessEl s e ∧ lessEl s e < 64 := idif_bd s _ 64 hs.1 hs.2
theorem shadOne_len (s : Int) : (shadOne s).length ≤ 6 := by unfold shadOne; rw [List.length_map]; exact elL_len6 s
theorem shadL_len (l : List Int) : (shadL l).length ≤ 6 * l.length := by
  unfold shadL
  induction l with
  | nil => simp
  | cons t m ih =>
    rw [List.flatMap_cons, List.length_append, List.length_cons]
    have := shadOne_len t
    omega
theorem shadL_take (l : List Int) (k : Nat) (h : k < l.length) : shadL (l.take (k + 1)) = shadL (l.take k) ++ shadOne l[k] := by
  unfold shadL
  rw [List.take_succ_eq_append_getElem h, List.flatMap_append, List.flatMap_cons, List.flatMap_nil, List.append_nil]
theorem fam_len64 {g : Int} {l : List Int} (h : isFamB g l = true) : l.length ≤ 64 := by
  obtain ⟨h0, h6, hm, ha⟩ := famOk h
  have := pow_le64 h0 h6
  exact asc_len l 64 ha (fun x hx => by have := hm x hx; omega)
theorem shL_len (g : Int) (l : List Int) : (shL g l).length ≤ 384 := by
  unfold shL
  split
  · rename_i h
    have := fam_len64 h
    have := shadL_len l
    have := gatherL_len (shadL l)
    omega
  · simp
/-- the two ways to say it -/
theorem down_is (g : Int) (l : List Int) : (isFamB g l && !((shL g l).any fun s => !has l s)) = downB g l := by
  unfold downB
  cases hf : isFamB g l with
  | false => rfl
  | true =>
    have hL : shL g l = gatherL (shadL l) := by unfold shL; rw [hf]; rfl
    rw [hL, Bool.true_and, Bool.true_and, Bool.eq_iff_iff, Bool.not_eq_true', List.any_eq_false, List.all_eq_true]
    have h64 := famOk64 hf
    constructor
    · intro h s hs
      unfold downOne
      rw [List.all_eq_true]
      intro e he
      obtain ⟨k, hk, rfl⟩ := List.getElem_of_mem hs
      have hb := h64.2.2 k hk
      have hmem : lessEl l[k] e ∈ gatherL (shadL l) := by
        rw [gatherL_mem]
        unfold shadL
        exact List.mem_flatMap.2 ⟨_, hs, List.mem_map.2 ⟨e, he, rfl⟩⟩
      have := h _ hmem
      rw [lessEl_is _ e hb.1 hb.2 he] at this
      simpa using this
    · intro h x hx
      rw [gatherL_mem] at hx
      unfold shadL at hx
      obtain ⟨s, hs, hx⟩ := List.mem_flatMap.1 hx
      obtain ⟨e, he, rfl⟩ := List.mem_map.1 hx
      obtain ⟨k, hk, rfl⟩ := List.getElem_of_mem hs
      have hb := h64.2.2 k hk
      have := h _ hs
      unfold downOne at this
      rw [List.all_eq_true] at this
      have := this e he
      rw [lessEl_is _ e hb.1 hb.2 he]
      simpa using this
end Go.Proofs.YtipejodijbjpcaaGreatDoor
end
section
namespace Go.Proofs.YtipejodijbjpcaaGreatDoor
open Go.RowKit Go.G5

def fmHead (F B D G Y C R : ByteArray) : List ByteArray := [(⟨#[102, 97, 109, 105, 108, 121]⟩ : ByteArray), F, (⟨#[98, 108, 111, 99, 107, 101, 114]⟩ : ByteArray), B, (⟨#[100, 105, 109, 101, 110, 115, 105, 111, 110]⟩ : ByteArray), D, (⟨#[103, 114, 111, 119, 116, 104]⟩ : ByteArray), G, (⟨#[108, 121, 109]⟩ : ByteArray), Y, (⟨#[100, 105, 115, 99, 114, 101, 112, 97, 110, 99, 121]⟩ : ByteArray), C, (⟨#[98, 121]⟩ : ByteArray), R]
def fmOne (F B D G Y : ByteArray) : ByteArray := (⟨#[102, 97, 109, 105, 108, 121, 32]⟩ : ByteArray) ++ F ++ (⟨#[32, 98, 108, 111, 99, 107, 101, 114, 32]⟩ : ByteArray) ++ B ++ (⟨#[32, 100, 105, 109, 101, 110, 115, 105, 111, 110, 32]⟩ : ByteArray) ++ D ++ (⟨#[32, 103, 114, 111, 119, 116, 104, 32]⟩ : ByteArray) ++ G ++ (⟨#[32, 108, 121, 109, 32]⟩ : ByteArray) ++ Y ++ (⟨#[32, 100, 105, 115, 99, 114, 101, 112, 97, 110, 99, 121, 32]⟩ : ByteArray)
def fmHeadT (F B D G Y C R : ByteArray) : ByteArray := fmOne F B D G Y ++ C ++ (⟨#[32, 98, 121, 32]⟩ : ByteArray) ++ R
theorem fmHead_is (F B D G Y C R : ByteArray) : joinB space (fmHead F B D G Y C R) = fmHeadT F B D G Y C R := by
  unfold fmHead fmHeadT fmOne
  simp only [joinB_cons2, joinB_one]
  refine ba_ext ?_
  simp [space]
def fmTail (F B D G Y C R : ByteArray) (b0 b1 b2 b3 b4 b5 : Bool) : List ByteArray := fmHead F B D G Y C R ++ yes b0 (⟨#[108, 97, 109, 105, 110, 97, 114]⟩ : ByteArray) ++ yes b1 (⟨#[99, 114, 111, 115, 115, 102, 114, 101, 101]⟩ : ByteArray) ++ yes b2 (⟨#[105, 110, 116, 101, 114, 115, 101, 99, 116, 105, 110, 103]⟩ : ByteArray) ++ yes b3 (⟨#[97, 110, 116, 105, 99, 104, 97, 105, 110]⟩ : ByteArray) ++ yes b4 (⟨#[100, 111, 119, 110]⟩ : ByteArray) ++ yes b5 (⟨#[98, 97, 115, 101, 115]⟩ : ByteArray)
def fmTailT (F B D G Y C R : ByteArray) (b0 b1 b2 b3 b4 b5 : Bool) : ByteArray := fmHeadT F B D G Y C R ++ yesT b0 (⟨#[32, 108, 97, 109, 105, 110, 97, 114]⟩ : ByteArray) ++ yesT b1 (⟨#[32, 99, 114, 111, 115, 115, 102, 114, 101, 101]⟩ : ByteArray) ++ yesT b2 (⟨#[32, 105, 110, 116, 101, 114, 115, 101, 99, 116, 105, 110, 103]⟩ : ByteArray) ++ yesT b3 (⟨#[32, 97, 110, 116, 105, 99, 104, 97, 105, 110]⟩ : ByteArray) ++ yesT b4 (⟨#[32, 100, 111, 119, 110]⟩ : ByteArray) ++ yesT b5 (⟨#[32, 98, 97, 115, 101, 115]⟩ : ByteArray)
theorem fmTail_is (F B D G Y C R : ByteArray) (b0 b1 b2 b3 b4 b5 : Bool) : joinB space (fmTail F B D G Y C R b0 b1 b2 b3 b4 b5) = fmTailT F B D G Y C R b0 b1 b2 b3 b4 b5 := by
  have h0 : fmHead F B D G Y C R ≠ [] := by simp [fmHead]
  have h1 := yes_ne _ h0 b0 (⟨#[108, 97, 109, 105, 110, 97, 114]⟩ : ByteArray)
  have h2 := yes_ne _ h1 b1 (⟨#[99, 114, 111, 115, 115, 102, 114, 101, 101]⟩ : ByteArray)
  have h3 := yes_ne _ h2 b2 (⟨#[105, 110, 116, 101, 114, 115, 101, 99, 116, 105, 110, 103]⟩ : ByteArray)
  have h4 := yes_ne _ h3 b3 (⟨#[97, 110, 116, 105, 99, 104, 97, 105, 110]⟩ : ByteArray)
  have h5 := yes_ne _ h4 b4 (⟨#[100, 111, 119, 110]⟩ : ByteArray)
  unfold fmTail fmTailT
  rw [join_yes _ h5 b5 _ (⟨#[32, 98, 97, 115, 101, 115]⟩ : ByteArray) rfl, join_yes _ h4 b4 _ (⟨#[32, 100, 111, 119, 110]⟩ : ByteArray) rfl, join_yes _ h3 b3 _ (⟨#[32, 97, 110, 116, 105, 99, 104, 97, 105, 110]⟩ : ByteArray) rfl, join_yes _ h2 b2 _ (⟨#[32, 105, 110, 116, 101, 114, 115, 101, 99, 116, 105, 110, 103]⟩ : ByteArray) rfl, join_yes _ h1 b1 _ (⟨#[32, 99, 114, 111, 115, 115, 102, 114, 101, 101]⟩ : ByteArray) rfl, join_yes _ h0 b0 _ (⟨#[32, 108, 97, 109, 105, 110, 97, 114]⟩ : ByteArray) rfl, fmHead_is]
theorem fmOne_size (F B D G Y : ByteArray) (hF : F.size ≤ 10000) (hB : B.size ≤ 10000) (hD : D.size ≤ 21) (hG : G.size ≤ 200) (hY : Y.size ≤ 21) : (fmOne F B D G Y).size ≤ 20400 := by
  unfold fmOne
  simp only [ByteArray.size_append]
  have e0 : (⟨#[102, 97, 109, 105, 108, 121, 32]⟩ : ByteArray).size = 7 := rfl
  have e1 : (⟨#[32, 98, 108, 111, 99, 107, 101, 114, 32]⟩ : ByteArray).size = 9 := rfl
  have e2 : (⟨#[32, 100, 105, 109, 101, 110, 115, 105, 111, 110, 32]⟩ : ByteArray).size = 11 := rfl
  have e3 : (⟨#[32, 103, 114, 111, 119, 116, 104, 32]⟩ : ByteArray).size = 8 := rfl
  have e4 : (⟨#[32, 108, 121, 109, 32]⟩ : ByteArray).size = 5 := rfl
  have e5 : (⟨#[32, 100, 105, 115, 99, 114, 101, 112, 97, 110, 99, 121, 32]⟩ : ByteArray).size = 13 := rfl
  omega
theorem fmHeadT_size (F B D G Y C R : ByteArray) (hF : F.size ≤ 10000) (hB : B.size ≤ 10000) (hD : D.size ≤ 21) (hG : G.size ≤ 200) (hY : Y.size ≤ 21) (hC : C.size ≤ 21) (hR : R.size ≤ 132) : (fmHeadT F B D G Y C R).size ≤ 20600 := by
  have h := fmOne_size F B D G Y hF hB hD hG hY
  unfold fmHeadT
  simp only [ByteArray.size_append]
  have e : (⟨#[32, 98, 121, 32]⟩ : ByteArray).size = 4 := rfl
  omega
theorem fmTailT_size (F B D G Y C R : ByteArray) (b0 b1 b2 b3 b4 b5 : Bool) (h : (fmHeadT F B D G Y C R).size ≤ 20600) : (fmTailT F B D G Y C R b0 b1 b2 b3 b4 b5).size ≤ 20700 := by
  unfold fmTailT
  simp only [ByteArray.size_append]
  have s0 := yesT_size b0 (⟨#[32, 108, 97, 109, 105, 110, 97, 114]⟩ : ByteArray)
  have t0 : (⟨#[32, 108, 97, 109, 105, 110, 97, 114]⟩ : ByteArray).size = 8 := rfl
  have s1 := yesT_size b1 (⟨#[32, 99, 114, 111, 115, 115, 102, 114, 101, 101]⟩ : ByteArray)
  have t1 : (⟨#[32, 99, 114, 111, 115, 115, 102, 114, 101, 101]⟩ : ByteArray).size = 10 := rfl
  have s2 := yesT_size b2 (⟨#[32, 105, 110, 116, 101, 114, 115, 101, 99, 116, 105, 110, 103]⟩ : ByteArray)
  have t2 : (⟨#[32, 105, 110, 116, 101, 114, 115, 101, 99, 116, 105, 110, 103]⟩ : ByteArray).size = 13 := rfl
  have s3 := yesT_size b3 (⟨#[32, 97, 110, 116, 105, 99, 104, 97, 105, 110]⟩ : ByteArray)
  have t3 : (⟨#[32, 97, 110, 116, 105, 99, 104, 97, 105, 110]⟩ : ByteArray).size = 10 := rfl
  have s4 := yesT_size b4 (⟨#[32, 100, 111, 119, 110]⟩ : ByteArray)
  have t4 : (⟨#[32, 100, 111, 119, 110]⟩ : ByteArray).size = 5 := rfl
  have s5 := yesT_size b5 (⟨#[32, 98, 97, 115, 101, 115]⟩ : ByteArray)
  have t5 : (⟨#[32, 98, 97, 115, 101, 115]⟩ : ByteArray).size = 6 := rfl
  omega
theorem groL_few (g : Int) (l : List Int) : (groL g l).length ≤ 7 ∧ ∀ x ∈ groL g l, InR x := by
  unfold groL
  split
  · rename_i hf
    obtain ⟨h0, h6, _, _⟩ := famOk hf
    have h2 : (2 : Nat) ^ g.toNat ≤ 2 ^ 6 := Nat.pow_le_pow_right (by decide) (by omega)
    refine ⟨by rw [groTo_len]; omega, fun x hx => ?_⟩
    have := groTo_bd l g.toNat (2 ^ g.toNat) (by omega) x hx
    exact ⟨by omega, by omega⟩
  · exact ⟨by simp, by simp⟩
theorem groNum_size (g : Int) (l : List Int) : (numB (groL g l)).size ≤ 200 := by
  have h := groL_few g l
  have h2 := numB_size (groL g l) h.2
  omega
theorem clB_bd (g : Int) (l : List Int) : 0 ≤ clN g l ∧ clN g l ≤ 6 := by
  unfold clN
  split
  · rename_i hf
    obtain ⟨h0, h6, _, _⟩ := famOk hf
    have hm := fam_mem hf
    have h2 : (2 : Nat) ^ g.toNat ≤ 2 ^ 6 := Nat.pow_le_pow_right (by decide) (by omega)
    have h3 := Nat.two_pow_pos g.toNat
    have := clTo_bd l hm (2 ^ g.toNat - 1) (by omega)
    omega
  · omega
def fmT (g : Int) (l : List Int) : ByteArray := fmTailT (famTx g l) (famTx (blkN g l) (blkL g l)) (itoaB (dimN g l)) (numB (groL g l)) (itoaB (lymN g l)) (itoaB (clN g l)) (setTx g (clR g l)) (lamB g l) (crossB g l) (interB g l) (antiB g l) (downB g l) (bfB g l)
def fmL (g : Int) (l : List Int) : List ByteArray := fmTail (famTx g l) (famTx (blkN g l) (blkL g l)) (itoaB (dimN g l)) (numB (groL g l)) (itoaB (lymN g l)) (itoaB (clN g l)) (setTx g (clR g l)) (lamB g l) (crossB g l) (interB g l) (antiB g l) (downB g l) (bfB g l)
theorem fm_is (g : Int) (l : List Int) : joinB space (fmL g l) = fmT g l := fmTail_is _ _ _ _ _ _ _ _ _ _ _ _ _
def fmLn (g : Int) (l : List Int) : ByteArray := if isFamB g l then fmT g l else ByteArray.empty
theorem fmLn_yes {g : Int} {l : List Int} (h : isFamB g l = true) : fmLn g l = fmT g l := by unfold fmLn; rw [if_pos h]
theorem fmLn_no {g : Int} {l : List Int} (h : isFamB g l = false) : fmLn g l = ByteArray.empty := by unfold fmLn; rw [h]; rfl
theorem fmT_size (g : Int) (l : List Int) : (fmT g l).size ≤ 20700 := by
  have h1 := dimN_bd g l
  have h2 := lymN_bd g l
  have h3 := clB_bd g l
  exact fmTailT_size _ _ _ _ _ _ _ _ _ _ _ _ _ (fmHeadT_size _ _ _ _ _ _ _ (famTx_size _ _) (famTx_size _ _) (itoaB_size _ ⟨by omega, by omega⟩) (groNum_size g l) (itoaB_size _ ⟨by omega, by omega⟩) (itoaB_size _ ⟨by omega, by omega⟩) (setTx_size _ _))
end Go.Proofs.YtipejodijbjpcaaGreatDoor
end
