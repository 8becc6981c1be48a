/- Families that are closed downward: what is computed. -/
import Derived.Test.YtbkgconoadicjaaAddP
namespace Go.Proofs.Ytbkgconoadicjaa
open Go.RowKit Go.G5

def lessEl (s e : Int) : Int := idif s (2 ^ e.toNat)
def shadOne (s : Int) : List Int := (elL s).map (lessEl s)
def shadL (l : List Int) : List Int := l.flatMap shadOne
def shN (g : Int) (l : List Int) : Int := if isFamB g l then g else 0
def shL (g : Int) (l : List Int) : List Int := if isFamB g l then gatherL (shadL l) else []
/-- without one element s is in l -/
def downOne (l : List Int) (s : Int) : Bool := (elL s).all fun e => has l (s - 2 ^ e.toNat)
def downB (g : Int) (l : List Int) : Bool := isFamB g l && l.all (downOne l)
theorem lessEl_sub : ∀ s : Nat, s < 64 → ∀ e ∈ elL (s : Int), lessEl s e = (s : Int) - 2 ^ e.toNat := by decide +kernel
theorem lessEl_is (s e : Int) (h0 : 0 ≤ s) (h1 : s < 64) (he : e ∈ elL s) : lessEl s e = s - 2 ^ e.toNat := by
  obtain ⟨n, rfl⟩ := Int.eq_ofNat_of_zero_le h0
  exact lessEl_sub n (by omega) e he
theorem lessEl_bd (s e : Int) (hs : 0 ≤ s ∧ s < 64) : 0 ≤ lessEl s e ∧ lessEl s e < 64 := idif_bd s _ 64 hs.1 hs.2
theorem shadOne_len (s : Int) : (shadOne s).length ≤ 6 := by unfold shadOne; rw [List.length_map]; exact elL_len6 s
theorem shadL_len (l : List Int) : (shadL l).length ≤ 6 * l.length := by
  unfold shadL
  induction l with
  | nil => simp
  | cons t m ih =>
    rw [List.flatMap_cons, List.length_append, List.length_cons]
    have := shadOne_len t
    omega
theorem shadL_take (l : List Int) (k : Nat) (h : k < l.length) : shadL (l.take (k + 1)) = shadL (l.take k) ++ shadOne l[k] := by
  unfold shadL
  rw [List.take_succ_eq_append_getElem h, List.flatMap_append, List.flatMap_cons, List.flatMap_nil, List.append_nil]
theorem fam_len64 {g : Int} {l : List Int} (h : isFamB g l = true) : l.length ≤ 64 := by
  obtain ⟨h0, h6, hm, ha⟩ := famOk h
  have := pow_le64 h0 h6
  exact asc_len l 64 ha (fun x hx => by have := hm x hx; omega)
theorem shL_len (g : Int) (l : List Int) : (shL g l).length ≤ 384 := by
  unfold shL
  split
  · rename_i h
    have := fam_len64 h
    have := shadL_len l
    have := gatherL_len (shadL l)
    omega
  · simp
/-- the two ways to say it -/
theorem down_is (g : Int) (l : List Int) : (isFamB g l && !((shL g l).any fun s => !has l s)) = downB g l := by
  unfold downB
  cases hf : isFamB g l with
  | false => rfl
  | true =>
    have hL : shL g l = gatherL (shadL l) := by unfold shL; rw [hf]; rfl
    rw [hL, Bool.true_and, Bool.true_and, Bool.eq_iff_iff, Bool.not_eq_true', List.any_eq_false, List.all_eq_true]
    have h64 := famOk64 hf
    constructor
    · intro h s hs
      unfold downOne
      rw [List.all_eq_true]
      intro e he
      obtain ⟨k, hk, rfl⟩ := List.getElem_of_mem hs
      have hb := h64.2.2 k hk
      have hmem : lessEl l[k] e ∈ gatherL (shadL l) := by
        rw [gatherL_mem]
        unfold shadL
        exact List.mem_flatMap.2 ⟨_, hs, List.mem_map.2 ⟨e, he, rfl⟩⟩
      have := h _ hmem
      rw [lessEl_is _ e hb.1 hb.2 he] at this
      simpa using this
    · intro h x hx
      rw [gatherL_mem] at hx
      unfold shadL at hx
      obtain ⟨s, hs, hx⟩ := List.mem_flatMap.1 hx
      obtain ⟨e, he, rfl⟩ := List.mem_map.1 hx
      obtain ⟨k, hk, rfl⟩ := List.getElem_of_mem hs
      have hb := h64.2.2 k hk
      have := h _ hs
      unfold downOne at this
      rw [List.all_eq_true] at this
      have := this e he
      rw [lessEl_is _ e hb.1 hb.2 he]
      simpa using this
end Go.Proofs.Ytbkgconoadicjaa
