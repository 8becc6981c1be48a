/- Numbers that are joined: the first program. -/
import Derived.Test.YtpaoiiiceekkkaaDoorStrs
namespace Go.Proofs.YtpaoiiiceekkkaaDoor
open Go.RowKit Go.G5

def comma : ByteArray := ⟨#[44]⟩
theorem commas_size (l : List Int) (h : ∀ x ∈ l, InR x) : (joinB comma (l.map itoaB)).size ≤ l.length * 22 := by
  have := joinB_size comma 21 (l.map itoaB) (fun x hx => by
    obtain ⟨y, hy, rfl⟩ := List.mem_map.1 hx
    exact itoaB_size y (h y hy))
  rw [List.length_map] at this
  exact this
set_option maxHeartbeats 1000000 in
set_option maxRecDepth 100000 in
theorem joinIntsI_any (l : List Int) (v : Value) (w : World) (hv : Ints w v l) (hl : l.length ≤ 1000) (hp : Pow w) :
    Calls Tryd.prog 112 #[v] w fun e w' => e = .returned (.string (joinB comma (l.map itoaB))) ∧ Below w.heap.size w w' := by
  have hin := hv.inR
  have hsz := commas_size l hin
  obtain ⟨a, b, off, c, rfl, hlen, hix, hc, hb⟩ := hv.view Tryd.prog 22 3 Tryd.underlying22 intElem
  have HC := Lib.hid hc
  have HIN := Lib.hid hin
  have HIX := Lib.hid hix
  clear hc hin hix hlen
  go_enter Tryd.func112, Tryd.ntmps112
  go_wp2_with (at_make; refine wpList_makeT rfl _ _ _ rfl 9 Tryd.underlying53 strElem l.length _ rfl rfl rfl (by omega) ?_; intro w2 hown hg)
  have b2 : Below w.heap.size w w2 := (Below.refl _ _).grown hg (Nat.le_refl _) (by simp)
  go_loopw [3, 11] (fun ov iv wr => ∃ (k : Nat) (p : Option Addr) (n cp : Nat), k ≤ l.length ∧ iv = .int .i64 k ∧ ov = .slice p n cp ∧ OwnS 9 w.heap.size wr (.slice p n cp) ((l.take k).map itoaB) ∧ Below w.heap.size w wr) (fun _ iv _ => l.length - (intOf iv).toNat)
  case atStart => exact ⟨0, _, _, _, Nat.zero_le _, rfl, rfl, hown, b2⟩
  case round =>
    obtain ⟨k, p, n, cp, hk, rfl, rfl, ho, B⟩ := hrel
    obtain ⟨wz, rfl⟩ : ∃ q : World, q = wr := ⟨_, rfl⟩
    have hpz := hp.keep B
    clear hown b2 hg
    by_cases hlt : k < l.length
    · have hlt2 : (k : Int) < (l.length : Int) := by omega
      have hrow := cells_below HC.out hb B (Nat.le_refl _)
      have hck := hrow k hlt
      have hik := fun W => HIX.out W k hlt
      have hst : (l.take (k + 1)).map itoaB = (l.take k).map itoaB ++ [itoaB l[k]] := by
        rw [List.take_succ_eq_append_getElem hlt, List.map_append]; rfl
      have hxr := HIN.out l[k] (List.getElem_mem hlt)
      have hkl : ((l.take k).map itoaB).length = k := by simp; omega
      obtain ⟨x, hx⟩ : ∃ x, x = l[k] := ⟨_, rfl⟩
      rw [← hx] at hck hst hxr
      have HST := Lib.hid hst
      have HKL := Lib.hid hkl
      clear hx hrow hst hkl
      have hF := Lib.hid (fmtI_any x hxr wz hpz)
      go_wp2_with fail
      refine hF.out.mono ?_
      rintro e w3 ⟨rfl, b3⟩
      have ho := ho.keep b3
      have B := B.after b3 B.size
      have zB := B.size
      clear b3 hF
      go_wp2_with (at_builtin; refine wpList_appendT rfl _ _ _ rfl 9 Tryd.underlying53 strElem w.heap.size (.slice p n cp) ((l.take k).map itoaB) [itoaB x] w3.heap.size 1 1 rfl rfl rfl (fun j y hy => by match j, hy with | 0, hy => (cases hy; exact cell_new _ _ _ _ _ rfl)) (ho.alloc _) (by rw [HKL.out]; simp; omega) (by simp; omega) ?_; intro v7 w7 o7 g7; obtain ⟨p7, i7, q7, rfl⟩ := o7.shape3)
      have rr := ho.lt
      have B7 := (B.alloc zB (.cells #[.string (itoaB x)] 9)).grown g7 (by simp; omega) (fun q hq => (rr _ hq).1)
      go_roundw
      case rel => exact ⟨k + 1, p7, i7, q7, by omega, by go_num, rfl, by rw [HST.out]; exact o7, B7⟩
      case measure => simp [intOf]; omega
    · have hkl : k = l.length := by omega
      have ho2 : OwnS 9 w.heap.size wz (.slice p n cp) (l.map itoaB) := by
        rw [hkl, List.take_length] at ho; exact ho
      have hlt2 : ¬ (k : Int) < (l.length : Int) := by omega
      have HJ := Lib.hid (join_own w.heap.size wz _ (l.map itoaB) comma ho2 (by omega) (by rw [List.length_map]; omega))
      clear hkl ho ho2 hpz
      go_wp2_with fail
      refine HJ.out.mono ?_
      rintro e w3 ⟨rfl, b3⟩
      go_wp2
      go_ret
      exact ⟨rfl, B.after b3 B.size⟩
end Go.Proofs.YtpaoiiiceekkkaaDoor
