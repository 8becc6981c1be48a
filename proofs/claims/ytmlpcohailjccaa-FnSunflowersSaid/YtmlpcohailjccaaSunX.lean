/- Petals; uniform families. -/
import Derived.Test.YtmlpcohailjccaaSunW
import Derived.Test.YtmlpcohailjccaaBlk
namespace Go.Proofs.Ytmlpcohailjccaa
open Go.RowKit Go.G5

theorem and_again (a b : Nat) : a &&& (a &&& b) = a &&& b := by
  apply Nat.eq_of_testBit_eq
  intro j
  simp only [Nat.testBit_and]
  cases a.testBit j <;> simp
theorem ker_sub {l : List Int} (h : kerB l = true) (k : Nat) (hk : k < l.length) : iand l[k] (kerN l) = kerN l := by
  have hker : kerN l = iand (l.getD 0 0) (l.getD 1 0) := by unfold kerN; rw [h]; rfl
  unfold kerB at h
  obtain ⟨h1, h2⟩ := Bool.and_eq_true_iff.1 h
  have h2 := of_decide_eq_true h2
  unfold isSunB at h1
  have hs := (sunS_iff l).1 (Bool.and_eq_true_iff.1 h1).2
  have hg := getD_at l k hk
  have key : ∃ x, kerN l = iand l[k] x := by
    by_cases h0 : k = 0
    · subst h0
      exact ⟨l.getD 1 0, by rw [hker, hg]⟩
    · have := hs k hk 0 (by omega)
      rw [hg] at this
      exact ⟨l.getD 0 0, by rw [hker, this]⟩
  obtain ⟨x, hx⟩ := key
  rw [hx]
  unfold iand
  simp only [Int.toNat_natCast]
  rw [and_again]
theorem pet_sub {l : List Int} (h : kerB l = true) (k : Nat) (hk : k < l.length) (h0 : 0 ≤ l[k]) : l[k] - kerN l = idif l[k] (kerN l) := by
  have h1 := ker_sub h k hk
  have h2 := kerN_bd h
  unfold iand at h1
  unfold idif ndiff
  have := @Nat.and_le_left l[k].toNat (kerN l).toNat
  omega
theorem petL_len (l : List Int) : (petL l).length ≤ 64 := by
  unfold petL
  split
  · rename_i h
    rw [petTo_len]
    unfold kerB at h
    exact (sun_bd (Bool.and_eq_true_iff.1 h).1).1
  · simp

set_option maxHeartbeats 1000000 in
set_option maxRecDepth 100000 in
theorem petalsI_any (l : List Int) (v : Value) (w : World) (hv : Ints w v l) :
    Calls Try.prog 30 #[v] w fun e w' => ∃ ad i cp, e = .returned (.tuple #[.slice ad i cp, .bool (kerB l)]) ∧ OwnI 3 w.heap.size w' (.slice ad i cp) (petL l) ∧ Below w.heap.size w w' := by
  have HK := Lib.hid (kernelI_any l v w hv)
  obtain ⟨a, b, off, c, rfl, hlen, hix, hc, hb⟩ := hv.view Try.prog 22 3 Try.underlying22 intElem
  cases hkb : kerB l with
  | false =>
    have hp : petL l = [] := by unfold petL; rw [hkb]; rfl
    have HP := Lib.hid hp
    rw [hkb] at HK
    clear hp hkb
    go_enter Try.func30, Try.ntmps30
    go_wp2_with (go_at_call 31; refine HK.out.mono ?_; rintro e w1 ⟨rfl, b1⟩)
    go_ret2
    exact ⟨none, 0, 0, rfl, by rw [HP.out]; exact OwnI.nil _ _ _, b1⟩
  | true =>
    have hp : petL l = petTo l (kerN l) l.length := by unfold petL; rw [hkb]; rfl
    have hkn := kerN_bd hkb
    have hsb : isSunB l = true := by unfold kerB at hkb; exact (Bool.and_eq_true_iff.1 hkb).1
    have HB := Lib.hid (sun_bd hsb)
    have HP := Lib.hid hp
    rw [hkb] at HK
    obtain ⟨K, hK⟩ : ∃ K, K = kerN l := ⟨_, rfl⟩
    rw [← hK] at HK HP hkn
    clear hp hkb hsb hK
    go_enter Try.func30, Try.ntmps30
    go_wp2_with (go_at_call 31; refine HK.out.mono ?_; rintro e w1 ⟨rfl, b1⟩)
    go_loopw [6, 18] (fun out i wr => ∃ (k : Nat) (ad : Option Addr) (nn cp : Nat), k ≤ l.length ∧ out = .slice ad nn cp ∧ i = .int .i64 k ∧ OwnI 3 w.heap.size wr (.slice ad nn cp) (petTo l K k) ∧ Below w.heap.size w wr) (fun _ i _ => l.length - (intOf i).toNat)
    case atStart => exact ⟨0, none, 0, 0, Nat.zero_le _, rfl, rfl, OwnI.nil _ _ _, b1⟩
    case round =>
      obtain ⟨k, ad, nn, cp, hk, rfl, rfl, ho, Br⟩ := hrel
      have HO := Lib.hid ho
      clear ho
      by_cases hlt : k < l.length
      · have hlt2 : (k : Int) < (l.length : Int) := by omega
        have ck := cells_below hc hb Br (Nat.le_refl _) k hlt
        have ik := fun W => hix W k hlt
        have hlk := HB.out.2 _ (List.getElem_mem hlt)
        have h64 := HB.out.1
        have hn : petTo l K (k + 1) = petTo l K k ++ [idif l[k] K] := by rw [petTo, getD_at l k hlt]
        obtain ⟨y, hy⟩ : ∃ y, y = l[k] := ⟨_, rfl⟩
        rw [← hy] at ck hlk hn
        have hid := idif_is hlk.1 hlk.2 hkn.1 hkn.2
        have hdb := idif_bd y K 64 hlk.1 hlk.2
        have hpl := petTo_len l K k
        obtain ⟨d, hd⟩ : ∃ d, d = idif y K := ⟨_, rfl⟩
        rw [← hd] at hid hdb hn
        have HN := Lib.hid hn
        have HPL := Lib.hid hpl
        clear hn hy hd hc hix hpl
        have o4 := HO.out
        have r4 := o4.lt
        have zr := Br.size
        go_wp2_with (at_builtin; refine wpList_appendI rfl _ _ _ rfl 3 Try.underlying22 intElem w.heap.size _ _ d wr.heap.size rfl rfl (by simp) (o4.alloc _) ⟨by omega, by omega⟩ (by have := HPL.out; omega) (by simp; omega) ?_; intro v' w6 hown hgr; obtain ⟨av, nv, cv, rfl⟩ := hown.shape3)
        have B6 : Below w.heap.size w w6 := (Br.alloc Br.size (.cells #[.int .i64 d] 3)).grown hgr (by simp; omega) (fun q hq => (r4 q hq).1)
        go_roundw
        case rel => exact ⟨k + 1, av, nv, cv, by omega, rfl, by go_num, by rw [HN.out]; exact hown, B6⟩
        case measure => simp [intOf]; omega
      · have hlt2 : ¬ (k : Int) < (l.length : Int) := by omega
        have hkl : k = l.length := by omega
        have ho := HO.out
        rw [hkl, ← HP.out] at ho
        have HO := Lib.hid ho
        clear hkl ho
        go_wp2
        go_ret2
        exact ⟨ad, nn, cp, rfl, HO.out, Br⟩

set_option maxHeartbeats 1000000 in
set_option maxRecDepth 100000 in
theorem petalsS_any (l : List Int) (v : Value) (w : World) (hv : Ints w v l) :
    Calls Try.prog 37 #[v] w fun e w' => ∃ ad i cp, e = .returned (.tuple #[.slice ad i cp, .bool (kerB l)]) ∧ OwnI 3 w.heap.size w' (.slice ad i cp) (petL l) ∧ Below w.heap.size w w' := by
  obtain ⟨W0, hW0⟩ : ∃ W, W = w.alloc (.cells #[] 3) := ⟨_, rfl⟩
  have B0 : Below w.heap.size w W0 := by rw [hW0]; exact bl1 _ _
  have o0 : OwnI 3 w.heap.size W0 (.slice (some ⟨w.heap.size, 0, none⟩) 0 0) [] := by rw [hW0]; exact OwnI.lit0 w (Nat.le_refl _)
  have HK := Lib.hid (kernelS_any l v W0 (hv.below B0 (Nat.le_refl _)))
  obtain ⟨a, b, off, c, rfl, hlen, hix, hc, hb⟩ := hv.view Try.prog 22 3 Try.underlying22 intElem
  cases hkb : kerB l with
  | false =>
    have hp : petL l = [] := by unfold petL; rw [hkb]; rfl
    have HP := Lib.hid hp
    rw [hkb] at HK
    clear hp hkb
    go_enter Try.func37, Try.ntmps37
    go_wp2_with fail
    rw [← hW0]
    clear hW0
    refine HK.out.mono ?_
    rintro e w1 ⟨rfl, b1⟩
    have B1 := B0.after b1 B0.size
    have o1 := o0.keep b1
    go_wp2_with fail
    go_loopw [4, 7] (fun out i wr => out = .slice (some ⟨w.heap.size, 0, none⟩) 0 0 ∧ i = .int .i64 0 ∧ wr = w1) (fun _ _ _ => 0)
    case atStart => exact ⟨rfl, rfl, rfl⟩
    case round =>
      obtain ⟨rfl, rfl, rfl⟩ := hrel
      go_wp2
      all_goals
        go_ret2
        exact ⟨some ⟨w.heap.size, 0, none⟩, 0, 0, rfl, by rw [HP.out]; exact o1, B1⟩
  | true =>
    have hp : petL l = petTo l (kerN l) l.length := by unfold petL; rw [hkb]; rfl
    have hkn := kerN_bd hkb
    have hsb : isSunB l = true := by unfold kerB at hkb; exact (Bool.and_eq_true_iff.1 hkb).1
    have HB := Lib.hid (sun_bd hsb)
    have hps : ∀ k (hk : k < l.length), l[k] - kerN l = idif l[k] (kerN l) := fun k hk => pet_sub hkb k hk ((sun_bd hsb).2 _ (List.getElem_mem hk)).1
    have HP := Lib.hid hp
    rw [hkb] at HK
    obtain ⟨K, hK⟩ : ∃ K, K = kerN l := ⟨_, rfl⟩
    rw [← hK] at HK HP hkn
    simp only [← hK] at hps
    have HPS := Lib.hid hps
    clear hp hkb hsb hK hps
    go_enter Try.func37, Try.ntmps37
    go_wp2_with fail
    rw [← hW0]
    clear hW0
    refine HK.out.mono ?_
    rintro e w1 ⟨rfl, b1⟩
    have B1 := B0.after b1 B0.size
    have o1 := o0.keep b1
    go_wp2_with fail
    go_loopw [4, 7] (fun out i wr => ∃ (k : Nat) (ad : Option Addr) (nn cp : Nat), k ≤ l.length ∧ out = .slice ad nn cp ∧ i = .int .i64 k ∧ OwnI 3 w.heap.size wr (.slice ad nn cp) (petTo l K k) ∧ Below w.heap.size w wr) (fun _ i _ => l.length - (intOf i).toNat)
    case atStart => exact ⟨0, _, _, _, Nat.zero_le _, rfl, rfl, o1, B1⟩
    case round =>
      obtain ⟨k, ad, nn, cp, hk, rfl, rfl, ho, Br⟩ := hrel
      have HO := Lib.hid ho
      clear ho o1 o0
      by_cases hlt : k < l.length
      · have hlt2 : (k : Int) < (l.length : Int) := by omega
        have ck := cells_below hc hb Br (Nat.le_refl _) k hlt
        have ik := fun W => hix W k hlt
        have hlk := HB.out.2 _ (List.getElem_mem hlt)
        have h64 := HB.out.1
        have hn : petTo l K (k + 1) = petTo l K k ++ [idif l[k] K] := by rw [petTo, getD_at l k hlt]
        have hsb := HPS.out k hlt
        obtain ⟨y, hy⟩ : ∃ y, y = l[k] := ⟨_, rfl⟩
        rw [← hy] at ck hlk hn hsb
        have hdb := idif_bd y K 64 hlk.1 hlk.2
        have hpl := petTo_len l K k
        rw [← hsb] at hdb hn
        have hw : IntKind.i64.wrap (y - K) = y - K := IntWalk.i64_in _ ⟨by omega, by omega⟩
        have HN := Lib.hid hn
        have HPL := Lib.hid hpl
        clear hn hy hc hix hpl hsb
        have o4 := HO.out
        have r4 := o4.lt
        have zr := Br.size
        go_wp2_with (at_builtin; refine wpList_appendI rfl _ _ _ rfl 3 Try.underlying22 intElem w.heap.size _ _ (y - K) wr.heap.size rfl rfl (by simp) (o4.alloc _) ⟨by omega, by omega⟩ (by have := HPL.out; omega) (by simp; omega) ?_; intro v' w6 hown hgr; obtain ⟨av, nv, cv, rfl⟩ := hown.shape3)
        have B6 : Below w.heap.size w w6 := (Br.alloc Br.size (.cells #[.int .i64 (y - K)] 3)).grown hgr (by simp; omega) (fun q hq => (r4 q hq).1)
        go_roundw
        case rel => exact ⟨k + 1, av, nv, cv, by omega, rfl, by go_num, by rw [HN.out]; exact hown, B6⟩
        case measure => simp [intOf]; omega
      · have hlt2 : ¬ (k : Int) < (l.length : Int) := by omega
        have hkl : k = l.length := by omega
        have ho := HO.out
        rw [hkl, ← HP.out] at ho
        have HO := Lib.hid ho
        clear hkl ho
        go_wp2
        go_ret2
        exact ⟨ad, nn, cp, rfl, HO.out, Br⟩

set_option maxHeartbeats 1000000 in
set_option maxRecDepth 100000 in
theorem isUniform_any (g : Int) (l : List Int) (v : Value) (q : Int) (w : World) (hv : Ints w v l) :
    Calls Try.prog 32 #[.agg #[.int .i64 g, v], .int .i64 q] w fun e w' => e = .returned (.bool (uniB g l q)) ∧ Below w.heap.size w w' := by
  obtain ⟨a, b, off, c, rfl, hlen, hix, hc, hb⟩ := hv.view Try.prog 22 3 Try.underlying22 intElem
  go_enter Try.func32, Try.ntmps32
  go_wp2_with fail
  refine calls_named ?_
  intro V hV
  have B : Below w.heap.size w V := by rw [hV]; exact bl1 _ _
  have K : Blk V w.heap.size 28 #[.int .i64 g, .slice a l.length c] := by rw [hV]; exact Blk.new _ _ _
  clear hV
  refine (isFamI_any g l _ V (hv.below B (Nat.le_refl _))).mono ?_
  rintro e w1 ⟨rfl, b1⟩
  have K := K.keep b1
  have B := B.after b1 B.size
  have G := K.cell
  cases hf : isFamB g l with
  | false =>
    have hx : uniB g l q = false := by unfold uniB; rw [hf]; rfl
    have HX := Lib.hid hx
    clear hx hf
    go_wp2
    go_ret
    exact ⟨ret_bool HX.out.symm, B⟩
  | true =>
    have HM := Lib.hid (famOk64 hf).2.2
    cases hi : inB q 0 g with
    | false =>
      have hx : uniB g l q = false := by unfold uniB; rw [hf, hi]; rfl
      have HX := Lib.hid hx
      have HI := Lib.hid hi
      clear hx hf hi
      go_wp2_with (go_at_call 93; refine (within_any _ _ _ _).mono ?_; rintro e w' ⟨rfl, rfl⟩; rw [HI.out])
      go_ret
      exact ⟨ret_bool HX.out.symm, B⟩
    | true =>
      have hx : uniB g l q = l.all (fun s => ipop s == q) := by unfold uniB; rw [hf, hi]; rfl
      have HX := Lib.hid hx
      have HI := Lib.hid hi
      clear hx hf hi
      go_wp2_with (go_at_call 93; refine (within_any _ _ _ _).mono ?_; rintro e w' ⟨rfl, rfl⟩; rw [HI.out])
      clear G
      go_loopw [20] (fun i wr => ∃ k : Nat, k ≤ l.length ∧ i = .int .i64 k ∧ (l.take k).all (fun s => ipop s == q) = true ∧ wr = w1) (fun i _ => l.length - (intOf i).toNat)
      case atStart => exact ⟨0, Nat.zero_le _, rfl, by simp, rfl⟩
      case round =>
        obtain ⟨k, hk, rfl, hall, rfl⟩ := hrel
        have H := Lib.hid hall
        clear hall
        by_cases hlt : k < l.length
        · have hlt2 : (k : Int) < (l.length : Int) := by omega
          have ck := cells_below hc hb B (Nat.le_refl _) k hlt
          have ik := fun W => hix W k hlt
          have hlk := HM.out k hlt
          have hts : (l.take (k + 1)).all (fun s => ipop s == q) = ((l.take k).all (fun s => ipop s == q) && (ipop l[k] == q)) := by rw [List.take_succ_eq_append_getElem hlt, List.all_append]; simp
          have hbad : (ipop l[k] == q) = false → l.all (fun s => ipop s == q) = false := fun h => all_false_at (fun s => ipop s == q) l k hlt h
          obtain ⟨y, hy⟩ : ∃ y, y = l[k] := ⟨_, rfl⟩
          rw [← hy] at ck hlk hts hbad
          have HTS := Lib.hid hts
          have HBD := Lib.hid hbad
          clear hts hbad hy hc hix
          by_cases hpq : ipop y = q
          · have hb1 : (ipop y != q) = false := by simp [hpq]
            have hb2 : (ipop y == q) = true := by simp [hpq]
            have HB2 := Lib.hid hb2
            clear hpq hb2
            go_wp2_with (go_at_call 66; refine (sizeOf_i y _ hlk.1 (by omega)).mono ?_; rintro e w' ⟨rfl, rfl⟩)
            go_roundw
            case rel => exact ⟨k + 1, by omega, by go_num, by rw [HTS.out, H.out, HB2.out]; rfl, trivial⟩
            case measure => simp [intOf]; omega
          · have hb1 : (ipop y != q) = true := by simp [hpq]
            have hb2 : (ipop y == q) = false := by simp [hpq]
            have HB2 := Lib.hid hb2
            clear hpq hb2
            go_wp2_with (go_at_call 66; refine (sizeOf_i y _ hlk.1 (by omega)).mono ?_; rintro e w' ⟨rfl, rfl⟩)
            go_ret
            exact ⟨ret_bool (by rw [HX.out, HBD.out HB2.out]), B⟩
        · have hlt2 : ¬ (k : Int) < (l.length : Int) := by omega
          have hy : l.all (fun s => ipop s == q) = true := by have := H.out; rw [List.take_of_length_le (by omega)] at this; exact this
          have HY := Lib.hid hy
          clear hy
          go_wp2
          go_ret
          exact ⟨ret_bool (by rw [HX.out, HY.out]), B⟩
end Go.Proofs.Ytmlpcohailjccaa
