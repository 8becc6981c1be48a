/- Packings: the first program. -/
import Derived.Test.YtpaoiiiceekkkaaDoorQ34
import Derived.Deep.RegionLaw
import Derived.Deep.DeepCutAuto
section
namespace Go.Proofs.YtpaoiiiceekkkaaDoor
open Go.RowKit Go.G5

/-- the slice value does not lie in block bo -/
def Far (bo : Nat) (v : Value) (l : List Int) : Prop := l ≠ [] → ∀ k, v.ownBlock = some k → k ≠ bo
theorem ints_growIn {w w' : World} {P : Nat → Prop} {v : Value} {l : List Int} (h : Ints w v l) (hg : GrownIn w w' P) (hn : l ≠ [] → ∀ k, v.ownBlock = some k → ¬ P k) : Ints w' v l := by
  obtain ⟨a, c, rfl, h1, h2, h3, h4⟩ := h
  refine ⟨a, c, rfl, h1, h2, h3, ?_⟩
  rcases h4 with h4 | ⟨b, off, rfl, hb, hc⟩
  · exact .inl h4
  · refine .inr ⟨b, off, rfl, Nat.lt_of_lt_of_le hb hg.size, fun k hk => ?_⟩
    have e := hg.block b hb (hn (by intro e; subst e; simp at hk) b rfl)
    have h5 := hc k hk
    unfold World.cell? at h5 ⊢
    simp only at h5 ⊢
    rw [e]; exact h5
theorem ints_lt {w : World} {v : Value} {l : List Int} (h : Ints w v l) (hl : l ≠ []) : ∀ k, v.ownBlock = some k → k < w.heap.size := by
  obtain ⟨a, c, rfl, h1, h2, h3, h4⟩ := h
  intro k hk
  rcases h4 with h4 | ⟨b, off, rfl, hb, _⟩
  · exact absurd h4 hl
  · have : b = k := Option.some.inj hk
    omega

/-- s[k:], and where it lies -/
theorem ints_fromF {P : Program} {w : World} {a : Option Addr} {c : Nat} {l : List Int} (h : Ints w (.slice a l.length c) l) (T E : TypeId) (hT : P.underlying T = some (.slice E)) (hE : IntElem P E) (k : Nat) (hk : k ≤ l.length) :
    ∃ a' c', (∀ (kk : IntKind) (w' : World), (Instr.slice T (.slice a l.length c) (some (.int kk (k : Int))) none none).run P w' = .ok (.slice a' (l.drop k).length c') w') ∧ Ints w (.slice a' (l.drop k).length c') (l.drop k) ∧
      ∀ q, (Value.slice a' (l.drop k).length c').ownBlock = some q → (Value.slice a l.length c).ownBlock = some q := by
  obtain ⟨i, hi, _, h1, _⟩ := hE.get
  have hEl : P.elem T = E := by simp [Program.elem, hT]
  obtain ⟨hl, hcl, hcm⟩ := h.capLe
  obtain ⟨a', c', e1, e2⟩ := Ints.from h T E hT hE k hk
  refine ⟨a', c', e1, e2, ?_⟩
  have e3 := e1 .i64 default
  rw [run_slice_l default T a l.length c (by rw [hEl]; exact hT) .i64 k (by omega) (by omega)] at e3
  simp [sizeOf, typeInfo, hEl, hi, h1, Result.andThen, sliced, List.length_drop] at e3
  obtain ⟨rfl, _⟩ := e3
  intro q hq
  cases a with
  | none => simp [Value.ownBlock] at hq
  | some ad =>
    split at hq
    · simpa [Value.ownBlock] using hq
    · simp only [Option.map_some, Value.ownBlock, Addr.add] at hq ⊢
      split at hq
      · exact hq
      · exact hq
theorem packV_len (N : Nat) : ∀ (r : List Int) (u : Int) (c b : List Int), c.length + r.length ≤ N → b.length ≤ N → (packV r u c b).length ≤ N
  | [], _, _, _, _, h => h
  | s :: r, u, c, b, h1, h2 => by
    rw [List.length_cons] at h1
    rw [packV]
    split
    · refine packV_len N r u c _ (by omega) (packV_len N r (ior u s) (c ++ [s]) _ (by simp; omega) ?_)
      unfold longer
      split
      · simp; omega
      · exact h2
    · exact packV_len N r u c b (by omega) h2
def packPost (bo : Nat) (b : List Int) (w : World) (e : Ending) (w' : World) : Prop :=
  e = .returned (.tuple #[]) ∧ ∃ v, Blk w' bo 113 #[v] ∧ Ints w' v b ∧ Far bo v b ∧ GrownIn w w' (fun k => k = bo)

set_option maxHeartbeats 1000000 in
set_option maxRecDepth 100000 in
theorem packVisit_any (bo : Nat) : ∀ (m : Nat) (sets : List Int) (sv : Value) (u : Int) (ch : List Int) (lv : Value) (bs : List Int) (bv : Value) (w : World), sets.length = m → (∀ x ∈ sets, 0 ≤ x ∧ x < 64) → Ints w sv sets → Far bo sv sets → Ints w lv ch → Far bo lv ch →
    Blk w bo 113 #[bv] → Ints w bv bs → Far bo bv bs → 0 ≤ u → u < 64 → ch.length + m ≤ 64 → bs.length ≤ 64 →
    Calls Tryd.prog 140 #[.pointer (some ⟨bo, 0, none⟩), sv, .int .i64 u, lv] w (packPost bo (packV sets u ch (longer bs ch)) w) := by
  intro m
  induction m using Nat.strongRecOn with
  | ind m ih =>
  intro sets sv u ch lv bs bv w hm hsb hs hfs hc hfc K hb hfb hu0 hu1 hlen hbl
  have hs0 := hs
  have hc0 := hc
  have zo := K.lt
  obtain ⟨a, n, off, cp, rfl, hslen, hix, hcells, hbl2⟩ := hs.view Tryd.prog 22 3 Tryd.underlying22 intElem
  obtain ⟨av, cv, rfl⟩ := hc.shape
  obtain ⟨ab, cb, rfl⟩ := hb.shape
  have HIX := Lib.hid hix
  have HSB := Lib.hid hsb
  have IH := Lib.hid ih
  have G := K.cell
  have HM := Lib.hid hm
  clear hix hsb ih hslen hm
  go_enter Tryd.func140, Tryd.ntmps140
  go_upto_if 17 with fail
  go_cut [18] (fun _ wx => ∃ p q, Blk wx bo 113 #[.slice p (longer bs ch).length q] ∧ Ints wx (.slice p (longer bs ch).length q) (longer bs ch) ∧ Far bo (.slice p (longer bs ch).length q) (longer bs ch) ∧ GrownIn w wx (fun k => k = bo))
  case rest =>
    obtain ⟨p, q, K1, hb1, hf1, g1⟩ := hcut
    clear K hb hfb G
    have hl1 : (longer bs ch).length ≤ 64 := by unfold longer; split <;> omega
    obtain ⟨b1, hb1e⟩ : ∃ b1, b1 = longer bs ch := ⟨_, rfl⟩
    have HE := Lib.hid hb1e
    rw [← hb1e] at K1 hb1 hf1 hl1
    clear hb1e
    go_wp2_with fail
    go_loopw [25] (fun iv wr => ∃ (j : Nat) (y : List Int) (p : Option Addr) (q : Nat), j ≤ sets.length ∧ iv = .int .i64 j ∧ Blk wr bo 113 #[.slice p y.length q] ∧ Ints wr (.slice p y.length q) y ∧ Far bo (.slice p y.length q) y ∧ y.length ≤ 64 ∧ packV (sets.drop j) u ch y = packV sets u ch b1 ∧ GrownIn w wr (fun k => k = bo)) (fun iv _ => sets.length - (intOf iv).toNat)
    case atStart => exact ⟨0, b1, p, q, Nat.zero_le _, rfl, K1, hb1, hf1, hl1, rfl, g1⟩
    case round =>
      obtain ⟨j, y, p', q', hj, rfl, K2, hy, hfy, hyl, hpk, g2⟩ := hrel
      clear K1 hb1 hf1 g1
      by_cases hlt : j < sets.length
      · have hlt2 : (j : Int) < (sets.length : Int) := by omega
        have hs2 := ints_growIn hs0 g2 hfs
        have hc2 := ints_growIn hc0 g2 hfc
        obtain ⟨a2, n2, off2, c2, he, _, hix2, hcj, _⟩ := hs2.view Tryd.prog 22 3 Tryd.underlying22 intElem
        injection he with e1 _ e3
        subst e1 e3
        have hck := hcj j hlt
        have hik := fun W => hix2 W j hlt
        clear hcj hix2
        have hxb := HSB.out _ (List.getElem_mem hlt)
        have hdr := List.drop_eq_getElem_cons hlt
        have hat : packV (sets.drop j) u ch y = if okB sets[j] u then packV (sets.drop (j + 1)) u ch (packV (sets.drop (j + 1)) (ior u sets[j]) (ch ++ [sets[j]]) (longer y (ch ++ [sets[j]]))) else packV (sets.drop (j + 1)) u ch y := by rw [hdr, packV]
        rw [hpk] at hat
        have yw := g2.size
        obtain ⟨x, hx⟩ : ∃ x, x = sets[j] := ⟨_, rfl⟩
        rw [← hx] at hck hxb hat
        have hand : bits .and .i64 x u = iand x u := iand_is hxb.1 (by omega) hu0 (by omega)
        have hok : okB x u = (x != 0 && iand x u == 0) := rfl
        obtain ⟨z, hz⟩ : ∃ z, z = iand x u := ⟨_, rfl⟩
        rw [← hz] at hand hok
        clear hx hz hpk hdr
        cases h1 : x != 0 with
        | false =>
          have hno : okB x u = false := by rw [hok, h1]; rfl
          rw [hno] at hat
          have HAT := Lib.hid hat
          clear hat hno hok
          go_wp2
          go_roundw
          case rel => exact ⟨j + 1, y, p', q', by omega, by go_num, K2, hy, hfy, hyl, HAT.out.symm, g2⟩
          case measure => simp [intOf]; omega
        | true =>
          cases h2 : z == 0 with
          | false =>
            have hno : okB x u = false := by rw [hok, h1, h2]; rfl
            rw [hno] at hat
            have HAT := Lib.hid hat
            clear hat hno hok
            go_wp2
            go_roundw
            case rel => exact ⟨j + 1, y, p', q', by omega, by go_num, K2, hy, hfy, hyl, HAT.out.symm, g2⟩
            case measure => simp [intOf]; omega
          | true =>
            have hyes : okB x u = true := by rw [hok, h1, h2]; rfl
            rw [hyes, if_pos rfl] at hat
            have hor : bits .or .i64 u x = ior u x := ior_is hu0 (by omega) hxb.1 (by omega)
            have hob := ior_bd u x 6 hu0 hxb.1 (by omega) (by omega)
            obtain ⟨u2, hu2⟩ : ∃ u2, u2 = ior u x := ⟨_, rfl⟩
            rw [← hu2] at hor hob hat
            have hob0 := hob.1
            have hob1 : u2 < 64 := by omega
            have hml : j + 1 ≤ sets.length := hlt
            have hdl : (sets.drop (j + 1)).length = sets.length - (j + 1) := List.length_drop ..
            have hchl : (ch ++ [x]).length = ch.length + 1 := by simp
            obtain ⟨a3, c3, hsl, hs3, hf3⟩ := ints_fromF hs2 22 3 Tryd.underlying22 intElem (j + 1) hml
            have hsl2 := fun W => hsl .i64 W
            rw [show ((j + 1 : Nat) : Int) = (j : Int) + 1 by simp] at hsl2
            have hDm : ∀ e ∈ sets.drop (j + 1), 0 ≤ e ∧ e < 64 := fun e he => HSB.out e (List.mem_of_mem_drop he)
            obtain ⟨D, hD⟩ : ∃ D, D = sets.drop (j + 1) := ⟨_, rfl⟩
            rw [← hD] at hdl hs3 hf3 hDm
            simp only [← hD] at hsl2
            have HDD := Lib.hid hD
            have hRe : packV (sets.drop (j + 1)) u2 (ch ++ [x]) (longer y (ch ++ [x])) = packV D u2 (ch ++ [x]) (longer y (ch ++ [x])) := by rw [HDD.out]
            clear hD hsl
            obtain ⟨R, hR⟩ : ∃ R, R = packV D u2 (ch ++ [x]) (longer y (ch ++ [x])) := ⟨_, rfl⟩
            have hmm := HM.out
            have hRl : R.length ≤ 64 := by rw [hR]; exact packV_len 64 _ _ _ _ (by rw [hdl, hchl]; omega) (by unfold longer; split <;> omega)
            have hrec : ∀ (v6 : Value) (w6 : World), OwnI 3 wr.heap.size w6 v6 (ch ++ [x]) → Below wr.heap.size wr w6 →
                Calls Tryd.prog 140 #[.pointer (some ⟨bo, 0, none⟩), .slice a3 D.length c3, .int .i64 u2, v6] w6 (packPost bo R w6) := fun v6 w6 q1 q2 => by
              rw [hR]
              have zz := K2.lt
              exact IH.out D.length (by rw [hdl]; omega) _ _ u2 (ch ++ [x]) v6 y _ w6 rfl hDm (hs3.below q2 (Nat.le_refl _)) (fun hne k hk => hfs (fun e => hne (by rw [HDD.out, e]; rfl)) k (hf3 k hk)) q1.ints (fun _ k hk => by have := (q1.lt k hk).1; omega) (K2.keep q2) (hy.below q2 (Nat.le_refl _)) hfy hob0 hob1 (by rw [hdl, hchl]; omega) hyl
            rw [hRe, ← hR] at hat
            have HREC := Lib.hid hrec
            have HAT := Lib.hid hat
            have hL2 : ch.length + [x].length ≤ 17592186044416 := by simp; omega
            have hXR : InR x := ⟨by omega, by omega⟩
            have hwj : IntKind.i64.wrap ((j : Int) + 1) = (j : Int) + 1 := by rw [IntKind.wrap_i64]; omega
            have HLL2 := Lib.hid hL2
            have HXR := Lib.hid hXR
            have hchb : ch.length ≤ 1048576 := by omega
            have hdl2 := Lib.hid hdl
            clear hrec hat hR hRe hDm hu2 hob hyes hok hL2 hXR hdl hchl hmm
            go_wp2_with fail
            go_region_law
              (first
                | (go_simp; go_at_call 177; refine (clone_any _ ch _ ?_ hchb).mono ?_; (first | (with_reducible exact hc2.drew') | (with_reducible exact (hc2.alloc _).drew')); rintro e w5 ⟨p5, i5, q5, rfl, o5, b5⟩; have own5 := OwnI.mono (B' := wr.heap.size) o5 (by first | omega | (simp; done) | (simp; omega)); first | (have bb5 : Below wr.heap.size wr w5 := ((bl1 wr (.cells #[.int .i64 x] 3)).drewN' 1).after b5 (by first | omega | (simp; done) | (simp; omega)); have lit5 : w5.cell? ⟨wr.heap.size, 0, none⟩ = some (.int .i64 x) := keep b5 (cell_newD wr 3 (.int .i64 x))) | (have bb5 : Below wr.heap.size wr w5 := ((Below.refl wr.heap.size wr).drewN' 1).after b5 (by first | omega | (simp; done) | (simp; omega))))
                | (refine step_put rfl _ _ _ rfl 3 Tryd.underlying22 intElem wr.heap.size (.slice p5 i5 q5) ch rfl (.slice (some ⟨_, 0, none⟩) 1 1) [x] rfl ?_ ?_ HLL2.out wr ?_ (Nat.le_refl _) ?_; (first | (with_reducible exact own5.alloc _) | (with_reducible exact own5)); (refine Ints.one ?_ HXR.out; first | (with_reducible exact cell_new _ _ _ _ _ rfl) | (with_reducible exact lit5)); (first | (with_reducible exact bb5.alloc bb5.size _) | (with_reducible exact bb5)); intro v6 w6 o6 b6 _)
                | (go_simp; go_at_call 140; refine (HREC.out _ w6 o6 b6).mono ?_; rintro e7 w7 ⟨rfl, bv7, K7, hy7, hf7, g7⟩))
            all_goals
              obtain ⟨p7, c7, rfl⟩ := hy7.shape
              have g7' := g2.trans ((GrownIn.of_below (P := fun k => k = bo) b6).trans g7)
              have hat2 : packV D u ch R = packV sets u ch b1 := by rw [HAT.out, HDD.out]
              have HAT2 := Lib.hid hat2
              clear hat2
              go_wp2
              go_roundw
              case rel => exact ⟨j + 1, R, p7, c7, by omega, by go_num, K7, hy7, hf7, hRl, by rw [← HDD.out]; exact HAT2.out, g7'⟩
              case measure => simp [intOf]; omega
      · have hlt2 : ¬ (j : Int) < (sets.length : Int) := by omega
        have hj2 : j = sets.length := by omega
        have hpk2 : y = packV sets u ch (longer bs ch) := by rw [← HE.out, ← hpk, hj2, List.drop_length]; rfl
        have HPK := Lib.hid hpk2
        clear hpk hpk2 hj2
        go_wp2
        exact bodyPost_end (v := .tuple #[]) (results_none rfl _ _ _) rfl ⟨rfl, _, K2, by rw [← HPK.out]; exact hy, by rw [← HPK.out]; exact hfy, g2⟩
  case first =>
    by_cases hgt : bs.length < ch.length
    · have hgt2 : (bs.length : Int) < (ch.length : Int) := by omega
      have hlo : longer bs ch = ch := by unfold longer; rw [if_pos hgt]
      have HLO := Lib.hid hlo
      have hne : ch ≠ [] := by intro e; subst e; simp at hgt
      have HNE := Lib.hid hne
      clear hlo hgt hne
      go_wp2_with fail
      refine (clone_any _ ch w hc0 (by omega)).mono ?_
      rintro e w1 ⟨pc, ic, qc, rfl, oc, bc⟩
      have hic : ic = ch.length := oc.ints.capLe.1
      subst hic
      have K1 := K.keep bc
      have G1 := K1.cell
      have F1 := K1.frozen
      have z1 := K1.lt
      clear G
      go_wp2
      go_meet
      have KF : Blk (w1.setCell ⟨bo, 0, none⟩ (.slice pc ch.length qc)) bo 113 #[.slice pc ch.length qc] := by
        have := K1.set 0 (.slice pc ch.length qc)
        simpa using this
      have gF : w1.grownBy (w1.setCell ⟨bo, 0, none⟩ (.slice pc ch.length qc)) (some bo) := grow_set (World.grownBy.refl _ _) 0 _
      have hfar : Far bo (.slice pc ch.length qc) ch := fun _ k hk => by have := (oc.lt k hk).1; omega
      have hI := (oc.setFar ⟨bo, 0, none⟩ (fun e => by have := (oc.lt bo e).1; omega) (.slice pc ch.length qc)).ints
      exact ⟨pc, qc, by rw [HLO.out]; exact KF, by rw [HLO.out]; exact hI, by rw [HLO.out]; exact hfar, (GrownIn.of_below bc).trans (GrownIn.of_row gF (fun k hk => (Option.some.inj hk).symm))⟩
    · have hgt2 : ¬ (bs.length : Int) < (ch.length : Int) := by omega
      have hlo : longer bs ch = bs := by unfold longer; rw [if_neg hgt]
      have HLO := Lib.hid hlo
      clear hlo hgt
      go_wp2_with fail
      go_meet
      exact ⟨ab, cb, by rw [HLO.out]; exact K, by rw [HLO.out]; exact hb, by rw [HLO.out]; exact hfb, GrownIn.refl _ _⟩

set_option maxHeartbeats 1000000 in
set_option maxRecDepth 100000 in
theorem packNumI_any (w : World) (g : Int) (v : Value) (l : List Int) (hv : Ints w v l) :
    Calls Tryd.prog 79 #[.agg #[.int .i64 g, v]] w fun e w' => ∃ ad i cp, e = .returned (.tuple #[.int .i64 ((pkL g l).length : Int), .slice ad i cp, .bool (isFamB g l)]) ∧ Ints w' (.slice ad i cp) (pkL g l) ∧ Below w.heap.size w w' := by
  have hv0 := hv
  obtain ⟨a, c, rfl⟩ := hv.shape
  have K0 := Blk.new w 32 #[.int .i64 g, .slice a l.length c]
  cases hf : isFamB g l with
  | false =>
    have hL : pkL g l = [] := by unfold pkL; rw [hf]; rfl
    have HL := Lib.hid hL
    have HF := Lib.hid hf
    clear hL hf
    go_enter Tryd.func79, Tryd.ntmps79
    go_wp2_with fail
    refine (isFamI_any g l _ _ (hv0.alloc _)).mono ?_
    rintro e w1 ⟨rfl, hb1⟩
    rw [HF.out]
    go_wp2
    exact bodyPost_ret (v := .tuple #[.int .i64 0, .slice none 0 0, .bool false]) (by simp [results, Tryd.results79, go_sem]) rfl ⟨none, 0, 0, by rw [HL.out]; rfl, by rw [HL.out]; exact Ints.empty _ _ _ _ rfl (by decide), (bl1 _ _).after hb1 (by simp)⟩
  | true =>
    have hL : pkL g l = packL l := by unfold pkL; rw [hf]; rfl
    have hm := fam_mem hf
    have hll := fam_len hf
    have hbd : (packL l).length ≤ 64 := packS_len 64 l 0 [] [] (by simpa using hll) (by simp)
    have hvis : ∀ bo V, Ints V (.slice a l.length c) l → Far bo (.slice a l.length c) l → Blk V bo 113 #[.slice none 0 0] → Calls Tryd.prog 140 #[.pointer (some ⟨bo, 0, none⟩), .slice a l.length c, .int .i64 0, .slice none 0 0] V (packPost bo (packL l) V) := fun bo V h1 h2 h3 => by
      have h := packVisit_any bo l.length l _ 0 [] (.slice none 0 0) [] (.slice none 0 0) V rfl hm h1 h2 (Ints.empty _ _ _ _ rfl (by decide)) (fun h => absurd rfl h) h3 (Ints.empty _ _ _ _ rfl (by decide)) (fun h => absurd rfl h) (by omega) (by omega) (by simpa using hll) (by simp)
      rw [← packV_top]
      exact h
    have HL := Lib.hid hL
    have HF := Lib.hid hf
    have HV := Lib.hid hvis
    clear hL hf hvis hm
    go_enter Tryd.func79, Tryd.ntmps79
    go_wp2_with fail
    refine (isFamI_any g l _ _ (hv0.alloc _)).mono ?_
    rintro e w1 ⟨rfl, hb1⟩
    rw [HF.out]
    have B1 : Below w.heap.size w w1 := (bl1 _ _).after hb1 (by simp)
    have K1 := K0.keep hb1
    have K2 := K1.alloc (.cells #[.slice none 0 0] 113)
    have G1 := K2.cell
    have hv1 := (hv0.below B1 (Nat.le_refl _)).alloc (.cells #[.slice none 0 0] 113)
    have hz := K1.lt
    have hfar : Far w1.heap.size (.slice a l.length c) l := fun hne k hk e => by
      have h1 := ints_lt hv0 hne k hk
      have h2 := B1.size
      omega
    clear hb1 K0
    go_wp2_with fail
    refine (HV.out w1.heap.size _ hv1 hfar (Blk.new _ _ _)).mono ?_
    rintro e w2 ⟨rfl, bv, K3, hb, hfb, g2⟩
    obtain ⟨pb, qb, rfl⟩ := hb.shape
    have B2 : Below w.heap.size w w2 := Below.growIn (B1.alloc B1.size _) g2 (B1.alloc B1.size _).size (by rintro k rfl; exact B1.size)
    have G3 := K3.cell
    go_wp2_with fail
    go_quiet (fail)
    go_wp2
    exact bodyPost_ret (v := .tuple #[.int .i64 ((packL l).length : Int), .slice pb (packL l).length qb, .bool true]) (by simp [results, Tryd.results79, go_sem]) rfl ⟨pb, _, qb, by rw [HL.out], by rw [HL.out]; exact hb.drewN _, B2.drewN' _⟩
end Go.Proofs.YtpaoiiiceekkkaaDoor
end
