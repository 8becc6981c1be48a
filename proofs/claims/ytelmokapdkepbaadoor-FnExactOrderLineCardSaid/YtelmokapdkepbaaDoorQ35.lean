/- Sunflowers: the search of the second program. Sunflowers in families. -/
import Derived.Test.YtelmokapdkepbaaDoorQ34
import Derived.Deep.CutRange
section
namespace Go.Proofs.YtelmokapdkepbaaDoor
open Go.RowKit Go.G5

def tstS (l : List Int) (s : Int) : Bool := sunS (l ++ [s])
set_option maxHeartbeats 4000000 in
set_option maxRecDepth 100000 in
theorem findS_any (sets : List Int) (sv : Value) (K : Int) (hms : ∀ x ∈ sets, 0 ≤ x ∧ x < 64) (_ : InR K) : ∀ (n f : Nat) (l : List Int) (lv : Value) (w : World) (B : Nat), f + n = sets.length → Ints w sv sets → OwnI 3 B w lv l → B ≤ w.heap.size → (∀ x ∈ l, 0 ≤ x ∧ x < 64) → l.length + sets.length ≤ 100 + f →
    Calls Tryd.prog 43 #[sv, .int .i64 f, lv, .int .i64 K] w fun e w' => ∃ ad i cp, e = .returned (.tuple #[.slice ad i cp, .bool (findG tstS (sets.drop f) l K).isSome]) ∧ OwnI 3 B w' (.slice ad i cp) ((findG tstS (sets.drop f) l K).getD []) ∧ Below w.heap.size w w' := by
  have HMS := Lib.hid hms
  clear hms
  intro n
  induction n using Nat.strongRecOn with
  | _ n ih =>
    intro f l lv w B hn hv own hB hml hlen
    have hv0 := hv
    obtain ⟨a, b, off, c, rfl, hlen', hix, hc, hb⟩ := hv.view Tryd.prog 22 3 Tryd.underlying22 intElem
    obtain ⟨al, cl, rfl⟩ := own.shape
    have hf : f ≤ sets.length := by omega
    have HN := Lib.hid hn
    clear hn
    by_cases hk : (l.length : Int) = K
    · have ht : ((l.length : Int) == K) = true := by simpa using hk
      have hr := findG_done tstS (sets.drop f) l K hk
      have HR := Lib.hid hr
      clear hr hk
      go_enter Tryd.func43, Tryd.ntmps43
      go_wp2
      go_ret2
      exact ⟨al, l.length, cl, by rw [HR.out]; rfl, by rw [HR.out]; exact own, Below.refl _ _⟩
    · have ht : ((l.length : Int) == K) = false := by simpa using hk
      have HK := Lib.hid hk
      have IH := Lib.hid ih
      have HML := Lib.hid hml
      clear hk ih hml
      go_enter Tryd.func43, Tryd.ntmps43
      go_wp2_with fail
      go_loopw [10] (fun i wr => ∃ k : Nat, f ≤ k ∧ k ≤ sets.length ∧ i = .int .i64 k ∧ findG tstS (sets.drop k) l K = findG tstS (sets.drop f) l K ∧ Below w.heap.size w wr) (fun i _ => sets.length - (intOf i).toNat)
      case atStart => exact ⟨f, Nat.le_refl _, hf, rfl, rfl, Below.refl _ _⟩
      case round =>
        obtain ⟨k, hfk, hk, rfl, hrest, Bw⟩ := hrel
        have H := Lib.hid hrest
        clear hrest
        have o := own.keep Bw
        by_cases hlt : k < sets.length
        · have hck := cells_below hc hb Bw (Nat.le_refl _) k hlt
          have hbw : b < wr.heap.size := World.block_lt_of_cell? _ _ hck
          have hmk := HMS.out _ (List.getElem_mem hlt)
          have hdrop : sets.drop k = sets[k] :: sets.drop (k + 1) := List.drop_eq_getElem_cons hlt
          have hfind := findG_cons tstS sets[k] (sets.drop (k + 1)) l K HK.out
          rw [← hdrop, H.out] at hfind
          obtain ⟨x, hx⟩ : ∃ x, x = sets[k] := ⟨_, rfl⟩
          rw [← hx] at hck hmk hfind
          have hixk := fun W => hix W k hlt
          have hmem2 : ∀ y ∈ l ++ [x], 0 ≤ y ∧ y < 64 := by
            intro y hy
            rcases List.mem_append.1 hy with hy | hy
            · exact HML.out y hy
            · rw [List.mem_singleton] at hy; rw [hy]; exact hmk
          have hl1 : ([] : List Int).length + l.length ≤ 17592186044416 := by simp; omega
          have hl2 : ([] ++ l).length + [x].length ≤ 17592186044416 := by simp; omega
          have hxr : InR x := ⟨by omega, by omega⟩
          have HLL1 := Lib.hid hl1
          have HLL2 := Lib.hid hl2
          have HXR := Lib.hid hxr
          have HM2 := Lib.hid hmem2
          have HFI := Lib.hid hfind
          clear hdrop hx hl1 hl2 hxr hmem2 hfind
          go_wp2_with fail
          go_cut [11] from 20 to 48 (fun v wc => ∃ ad i cp, v = .slice ad i cp ∧ OwnI 3 wr.heap.size wc (.slice ad i cp) (l ++ [x]) ∧ Below wr.heap.size wr wc)
          case first =>
            go_region_held3 (fun w' => w'.cell? ⟨b, off + k, none⟩ = some (.int .i64 x)) (go_keep)
              (first
                | (refine step_put rfl _ _ _ rfl 3 Tryd.underlying22 intElem wr.heap.size (.slice (some ⟨_, 0, none⟩) 0 0) [] rfl (.slice al l.length cl) l rfl ?_ ?_ HLL1.out wr ?_ (Nat.le_refl _) ?_; (first | (with_reducible exact (OwnI.lit0 wr (Nat.le_refl _)).drew') | (with_reducible exact ((OwnI.lit0 wr (Nat.le_refl _)).alloc _).drew') | (with_reducible exact (OwnI.lit0' wr _).drew')); (first | (with_reducible exact (o.ints.alloc _).drew') | (with_reducible exact ((o.ints.alloc _).alloc _).drew')); (first | (with_reducible exact (bl1 wr _).drew) | (with_reducible exact (bl2 wr _ _).drew)); (intro v1 w1 o1 b1 pc; obtain ⟨hc1, hf1⟩ := bcellN b1 wr.heap.size (Nat.le_refl _)))
                | (refine step_put rfl _ _ _ rfl 3 Tryd.underlying22 intElem wr.heap.size v1 ([] ++ l) rfl (.slice (some ⟨_, 0, none⟩) 1 1) [x] rfl ?_ ?_ HLL2.out wr ?_ (Nat.le_refl _) ?_; (first | (with_reducible exact o1) | (with_reducible exact o1.alloc _)); (refine Ints.one ?_ HXR.out; first | (with_reducible exact cell_new _ _ _ _ _ rfl) | (with_reducible exact pc _ _ (cell_second _ _ _ _) (own_ne1 _ _ _)) | (with_reducible exact pc _ _ (cell_first _ _ _ _) (own_ne2 _ _ _))); (first | (with_reducible exact b1) | (with_reducible exact b1.alloc b1.size _)); (intro v2 w2 o2 b2 _; obtain ⟨hc2, hf2⟩ := bcellN b2 wr.heap.size (Nat.le_refl _)))
              )
            all_goals
              go_wp2
              go_meet
              case rel =>
                obtain ⟨a2, n2, c2, rfl⟩ := o2.shape3
                exact ⟨a2, n2, c2, rfl, o2, b2⟩
          case rest =>
            obtain ⟨a2, n2, c2, rfl, o2, b2⟩ := hcut
            have Bc := Bw.after b2 Bw.size
            have hT := l24Sun_any (l ++ [x]) _ wc o2.ints HM2.out
            rw [show sunS (l ++ [x]) = tstS l x from rfl] at hT
            have HT := Lib.hid hT
            have hfind := HFI.out
            clear hT hck
            cases hin : tstS l x with
            | false =>
              rw [hin] at hfind
              have HF := Lib.hid hfind
              have HI := Lib.hid hin
              clear hfind hin HFI
              go_wp2_with (go_at_call 65; refine HT.out.mono ?_; rintro e w3 ⟨rfl, hb3⟩; rw [HI.out])
              go_roundw
              case rel => exact ⟨k + 1, by omega, by omega, by go_num, by rw [HF.out]; rfl, Bc.after hb3 Bc.size⟩
              case measure => simp [intOf]; omega
            | true =>
              rw [hin] at hfind
              have hmn : sets.length - (k + 1) < n := by have := HN.out; omega
              have hrec : ∀ (w3 : World), OwnI 3 wr.heap.size w3 (.slice a2 n2 c2) (l ++ [x]) → Below wc.heap.size wc w3 → Calls Tryd.prog 43 #[.slice a sets.length c, .int .i64 ((k : Int) + 1), .slice a2 n2 c2, .int .i64 K] w3 fun e w' =>
                  ∃ ad i cp, e = .returned (.tuple #[.slice ad i cp, .bool (findG tstS (sets.drop (k + 1)) (l ++ [x]) K).isSome]) ∧ OwnI 3 wr.heap.size w' (.slice ad i cp) ((findG tstS (sets.drop (k + 1)) (l ++ [x]) K).getD []) ∧ Below w3.heap.size w3 w' := fun w3 h1 h2 =>
                IH.out _ hmn (k + 1) (l ++ [x]) _ w3 wr.heap.size (by omega) (hv0.below (Bc.after h2 Bc.size) (Nat.le_refl _)) h1 (Nat.le_trans b2.size h2.size) HM2.out (by rw [List.length_append, List.length_singleton]; omega)
              obtain ⟨R, hR⟩ : ∃ R, R = findG tstS (sets.drop (k + 1)) (l ++ [x]) K := ⟨_, rfl⟩
              rw [← hR] at hfind
              simp only [← hR] at hrec
              have HREC := Lib.hid hrec
              have HI := Lib.hid hin
              have yB := Bc.size
              have yBw := Bw.size
              clear hrec hR hmn HFI hin
              cases R with
              | some y =>
                have HF := Lib.hid hfind
                clear hfind
                go_wp2_with (first
                  | (go_at_call 65; refine HT.out.mono ?_; rintro e w3 ⟨rfl, hb3⟩; rw [HI.out])
                  | (go_at_call 43; with_reducible refine (HREC.out w3 (o2.keep hb3) hb3).mono ?_; rintro e4 w4 ⟨p4, i4, q4, rfl, o4, b4⟩))
                go_ret2
                exact ⟨p4, i4, q4, by rw [HF.out]; rfl, by rw [HF.out]; exact o4.mono (by omega), (Bc.after hb3 Bc.size).after b4 (Bc.after hb3 Bc.size).size⟩
              | none =>
                have HF := Lib.hid hfind
                clear hfind
                go_wp2_with (first
                  | (go_at_call 65; refine HT.out.mono ?_; rintro e w3 ⟨rfl, hb3⟩; rw [HI.out])
                  | (go_at_call 43; with_reducible refine (HREC.out w3 (o2.keep hb3) hb3).mono ?_; rintro e4 w4 ⟨p4, i4, q4, rfl, o4, b4⟩))
                go_roundw
                case rel => exact ⟨k + 1, by omega, by omega, by go_num, by rw [HF.out]; rfl, (Bc.after hb3 Bc.size).after b4 (Bc.after hb3 Bc.size).size⟩
                case measure => simp [intOf]; omega
        · have hr : findG tstS (sets.drop f) l K = none := by
            rw [← H.out, List.drop_eq_nil_of_le (by omega)]; exact findG_nil _ _ _ HK.out
          have HR := Lib.hid hr
          clear hr
          go_wp2
          go_ret2
          exact ⟨_, 0, 0, by rw [HR.out]; rfl, by rw [HR.out]; exact (OwnI.lit0 wr (Nat.le_refl _)).mono (Nat.le_trans hB Bw.size), Bw.alloc Bw.size _⟩
end Go.Proofs.YtelmokapdkepbaaDoor
end
section
namespace Go.Proofs.YtelmokapdkepbaaDoor
open Go.RowKit Go.G5

set_option maxHeartbeats 1000000 in
set_option maxRecDepth 100000 in
theorem findSunI_c (w : World) (g : Int) (v : Value) (l : List Int) (hv : Ints w v l) (_ : l.length ≤ 1048576) (k : Int) (hk : InR k) :
    Calls Tryd.prog 31 #[.agg #[.int .i64 g, v], .int .i64 k] w fun e w' => ∃ ad i cp, e = .returned (.tuple #[.slice ad i cp, .bool (sunB g l k)]) ∧ OwnW 3 w.heap.size w' (.slice ad i cp) (sunL g l k) ∧ Below w.heap.size w w' := by
  obtain ⟨a, c, rfl⟩ := hv.shape
  have hv0 := hv
  have K0 := Blk.new w 27 #[.int .i64 g, .slice a l.length c]
  have G0 := K0.cell
  cases hf : isFamB g l with
  | false =>
    have hok : sunOk g l k = false := by unfold sunOk; rw [hf]; rfl
    have HF := Lib.hid hf
    have hr : sunR g l k = none := by unfold sunR; rw [hok]; rfl
    have hB : sunB g l k = false := by unfold sunB; rw [hr]; rfl
    have hL : sunL g l k = [] := by unfold sunL; rw [hr]; rfl
    have HB := Lib.hid hB
    have HL := Lib.hid hL
    clear hr hB hL hok hf
    go_enter Tryd.func31, Tryd.ntmps31
    go_wp2_with (go_at_call 22; refine (isFamI_any g l _ _ (hv0.alloc _)).mono ?_; rintro e w1 ⟨rfl, hb1⟩; rw [HF.out])
    go_ret2
    exact ⟨none, 0, 0, by rw [HB.out]; rfl, by rw [HL.out]; exact OwnW.nil _ _ _, (bl1 _ _).after hb1 (by simp)⟩
  | true =>
    have HF := Lib.hid hf
    cases hin : inB k 1 5 with
    | false =>
      have hok : sunOk g l k = false := by unfold sunOk; rw [hin]; simp
      have HI := Lib.hid hin
      have hr : sunR g l k = none := by unfold sunR; rw [hok]; rfl
      have hB : sunB g l k = false := by unfold sunB; rw [hr]; rfl
      have hL : sunL g l k = [] := by unfold sunL; rw [hr]; rfl
      have HB := Lib.hid hB
      have HL := Lib.hid hL
      clear hr hB hL hok hf hin
      go_enter Tryd.func31, Tryd.ntmps31
      go_wp2_with (first
        | (go_at_call 22; refine (isFamI_any g l _ _ (hv0.alloc _)).mono ?_; rintro e w1 ⟨rfl, hb1⟩; rw [HF.out])
        | (go_at_call 58; refine (within_any _ _ _ _).mono ?_; rintro e w2 ⟨rfl, rfl⟩; rw [HI.out]))
      go_ret2
      exact ⟨none, 0, 0, by rw [HB.out]; rfl, by rw [HL.out]; exact OwnW.nil _ _ _, (bl1 _ _).after hb1 (by simp)⟩
    | true =>
      have HI := Lib.hid hin
      have hok : sunOk g l k = true := by unfold sunOk; rw [hf, hin]; rfl
      have hr : sunR g l k = findG inFI l [] k := by unfold sunR; rw [hok]; rfl
      have hB : sunB g l k = (findG inFI l [] k).isSome := by unfold sunB; rw [hr]
      have hL : sunL g l k = (findG inFI l [] k).getD [] := by unfold sunL; rw [hr]
      obtain ⟨h0, h6, hm⟩ := famOk64 hf
      have hl64 : l.length ≤ 64 := by
        obtain ⟨q0, q6, qm, qa⟩ := famOk hf
        have hp := pow_le64 q0 q6
        exact asc_len' l 64 qa (fun x hx => by have := qm x hx; omega)
      have hmm : ∀ x ∈ l, 0 ≤ x ∧ x < 64 := fun x hx => by
        obtain ⟨i, hi, rfl⟩ := List.getElem_of_mem hx
        exact hm i hi
      have hfind : ∀ W, Ints W (.slice a l.length c) l → Calls Tryd.prog 59 #[.slice a l.length c, .slice none 0 0, .int .i64 k] W fun e w' =>
          ∃ ad i cp, e = .returned (.tuple #[.slice ad i cp, .bool (sunB g l k)]) ∧ OwnI 3 W.heap.size w' (.slice ad i cp) (sunL g l k) ∧ Below W.heap.size W w' := fun W hW => by
        rw [hB, hL]
        exact findI_any l.length l [] _ _ k W W.heap.size rfl hW (OwnI.nil _ _ _) (Nat.le_refl _) hmm (by simp) (by simp; omega) hk
      have HFD := Lib.hid hfind
      clear hr hB hL hok hf hin hfind hm hmm h0 h6 G0
      go_enter Tryd.func31, Tryd.ntmps31
      go_wp2_with fail
      refine (isFamI_any g l _ _ (hv0.alloc _)).mono ?_
      rintro e w1 ⟨rfl, hb1⟩
      rw [HF.out]
      have K1 := K0.keep hb1
      have G1 := K1.cell
      have z1 := K1.lt
      have B1 : Below w.heap.size w w1 := (bl1 _ _).after hb1 (by simp)
      have y1 := B1.size
      go_wp2_with (first
        | (go_at_call 58; refine (within_any _ _ _ _).mono ?_; rintro e w2 ⟨rfl, rfl⟩; rw [HI.out])
        | (go_at_call 59; refine (HFD.out _ (hv0.below B1 (Nat.le_refl _))).mono ?_; rintro e w3 ⟨p3, i3, q3, rfl, o3, b3⟩))
      go_ret2
      exact ⟨p3, i3, q3, rfl, o3.toW.mono (by omega), B1.after b3 B1.size⟩

set_option maxHeartbeats 1000000 in
set_option maxRecDepth 100000 in
theorem findSunS_c (w : World) (g : Int) (v : Value) (l : List Int) (hv : Ints w v l) (_ : l.length ≤ 1048576) (k : Int) (hk : InR k) :
    Calls Tryd.prog 18 #[.agg #[.int .i64 g, v], .int .i64 k] w fun e w' => ∃ ad i cp, e = .returned (.tuple #[.slice ad i cp, .bool (sunB g l k)]) ∧ OwnW 3 w.heap.size w' (.slice ad i cp) (sunL g l k) ∧ Below w.heap.size w w' := by
  obtain ⟨a, c, rfl⟩ := hv.shape
  have hv0 := hv
  have K0 := Blk.new w 27 #[.int .i64 g, .slice a l.length c]
  have G0 := K0.cell
  cases hf : isFamB g l with
  | false =>
    have hok : sunOk g l k = false := by unfold sunOk; rw [hf]; rfl
    have HF := Lib.hid hf
    have hr : sunR g l k = none := by unfold sunR; rw [hok]; rfl
    have hB : sunB g l k = false := by unfold sunB; rw [hr]; rfl
    have hL : sunL g l k = [] := by unfold sunL; rw [hr]; rfl
    have HB := Lib.hid hB
    have HL := Lib.hid hL
    clear hr hB hL hok hf
    go_enter Tryd.func18, Tryd.ntmps18
    go_wp2_with (go_at_call 10; refine (isFamS_any g l _ _ (hv0.alloc _)).mono ?_; rintro e w1 ⟨rfl, hb1⟩; rw [HF.out])
    go_ret2
    have B1 : Below w.heap.size w w1 := (bl1 _ _).after hb1 (by simp)
    exact ⟨_, 0, 0, by rw [HB.out]; rfl, by rw [HL.out]; exact (OwnI.lit0 w1 B1.size).toW, B1.alloc B1.size _⟩
  | true =>
    have HF := Lib.hid hf
    cases hin : inB k 1 5 with
    | false =>
      have hok : sunOk g l k = false := by unfold sunOk; rw [hin]; simp
      have HI := Lib.hid hin
      have hr : sunR g l k = none := by unfold sunR; rw [hok]; rfl
      have hB : sunB g l k = false := by unfold sunB; rw [hr]; rfl
      have hL : sunL g l k = [] := by unfold sunL; rw [hr]; rfl
      have HB := Lib.hid hB
      have HL := Lib.hid hL
      clear hr hB hL hok hf hin
      go_enter Tryd.func18, Tryd.ntmps18
      go_wp2_with (first
        | (go_at_call 10; refine (isFamS_any g l _ _ (hv0.alloc _)).mono ?_; rintro e w1 ⟨rfl, hb1⟩; rw [HF.out])
        | (go_at_call 36; refine (l1In_any _ _ _ _).mono ?_; rintro e w2 ⟨rfl, rfl⟩; rw [HI.out]))
      go_ret2
      have B1 : Below w.heap.size w w1 := (bl1 _ _).after hb1 (by simp)
      exact ⟨_, 0, 0, by rw [HB.out]; rfl, by rw [HL.out]; exact (OwnI.lit0 w1 B1.size).toW, B1.alloc B1.size _⟩
    | true =>
      have HI := Lib.hid hin
      have hok : sunOk g l k = true := by unfold sunOk; rw [hf, hin]; rfl
      have hr : sunR g l k = findG tstS l [] k := sunR_spec g l k hok
      have hB : sunB g l k = (findG tstS l [] k).isSome := by unfold sunB; rw [hr]
      have hL : sunL g l k = (findG tstS l [] k).getD [] := by unfold sunL; rw [hr]
      obtain ⟨h0, h6, hm⟩ := famOk64 hf
      have hl64 : l.length ≤ 64 := by
        obtain ⟨q0, q6, qm, qa⟩ := famOk hf
        have hp := pow_le64 q0 q6
        exact asc_len' l 64 qa (fun x hx => by have := qm x hx; omega)
      have hmm : ∀ x ∈ l, 0 ≤ x ∧ x < 64 := fun x hx => by
        obtain ⟨i, hi, rfl⟩ := List.getElem_of_mem hx
        exact hm i hi
      have hfind : ∀ W u, Ints W (.slice a l.length c) l → OwnI 3 w.heap.size W u [] → w.heap.size ≤ W.heap.size → Calls Tryd.prog 43 #[.slice a l.length c, .int .i64 0, u, .int .i64 k] W fun e w' =>
          ∃ ad i cp, e = .returned (.tuple #[.slice ad i cp, .bool (sunB g l k)]) ∧ OwnI 3 w.heap.size w' (.slice ad i cp) (sunL g l k) ∧ Below W.heap.size W w' := fun W u hW hu hB' => by
        rw [hB, hL]
        have := findS_any l (.slice a l.length c) k hmm hk l.length 0 [] u W w.heap.size (by omega) hW hu hB' (by simp) (by simp; omega)
        simpa using this
      have HFD := Lib.hid hfind
      clear hr hB hL hok hf hin hfind hm hmm h0 h6 G0
      go_enter Tryd.func18, Tryd.ntmps18
      go_wp2_with fail
      refine (isFamS_any g l _ _ (hv0.alloc _)).mono ?_
      rintro e w1 ⟨rfl, hb1⟩
      rw [HF.out]
      have K1 := K0.keep hb1
      have G1 := K1.cell
      have z1 := K1.lt
      have B1 : Below w.heap.size w w1 := (bl1 _ _).after hb1 (by simp)
      have y1 := B1.size
      have BA := B1.alloc B1.size (.cells #[] 3)
      go_wp2_with (first
        | (go_at_call 36; refine (l1In_any _ _ _ _).mono ?_; rintro e w2 ⟨rfl, rfl⟩; rw [HI.out])
        | (go_at_call 43; refine (HFD.out _ _ (hv0.below BA (Nat.le_refl _)) (OwnI.lit0 w1 y1) BA.size).mono ?_; rintro e w3 ⟨p3, i3, q3, rfl, o3, b3⟩))
      go_ret2
      exact ⟨p3, i3, q3, rfl, o3.toW, BA.after b3 BA.size⟩
end Go.Proofs.YtelmokapdkepbaaDoor
end
