/- Sunflowers: the search of the second program. -/
import Derived.Test.YtmlpcohailjccaaFlowerS
import Derived.Deep.CutRange
namespace Go.Proofs.Ytmlpcohailjccaa
open Go.RowKit Go.G5

def tstS (l : List Int) (s : Int) : Bool := sunS (l ++ [s])
set_option maxHeartbeats 4000000 in
set_option maxRecDepth 100000 in
theorem findS_any (sets : List Int) (sv : Value) (K : Int) (hms : ∀ x ∈ sets, 0 ≤ x ∧ x < 64) (_ : InR K) : ∀ (n f : Nat) (l : List Int) (lv : Value) (w : World) (B : Nat), f + n = sets.length → Ints w sv sets → OwnI 3 B w lv l → B ≤ w.heap.size → (∀ x ∈ l, 0 ≤ x ∧ x < 64) → l.length + sets.length ≤ 100 + f →
    Calls Try.prog 97 #[sv, .int .i64 f, lv, .int .i64 K] w fun e w' => ∃ ad i cp, e = .returned (.tuple #[.slice ad i cp, .bool (findG tstS (sets.drop f) l K).isSome]) ∧ OwnI 3 B w' (.slice ad i cp) ((findG tstS (sets.drop f) l K).getD []) ∧ Below w.heap.size w w' := by
  have HMS := Lib.hid hms
  clear hms
  intro n
  induction n using Nat.strongRecOn with
  | _ n ih =>
    intro f l lv w B hn hv own hB hml hlen
    have hv0 := hv
    obtain ⟨a, b, off, c, rfl, hlen', hix, hc, hb⟩ := hv.view Try.prog 22 3 Try.underlying22 intElem
    obtain ⟨al, cl, rfl⟩ := own.shape
    have hf : f ≤ sets.length := by omega
    have HN := Lib.hid hn
    clear hn
    by_cases hk : (l.length : Int) = K
    · have ht : ((l.length : Int) == K) = true := by simpa using hk
      have hr := findG_done tstS (sets.drop f) l K hk
      have HR := Lib.hid hr
      clear hr hk
      go_enter Try.func97, Try.ntmps97
      go_wp2
      go_ret2
      exact ⟨al, l.length, cl, by rw [HR.out]; rfl, by rw [HR.out]; exact own, Below.refl _ _⟩
    · have ht : ((l.length : Int) == K) = false := by simpa using hk
      have HK := Lib.hid hk
      have IH := Lib.hid ih
      have HML := Lib.hid hml
      clear hk ih hml
      go_enter Try.func97, Try.ntmps97
      go_wp2_with fail
      go_loopw [10] (fun i wr => ∃ k : Nat, f ≤ k ∧ k ≤ sets.length ∧ i = .int .i64 k ∧ findG tstS (sets.drop k) l K = findG tstS (sets.drop f) l K ∧ Below w.heap.size w wr) (fun i _ => sets.length - (intOf i).toNat)
      case atStart => exact ⟨f, Nat.le_refl _, hf, rfl, rfl, Below.refl _ _⟩
      case round =>
        obtain ⟨k, hfk, hk, rfl, hrest, Bw⟩ := hrel
        have H := Lib.hid hrest
        clear hrest
        have o := own.keep Bw
        by_cases hlt : k < sets.length
        · have hck := cells_below hc hb Bw (Nat.le_refl _) k hlt
          have hbw : b < wr.heap.size := World.block_lt_of_cell? _ _ hck
          have hmk := HMS.out _ (List.getElem_mem hlt)
          have hdrop : sets.drop k = sets[k] :: sets.drop (k + 1) := List.drop_eq_getElem_cons hlt
          have hfind := findG_cons tstS sets[k] (sets.drop (k + 1)) l K HK.out
          rw [← hdrop, H.out] at hfind
          obtain ⟨x, hx⟩ : ∃ x, x = sets[k] := ⟨_, rfl⟩
          rw [← hx] at hck hmk hfind
          have hixk := fun W => hix W k hlt
          have hmem2 : ∀ y ∈ l ++ [x], 0 ≤ y ∧ y < 64 := by
            intro y hy
            rcases List.mem_append.1 hy with hy | hy
            · exact HML.out y hy
            · rw [List.mem_singleton] at hy; rw [hy]; exact hmk
          have hl1 : ([] : List Int).length + l.length ≤ 17592186044416 := by simp; omega
          have hl2 : ([] ++ l).length + [x].length ≤ 17592186044416 := by simp; omega
          have hxr : InR x := ⟨by omega, by omega⟩
          have HLL1 := Lib.hid hl1
          have HLL2 := Lib.hid hl2
          have HXR := Lib.hid hxr
          have HM2 := Lib.hid hmem2
          have HFI := Lib.hid hfind
          clear hdrop hx hl1 hl2 hxr hmem2 hfind
          go_wp2_with fail
          go_cut [11] from 20 to 48 (fun v wc => ∃ ad i cp, v = .slice ad i cp ∧ OwnI 3 wr.heap.size wc (.slice ad i cp) (l ++ [x]) ∧ Below wr.heap.size wr wc)
          case first =>
            go_region_held3 (fun w' => w'.cell? ⟨b, off + k, none⟩ = some (.int .i64 x)) (go_keep)
              (first
                | (refine step_put rfl _ _ _ rfl 3 Try.underlying22 intElem wr.heap.size (.slice (some ⟨_, 0, none⟩) 0 0) [] rfl (.slice al l.length cl) l rfl ?_ ?_ HLL1.out wr ?_ (Nat.le_refl _) ?_; (first | (with_reducible exact (OwnI.lit0 wr (Nat.le_refl _)).drew') | (with_reducible exact ((OwnI.lit0 wr (Nat.le_refl _)).alloc _).drew') | (with_reducible exact (OwnI.lit0' wr _).drew')); (first | (with_reducible exact (o.ints.alloc _).drew') | (with_reducible exact ((o.ints.alloc _).alloc _).drew')); (first | (with_reducible exact (bl1 wr _).drew) | (with_reducible exact (bl2 wr _ _).drew)); (intro v1 w1 o1 b1 pc; obtain ⟨hc1, hf1⟩ := bcellN b1 wr.heap.size (Nat.le_refl _)))
                | (refine step_put rfl _ _ _ rfl 3 Try.underlying22 intElem wr.heap.size v1 ([] ++ l) rfl (.slice (some ⟨_, 0, none⟩) 1 1) [x] rfl ?_ ?_ HLL2.out wr ?_ (Nat.le_refl _) ?_; (first | (with_reducible exact o1) | (with_reducible exact o1.alloc _)); (refine Ints.one ?_ HXR.out; first | (with_reducible exact cell_new _ _ _ _ _ rfl) | (with_reducible exact pc _ _ (cell_second _ _ _ _) (own_ne1 _ _ _)) | (with_reducible exact pc _ _ (cell_first _ _ _ _) (own_ne2 _ _ _))); (first | (with_reducible exact b1) | (with_reducible exact b1.alloc b1.size _)); (intro v2 w2 o2 b2 _; obtain ⟨hc2, hf2⟩ := bcellN b2 wr.heap.size (Nat.le_refl _)))
              )
            all_goals
              go_wp2
              go_meet
              case rel =>
                obtain ⟨a2, n2, c2, rfl⟩ := o2.shape3
                exact ⟨a2, n2, c2, rfl, o2, b2⟩
          case rest =>
            obtain ⟨a2, n2, c2, rfl, o2, b2⟩ := hcut
            have Bc := Bw.after b2 Bw.size
            have hT := l24Sun_any (l ++ [x]) _ wc o2.ints HM2.out
            rw [show sunS (l ++ [x]) = tstS l x from rfl] at hT
            have HT := Lib.hid hT
            have hfind := HFI.out
            clear hT hck
            cases hin : tstS l x with
            | false =>
              rw [hin] at hfind
              have HF := Lib.hid hfind
              have HI := Lib.hid hin
              clear hfind hin HFI
              go_wp2_with (go_at_call 104; refine HT.out.mono ?_; rintro e w3 ⟨rfl, hb3⟩; rw [HI.out])
              go_roundw
              case rel => exact ⟨k + 1, by omega, by omega, by go_num, by rw [HF.out]; rfl, Bc.after hb3 Bc.size⟩
              case measure => simp [intOf]; omega
            | true =>
              rw [hin] at hfind
              have hmn : sets.length - (k + 1) < n := by have := HN.out; omega
              have hrec : ∀ (w3 : World), OwnI 3 wr.heap.size w3 (.slice a2 n2 c2) (l ++ [x]) → Below wc.heap.size wc w3 → Calls Try.prog 97 #[.slice a sets.length c, .int .i64 ((k : Int) + 1), .slice a2 n2 c2, .int .i64 K] w3 fun e w' =>
                  ∃ ad i cp, e = .returned (.tuple #[.slice ad i cp, .bool (findG tstS (sets.drop (k + 1)) (l ++ [x]) K).isSome]) ∧ OwnI 3 wr.heap.size w' (.slice ad i cp) ((findG tstS (sets.drop (k + 1)) (l ++ [x]) K).getD []) ∧ Below w3.heap.size w3 w' := fun w3 h1 h2 =>
                IH.out _ hmn (k + 1) (l ++ [x]) _ w3 wr.heap.size (by omega) (hv0.below (Bc.after h2 Bc.size) (Nat.le_refl _)) h1 (Nat.le_trans b2.size h2.size) HM2.out (by rw [List.length_append, List.length_singleton]; omega)
              obtain ⟨R, hR⟩ : ∃ R, R = findG tstS (sets.drop (k + 1)) (l ++ [x]) K := ⟨_, rfl⟩
              rw [← hR] at hfind
              simp only [← hR] at hrec
              have HREC := Lib.hid hrec
              have HI := Lib.hid hin
              have yB := Bc.size
              have yBw := Bw.size
              clear hrec hR hmn HFI hin
              cases R with
              | some y =>
                have HF := Lib.hid hfind
                clear hfind
                go_wp2_with (first
                  | (go_at_call 104; refine HT.out.mono ?_; rintro e w3 ⟨rfl, hb3⟩; rw [HI.out])
                  | (go_at_call 97; with_reducible refine (HREC.out w3 (o2.keep hb3) hb3).mono ?_; rintro e4 w4 ⟨p4, i4, q4, rfl, o4, b4⟩))
                go_ret2
                exact ⟨p4, i4, q4, by rw [HF.out]; rfl, by rw [HF.out]; exact o4.mono (by omega), (Bc.after hb3 Bc.size).after b4 (Bc.after hb3 Bc.size).size⟩
              | none =>
                have HF := Lib.hid hfind
                clear hfind
                go_wp2_with (first
                  | (go_at_call 104; refine HT.out.mono ?_; rintro e w3 ⟨rfl, hb3⟩; rw [HI.out])
                  | (go_at_call 97; with_reducible refine (HREC.out w3 (o2.keep hb3) hb3).mono ?_; rintro e4 w4 ⟨p4, i4, q4, rfl, o4, b4⟩))
                go_roundw
                case rel => exact ⟨k + 1, by omega, by omega, by go_num, by rw [HF.out]; rfl, (Bc.after hb3 Bc.size).after b4 (Bc.after hb3 Bc.size).size⟩
                case measure => simp [intOf]; omega
        · have hr : findG tstS (sets.drop f) l K = none := by
            rw [← H.out, List.drop_eq_nil_of_le (by omega)]; exact findG_nil _ _ _ HK.out
          have HR := Lib.hid hr
          clear hr
          go_wp2
          go_ret2
          exact ⟨_, 0, 0, by rw [HR.out]; rfl, by rw [HR.out]; exact (OwnI.lit0 wr (Nat.le_refl _)).mono (Nat.le_trans hB Bw.size), Bw.alloc Bw.size _⟩
end Go.Proofs.Ytmlpcohailjccaa
