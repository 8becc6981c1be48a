/- How far a number of a vector can be raised. -/
import Derived.Test.YtelmokapdkepbaaGreatDoorQ04
import Derived.Shelf.Abstract
section
namespace Go.Proofs.YtelmokapdkepbaaGreatDoor
open Go.RowKit Go.G5

def capTo (l x : List Int) (e : Nat) : Nat → Int
  | 0 => 100000
  | k + 1 => if ibit (k : Int) e = 1 then min (capTo l x e k) (slackOf l x k) else capTo l x e k
def lsTo (l x : List Int) (e : Nat) : Nat → Option Int
  | 0 => none
  | k + 1 => if ibit (k : Int) e = 1 then (match lsTo l x e k with | none => some (slackOf l x k) | some m => if slackOf l x k < m then some (slackOf l x k) else some m) else lsTo l x e k
def capB (n : Int) (l x : List Int) (e : Nat) : Bool := belB n l x && decide ((e : Int) < n)
def capN (n : Int) (l x : List Int) (e : Nat) : Int := if capB n l x e then capTo l x e l.length else 0
theorem wt_bd5 (x : List Int) (s : Int) (h : ∀ k, (hk : k < x.length) → -5000 ≤ x[k] ∧ x[k] ≤ 5000) (k : Nat) (hk : k ≤ x.length) : -5000 * (k : Int) ≤ wtTo x s k ∧ wtTo x s k ≤ 5000 * (k : Int) := by
  induction k with
  | zero => simp [wtTo]
  | succ k ih =>
    have h1 := ih (by omega)
    have h2 := h k (by omega)
    rw [wtTo, List.getD_eq_getElem?_getD, List.getElem?_eq_getElem (show k < x.length by omega), Option.getD_some]
    split <;> omega
theorem slack_bd (l x : List Int) (hlb : ∀ k, (hk : k < l.length) → -1000 ≤ l[k] ∧ l[k] ≤ 1000) (hx : ∀ k, (hk : k < x.length) → -5000 ≤ x[k] ∧ x[k] ≤ 5000) (hxl : x.length ≤ 6) (k : Nat) (hk : k < l.length) : -31000 ≤ slackOf l x k ∧ slackOf l x k ≤ 31000 := by
  have h1 := hlb k hk
  have h2 := wt_bd5 x k hx x.length (Nat.le_refl _)
  have hg : l.getD (k : Int).toNat 0 = l[k] := by simp [hk]
  unfold slackOf wt
  rw [hg]
  omega
theorem ls_cap (l x : List Int) (e : Nat) (hb : ∀ k, k < l.length → slackOf l x k ≤ 31000) : ∀ k, k ≤ l.length → (∀ m, lsTo l x e k = some m → capTo l x e k = m ∧ m ≤ 31000) ∧ (lsTo l x e k = none → capTo l x e k = 100000) := by
  intro k
  induction k with
  | zero => intro _; exact ⟨fun m h => (by rw [lsTo] at h; cases h), fun _ => rfl⟩
  | succ k ih =>
    intro hk
    obtain ⟨h1, h2⟩ := ih (by omega)
    have h3 := hb k (by omega)
    rw [lsTo, capTo]
    by_cases hone : ibit (k : Int) e = 1
    · rw [if_pos hone, if_pos hone]
      cases hq : lsTo l x e k with
      | none =>
        rw [h2 hq]
        refine ⟨fun m h => ?_, fun h => by cases h⟩
        have h' : slackOf l x k = m := Option.some.inj h
        omega
      | some q =>
        obtain ⟨h4, h5⟩ := h1 q hq
        rw [h4]
        refine ⟨fun m h => ?_, fun h => ?_⟩
        · by_cases hlt : slackOf l x k < q
          · simp only [if_pos hlt] at h
            have h' : slackOf l x k = m := Option.some.inj h
            omega
          · simp only [if_neg hlt] at h
            have h' : q = m := Option.some.inj h
            omega
        · by_cases hlt : slackOf l x k < q
          · simp only [if_pos hlt] at h; cases h
          · simp only [if_neg hlt] at h; cases h
    · rw [if_neg hone, if_neg hone]
      exact ⟨h1, h2⟩
theorem ls_some (l x : List Int) (e : Nat) : ∀ k, 2 ^ e < k → ∃ m, lsTo l x e k = some m := by
  intro k
  induction k with
  | zero => intro h; exact absurd h (Nat.not_lt_zero _)
  | succ k ih =>
    intro hk
    rw [lsTo]
    by_cases hlt : 2 ^ e < k
    · obtain ⟨m, hm⟩ := ih hlt
      rw [hm]
      by_cases hone : ibit (k : Int) e = 1
      · rw [if_pos hone]
        by_cases h : slackOf l x k < m
        · exact ⟨slackOf l x k, by simp only [if_pos h]⟩
        · exact ⟨m, by simp only [if_neg h]⟩
      · rw [if_neg hone]; exact ⟨m, rfl⟩
    · have hke : k = 2 ^ e := by omega
      have hone : ibit (k : Int) e = 1 := by
        subst hke
        unfold ibit
        have h0 : (2 : Int) ^ e ≠ 0 := by have := Nat.two_pow_pos e; have h : ((2 ^ e : Nat) : Int) = (2 : Int) ^ e := by push_cast; rfl
                                          omega
        push_cast
        rw [Int.ediv_self h0]
        rfl
      rw [if_pos hone]
      cases lsTo l x e k with
      | none => exact ⟨_, rfl⟩
      | some m =>
        by_cases h : slackOf l x k < m
        · exact ⟨slackOf l x k, by simp only [if_pos h]⟩
        · exact ⟨m, by simp only [if_neg h]⟩

set_option maxHeartbeats 400000 in
theorem capClosure (W : World) (g e s : Nat) (he : e < 6) (hs : s < 1073741824) (d : W.cell? ⟨g, 0, none⟩ = some (.int .i64 (e : Int))) :
    Calls Tryz.prog 163 #[.int .i64 (s : Int), .pointer (some ⟨g, 0, none⟩)] W fun e' w' => e' = .returned (.bool (ibit (s : Int) e == 1)) ∧ Below W.heap.size W w' := by
  have hbit := bit_is (s : Int) e (by omega) (by omega)
  go_enter Tryz.func163, Tryz.ntmps163
  go_wp2
  go_ret
  exact ⟨rfl, Below.refl _ _⟩
theorem capClosure_enters : ∀ args w, (callFunc 163 args).run Tryz.prog w = .ok (.enter 163 args) w := enters_of Tryz.func163 (by kernel_rfl) rfl

set_option maxHeartbeats 1000000 in
set_option maxRecDepth 100000 in
theorem leastSlack_any (w : World) (n : Int) (v : Value) (l : List Int) (hv : Ints w v l) (u : Value) (x : List Int) (hu : Ints w u x) (e g : Nat) (he : e < 6) (d : w.cell? ⟨g, 0, none⟩ = some (.int .i64 (e : Int))) (hll : l.length ≤ 64)
    (hlb : ∀ k, (hk : k < l.length) → -1000 ≤ l[k] ∧ l[k] ≤ 1000) (hx : ∀ k, (hk : k < x.length) → -5000 ≤ x[k] ∧ x[k] ≤ 5000) (hxl : x.length ≤ 6) :
    Calls Tryz.prog 162 #[.agg #[.int .i64 n, v], u, .func (.func 163) #[] #[.pointer (some ⟨g, 0, none⟩)]] w fun e' w' => e' = .returned (.int .i64 ((lsTo l x e l.length).getD 0)) ∧ Below w.heap.size w w' := by
  obtain ⟨a, c, rfl⟩ := hv.shape
  obtain ⟨b, cu, rfl⟩ := hu.shape
  have hgl := World.block_lt_of_cell? w _ d
  have he' := capClosure_enters
  obtain ⟨V, hV⟩ : ∃ V, V = w.alloc (.cells #[.int .i64 n, .slice a l.length c] 27) := ⟨_, rfl⟩
  have B : Below w.heap.size w V := by rw [hV]; exact bl1 _ _
  have K : Blk V w.heap.size 27 #[.int .i64 n, .slice a l.length c] := by rw [hV]; exact Blk.new _ _ _
  have HD := Lib.hid (And.intro d hgl)
  have HX := Lib.hid (And.intro hlb (And.intro hx hxl))
  go_enter Tryz.func162, Tryz.ntmps162
  go_wp2_with fail
  rw [← hV]
  clear hV
  go_loopw [7, 8, 13] (fun m f i wr => ∃ k : Nat, k ≤ l.length ∧ i = .int .i64 k ∧ m = .int .i64 ((lsTo l x e k).getD 0) ∧ f = .bool (lsTo l x e k).isSome ∧ Blk wr w.heap.size 27 #[.int .i64 n, .slice a l.length c] ∧ Below w.heap.size w wr) (fun _ _ i _ => l.length - (intOf i).toNat)
  case atStart => exact ⟨0, Nat.zero_le _, rfl, rfl, rfl, K, B⟩
  case round =>
    obtain ⟨k, hk, rfl, rfl, rfl, Kr, Br⟩ := hrel
    clear K B
    have K := Kr
    have B := Br
    by_cases hlt : k < l.length
    · have hlt2 : (k : Int) < (l.length : Int) := by omega
      have hcl := capClosure wr g e k he (by omega) ((B.cell (p := ⟨g, 0, none⟩) HD.out.2).trans HD.out.1)
      have hsl := fun (W : World) (h : Below w.heap.size w W) => slack_any n l (.slice a l.length c) x (.slice b x.length cu) k W (hv.below h (Nat.le_refl _)) (hu.below h (Nat.le_refl _)) (by omega) (by omega) hll HX.out.1 HX.out.2.1 HX.out.2.2
      have hsb := slack_bd l x HX.out.1 HX.out.2.1 HX.out.2.2 k hlt
      have hls : lsTo l x e (k + 1) = if ibit (k : Int) e = 1 then (match lsTo l x e k with | none => some (slackOf l x k) | some m => if slackOf l x k < m then some (slackOf l x k) else some m) else lsTo l x e k := rfl
      obtain ⟨r, hr⟩ : ∃ r, r = slackOf l x k := ⟨_, rfl⟩
      simp only [← hr] at hsl hsb hls
      have HSL := Lib.hid hsl
      by_cases hone : ibit (k : Int) e = 1
      · have ht : (ibit (k : Int) e == 1) = true := by simp [hone]
        rw [if_pos hone] at hls
        rw [ht] at hcl
        have HCL := Lib.hid hcl
        cases hq : lsTo l x e k with
        | none =>
          rw [hq] at hls
          have HLS := Lib.hid hls
          clear hls hcl hsl hr hone ht hq
          have G := K.cell
          go_wp2_with fail
          refine HCL.out.mono ?_
          rintro e' w3 ⟨rfl, b3⟩
          have K3 := K.keep b3
          have B3 := B.after b3 B.size
          have G3 := K3.cell
          go_wp2_with fail
          refine (HSL.out w3 B3).mono ?_
          rintro e' w4 ⟨rfl, b4⟩
          have K4 := K3.keep b4
          have B4 := B3.after b4 B3.size
          go_wp2
          go_roundw
          case rel => exact ⟨k + 1, by omega, by go_num, by rw [HLS.out]; rfl, by rw [HLS.out]; rfl, K4, B4⟩
          case measure => simp [intOf]; omega
        | some m =>
          rw [hq] at hls
          by_cases hlm : r < m
          · simp only [if_pos hlm] at hls
            have HLS := Lib.hid hls
            clear hls hcl hsl hr hone ht hq
            have G := K.cell
            go_wp2_with fail
            refine HCL.out.mono ?_
            rintro e' w3 ⟨rfl, b3⟩
            have K3 := K.keep b3
            have B3 := B.after b3 B.size
            have G3 := K3.cell
            go_wp2_with fail
            refine (HSL.out w3 B3).mono ?_
            rintro e' w4 ⟨rfl, b4⟩
            have K4 := K3.keep b4
            have B4 := B3.after b4 B3.size
            have G4 := K4.cell
            go_wp2_with fail
            refine (HSL.out w4 B4).mono ?_
            rintro e' w5 ⟨rfl, b5⟩
            have K5 := K4.keep b5
            have B5 := B4.after b5 B4.size
            go_wp2
            go_roundw
            case rel => exact ⟨k + 1, by omega, by go_num, by rw [HLS.out]; rfl, by rw [HLS.out]; rfl, K5, B5⟩
            case measure => simp [intOf]; omega
          · simp only [if_neg hlm] at hls
            have HLS := Lib.hid hls
            clear hls hcl hsl hr hone ht hq
            have G := K.cell
            go_wp2_with fail
            refine HCL.out.mono ?_
            rintro e' w3 ⟨rfl, b3⟩
            have K3 := K.keep b3
            have B3 := B.after b3 B.size
            have G3 := K3.cell
            go_wp2_with fail
            refine (HSL.out w3 B3).mono ?_
            rintro e' w4 ⟨rfl, b4⟩
            have K4 := K3.keep b4
            have B4 := B3.after b4 B3.size
            go_wp2
            go_roundw
            case rel => exact ⟨k + 1, by omega, by go_num, by rw [HLS.out]; rfl, by rw [HLS.out]; rfl, K4, B4⟩
            case measure => simp [intOf]; omega
      · have ht : (ibit (k : Int) e == 1) = false := by simp [hone]
        rw [if_neg hone] at hls
        rw [ht] at hcl
        have HCL := Lib.hid hcl
        have HLS := Lib.hid hls
        clear hls hcl hsl hr hone ht
        have G := K.cell
        go_wp2_with fail
        refine HCL.out.mono ?_
        rintro e' w3 ⟨rfl, b3⟩
        have K3 := K.keep b3
        have B3 := B.after b3 B.size
        have G3 := K3.cell
        go_wp2
        go_roundw
        case rel => exact ⟨k + 1, by omega, by go_num, by rw [HLS.out], by rw [HLS.out], K3, B3⟩
        case measure => simp [intOf]; omega
    · have hlt2 : ¬ (k : Int) < (l.length : Int) := by omega
      have hkl : k = l.length := by omega
      have HK := Lib.hid hkl
      clear hkl
      go_wp2
      go_ret
      exact ⟨ret_int (by rw [← HK.out]), B⟩
theorem bel_fun {n : Int} {l x : List Int} (h : belB n l x = true) : ∃ N : Nat, n = N ∧ N ≤ 5 ∧ l.length = 2 ^ N ∧ l.length ≤ 32 ∧ x.length = N ∧ (∀ k, (hk : k < l.length) → -1000 ≤ l[k] ∧ l[k] ≤ 1000) ∧ (∀ k, (hk : k < x.length) → -5000 ≤ x[k] ∧ x[k] ≤ 5000) ∧ ∀ k : Nat, k < l.length → 0 ≤ slackOf l x k := by
  unfold belB at h
  simp only [Bool.and_eq_true] at h
  obtain ⟨⟨h1, h2⟩, h3⟩ := h
  obtain ⟨h0, h5, hl, hlb⟩ := funOk (grOk h1)
  have hp := pow_le32 h0 h5
  obtain ⟨hxl, hxb⟩ := longOk h2
  have hl2 : l.length = 2 ^ n.toNat := by
    have h4 : ((2 ^ n.toNat : Nat) : Int) = (2 : Int) ^ n.toNat := by push_cast; rfl
    omega
  exact ⟨n.toNat, by omega, by omega, hl2, by omega, by omega, hlb, hxb, belOk_true l x _ h3⟩
theorem cap_is {n : Int} {l x : List Int} {e : Nat} (h : capB n l x e = true) : (lsTo l x e l.length).getD 0 = capTo l x e l.length ∧ 0 ≤ capTo l x e l.length ∧ capTo l x e l.length ≤ 31000 := by
  unfold capB at h
  obtain ⟨h1, h2⟩ := Bool.and_eq_true_iff.1 h
  have h2 := of_decide_eq_true h2
  obtain ⟨N, rfl, hN5, hl2, hl32, hxl, hlb, hxb, hs⟩ := bel_fun h1
  have hlt : 2 ^ e < l.length := by rw [hl2]; exact Nat.pow_lt_pow_right (by decide) (by omega)
  obtain ⟨m, hm⟩ := ls_some l x e l.length hlt
  have hb := (ls_cap l x e (fun k hk => (slack_bd l x hlb hxb (by omega) k hk).2) l.length (Nat.le_refl _)).1 m hm
  have hpos : ∀ k, k ≤ l.length → 0 ≤ capTo l x e k := by
    intro k
    induction k with
    | zero => intro _; simp [capTo]
    | succ k ih =>
      intro hk
      have := ih (by omega)
      have := hs k (by omega)
      rw [capTo]
      split <;> omega
  rw [hm]
  have := hpos l.length (Nat.le_refl _)
  exact ⟨hb.1.symm, this, by omega⟩
theorem cap_nn (l x : List Int) (e : Nat) (hs : ∀ k : Nat, k < l.length → 0 ≤ slackOf l x k) : ∀ k, k ≤ l.length → 0 ≤ capTo l x e k ∧ capTo l x e k ≤ 100000 := by
  intro k
  induction k with
  | zero => intro _; simp [capTo]
  | succ k ih =>
    intro hk
    have := ih (by omega)
    have := hs k (by omega)
    rw [capTo]
    split <;> omega
theorem capN_bd (n : Int) (l x : List Int) (e : Nat) : 0 ≤ capN n l x e ∧ capN n l x e ≤ 31000 := by
  unfold capN
  split
  · rename_i h; exact (cap_is h).2
  · omega
set_option maxHeartbeats 400000 in
theorem isElement_any (n : Int) (e : Nat) (he : e < 6) (w : World) :
    Calls Tryz.prog 161 #[.int .i64 n, .int .i64 (e : Int)] w fun e' w' => e' = .returned (.bool (decide ((e : Int) < n))) ∧ w = w' := by
  have h0 : (0 : Int) ≤ (e : Int) := by omega
  go_enter Tryz.func161, Tryz.ntmps161
  go_wp2
  go_ret
  exact ⟨rfl, rfl⟩

set_option maxHeartbeats 1000000 in
set_option maxRecDepth 100000 in
theorem capacityI_any (w : World) (n : Int) (v : Value) (l : List Int) (hv : Ints w v l) (u : Value) (x : List Int) (hu : Ints w u x) (e : Nat) (he : e < 6) :
    Calls Tryz.prog 135 #[.agg #[.int .i64 n, v], u, .int .i64 (e : Int)] w fun e' w' => e' = .returned (.tuple #[.int .i64 (capN n l x e), .bool (capB n l x e)]) ∧ Below w.heap.size w w' := by
  obtain ⟨a, c, rfl⟩ := hv.shape
  obtain ⟨b, cu, rfl⟩ := hu.shape
  have hmf : ∀ (fn : Fn) (first cap : Array Value) (w : World), (Instr.makeFunc fn first cap).run Tryz.prog w = .ok (.func fn first cap) w := fun _ _ _ _ => rfl
  obtain ⟨V, hV⟩ : ∃ V, V = (w.alloc (.cells #[.int .i64 n, .slice a l.length c] 27)).alloc (.cells #[.int .i64 (e : Int)] 3) := ⟨_, rfl⟩
  have B : Below w.heap.size w V := by rw [hV]; exact bl2 _ _ _
  have K : Blk V w.heap.size 27 #[.int .i64 n, .slice a l.length c] := by rw [hV]; exact (Blk.new _ _ _).alloc _
  have KE : Blk V (w.heap.size + 1) 3 #[.int .i64 (e : Int)] := by rw [hV]; have := Blk.new (w.alloc (.cells #[.int .i64 n, .slice a l.length c] 27)) 3 #[.int .i64 (e : Int)]; simpa using this
  go_enter Tryz.func135, Tryz.ntmps135
  go_wp2_with fail
  rw [← hV]
  clear hV
  refine (isBelowI_any V n _ l (hv.below B (Nat.le_refl _)) _ x (hu.below B (Nat.le_refl _))).mono ?_
  rintro e' w1 ⟨rfl, b1⟩
  have K := K.keep b1
  have KE := KE.keep b1
  have B := B.after b1 B.size
  have G := K.cell
  have GE := KE.cell
  cases hb : belB n l x with
  | false =>
    have hx : capB n l x e = false := by unfold capB; rw [hb]; rfl
    have hy : capN n l x e = 0 := by unfold capN; rw [hx]; rfl
    have HX := Lib.hid (And.intro hx hy)
    clear hx hy hb
    go_wp2
    go_ret2
    exact ⟨by rw [HX.out.1, HX.out.2]; rfl, B⟩
  | true =>
    obtain ⟨N, rfl, hN5, hl2, hl32, hxl, hlb, hxb, hs⟩ := bel_fun hb
    have HE := Lib.hid (isElement_any (N : Int) e he w1)
    by_cases hen : (e : Int) < (N : Int)
    · have hx : capB N l x e = true := by unfold capB; rw [hb, decide_eq_true hen]; rfl
      have hy : capN N l x e = (lsTo l x e l.length).getD 0 := by unfold capN; rw [hx, (cap_is hx).1]; rfl
      have HX := Lib.hid (And.intro hx hy)
      have hd := decide_eq_true hen
      rw [hd] at HE
      have HL := Lib.hid (leastSlack_any w1 N _ l (hv.below B (Nat.le_refl _)) _ x (hu.below B (Nat.le_refl _)) e (w.heap.size + 1) he (KE.cell 0) (by omega) hlb hxb (by omega))
      clear hx hy hb hl2 hl32 hxl hlb hxb hs hd hen
      go_wp2_with (first | (go_at_call 161; refine HE.out.mono ?_; rintro e' w' ⟨rfl, rfl⟩) | (go_at_call 162; refine HL.out.mono ?_; rintro e' w2 ⟨rfl, b2⟩))
      go_ret2
      exact ⟨by rw [HX.out.1, HX.out.2]; rfl, B.after b2 B.size⟩
    · have hx : capB N l x e = false := by unfold capB; rw [decide_eq_false hen]; simp
      have hy : capN N l x e = 0 := by unfold capN; rw [hx]; rfl
      have HX := Lib.hid (And.intro hx hy)
      have hd := decide_eq_false hen
      rw [hd] at HE
      clear hx hy hb hl2 hl32 hxl hlb hxb hs hd hen
      go_wp2_with (go_at_call 161; refine HE.out.mono ?_; rintro e' w' ⟨rfl, rfl⟩)
      go_ret2
      exact ⟨by rw [HX.out.1, HX.out.2]; rfl, B⟩

set_option maxHeartbeats 1000000 in
set_option maxRecDepth 100000 in
theorem capacityS_any (w : World) (n : Int) (v : Value) (l : List Int) (hv : Ints w v l) (u : Value) (x : List Int) (hu : Ints w u x) (e : Nat) (he : e < 6) :
    Calls Tryz.prog 125 #[.agg #[.int .i64 n, v], u, .int .i64 (e : Int)] w fun e' w' => e' = .returned (.tuple #[.int .i64 (capN n l x e), .bool (capB n l x e)]) ∧ Below w.heap.size w w' := by
  obtain ⟨a, b, off, c, rfl, hlen, hix, hc, hb0⟩ := hv.view Tryz.prog 22 3 Tryz.underlying22 intElem
  obtain ⟨au, cu, rfl⟩ := hu.shape
  obtain ⟨V, hV⟩ : ∃ V, V = w.alloc (.cells #[.int .i64 n, .slice a l.length c] 27) := ⟨_, rfl⟩
  have B : Below w.heap.size w V := by rw [hV]; exact bl1 _ _
  have K : Blk V w.heap.size 27 #[.int .i64 n, .slice a l.length c] := by rw [hV]; exact Blk.new _ _ _
  go_enter Tryz.func125, Tryz.ntmps125
  go_wp2_with fail
  rw [← hV]
  clear hV
  refine (isBelowS_any V n _ l (hv.below B (Nat.le_refl _)) _ x (hu.below B (Nat.le_refl _))).mono ?_
  rintro e' w1 ⟨rfl, b1⟩
  have K := K.keep b1
  have B := B.after b1 B.size
  have G := K.cell
  cases hb : belB n l x with
  | false =>
    have hx : capB n l x e = false := by unfold capB; rw [hb]; rfl
    have hy : capN n l x e = 0 := by unfold capN; rw [hx]; rfl
    have HX := Lib.hid (And.intro hx hy)
    clear hx hy hb
    go_wp2
    go_ret2
    exact ⟨by rw [HX.out.1, HX.out.2]; rfl, B⟩
  | true =>
    obtain ⟨N, rfl, hN5, hl2, hl32, hxl, hlb, hxb, hs⟩ := bel_fun hb
    have hin : inB (e : Int) 0 ((N : Int) - 1) = decide ((e : Int) < (N : Int)) := by
      by_cases h : (e : Int) < (N : Int)
      · rw [decide_eq_true h]; exact inB_true.2 ⟨by omega, by omega⟩
      · rw [decide_eq_false h]
        cases hq : inB (e : Int) 0 ((N : Int) - 1) with
        | false => rfl
        | true => have := inB_true.1 hq; omega
    have hw : IntKind.i64.wrap ((N : Int) - 1) = (N : Int) - 1 := IntWalk.i64_in _ ⟨by omega, by omega⟩
    by_cases hen : (e : Int) < (N : Int)
    · have hx : capB N l x e = true := by unfold capB; rw [hb, decide_eq_true hen]; rfl
      have hy : capN N l x e = capTo l x e l.length := by unfold capN; rw [hx]; rfl
      have HX := Lib.hid (And.intro hx hy)
      rw [decide_eq_true hen] at hin
      have HIN := Lib.hid hin
      have HXB := Lib.hid hxb
      have HLB := Lib.hid hlb
      have HNN := Lib.hid (cap_nn l x e hs)
      have HSL := Lib.hid (slack_bd l x hlb hxb (by omega))
      have hx6 : x.length ≤ 6 := by omega
      clear hx hy hb hl2 hxl hs hen hin hxb hlb
      go_wp2_with (go_at_call 69; refine (l1In_any _ _ _ _).mono ?_; rintro e' w' ⟨rfl, rfl⟩; rw [HIN.out])
      clear G
      go_loopw [8, 9] (fun m i wr => ∃ k : Nat, k ≤ l.length ∧ i = .int .i64 k ∧ m = .int .i64 (capTo l x e k) ∧ Blk wr w.heap.size 27 #[.int .i64 (N : Int), .slice a l.length c] ∧ Below w.heap.size w wr) (fun _ i _ => l.length - (intOf i).toNat)
      case atStart => exact ⟨0, Nat.zero_le _, rfl, rfl, K, B⟩
      case round =>
        obtain ⟨k, hk, rfl, rfl, Kr, Br⟩ := hrel
        clear K B
        have K := Kr
        have B := Br
        have G := K.cell
        clear Kr Br
        by_cases hlt : k < l.length
        · have hlt2 : (k : Int) < (l.length : Int) := by omega
          have hbit := bit_is (k : Int) e (by omega) (by omega)
          have hcp : capTo l x e (k + 1) = if ibit (k : Int) e = 1 then min (capTo l x e k) (slackOf l x k) else capTo l x e k := rfl
          have hcb := HNN.out k hk
          by_cases hone : ibit (k : Int) e = 1
          · have ht : (ibit (k : Int) e == 1) = true := by simp [hone]
            rw [if_pos hone] at hcp
            have hsl : slackOf l x k = l[k] - wt x k := by unfold slackOf; simp [hlt]
            have hsb := HSL.out k hlt
            rw [hsl] at hcp hsb
            have ck := cells_below hc hb0 B (Nat.le_refl _) k hlt
            have ik := fun W => hix W k hlt
            have hlk := HLB.out k hlt
            obtain ⟨q, hq⟩ : ∃ q, q = wt x (k : Int) := ⟨_, rfl⟩
            obtain ⟨C, hC⟩ : ∃ C, C = capTo l x e k := ⟨_, rfl⟩
            obtain ⟨y, hy⟩ : ∃ y, y = l[k] := ⟨_, rfl⟩
            have hwt : ∀ W, Ints W (.slice au x.length cu) x → Calls Tryz.prog 151 #[.slice au x.length cu, .int .i64 (k : Int)] W fun e w' => e = .returned (.int .i64 q) ∧ W = w' := by
              rw [hq]
              exact fun W h => l3Weigh_any x _ _ W h (by omega) (by omega) (fun j hj => by have := HXB.out j hj; omega) (by omega)
            have hu1 := hu.below B (Nat.le_refl _)
            rw [← hq, ← hy, ← hC] at hcp
            rw [← hq, ← hy] at hsb
            rw [← hC] at hcb ⊢
            rw [← hy] at ck hlk
            have HWT := Lib.hid hwt
            have HCP := Lib.hid hcp
            have hw2 : IntKind.i64.wrap (y - q) = y - q := IntWalk.i64_in _ ⟨by omega, by omega⟩
            clear hcp hwt hq hC hy hsl hone hc hix
            go_wp2
            go_quiet ((go_at_call 151; first | exact q_same2 (HWT.out _ (hu1.drewN _)) | exact q_same (HWT.out _ (hu1.drewN _))))
            go_wp2
            go_roundw
            case rel => exact ⟨k + 1, by omega, by go_num, by rw [HCP.out] <;> (congr 1 <;> (split <;> omega)), K.drewN _, B.drewN' _⟩
            case measure => simp [intOf]; omega
          · have ht : (ibit (k : Int) e == 1) = false := by simp [hone]
            rw [if_neg hone] at hcp
            have HCP := Lib.hid hcp
            clear hcp hone
            go_wp2
            go_roundw
            case rel => exact ⟨k + 1, by omega, by go_num, by rw [HCP.out], K, B⟩
            case measure => simp [intOf]; omega
        · have hlt2 : ¬ (k : Int) < (l.length : Int) := by omega
          have hkl : k = l.length := by omega
          have HK := Lib.hid hkl
          clear hkl
          go_wp2
          go_ret2
          exact ⟨by rw [HX.out.1, HX.out.2, ← HK.out]; rfl, B⟩
    · have hx : capB N l x e = false := by unfold capB; rw [decide_eq_false hen]; simp
      have hy : capN N l x e = 0 := by unfold capN; rw [hx]; rfl
      have HX := Lib.hid (And.intro hx hy)
      rw [decide_eq_false hen] at hin
      have HIN := Lib.hid hin
      clear hx hy hb hl2 hl32 hxl hlb hxb hs hen hin
      go_wp2_with (go_at_call 69; refine (l1In_any _ _ _ _).mono ?_; rintro e' w' ⟨rfl, rfl⟩; rw [HIN.out])
      go_ret2
      exact ⟨by rw [HX.out.1, HX.out.2]; rfl, B⟩
end Go.Proofs.YtelmokapdkepbaaGreatDoor
end
