/- How far a number of a vector can be raised. choose: the family of the sets that a function wants. Counting families: the shared walks. Sets with pairs of elements outside of them, in order. -/
import Derived.Test.YtipejodijbjpcaaGreatDoorQ03
import Derived.Shelf.Abstract
section
namespace Go.Proofs.YtipejodijbjpcaaGreatDoor
open Go.RowKit Go.G5

def capTo (l x : List Int) (e : Nat) : Nat → Int
  | 0 => 100000
  | k + 1 => if ibit (k : Int) e = 1 then min (capTo l x e k) (slackOf l x k) else capTo l x e k
def lsTo (l x : List Int) (e : Nat) : Nat → Option Int
  | 0 => none
  | k + 1 => if ibit (k : Int) e = 1 then (match lsTo l x e k with | none => some (slackOf l x k) | some m => if slackOf l x k < m then some (slackOf l x k) else some m) else lsTo l x e k
def capB (n : Int) (l x : List Int) (e : Nat) : Bool := belB n l x && decide ((e : Int) < n)
def capN (n : Int) (l x : List Int) (e : Nat) : Int := if capB n l x e then capTo l x e l.length else 0
theorem wt_bd5 (x : List Int) (s : Int) (h : ∀ k, (hk : k < x.length) → -5000 ≤ x[k] ∧ x[k] ≤ 5000) (k : Nat) (hk : k ≤ x.length) : -5000 * (k : Int) ≤ wtTo x s k ∧ wtTo x s k ≤ 5000 * (k : Int) := by
  induction k with
  | zero => simp [wtTo]
  | succ k ih =>
    have h1 := ih (by omega)
    have h2 := h k (by omega)
    rw [wtTo, List.getD_eq_getElem?_getD, List.getElem?_eq_getElem (show k < x.length by omega), Option.getD_some]
    split <;> omega
theorem slack_bd (l x : List Int) (hlb : ∀ k, (hk : k < l.length) → -1000 ≤ l[k] ∧ l[k] ≤ 1000) (hx : ∀ k, (hk : k < x.length) → -5000 ≤ x[k] ∧ x[k] ≤ 5000) (hxl : x.length ≤ 6) (k : Nat) (hk : k < l.length) : -31000 ≤ slackOf l x k ∧ slackOf l x k ≤ 31000 := by
  have h1 := hlb k hk
  have h2 := wt_bd5 x k hx x.length (Nat.le_refl _)
  have hg : l.getD (k : Int).toNat 0 = l[k] := by simp [hk]
  unfold slackOf wt
  rw [hg]
  omega
theorem ls_cap (l x : List Int) (e : Nat) (hb : ∀ k, k < l.length → slackOf l x k ≤ 31000) : ∀ k, k ≤ l.length → (∀ m, lsTo l x e k = some m → capTo l x e k = m ∧ m ≤ 31000) ∧ (lsTo l x e k = none → capTo l x e k = 100000) := by
  intro k
  induction k with
  | zero => intro _; exact ⟨fun m h => (by rw [lsTo] at h; cases h), fun _ => rfl⟩
  | succ k ih =>
    intro hk
    obtain ⟨h1, h2⟩ := ih (by omega)
    have h3 := hb k (by omega)
    rw [lsTo, capTo]
    by_cases hone : ibit (k : Int) e = 1
    · rw [if_pos hone, if_pos hone]
      cases hq : lsTo l x e k with
      | none =>
        rw [h2 hq]
        refine ⟨fun m h => ?_, fun h => by cases h⟩
        have h' : slackOf l x k = m := Option.some.inj h
        omega
      | some q =>
        obtain ⟨h4, h5⟩ := h1 q hq
        rw [h4]
        refine ⟨fun m h => ?_, fun h => ?_⟩
        · by_cases hlt : slackOf l x k < q
          · simp only [if_pos hlt] at h
            have h' : slackOf l x k = m := Option.some.inj h
            omega
          · simp only [if_neg hlt] at h
            have h' : q = m := Option.some.inj h
            omega
        · by_cases hlt : slackOf l x k < q
          · simp only [if_pos hlt] at h; cases h
          · simp only [if_neg hlt] at h; cases h
    · rw [if_neg hone, if_neg hone]
      exact ⟨h1, h2⟩
theorem ls_some (l x : List Int) (e : Nat) : ∀ k, 2 ^ e < k → ∃ m, lsTo l x e k = some m := by
  intro k
  induction k with
  | zero => intro h; exact absurd h (Nat.not_lt_zero _)
  | succ k ih =>
    intro hk
    rw [lsTo]
    by_cases hlt : 2 ^ e < k
    · obtain ⟨m, hm⟩ := ih hlt
      rw [hm]
      by_cases hone : ibit (k : Int) e = 1
      · rw [if_pos hone]
        by_cases h : slackOf l x k < m
        · exact ⟨slackOf l x k, by simp only [if_pos h]⟩
        · exact ⟨m, by simp only [if_neg h]⟩
      · rw [if_neg hone]; exact ⟨m, rfl⟩
    · have hke : k = 2 ^ e := by omega
      have hone : ibit (k : Int) e = 1 := by
        subst hke
        unfold ibit
        have h0 : (2 : Int) ^ e ≠ 0 := by have := Nat.two_pow_pos e; have h : ((2 ^ e : Nat) : Int) = (2 : Int) ^ e := by push_cast; rfl
                                          omega
        push_cast
        rw [Int.ediv_self h0]
        rfl
      rw [if_pos hone]
      cases lsTo l x e k with
      | none => exact ⟨_, rfl⟩
      | some m =>
        by_cases h : slackOf l x k < m
        · exact ⟨slackOf l x k, by simp only [if_pos h]⟩
        · exact ⟨m, by simp only [if_neg h]⟩

set_option maxHeartbeats 400000 in
theorem capClosure (W : World) (g e s : Nat) (he : e < 6) (hs : s < 1073741824) (d : W.cell? ⟨g, 0, none⟩ = some (.int .i64 (e : Int))) :
    Calls Tryz.prog 317 #[.int .i64 (s : Int), .pointer (some ⟨g, 0, none⟩)] W fun e' w' => e' = .returned (.bool (ibit (s : Int) e == 1)) ∧ Below W.heap.size W w' := by
  have hbit := bit_is (s : Int) e (by omega) (by omega)
  go_enter Tryz.func317, Tryz.ntmps317
  go_wp2
  go_ret
  exact ⟨rfl, Below.refl _ _⟩
theorem capClosure_enters : ∀ args w, (callFunc 317 args).run Tryz.prog w = .ok (.enter 317 args) w := enters_of Tryz.func317 (by kernel_rfl) rfl

set_option maxHeartbeats 1000000 in
set_option maxRecDepth 100000 in
theorem leastSlack_any (w : World) (n : Int) (v : Value) (l : List Int) (hv : Ints w v l) (u : Value) (x : List Int) (hu : Ints w u x) (e g : Nat) (he : e < 6) (d : w.cell? ⟨g, 0, none⟩ = some (.int .i64 (e : Int))) (hll : l.length ≤ 64)
    (hlb : ∀ k, (hk : k < l.length) → -1000 ≤ l[k] ∧ l[k] ≤ 1000) (hx : ∀ k, (hk : k < x.length) → -5000 ≤ x[k] ∧ x[k] ≤ 5000) (hxl : x.length ≤ 6) :
    Calls Tryz.prog 316 #[.agg #[.int .i64 n, v], u, .func (.func 317) #[] #[.pointer (some ⟨g, 0, none⟩)]] w fun e' w' => e' = .returned (.int .i64 ((lsTo l x e l.length).getD 0)) ∧ Below w.heap.size w w' := by
  obtain ⟨a, c, rfl⟩ := hv.shape
  obtain ⟨b, cu, rfl⟩ := hu.shape
  have hgl := World.block_lt_of_cell? w _ d
  have he' := capClosure_enters
  obtain ⟨V, hV⟩ : ∃ V, V = w.alloc (.cells #[.int .i64 n, .slice a l.length c] 32) := ⟨_, rfl⟩
  have B : Below w.heap.size w V := by rw [hV]; exact bl1 _ _
  have K : Blk V w.heap.size 32 #[.int .i64 n, .slice a l.length c] := by rw [hV]; exact Blk.new _ _ _
  have HD := Lib.hid (And.intro d hgl)
  have HX := Lib.hid (And.intro hlb (And.intro hx hxl))
  go_enter Tryz.func316, Tryz.ntmps316
  go_wp2_with fail
  rw [← hV]
  clear hV
  go_loopw [7, 8, 13] (fun m f i wr => ∃ k : Nat, k ≤ l.length ∧ i = .int .i64 k ∧ m = .int .i64 ((lsTo l x e k).getD 0) ∧ f = .bool (lsTo l x e k).isSome ∧ Blk wr w.heap.size 32 #[.int .i64 n, .slice a l.length c] ∧ Below w.heap.size w wr) (fun _ _ i _ => l.length - (intOf i).toNat)
  case atStart => exact ⟨0, Nat.zero_le _, rfl, rfl, rfl, K, B⟩
  case round =>
    obtain ⟨k, hk, rfl, rfl, rfl, Kr, Br⟩ := hrel
    clear K B
    have K := Kr
    have B := Br
    by_cases hlt : k < l.length
    · have hlt2 : (k : Int) < (l.length : Int) := by omega
      have hcl := capClosure wr g e k he (by omega) ((B.cell (p := ⟨g, 0, none⟩) HD.out.2).trans HD.out.1)
      have hsl := fun (W : World) (h : Below w.heap.size w W) => slack_any n l (.slice a l.length c) x (.slice b x.length cu) k W (hv.below h (Nat.le_refl _)) (hu.below h (Nat.le_refl _)) (by omega) (by omega) hll HX.out.1 HX.out.2.1 HX.out.2.2
      have hsb := slack_bd l x HX.out.1 HX.out.2.1 HX.out.2.2 k hlt
      have hls : lsTo l x e (k + 1) = if ibit (k : Int) e = 1 then (match lsTo l x e k with | none => some (slackOf l x k) | some m => if slackOf l x k < m then some (slackOf l x k) else some m) else lsTo l x e k := rfl
      obtain ⟨r, hr⟩ : ∃ r, r = slackOf l x k := ⟨_, rfl⟩
      simp only [← hr] at hsl hsb hls
      have HSL := Lib.hid hsl
      by_cases hone : ibit (k : Int) e = 1
      · have ht : (ibit (k : Int) e == 1) = true := by simp [hone]
        rw [if_pos hone] at hls
        rw [ht] at hcl
        have HCL := Lib.hid hcl
        cases hq : lsTo l x e k with
        | none =>
          rw [hq] at hls
          have HLS := Lib.hid hls
          clear hls hcl hsl hr hone ht hq
          have G := K.cell
          go_wp2_with fail
          refine HCL.out.mono ?_
          rintro e' w3 ⟨rfl, b3⟩
          have K3 := K.keep b3
          have B3 := B.after b3 B.size
          have G3 := K3.cell
          go_wp2_with fail
          refine (HSL.out w3 B3).mono ?_
          rintro e' w4 ⟨rfl, b4⟩
          have K4 := K3.keep b4
          have B4 := B3.after b4 B3.size
          go_wp2
          go_roundw
          case rel => exact ⟨k + 1, by omega, by go_num, by rw [HLS.out]; rfl, by rw [HLS.out]; rfl, K4, B4⟩
          case measure => simp [intOf]; omega
        | some m =>
          rw [hq] at hls
          by_cases hlm : r < m
          · simp only [if_pos hlm] at hls
            have HLS := Lib.hid hls
            clear hls hcl hsl hr hone ht hq
            have G := K.cell
            go_wp2_with fail
            refine HCL.out.mono ?_
            rintro e' w3 ⟨rfl, b3⟩
            have K3 := K.keep b3
            have B3 := B.after b3 B.size
            have G3 := K3.cell
            go_wp2_with fail
            refine (HSL.out w3 B3).mono ?_
            rintro e' w4 ⟨rfl, b4⟩
            have K4 := K3.keep b4
            have B4 := B3.after b4 B3.size
            have G4 := K4.cell
            go_wp2_with fail
            refine (HSL.out w4 B4).mono ?_
            rintro e' w5 ⟨rfl, b5⟩
            have K5 := K4.keep b5
            have B5 := B4.after b5 B4.size
            go_wp2
            go_roundw
            case rel => exact ⟨k + 1, by omega, by go_num, by rw [HLS.out]; rfl, by rw [HLS.out]; rfl, K5, B5⟩
            case measure => simp [intOf]; omega
          · simp only [if_neg hlm] at hls
            have HLS := Lib.hid hls
            clear hls hcl hsl hr hone ht hq
            have G := K.cell
            go_wp2_with fail
            refine HCL.out.mono ?_
            rintro e' w3 ⟨rfl, b3⟩
            have K3 := K.keep b3
            have B3 := B.after b3 B.size
            have G3 := K3.cell
            go_wp2_with fail
            refine (HSL.out w3 B3).mono ?_
            rintro e' w4 ⟨rfl, b4⟩
            have K4 := K3.keep b4
            have B4 := B3.after b4 B3.size
            go_wp2
            go_roundw
            case rel => exact ⟨k + 1, by omega, by go_num, by rw [HLS.out]; rfl, by rw [HLS.out]; rfl, K4, B4⟩
            case measure => simp [intOf]; omega
      · have ht : (ibit (k : Int) e == 1) = false := by simp [hone]
        rw [if_neg hone] at hls
        rw [ht] at hcl
        have HCL := Lib.hid hcl
        have HLS := Lib.hid hls
        clear hls hcl hsl hr hone ht
        have G := K.cell
        go_wp2_with fail
        refine HCL.out.mono ?_
        rintro e' w3 ⟨rfl, b3⟩
        have K3 := K.keep b3
        have B3 := B.after b3 B.size
        have G3 := K3.cell
        go_wp2
        go_roundw
        case rel => exact ⟨k + 1, by omega, by go_num, by rw [HLS.out], by rw [HLS.out], K3, B3⟩
        case measure => simp [intOf]; omega
    · have hlt2 : ¬ (k : Int) < (l.length : Int) := by omega
      have hkl : k = l.length := by omega
      have HK := Lib.hid hkl
      clear hkl
      go_wp2
      go_ret
      exact ⟨ret_int (by rw [← HK.out]), B⟩
theorem bel_fun {n : Int} {l x : List Int} (h : belB n l x = true) : ∃ N : Nat, n = N ∧ N ≤ 5 ∧ l.length = 2 ^ N ∧ l.length ≤ 32 ∧ x.length = N ∧ (∀ k, (hk : k < l.length) → -1000 ≤ l[k] ∧ l[k] ≤ 1000) ∧ (∀ k, (hk : k < x.length) → -5000 ≤ x[k] ∧ x[k] ≤ 5000) ∧ ∀ k : Nat, k < l.length → 0 ≤ slackOf l x k := by
  unfold belB at h
  simp only [Bool.and_eq_true] at h
  obtain ⟨⟨h1, h2⟩, h3⟩ := h
  obtain ⟨h0, h5, hl, hlb⟩ := funOk (grOk h1)
  have hp := pow_le32 h0 h5
  obtain ⟨hxl, hxb⟩ := longOk h2
  have hl2 : l.length = 2 ^ n.toNat := by
    have h4 : ((2 ^ n.toNat : Nat) : Int) = (2 : Int) ^ n.toNat := by push_cast; rfl
    omega
  exact ⟨n.toNat, by omega, by omega, hl2, by omega, by omega, hlb, hxb, belOk_true l x _ h3⟩
theorem cap_is {n : Int} {l x : List Int} {e : Nat} (h : capB n l x e = true) : (lsTo l x e l.length).getD 0 = capTo l x e l.length ∧ 0 ≤ capTo l x e l.length ∧ capTo l x e l.length ≤ 31000 := by
  unfold capB at h
  obtain ⟨h1, h2⟩ := Bool.and_eq_true_iff.1 h
  have h2 := of_decide_eq_true h2
  obtain ⟨N, rfl, hN5, hl2, hl32, hxl, hlb, hxb, hs⟩ := bel_fun h1
  have hlt : 2 ^ e < l.length := by rw [hl2]; exact Nat.pow_lt_pow_right (by decide) (by omega)
  obtain ⟨m, hm⟩ := ls_some l x e l.length hlt
  have hb := (ls_cap l x e (fun k hk => (slack_bd l x hlb hxb (by omega) k hk).2) l.length (Nat.le_refl _)).1 m hm
  have hpos : ∀ k, k ≤ l.length → 0 ≤ capTo l x e k := by
    intro k
    induction k with
    | zero => intro _; simp [capTo]
    | succ k ih =>
      intro hk
      have := ih (by omega)
      have := hs k (by omega)
      rw [capTo]
      split <;> omega
  rw [hm]
  have := hpos l.length (Nat.le_refl _)
  exact ⟨hb.1.symm, this, by omega⟩
theorem capN_bd (n : Int) (l x : List Int) (e : Nat) : 0 ≤ capN n l x e ∧ capN n l x e ≤ 31000 := by
  unfold capN
  split
  · rename_i h; exact (cap_is h).2
  · omega
set_option maxHeartbeats 400000 in
theorem isElement_any (n : Int) (e : Nat) (he : e < 6) (w : World) :
    Calls Tryz.prog 248 #[.int .i64 n, .int .i64 (e : Int)] w fun e' w' => e' = .returned (.bool (decide ((e : Int) < n))) ∧ w = w' := by
  have h0 : (0 : Int) ≤ (e : Int) := by omega
  go_enter Tryz.func248, Tryz.ntmps248
  go_wp2
  go_ret
  exact ⟨rfl, rfl⟩

set_option maxHeartbeats 1000000 in
set_option maxRecDepth 100000 in
theorem capacityI_any (w : World) (n : Int) (v : Value) (l : List Int) (hv : Ints w v l) (u : Value) (x : List Int) (hu : Ints w u x) (e : Nat) (he : e < 6) :
    Calls Tryz.prog 246 #[.agg #[.int .i64 n, v], u, .int .i64 (e : Int)] w fun e' w' => e' = .returned (.tuple #[.int .i64 (capN n l x e), .bool (capB n l x e)]) ∧ Below w.heap.size w w' := by
  obtain ⟨a, c, rfl⟩ := hv.shape
  obtain ⟨b, cu, rfl⟩ := hu.shape
  have hmf : ∀ (fn : Fn) (first cap : Array Value) (w : World), (Instr.makeFunc fn first cap).run Tryz.prog w = .ok (.func fn first cap) w := fun _ _ _ _ => rfl
  obtain ⟨V, hV⟩ : ∃ V, V = (w.alloc (.cells #[.int .i64 n, .slice a l.length c] 32)).alloc (.cells #[.int .i64 (e : Int)] 3) := ⟨_, rfl⟩
  have B : Below w.heap.size w V := by rw [hV]; exact bl2 _ _ _
  have K : Blk V w.heap.size 32 #[.int .i64 n, .slice a l.length c] := by rw [hV]; exact (Blk.new _ _ _).alloc _
  have KE : Blk V (w.heap.size + 1) 3 #[.int .i64 (e : Int)] := by rw [hV]; have := Blk.new (w.alloc (.cells #[.int .i64 n, .slice a l.length c] 32)) 3 #[.int .i64 (e : Int)]; simpa using this
  go_enter Tryz.func246, Tryz.ntmps246
  go_wp2_with fail
  rw [← hV]
  clear hV
  refine (isBelowI_any V n _ l (hv.below B (Nat.le_refl _)) _ x (hu.below B (Nat.le_refl _))).mono ?_
  rintro e' w1 ⟨rfl, b1⟩
  have K := K.keep b1
  have KE := KE.keep b1
  have B := B.after b1 B.size
  have G := K.cell
  have GE := KE.cell
  cases hb : belB n l x with
  | false =>
    have hx : capB n l x e = false := by unfold capB; rw [hb]; rfl
    have hy : capN n l x e = 0 := by unfold capN; rw [hx]; rfl
    have HX := Lib.hid (And.intro hx hy)
    clear hx hy hb
    go_wp2
    go_ret2
    exact ⟨by rw [HX.out.1, HX.out.2]; rfl, B⟩
  | true =>
    obtain ⟨N, rfl, hN5, hl2, hl32, hxl, hlb, hxb, hs⟩ := bel_fun hb
    have HE := Lib.hid (isElement_any (N : Int) e he w1)
    by_cases hen : (e : Int) < (N : Int)
    · have hx : capB N l x e = true := by unfold capB; rw [hb, decide_eq_true hen]; rfl
      have hy : capN N l x e = (lsTo l x e l.length).getD 0 := by unfold capN; rw [hx, (cap_is hx).1]; rfl
      have HX := Lib.hid (And.intro hx hy)
      have hd := decide_eq_true hen
      rw [hd] at HE
      have HL := Lib.hid (leastSlack_any w1 N _ l (hv.below B (Nat.le_refl _)) _ x (hu.below B (Nat.le_refl _)) e (w.heap.size + 1) he (KE.cell 0) (by omega) hlb hxb (by omega))
      clear hx hy hb hl2 hl32 hxl hlb hxb hs hd hen
      go_wp2_with (first | (go_at_call 248; refine HE.out.mono ?_; rintro e' w' ⟨rfl, rfl⟩) | (go_at_call 316; refine HL.out.mono ?_; rintro e' w2 ⟨rfl, b2⟩))
      go_ret2
      exact ⟨by rw [HX.out.1, HX.out.2]; rfl, B.after b2 B.size⟩
    · have hx : capB N l x e = false := by unfold capB; rw [decide_eq_false hen]; simp
      have hy : capN N l x e = 0 := by unfold capN; rw [hx]; rfl
      have HX := Lib.hid (And.intro hx hy)
      have hd := decide_eq_false hen
      rw [hd] at HE
      clear hx hy hb hl2 hl32 hxl hlb hxb hs hd hen
      go_wp2_with (go_at_call 248; refine HE.out.mono ?_; rintro e' w' ⟨rfl, rfl⟩)
      go_ret2
      exact ⟨by rw [HX.out.1, HX.out.2]; rfl, B⟩

end Go.Proofs.YtipejodijbjpcaaGreatDoor
end
section
namespace Go.Proofs.YtipejodijbjpcaaGreatDoor
open Go.RowKit Go.G5

/-- block B holds a struct of two cells that may be written -/
structure BoxAt (wr : World) (B : Nat) (x y : Value) : Prop where
  d0 : wr.cell? ⟨B, 0, none⟩ = some x
  d1 : wr.cell? ⟨B, 1, none⟩ = some y
  f0 : wr.frozen? ⟨B, 0, none⟩ = false
  f1 : wr.frozen? ⟨B, 1, none⟩ = false
theorem BoxAt.lt {wr : World} {B : Nat} {x y : Value} (h : BoxAt wr B x y) : B < wr.heap.size := World.block_lt_of_cell? wr _ h.d0
theorem BoxAt.keep {wr w2 : World} {B : Nat} {x y : Value} (h : BoxAt wr B x y) (hb : Below wr.heap.size wr w2) : BoxAt w2 B x y :=
  ⟨G5.keep hb h.d0, G5.keep hb h.d1, (hb.frozen (p := ⟨B, 0, none⟩) h.lt).trans h.f0, (hb.frozen (p := ⟨B, 1, none⟩) h.lt).trans h.f1⟩
theorem BoxAt.grow {wr w2 : World} {row : Option Nat} {B : Nat} {x y : Value} (h : BoxAt wr B x y) (hg : wr.grownBy w2 row) (hne : row ≠ some B) : BoxAt w2 B x y :=
  ⟨G5.grown_keep hg h.d0 (fun k hk e => hne (by rw [hk, ← e])), G5.grown_keep hg h.d1 (fun k hk e => hne (by rw [hk, ← e])),
   by rw [World.frozen?_of_block (hg.block B h.lt (fun e => hne e.symm))]; exact h.f0, by rw [World.frozen?_of_block (hg.block B h.lt (fun e => hne e.symm))]; exact h.f1⟩
theorem BoxAt.set1 {wr : World} {B : Nat} {x y : Value} (h : BoxAt wr B x y) (v : Value) : BoxAt (wr.setCell ⟨B, 1, none⟩ v) B x v :=
  ⟨by rw [World.cell?_setCell_other _ _ _ _ (by simp)]; exact h.d0, World.cell?_setCell_same _ _ _ h.d1, by rw [World.frozen?_setCell]; exact h.f0, by rw [World.frozen?_setCell]; exact h.f1⟩
theorem BoxAt.other {wr : World} {B B' j : Nat} {x y : Value} (h : BoxAt wr B x y) (hne : B' ≠ B) (v : Value) : BoxAt (wr.setCell ⟨B', j, none⟩ v) B x y :=
  ⟨by rw [World.cell?_setCell_other _ _ _ _ (fun e => hne (congrArg Addr.block e))]; exact h.d0, by rw [World.cell?_setCell_other _ _ _ _ (fun e => hne (congrArg Addr.block e))]; exact h.d1, by rw [World.frozen?_setCell]; exact h.f0, by rw [World.frozen?_setCell]; exact h.f1⟩
theorem BoxAt.new (w : World) (x y : Value) (T : TypeId) : BoxAt (w.alloc (.cells #[x, y] T)) w.heap.size x y :=
  ⟨cell_new w #[x, y] T 0 _ rfl, cell_new w #[x, y] T 1 _ rfl, World.frozen?_alloc_at _ _ _ _ rfl, World.frozen?_alloc_at _ _ _ _ rfl⟩

/-- the chosen sets below a bound -/
def chosen (P : Nat → Bool) (k : Nat) : List Int := ((List.range k).filter P).map Int.ofNat
theorem chosen_succ (P : Nat → Bool) (k : Nat) : chosen P (k + 1) = if P k then chosen P k ++ [(k : Int)] else chosen P k := by
  unfold chosen
  rw [List.range_succ, List.filter_append, List.map_append]
  by_cases h : P k = true
  · simp [h]
  · simp [h]
theorem chosen_len (P : Nat → Bool) (k : Nat) : (chosen P k).length ≤ k := by
  unfold chosen; rw [List.length_map]; have := List.length_filter_le P (List.range k); simpa using this

set_option maxHeartbeats 1000000 in
set_option maxRecDepth 100000 in
theorem choose_any (w : World) (n : Nat) (hn : n ≤ 6) (c : FuncId) (he : ∀ args w, (callFunc c args).run Tryz.prog w = .ok (.enter c args) w) (g : Nat) (P : Nat → Bool)
    (hw : ∀ (s : Nat) W', s < 2 ^ n → Below w.heap.size w W' → Calls Tryz.prog c #[.int .i64 (s : Int), .pointer (some ⟨g, 0, none⟩)] W' fun e w2 => e = .returned (.bool (P s)) ∧ Below W'.heap.size W' w2) :
    Calls Tryz.prog 147 #[.int .i64 (n : Int), .func (.func c) #[] #[.pointer (some ⟨g, 0, none⟩)]] w fun e w' =>
      ∃ ad i cp, e = .returned (.agg #[.int .i64 (n : Int), .slice ad i cp]) ∧ OwnI 3 w.heap.size w' (.slice ad i cp) (chosen P (2 ^ n)) ∧ Below w.heap.size w w' := by
  have hpn : (2 : Nat) ^ n ≤ 64 := Nat.pow_le_pow_right (by decide) hn
  have hp1 := Nat.two_pow_pos n
  have hpi : ((2 ^ n : Nat) : Int) = (2 : Int) ^ n := by simp
  obtain ⟨N, hN⟩ : ∃ N : Nat, N = 2 ^ n := ⟨_, rfl⟩
  rw [← hN] at hw hpn hp1 hpi ⊢
  have HN := Lib.hid hN
  clear hN
  have r0 := (BoxAt.new w (.int .i64 0) (.slice none 0 0) 27)
  have r1 := r0.keep (bl1 _ (.cells #[.int .i64 n, .slice none 0 0] 27))
  have b1 := BoxAt.new (w.alloc (.cells #[.int .i64 0, .slice none 0 0] 27)) (.int .i64 n) (.slice none 0 0) 27
  go_enter Tryz.func147, Tryz.ntmps147
  go_wp2_with fail
  go_loopw [12] (fun i wr => ∃ (k : Nat) (ad : Option Addr) (nn cp : Nat), k ≤ N ∧ i = .int .i64 k ∧ OwnI 3 (w.heap.size + 1 + 1) wr (.slice ad nn cp) (chosen P k) ∧ Below w.heap.size w wr ∧
      BoxAt wr w.heap.size (.int .i64 0) (.slice none 0 0) ∧ BoxAt wr (w.heap.size + 1) (.int .i64 n) (.slice ad nn cp))
    (fun i _ => N - (intOf i).toNat)
  case atStart => exact ⟨0, none, 0, 0, Nat.zero_le _, rfl, OwnI.nil _ _ _, (by repeat (first | exact Below.refl _ _ | (with_reducible refine Below.setCell ?_ (by first | omega | (simp; done) | (simp; omega)) _) | (with_reducible refine Below.alloc ?_ (by first | omega | (simp; done) | (simp; omega)) _) | (with_reducible refine Below.drewN' ?_ _) | (with_reducible refine Below.drew ?_) | (with_reducible assumption) | refine Below.trans ?_ (Below.mono (by assumption) (by first | omega | (simp; done) | (simp; omega))))), r1, by simpa using b1⟩
  case round =>
    obtain ⟨k, ad, nn, cp, hk, rfl, ho, B, R, X⟩ := hrel
    clear r0 r1 b1
    by_cases hlt : k < N
    · have hlt2 : (k : Int) < 2 ^ n := by rw [← hpi]; exact_mod_cast hlt
      have hcl := hw k wr hlt B
      have zr := R.lt
      have zx := X.lt
      cases hP : P k with
      | false =>
        rw [hP] at hcl
        go_wp2_with (go_at_fn c; refine hcl.mono ?_; rintro e w2 ⟨rfl, hb2⟩)
        go_roundw
        case rel => exact ⟨k + 1, ad, nn, cp, by omega, by go_num, by rw [chosen_succ, hP]; exact ho.keep hb2, B.after hb2 B.size, R.keep hb2, X.keep hb2⟩
        case measure => simp [intOf]; omega
      | true =>
        rw [hP] at hcl
        have hlen := chosen_len P k
        have hlk : (chosen P k).length ≤ 64 := Nat.le_trans hlen (Nat.le_trans hk hpn)
        go_wp2_with (first
          | (go_at_fn c; refine hcl.mono ?_; rintro e w2 ⟨rfl, hb2⟩; have zx2 := (X.keep hb2).lt; obtain ⟨e0, e1, g0, g1⟩ := X.keep hb2)
          | (at_builtin; refine wpList_appendI rfl _ _ _ rfl 3 Tryz.underlying22 intElem (w.heap.size + 1 + 1) _ _ (k : Int) w2.heap.size rfl rfl (by simp) ((ho.keep hb2).alloc _) ⟨by omega, by omega⟩ (by omega) (by simp; omega) ?_; intro v' w6 hown hgr; obtain ⟨av, nv, cv, rfl⟩ := hown.shape3; have hrow := (ho.keep hb2).lt; have X6 := ((X.keep hb2).keep (bl1 _ (.cells #[.int .i64 k] 3))).grow hgr (fun e => by have := (hrow _ e).1; omega); have R6 := ((R.keep hb2).keep (bl1 _ (.cells #[.int .i64 k] 3))).grow hgr (fun e => by have := (hrow _ e).1; omega); obtain ⟨i0, i1, j0, j1⟩ := X6))
        have B6 : Below w.heap.size w w6 := ((B.after hb2 B.size).alloc (B.after hb2 B.size).size (.cells #[.int .i64 k] 3)).grown hgr (by have := (B.after hb2 B.size).size; simp; omega) (fun q hq => by have := (hrow q hq).1; omega)
        go_roundw
        case rel => exact ⟨k + 1, av, nv, cv, by omega, by go_num, by rw [chosen_succ, if_pos hP]; exact hown.setBelow (by first | omega | (simp; done) | (simp; omega)) _, B6.setCell (by first | omega | (simp; done) | (simp; omega)) _, R6.other (by omega) _, (BoxAt.mk i0 i1 j0 j1).set1 _⟩
        case measure => simp [intOf]; omega
    · have hlt2 : ¬ (k : Int) < 2 ^ n := by rw [← hpi]; exact_mod_cast hlt
      have hkN : k = N := by omega
      obtain ⟨e0, e1, g0, g1⟩ := X
      obtain ⟨e2, e3, g2, g3⟩ := R
      go_wp2
      refine bodyPost_ret (v := .agg #[.int .i64 n, .slice ad nn cp]) (by simp [results, Tryz.results147, go_sem, e2, e3]) rfl ⟨ad, nn, cp, rfl, ?_, ?_⟩
      · rw [hkN] at ho
        exact ((ho.setBelow (by first | omega | (simp; done) | (simp; omega)) _).setBelow (by first | omega | (simp; done) | (simp; omega)) _).mono (by first | omega | (simp; done) | (simp; omega))
      · exact Below.setCell (Below.setCell B (Nat.le_refl _) _) (Nat.le_refl _) _
end Go.Proofs.YtipejodijbjpcaaGreatDoor
end
section
namespace Go.Proofs.YtipejodijbjpcaaGreatDoor
open Go.RowKit Go.G5

def nbit (code s : Nat) : Bool := code / 2 ^ s % 2 == 1
theorem nbit_is (code s : Nat) : (ibit (code : Int) s == 1) = nbit code s := by
  unfold ibit nbit
  have h : ((code : Int) / 2 ^ s % 2) = ((code / 2 ^ s % 2 : Nat) : Int) := by push_cast; rfl
  rw [h]
  have : (code / 2 ^ s % 2) < 2 := Nat.mod_lt _ (by decide)
  rcases (show code / 2 ^ s % 2 = 0 ∨ code / 2 ^ s % 2 = 1 by omega) with h1 | h1 <;> rw [h1] <;> rfl
/-- the sets that are the bits of a number -/
def famOf (code : Nat) (k : Nat) : List Int := chosen (nbit code) k
theorem famOf_more (code k m : Nat) (h : code < 2 ^ k) : famOf code (k + m) = famOf code k := by
  induction m with
  | zero => rfl
  | succ m ih =>
    rw [← Nat.add_assoc, famOf, chosen_succ, if_neg, ← famOf, ih]
    have h1 : code < 2 ^ (k + m) := Nat.lt_of_lt_of_le h (Nat.pow_le_pow_right (by decide) (by omega))
    unfold nbit
    rw [Nat.div_eq_of_lt h1]; decide
theorem famOf_same (code k m : Nat) (h : code < 2 ^ k) (h' : code < 2 ^ m) : famOf code k = famOf code m := by
  rcases Nat.le_total k m with hkm | hkm
  · obtain ⟨d, rfl⟩ := Nat.exists_eq_add_of_le hkm
    exact (famOf_more code k d h).symm
  · obtain ⟨d, rfl⟩ := Nat.exists_eq_add_of_le hkm
    exact famOf_more code m d h'
set_option maxHeartbeats 1000000 in
theorem l2List_any (w : World) (code : Nat) (hc : code < 2 ^ 32) :
    Calls Tryz.prog 174 #[.int .i64 (code : Int)] w fun e w' => ∃ ad i cp, e = .returned (.slice ad i cp) ∧ OwnI 3 w.heap.size w' (.slice ad i cp) (famOf code 32) ∧ Below w.heap.size w w' := by
  have o0 := OwnI.lit0 (E := 3) (B := w.heap.size) w (Nat.le_refl _)
  go_enter Tryz.func174, Tryz.ntmps174
  go_wp2
  go_loopw [3, 4, 5] (fun out i x wr => ∃ (k : Nat) (ad : Option Addr) (nn cp : Nat), k ≤ 32 ∧ out = .slice ad nn cp ∧ i = .int .i64 k ∧ x = .int .i64 ((code / 2 ^ k : Nat) : Int) ∧ OwnI 3 w.heap.size wr (.slice ad nn cp) (famOf code k) ∧ Below w.heap.size w wr)
    (fun _ _ x _ => (intOf x).toNat)
  case atStart => exact ⟨0, _, _, _, by omega, rfl, rfl, by simp, o0, bl1 _ _⟩
  case round =>
    obtain ⟨k, ad, nn, cp, hk, rfl, rfl, rfl, ho, B⟩ := hrel
    obtain ⟨q, hq⟩ : ∃ q, q = code / 2 ^ k := ⟨_, rfl⟩
    have hq2 : code / 2 ^ (k + 1) = q / 2 := by rw [hq, Nat.pow_succ, Nat.div_div_eq_div_mul]
    have hql : q ≤ code := by rw [hq]; exact Nat.div_le_self _ _
    have hn : nbit code k = (q % 2 == 1) := by unfold nbit; rw [hq]
    have hlen := chosen_len (nbit code) k
    rw [← hq]
    have hb := bitsA1 q (by omega)
    have HQ := Lib.hid hq2
    have HN := Lib.hid hn
    have HO := Lib.hid ho
    have HB := Lib.hid B
    have hz : 0 < q → k + 1 ≤ 32 := by
      intro h
      by_cases h2 : k + 1 ≤ 32
      · exact h2
      · have : k = 32 := by omega
        rw [hq, this, Nat.div_eq_of_lt hc] at h
        omega
    have HQ0 := Lib.hid hq
    clear ho B hq hq2 hn
    by_cases h0 : 0 < q
    · have hk1 := hz h0
      clear hz
      by_cases h1 : q % 2 = 1
      · go_wp2_with (at_builtin; refine wpList_appendI rfl _ _ _ rfl 3 Tryz.underlying22 intElem w.heap.size _ _ (k : Int) wr.heap.size rfl rfl (by simp) (HO.out.alloc _) ⟨by omega, by omega⟩ (by unfold famOf; omega) (by have := HB.out.size; simp; omega) ?_; intro v' w6 hown hgr; obtain ⟨av, nv, cv, rfl⟩ := hown.shape3)
        have B6 : Below w.heap.size w w6 := (HB.out.alloc HB.out.size (.cells #[.int .i64 k] 3)).grown hgr (by have := HB.out.size; simp; omega) (fun p hp => (HO.out.lt p hp).1)
        go_roundw
        case rel => exact ⟨k + 1, av, nv, cv, hk1, rfl, by go_num, by rw [HQ.out]; go_num, by rw [famOf, chosen_succ, HN.out, h1]; exact hown, B6⟩
        case measure => simp [intOf]; omega
      · go_wp2
        go_roundw
        case rel => exact ⟨k + 1, ad, nn, cp, hk1, rfl, by go_num, by rw [HQ.out]; go_num, by rw [famOf, chosen_succ, HN.out, show (q % 2 == 1) = false by simp [h1]]; exact HO.out, HB.out⟩
        case measure => simp [intOf]; omega
    · go_wp2
      go_ret
      refine ⟨ad, nn, cp, rfl, ?_, HB.out⟩
      have hlt : code < 2 ^ k := by
        have := HQ0.out
        rcases Nat.lt_or_ge code (2 ^ k) with h | h
        · exact h
        · have := Nat.div_pos h (Nat.two_pow_pos k)
          omega
      rw [famOf_same code 32 k hc hlt]
      exact HO.out

theorem famOf_bd (code k : Nat) : ∀ x ∈ famOf code k, 0 ≤ x ∧ x < (k : Int) := by
  intro x hx
  unfold famOf chosen at hx
  rw [List.mem_map] at hx
  obtain ⟨s, hs, rfl⟩ := hx
  rw [List.mem_filter, List.mem_range] at hs
  simp only [Int.ofNat_eq_natCast]
  omega
end Go.Proofs.YtipejodijbjpcaaGreatDoor
end
section
namespace Go.Proofs.YtipejodijbjpcaaGreatDoor
open Go.RowKit Go.G5

abbrev Tri := Nat × Nat × Nat
/-- those of a set and a first element with the second one below k -/
def tri (s i : Nat) : Nat → List Tri
  | 0 => []
  | k + 1 => tri s i k ++ (if (decide (i < k) && (!nbit s i && !nbit s k)) then [(s, i, k)] else [])
/-- those of a set with the first element below i -/
def tri2 (n s : Nat) : Nat → List Tri
  | 0 => []
  | i + 1 => tri2 n s i ++ tri s i n
/-- those of the sets below s -/
def tri3 (n : Nat) : Nat → List Tri
  | 0 => []
  | s + 1 => tri3 n s ++ tri2 n s n
theorem tri_start (s i : Nat) : ∀ k, k ≤ i + 1 → tri s i k = [] := by
  intro k
  induction k with
  | zero => intro _; rfl
  | succ k ih =>
    intro hk
    rw [tri, ih (by omega), decide_eq_false (by omega)]; rfl
theorem tri_in (s i k m : Nat) (h : k ≤ m) : ∃ r, tri s i m = tri s i k ++ r := by
  induction m with
  | zero =>
    have : k = 0 := by omega
    subst this; exact ⟨[], rfl⟩
  | succ m ih =>
    by_cases hk : k = m + 1
    · subst hk; exact ⟨[], by simp⟩
    · obtain ⟨r, hr⟩ := ih (by omega)
      exact ⟨r ++ _, by rw [tri, hr, List.append_assoc]⟩
theorem tri2_in (n s i m : Nat) (h : i ≤ m) : ∃ r, tri2 n s m = tri2 n s i ++ r := by
  induction m with
  | zero =>
    have : i = 0 := by omega
    subst this; exact ⟨[], rfl⟩
  | succ m ih =>
    by_cases hk : i = m + 1
    · subst hk; exact ⟨[], by simp⟩
    · obtain ⟨r, hr⟩ := ih (by omega)
      exact ⟨r ++ _, by rw [tri2, hr, List.append_assoc]⟩
theorem tri3_in (n s m : Nat) (h : s ≤ m) : ∃ r, tri3 n m = tri3 n s ++ r := by
  induction m with
  | zero =>
    have : s = 0 := by omega
    subst this; exact ⟨[], rfl⟩
  | succ m ih =>
    by_cases hk : s = m + 1
    · subst hk; exact ⟨[], by simp⟩
    · obtain ⟨r, hr⟩ := ih (by omega)
      exact ⟨r ++ _, by rw [tri3, hr, List.append_assoc]⟩
/-- what stands ahead of a place, with the place, stands at the front of all -/
theorem tri_front (n N s i k : Nat) (hs : s < N) (hi : i < n) (hk : k ≤ n) : ∃ r, tri3 n N = ((tri3 n s ++ tri2 n s i) ++ tri s i k) ++ r := by
  obtain ⟨r3, h3⟩ := tri3_in n (s + 1) N hs
  obtain ⟨r2, h2⟩ := tri2_in n s (i + 1) n hi
  obtain ⟨r1, h1⟩ := tri_in s i k n hk
  rw [tri3] at h3
  rw [tri2] at h2
  exact ⟨r1 ++ (r2 ++ r3), by rw [h3, h2, h1]; simp [List.append_assoc]⟩
theorem tri_mem (s i k : Nat) : ∀ t ∈ tri s i k, t.1 = s ∧ t.2.1 = i ∧ i < t.2.2 ∧ t.2.2 < k := by
  induction k with
  | zero => intro t h; cases h
  | succ k ih =>
    intro t h
    rw [tri, List.mem_append] at h
    rcases h with h | h
    · have := ih t h; omega
    · split at h
      · rename_i hc
        rw [List.mem_singleton] at h
        rw [Bool.and_eq_true] at hc
        have := of_decide_eq_true hc.1
        subst h; simp; omega
      · cases h
theorem tri2_mem (n s i : Nat) : ∀ t ∈ tri2 n s i, t.1 = s ∧ t.2.1 < i ∧ t.2.1 < t.2.2 ∧ t.2.2 < n := by
  induction i with
  | zero => intro t h; cases h
  | succ i ih =>
    intro t h
    rw [tri2, List.mem_append] at h
    rcases h with h | h
    · have := ih t h; omega
    · have := tri_mem s i n t h; omega
theorem tri3_mem (n s : Nat) : ∀ t ∈ tri3 n s, t.1 < s ∧ t.2.1 < t.2.2 ∧ t.2.2 < n := by
  induction s with
  | zero => intro t h; cases h
  | succ s ih =>
    intro t h
    rw [tri3, List.mem_append] at h
    rcases h with h | h
    · have := ih t h; omega
    · have := tri2_mem n s n t h; omega

/-- a walk over triples that may stop -/
def runT {α : Type} (step : α → Tri → α × Bool) : List Tri → α → α × Bool
  | [], a => (a, true)
  | t :: r, a => if (step a t).2 then runT step r (step a t).1 else ((step a t).1, false)
theorem runT_append {α : Type} (step : α → Tri → α × Bool) (x y : List Tri) (a : α) : runT step (x ++ y) a = if (runT step x a).2 then runT step y (runT step x a).1 else runT step x a := by
  induction x generalizing a with
  | nil => rfl
  | cons t x ih =>
    rw [List.cons_append, runT, runT]
    split
    · exact ih _
    · rename_i h; simp
theorem runT_go {α : Type} {step : α → Tri → α × Bool} {x y : List Tri} {a b : α} (h : runT step x a = (b, true)) : runT step (x ++ y) a = runT step y b := by rw [runT_append, h]; rfl
theorem runT_stop {α : Type} {step : α → Tri → α × Bool} {x y : List Tri} {a b : α} (h : runT step x a = (b, false)) : runT step (x ++ y) a = (b, false) := by rw [runT_append, h]; rfl
theorem runT_one {α : Type} (step : α → Tri → α × Bool) (t : Tri) (a : α) : runT step [t] a = step a t := by
  rw [runT]
  split
  · rename_i h; rw [runT]; ext <;> simp [h]
  · rename_i h; ext <;> simp_all
end Go.Proofs.YtipejodijbjpcaaGreatDoor
end
