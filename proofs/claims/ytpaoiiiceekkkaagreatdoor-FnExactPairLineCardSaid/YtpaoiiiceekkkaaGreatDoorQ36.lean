/- Bases and circuits: the first program. Common bases of two matroids: the first program. -/
import Derived.Test.YtpaoiiiceekkkaaGreatDoorQ35
section
namespace Go.Proofs.YtpaoiiiceekkkaaGreatDoor
open Go.RowKit Go.G5

set_option maxHeartbeats 1000000 in
set_option maxRecDepth 100000 in
theorem basClosure (w : World) (g N s : Nat) (l : List Int) (v : Value) (hv : Ints w v l) (K : Blk w g 27 #[.int .i64 N, v]) (hs : s < l.length) (hl2 : l.length = 2 ^ N) (hN : N ≤ 5) :
    Calls Tryz.prog 230 #[.int .i64 (s : Int), .pointer (some ⟨g, 0, none⟩)] w fun e w' => e = .returned (.bool (basP l s)) ∧ Below w.heap.size w w' := by
  have hv0 := hv
  obtain ⟨a, b, off, c, rfl, hlen, hix, hc, hb⟩ := hv.view Tryz.prog 22 3 Tryz.underlying22 intElem
  have hp5 : (2 : Nat) ^ N ≤ 32 := Nat.pow_le_pow_right (n := 2) (by decide) hN
  have hp0 : 0 < (2 : Nat) ^ N := Nat.two_pow_pos N
  have htop : l.length - 1 < l.length := by omega
  have hti : ((l.length - 1 : Nat) : Int) = 2 ^ N - 1 := by
    have : ((2 ^ N : Nat) : Int) = (2 : Int) ^ N := by simp
    omega
  have ck := hc s hs
  have ck2 := hc (l.length - 1) htop
  have ik := fun W => hix W s hs
  have ik2 := fun W => hix W (l.length - 1) htop
  rw [hti] at ik2
  have hg : l.getD s 0 = l[s] := getD_at l s hs
  have hg2 : topL l = l[l.length - 1] := getD_at l _ htop
  have hba : basP l s = (freeB l s && decide (l[s] = topL l)) := by unfold basP; rw [hg]
  obtain ⟨x, hx⟩ : ∃ x, x = l[s] := ⟨_, rfl⟩
  obtain ⟨t, ht⟩ : ∃ t, t = topL l := ⟨_, rfl⟩
  rw [← hx, ← ht] at hba
  rw [← hx] at ck
  rw [← hg2, ← ht] at ck2
  have e0 : ∀ y : Ext w, y.w.cell? ⟨g, 0, none⟩ = some (.int .i64 N) := fun y => y.cell (K.cell 0)
  have e1 : ∀ y : Ext w, y.w.cell? ⟨g, 1, none⟩ = some (.slice a l.length c) := fun y => y.cell (K.cell 1)
  have e2 : ∀ y : Ext w, y.w.cell? ⟨b, off + s, none⟩ = some (.int .i64 x) := fun y => y.cell ck
  have e3 : ∀ y : Ext w, y.w.cell? ⟨b, off + (l.length - 1), none⟩ = some (.int .i64 t) := fun y => y.cell ck2
  have hfr : ∀ y : Ext w, Calls Tryz.prog 159 #[.agg #[.int .i64 (N : Int), .slice a l.length c], .int .i64 s] y.w fun e w' => e = .returned (.bool (freeB l s)) ∧ Below y.w.heap.size y.w w' := fun y => isFree_any y.w N _ l (y.ints hv0) s hs (by omega)
  have hal : ∀ y : Ext w, Calls Tryz.prog 119 #[.agg #[.int .i64 (N : Int), .slice a l.length c]] y.w fun e w' => e = .returned (.int .i64 (2 ^ N - 1)) ∧ Below y.w.heap.size y.w w' := fun y => by
    have := allOf_any (N : Int) (.slice a l.length c) l y.w (y.ints hv0) (by omega) (by omega)
    rw [Int.toNat_natCast] at this
    exact this
  have HAL := Lib.hid hal
  clear hc hix hb hg hg2 hx ht ck ck2 hal hti hlen hl2
  cases hF : freeB l s with
  | false =>
    rw [hF] at hba
    simp only [hF] at hfr
    have HBA := Lib.hid hba
    have HFR := Lib.hid hfr
    clear hba hfr hF
    go_enter Tryz.func230, Tryz.ntmps230
    go_wp2_with fail
    refine wp_region_ext _ (by kernel_rfl) (by kernel_rfl) ?_
    repeat (first | go_big_quiet_skip | (go_big_quiet_want; go_big_quiet_op; first | go_big_quiet_on | (apply Exists.intro; refine ⟨fun _ => ?_, ?_⟩; (first | (go_at_call 159; exact ext_call (HFR.out _)) | (go_at_call 119; exact ext_call (HAL.out _))); go_big_quiet_on)))
    refine wpQuiet_nil ?_
    rintro w3 ⟨⟨w3, hb3⟩, rfl⟩
    try dsimp only
    go_wp2
    go_ret
    exact ⟨ret_bool (by rw [HBA.out]; rfl), hb3⟩
  | true =>
    rw [hF] at hba
    simp only [hF] at hfr
    have HBA := Lib.hid hba
    have HFR := Lib.hid hfr
    clear hba hfr hF
    go_enter Tryz.func230, Tryz.ntmps230
    go_wp2_with fail
    refine wp_region_ext _ (by kernel_rfl) (by kernel_rfl) ?_
    repeat (first | go_big_quiet_skip | (go_big_quiet_want; go_big_quiet_op; first | go_big_quiet_on | (apply Exists.intro; refine ⟨fun _ => ?_, ?_⟩; (first | (go_at_call 159; exact ext_call (HFR.out _)) | (go_at_call 119; exact ext_call (HAL.out _))); go_big_quiet_on)))
    refine wpQuiet_nil ?_
    rintro w3 ⟨⟨w3, hb3⟩, rfl⟩
    try dsimp only
    go_wp2
    go_ret
    exact ⟨ret_bool (by rw [HBA.out, Bool.true_and]; exact beq_dec _ _), hb3⟩
theorem basClosure_enters : ∀ args w, (callFunc 230 args).run Tryz.prog w = .ok (.enter 230 args) w := enters_of Tryz.func230 (by kernel_rfl) rfl
set_option maxHeartbeats 1000000 in
set_option maxRecDepth 100000 in
theorem basI_c (w : World) (n : Int) (v : Value) (l : List Int) (hv : Ints w v l) (hl : l.length ≤ 1048576) :
    Calls Tryz.prog 163 #[.agg #[.int .i64 n, v]] w fun e w' => ∃ ad i cp, e = .returned (.tuple #[.agg #[.int .i64 (matN n l), .slice ad i cp], .bool (rankB n l)]) ∧ OwnI 3 w.heap.size w' (.slice ad i cp) (basL n l) ∧ Below w.heap.size w w' := by
  obtain ⟨a, c, rfl⟩ := hv.shape
  go_enter Tryz.func163, Tryz.ntmps163
  go_wp2_with fail
  refine calls_named ?_
  intro V hV
  have B : Below w.heap.size w V := by rw [hV]; exact bl2 _ _ _
  have K1 : Blk V w.heap.size 27 #[.int .i64 n, .slice a l.length c] := by rw [hV]; exact (Blk.new _ _ _).alloc _
  have K2 : Blk V (w.heap.size + 1) 37 #[.int .i64 0, .slice none 0 0] := by rw [hV]; have := Blk.new (w.alloc (.cells #[.int .i64 n, .slice a l.length c] 27)) 37 #[.int .i64 0, .slice none 0 0]; simpa using this
  clear hV
  refine (rankI_any n l _ _ (hv.below B (Nat.le_refl _)) hl).mono ?_
  rintro e w1 ⟨rfl, hb1⟩
  have K1' := K1.keep hb1
  have K2' := K2.keep hb1
  have B1 := B.after hb1 B.size
  have G1 := K1'.cell
  have G2 := K2'.cell
  have F2 := K2'.frozen
  have z1 := K1'.lt
  have z2 := K2'.lt
  have hv1 := hv.below B1 (Nat.le_refl _)
  clear K1 K2 B hb1
  cases hf : rankB n l with
  | false =>
    have hN : matN n l = 0 := by unfold matN; rw [hf]; rfl
    have hL : basL n l = [] := by unfold basL; rw [hf]; rfl
    have HN := Lib.hid hN
    have HL := Lib.hid hL
    have HF := Lib.hid hf
    clear hN hL
    go_wp2
    refine post_named ?_
    intro Wf hWf
    have K2f : Blk Wf (w.heap.size + 1) 37 #[.int .i64 0, .slice none 0 0] := by
      rw [hWf]
      have := (K2'.set 0 (.int .i64 0)).set 1 (.slice none 0 0)
      simpa using this
    have Bf : Below w.heap.size w Wf := by rw [hWf]; exact Below.setCell (Below.setCell B1 (by first | omega | (simp; done) | (simp; omega)) _) (by first | omega | (simp; done) | (simp; omega)) _
    have Gf := K2f.cell
    clear hWf G1 G2 F2
    exact bodyPost_ret (v := .tuple #[.agg #[.int .i64 0, .slice none 0 0], .bool false]) (by simp [results, Tryz.results163, go_sem, Gf]) rfl ⟨none, 0, 0, by rw [HN.out, HF.out], by rw [HL.out]; exact OwnI.nil _ _ _, Bf⟩
  | true =>
    obtain ⟨N, rfl, h5, hl2, hl32, _⟩ := fun_nat (rank_fun hf)
    have hN : matN N l = N := by unfold matN; rw [hf]; rfl
    have hL : basL N l = chosen (basP l) (2 ^ N) := by unfold basL; rw [hf, if_pos rfl, hl2]
    have HN := Lib.hid hN
    have HL := Lib.hid hL
    have HF := Lib.hid hf
    have hch : Calls Tryz.prog 138 #[.int .i64 (N : Int), .func (.func 230) #[] #[.pointer (some ⟨w.heap.size, 0, none⟩)]] w1 fun e w' =>
        ∃ ad i cp, e = .returned (.agg #[.int .i64 (N : Int), .slice ad i cp]) ∧ OwnI 3 w1.heap.size w' (.slice ad i cp) (chosen (basP l) (2 ^ N)) ∧ Below w1.heap.size w1 w' :=
      choose_any w1 N (by omega) 230 basClosure_enters w.heap.size (basP l) (fun s W' hs hB => basClosure W' w.heap.size N s l _ (hv1.keep hB) (K1'.keep hB) (by omega) hl2 h5)
    have HCH := Lib.hid hch
    clear hN hL hch hf hl2
    go_wp2_with fail
    refine HCH.out.mono ?_
    rintro e w3 ⟨p3, i3, q3, rfl, o3, hb3⟩
    have B3 := B1.after hb3 B1.size
    have K2 := K2'.keep hb3
    clear G1 G2 F2
    have G2 := K2.cell
    have F2 := K2.frozen
    have z5 := K2.lt
    have y1 := B1.size
    go_wp2
    refine post_named ?_
    intro Wf hWf
    have K2f : Blk Wf (w.heap.size + 1) 37 #[.int .i64 N, .slice p3 i3 q3] := by
      rw [hWf]
      have := (K2.set 0 (.int .i64 N)).set 1 (.slice p3 i3 q3)
      simpa using this
    have Bf : Below w.heap.size w Wf := by rw [hWf]; exact Below.setCell (Below.setCell B3 (by first | omega | (simp; done) | (simp; omega)) _) (by first | omega | (simp; done) | (simp; omega)) _
    have of : OwnI 3 w.heap.size Wf (.slice p3 i3 q3) (chosen (basP l) (2 ^ N)) := by
      rw [hWf]
      exact ((o3.setBelow (by first | omega | (simp; done) | (simp; omega)) _).setBelow (by first | omega | (simp; done) | (simp; omega)) _).mono (by first | omega | (simp; done) | (simp; omega))
    have Gf := K2f.cell
    clear hWf G2 F2
    exact bodyPost_ret (v := .tuple #[.agg #[.int .i64 N, .slice p3 i3 q3], .bool true]) (by simp [results, Tryz.results163, go_sem, Gf]) rfl ⟨p3, i3, q3, by rw [HN.out, HF.out], by rw [HL.out]; exact of, Bf⟩

end Go.Proofs.YtpaoiiiceekkkaaGreatDoor
end
section
namespace Go.Proofs.YtpaoiiiceekkkaaGreatDoor
open Go.RowKit Go.G5

set_option maxHeartbeats 1000000 in
set_option maxRecDepth 100000 in
theorem choose_any2 (w : World) (n : Nat) (hn : n ≤ 6) (c : FuncId) (he : ∀ args w, (callFunc c args).run Tryz.prog w = .ok (.enter c args) w) (g h : Nat) (P : Nat → Bool)
    (hw : ∀ (s : Nat) W', s < 2 ^ n → Below w.heap.size w W' → Calls Tryz.prog c #[.int .i64 (s : Int), .pointer (some ⟨g, 0, none⟩), .pointer (some ⟨h, 0, none⟩)] W' fun e w2 => e = .returned (.bool (P s)) ∧ Below W'.heap.size W' w2) :
    Calls Tryz.prog 138 #[.int .i64 (n : Int), .func (.func c) #[] #[.pointer (some ⟨g, 0, none⟩), .pointer (some ⟨h, 0, none⟩)]] w fun e w' =>
      ∃ ad i cp, e = .returned (.agg #[.int .i64 (n : Int), .slice ad i cp]) ∧ OwnI 3 w.heap.size w' (.slice ad i cp) (chosen P (2 ^ n)) ∧ Below w.heap.size w w' := by
  have hpn : (2 : Nat) ^ n ≤ 64 := Nat.pow_le_pow_right (by decide) hn
  have hp1 := Nat.two_pow_pos n
  have hpi : ((2 ^ n : Nat) : Int) = (2 : Int) ^ n := by simp
  obtain ⟨N, hN⟩ : ∃ N : Nat, N = 2 ^ n := ⟨_, rfl⟩
  rw [← hN] at hw hpn hp1 hpi ⊢
  have HN := Lib.hid hN
  clear hN
  have r0 := (BoxAt.new w (.int .i64 0) (.slice none 0 0) 37)
  have r1 := r0.keep (bl1 _ (.cells #[.int .i64 n, .slice none 0 0] 37))
  have b1 := BoxAt.new (w.alloc (.cells #[.int .i64 0, .slice none 0 0] 37)) (.int .i64 n) (.slice none 0 0) 37
  go_enter Tryz.func138, Tryz.ntmps138
  go_wp2_with fail
  go_loopw [12] (fun i wr => ∃ (k : Nat) (ad : Option Addr) (nn cp : Nat), k ≤ N ∧ i = .int .i64 k ∧ OwnI 3 (w.heap.size + 1 + 1) wr (.slice ad nn cp) (chosen P k) ∧ Below w.heap.size w wr ∧
      BoxAt wr w.heap.size (.int .i64 0) (.slice none 0 0) ∧ BoxAt wr (w.heap.size + 1) (.int .i64 n) (.slice ad nn cp))
    (fun i _ => N - (intOf i).toNat)
  case atStart => exact ⟨0, none, 0, 0, Nat.zero_le _, rfl, OwnI.nil _ _ _, (by repeat (first | exact Below.refl _ _ | (with_reducible refine Below.setCell ?_ (by first | omega | (simp; done) | (simp; omega)) _) | (with_reducible refine Below.alloc ?_ (by first | omega | (simp; done) | (simp; omega)) _) | (with_reducible refine Below.drewN' ?_ _) | (with_reducible refine Below.drew ?_) | (with_reducible assumption) | refine Below.trans ?_ (Below.mono (by assumption) (by first | omega | (simp; done) | (simp; omega))))), r1, by simpa using b1⟩
  case round =>
    obtain ⟨k, ad, nn, cp, hk, rfl, ho, B, R, X⟩ := hrel
    clear r0 r1 b1
    by_cases hlt : k < N
    · have hlt2 : (k : Int) < 2 ^ n := by rw [← hpi]; exact_mod_cast hlt
      have hcl := hw k wr hlt B
      have zr := R.lt
      have zx := X.lt
      cases hP : P k with
      | false =>
        rw [hP] at hcl
        go_wp2_with (go_at_fn c; refine hcl.mono ?_; rintro e w2 ⟨rfl, hb2⟩)
        go_roundw
        case rel => exact ⟨k + 1, ad, nn, cp, by omega, by go_num, by rw [chosen_succ, hP]; exact ho.keep hb2, B.after hb2 B.size, R.keep hb2, X.keep hb2⟩
        case measure => simp [intOf]; omega
      | true =>
        rw [hP] at hcl
        have hlen := chosen_len P k
        have hlk : (chosen P k).length ≤ 64 := Nat.le_trans hlen (Nat.le_trans hk hpn)
        go_wp2_with (first
          | (go_at_fn c; refine hcl.mono ?_; rintro e w2 ⟨rfl, hb2⟩; have zx2 := (X.keep hb2).lt; obtain ⟨e0, e1, g0, g1⟩ := X.keep hb2)
          | (at_builtin; refine wpList_appendI rfl _ _ _ rfl 3 Tryz.underlying22 intElem (w.heap.size + 1 + 1) _ _ (k : Int) w2.heap.size rfl rfl (by simp) ((ho.keep hb2).alloc _) ⟨by omega, by omega⟩ (by omega) (by simp; omega) ?_; intro v' w6 hown hgr; obtain ⟨av, nv, cv, rfl⟩ := hown.shape3; have hrow := (ho.keep hb2).lt; have X6 := ((X.keep hb2).keep (bl1 _ (.cells #[.int .i64 k] 3))).grow hgr (fun e => by have := (hrow _ e).1; omega); have R6 := ((R.keep hb2).keep (bl1 _ (.cells #[.int .i64 k] 3))).grow hgr (fun e => by have := (hrow _ e).1; omega); obtain ⟨i0, i1, j0, j1⟩ := X6))
        have B6 : Below w.heap.size w w6 := ((B.after hb2 B.size).alloc (B.after hb2 B.size).size (.cells #[.int .i64 k] 3)).grown hgr (by have := (B.after hb2 B.size).size; simp; omega) (fun q hq => by have := (hrow q hq).1; omega)
        go_roundw
        case rel => exact ⟨k + 1, av, nv, cv, by omega, by go_num, by rw [chosen_succ, if_pos hP]; exact hown.setBelow (by first | omega | (simp; done) | (simp; omega)) _, B6.setCell (by first | omega | (simp; done) | (simp; omega)) _, R6.other (by omega) _, (BoxAt.mk i0 i1 j0 j1).set1 _⟩
        case measure => simp [intOf]; omega
    · have hlt2 : ¬ (k : Int) < 2 ^ n := by rw [← hpi]; exact_mod_cast hlt
      have hkN : k = N := by omega
      obtain ⟨e0, e1, g0, g1⟩ := X
      obtain ⟨e2, e3, g2, g3⟩ := R
      go_wp2
      refine bodyPost_ret (v := .agg #[.int .i64 n, .slice ad nn cp]) (by simp [results, Tryz.results138, go_sem, e2, e3]) rfl ⟨ad, nn, cp, rfl, ?_, ?_⟩
      · rw [hkN] at ho
        exact ((ho.setBelow (by first | omega | (simp; done) | (simp; omega)) _).setBelow (by first | omega | (simp; done) | (simp; omega)) _).mono (by first | omega | (simp; done) | (simp; omega))
      · exact Below.setCell (Below.setCell B (Nat.le_refl _) _) (Nat.le_refl _) _

set_option maxHeartbeats 1000000 in
set_option maxRecDepth 100000 in
theorem cbClosure (w : World) (g h s n : Nat) (P Q : Nat → Bool) (x y : Int) (v u : Value) (hv : Ints w v (chosen P n)) (hu : Ints w u (chosen Q n)) (hn : n ≤ 32) (hs : s < n) (K : Blk w g 37 #[.int .i64 x, v]) (J : Blk w h 37 #[.int .i64 y, u]) :
    Calls Tryz.prog 164 #[.int .i64 (s : Int), .pointer (some ⟨g, 0, none⟩), .pointer (some ⟨h, 0, none⟩)] w fun e w' => e = .returned (.bool (P s && Q s)) ∧ Below w.heap.size w w' := by
  have l1 : (chosen P n).length ≤ 1048576 := Nat.le_trans (chosen_len P n) (by omega)
  have l2 : (chosen Q n).length ≤ 1048576 := Nat.le_trans (chosen_len Q n) (by omega)
  have C1 := hasSet_any x (chosen P n) v s w hv (chosen_asc P n) l1
  have C2 := fun (W : World) (hW : Below w.heap.size w W) => hasSet_any y (chosen Q n) u s W (hu.keep hW) (chosen_asc Q n) l2
  rw [has_chosen, decide_eq_true hs, Bool.true_and] at C1
  simp only [has_chosen, decide_eq_true hs, Bool.true_and] at C2
  have H1 := Lib.hid C1
  have H2 := Lib.hid C2
  obtain ⟨a, c, rfl⟩ := hv.shape
  obtain ⟨b, d, rfl⟩ := hu.shape
  have G := K.cell
  have z1 := K.lt
  have z2 := J.lt
  clear C1 C2
  cases hP : P s with
  | false =>
    rw [hP] at H1
    go_enter Tryz.func164, Tryz.ntmps164
    go_wp2_with fail
    refine H1.out.mono ?_
    rintro e w1 ⟨rfl, b1⟩
    go_wp2
    go_ret
    exact ⟨rfl, b1⟩
  | true =>
    rw [hP] at H1
    go_enter Tryz.func164, Tryz.ntmps164
    go_wp2_with fail
    refine H1.out.mono ?_
    rintro e w1 ⟨rfl, b1⟩
    have z3 := (J.keep b1).lt
    have G2 := (J.keep b1).cell
    go_wp2_with fail
    refine (H2.out _ b1).mono ?_
    rintro e w2 ⟨rfl, b2⟩
    go_wp2
    go_ret
    exact ⟨ret_bool (by simp), b1.after b2 b1.size⟩
theorem cbClosure_enters : ∀ args w, (callFunc 164 args).run Tryz.prog w = .ok (.enter 164 args) w := enters_of Tryz.func164 (by kernel_rfl) rfl
set_option maxHeartbeats 1000000 in
set_option maxRecDepth 100000 in
theorem cbI_c (w : World) (n : Int) (v : Value) (l : List Int) (hv : Ints w v l) (hl : l.length ≤ 1048576) (m : Int) (u : Value) (k : List Int) (hu : Ints w u k) (hk : k.length ≤ 1048576) :
    Calls Tryz.prog 56 #[.agg #[.int .i64 n, v], .agg #[.int .i64 m, u]] w fun e w' => ∃ ad i cp, e = .returned (.tuple #[.agg #[.int .i64 (cbaN n l m k), .slice ad i cp], .bool (comB n l m k)]) ∧ OwnI 3 w.heap.size w' (.slice ad i cp) (cbaL n l m k) ∧ Below w.heap.size w w' := by
  have hv0 := hv
  have hu0 := hu
  obtain ⟨a, c, rfl⟩ := hv.shape
  obtain ⟨b, d, rfl⟩ := hu.shape
  have hmf : ∀ (fn : Fn) (first cap : Array Value) (w : World), (Instr.makeFunc fn first cap).run Tryz.prog w = .ok (.func fn first cap) w := fun _ _ _ _ => rfl
  go_enter Tryz.func56, Tryz.ntmps56
  go_wp2_with fail
  refine calls_named ?_
  intro V hV
  have B : Below w.heap.size w V := by rw [hV]; exact (bl2 _ _ _).alloc (by first | omega | (simp; done) | (simp; omega)) _
  have K1 : Blk V w.heap.size 27 #[.int .i64 n, .slice a l.length c] := by rw [hV]; exact ((Blk.new _ _ _).alloc _).alloc _
  have K2 : Blk V (w.heap.size + 1) 27 #[.int .i64 m, .slice b k.length d] := by rw [hV]; have := (Blk.new (w.alloc (.cells #[.int .i64 n, .slice a l.length c] 27)) 27 #[.int .i64 m, .slice b k.length d]).alloc (.cells #[.int .i64 0, .slice none 0 0] 37); simpa using this
  have K3 : Blk V (w.heap.size + 1 + 1) 37 #[.int .i64 0, .slice none 0 0] := by rw [hV]; have := Blk.new ((w.alloc (.cells #[.int .i64 n, .slice a l.length c] 27)).alloc (.cells #[.int .i64 m, .slice b k.length d] 27)) 37 #[.int .i64 0, .slice none 0 0]; simpa using this
  clear hV
  refine (areMatI_any V n _ l (hv0.below B (Nat.le_refl _)) hl m _ k (hu0.below B (Nat.le_refl _)) hk).mono ?_
  rintro e w1 ⟨rfl, b1⟩
  have K1 := K1.keep b1
  have K2 := K2.keep b1
  have K3 := K3.keep b1
  have B1 := B.after b1 B.size
  have z3 := K3.lt
  clear B b1
  cases hf : comB n l m k with
  | false =>
    have hN : cbaN n l m k = 0 := by unfold cbaN; rw [hf]; rfl
    have hL : cbaL n l m k = [] := by unfold cbaL; rw [hf]; rfl
    have HN := Lib.hid hN
    have HL := Lib.hid hL
    have HF := Lib.hid hf
    have G2 := K3.cell
    have F2 := K3.frozen
    clear hN hL hf
    go_wp2
    refine post_named ?_
    intro Wf hWf
    have K2f : Blk Wf (w.heap.size + 1 + 1) 37 #[.int .i64 0, .slice none 0 0] := by
      rw [hWf]
      have := (K3.set 0 (.int .i64 0)).set 1 (.slice none 0 0)
      simpa using this
    have Bf : Below w.heap.size w Wf := by rw [hWf]; exact Below.setCell (Below.setCell B1 (by first | omega | (simp; done) | (simp; omega)) _) (by first | omega | (simp; done) | (simp; omega)) _
    have Gf := K2f.cell
    clear hWf G2 F2
    exact bodyPost_ret (v := .tuple #[.agg #[.int .i64 0, .slice none 0 0], .bool false]) (by simp [results, Tryz.results56, go_sem, Gf]) rfl ⟨none, 0, 0, by rw [HN.out, HF.out], by rw [HL.out]; exact OwnI.nil _ _ _, Bf⟩
  | true =>
    obtain ⟨hr1, hr2⟩ := com_rank hf
    obtain ⟨rfl, N, rfl, hN5, hl2, hl32, hkl, _, _⟩ := com_fun hf
    have hN : cbaN N l N k = N := by unfold cbaN; rw [hf]; rfl
    have hL : cbaL N l N k = chosen (fun s => basP l s && basP k s) (2 ^ N) := by unfold cbaL; rw [hf, if_pos rfl, hl2]; rfl
    have hb1 := basI_c w1 N _ l (hv0.below B1 (Nat.le_refl _)) hl
    have hb2 := fun (W : World) (h : Ints W (.slice b k.length d) k) => basI_c W N _ k h hk
    have e1 : basL N l = chosen (basP l) (2 ^ N) := by unfold basL; rw [hr1, if_pos rfl, hl2]
    have e2 : basL N k = chosen (basP k) (2 ^ N) := by unfold basL; rw [hr2, if_pos rfl, hkl, hl2]
    have e3 : matN N l = N := by unfold matN; rw [hr1]; rfl
    have e4 : matN N k = N := by unfold matN; rw [hr2]; rfl
    rw [e1, e3] at hb1
    simp only [e2, e4] at hb2
    have hp5 : (2 : Nat) ^ N ≤ 32 := Nat.pow_le_pow_right (n := 2) (by decide) hN5
    obtain ⟨A1, hA1⟩ : ∃ A, A = chosen (basP l) (2 ^ N) := ⟨_, rfl⟩
    obtain ⟨A2, hA2⟩ : ∃ A, A = chosen (basP k) (2 ^ N) := ⟨_, rfl⟩
    rw [← hA1] at hb1
    simp only [← hA2] at hb2
    have HA := Lib.hid (And.intro hA1 hA2)
    have HB1 := Lib.hid hb1
    have HB2 := Lib.hid hb2
    have HN := Lib.hid hN
    have HL := Lib.hid hL
    have HF := Lib.hid hf
    clear hN hL hf hb1 hb2 e1 e2 e3 e4 hr1 hr2 hl2 hkl hA1 hA2
    have G1 := K1.cell
    go_wp2_with fail
    refine HB1.out.mono ?_
    rintro e w2 ⟨p1, i1, q1, rfl, o1, b2⟩
    have hi1 : i1 = A1.length := o1.ints.capLe.1
    subst hi1
    have B2 := B1.after b2 B1.size
    have K2 := K2.keep b2
    have K3 := K3.keep b2
    have K1 := K1.keep b2
    clear G1 B1 b2
    have J1 := Blk.new w2 37 #[.int .i64 N, .slice p1 A1.length q1]
    have h1 := o1.ints.alloc (.cells #[.int .i64 N, .slice p1 A1.length q1] 37)
    have B2' := B2.alloc B2.size (.cells #[.int .i64 N, .slice p1 A1.length q1] 37)
    have K2' := K2.alloc (.cells #[.int .i64 N, .slice p1 A1.length q1] 37)
    have K1' := K1.alloc (.cells #[.int .i64 N, .slice p1 A1.length q1] 37)
    have K3' := K3.alloc (.cells #[.int .i64 N, .slice p1 A1.length q1] 37)
    have G1 := K2'.cell
    go_wp2_with fail
    refine (HB2.out _ (hu0.below B2' (Nat.le_refl _))).mono ?_
    rintro e w3 ⟨p2, i2, q2, rfl, o2, b3⟩
    have hi2 : i2 = A2.length := o2.ints.capLe.1
    subst hi2
    have B3 := B2'.after b3 B2'.size
    have K1 := K1'.keep b3
    have K3 := K3'.keep b3
    have J1 := J1.keep b3
    have h1 := h1.keep b3
    clear G1 B2 B2' K2 K2' K1' K3' b3
    have J2 := Blk.new w3 37 #[.int .i64 N, .slice p2 A2.length q2]
    have h2 := o2.ints.alloc (.cells #[.int .i64 N, .slice p2 A2.length q2] 37)
    have B3' := B3.alloc B3.size (.cells #[.int .i64 N, .slice p2 A2.length q2] 37)
    have K1' := K1.alloc (.cells #[.int .i64 N, .slice p2 A2.length q2] 37)
    have K3' := K3.alloc (.cells #[.int .i64 N, .slice p2 A2.length q2] 37)
    have J1' := J1.alloc (.cells #[.int .i64 N, .slice p2 A2.length q2] 37)
    have h1' := h1.alloc (.cells #[.int .i64 N, .slice p2 A2.length q2] 37)
    have G1 := K1'.cell
    have z1 := K1'.lt
    go_wp2_with fail
    refine calls_named ?_
    intro V hV
    rw [← hV] at J2 h2 B3' K3' J1' h1'
    have hc := choose_any2 V N (by omega) 164 cbClosure_enters w2.heap.size w3.heap.size (fun s => basP l s && basP k s) (fun s W' hs hB => cbClosure W' w2.heap.size w3.heap.size s (2 ^ N) (basP l) (basP k) N N _ _ (by rw [← HA.out.1]; exact h1'.keep hB) (by rw [← HA.out.2]; exact h2.keep hB) hp5 hs (J1'.keep hB) (J2.keep hB))
    clear hV G1 z1
    refine hc.mono ?_
    rintro e w4 ⟨p4, i4, q4, rfl, o4, b4⟩
    have B4 := B3'.after b4 B3'.size
    have K4 := K3'.keep b4
    have z4 := K4.lt
    have z3 := K3'.lt
    have y4 := B3'.size
    have G2 := K4.cell
    have F2 := K4.frozen
    clear K3' J1' J2 h1' h2 hc K1' K1 K3 J1 h1 B3 B3'
    go_wp2
    refine post_named ?_
    intro Wf hWf
    have K2f : Blk Wf (w.heap.size + 1 + 1) 37 #[.int .i64 N, .slice p4 i4 q4] := by
      rw [hWf]
      have := (K4.set 0 (.int .i64 N)).set 1 (.slice p4 i4 q4)
      simpa using this
    have Bf : Below w.heap.size w Wf := by rw [hWf]; exact Below.setCell (Below.setCell B4 (by first | omega | (simp; done) | (simp; omega)) _) (by first | omega | (simp; done) | (simp; omega)) _
    have of : OwnI 3 w.heap.size Wf (.slice p4 i4 q4) (chosen (fun s => basP l s && basP k s) (2 ^ N)) := by
      rw [hWf]
      exact ((o4.setBelow (by first | omega | (simp; done) | (simp; omega)) _).setBelow (by first | omega | (simp; done) | (simp; omega)) _).mono (by first | omega | (simp; done) | (simp; omega))
    have Gf := K2f.cell
    clear hWf G2 F2
    exact bodyPost_ret (v := .tuple #[.agg #[.int .i64 N, .slice p4 i4 q4], .bool true]) (by simp [results, Tryz.results56, go_sem, Gf]) rfl ⟨p4, i4, q4, by rw [HN.out, HF.out], by rw [HL.out]; exact of, Bf⟩
end Go.Proofs.YtpaoiiiceekkkaaGreatDoor
end
