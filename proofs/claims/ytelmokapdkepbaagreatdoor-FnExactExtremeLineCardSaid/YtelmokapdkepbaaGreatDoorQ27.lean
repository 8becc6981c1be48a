/- Functions made by a closure over two boxes. Functions of masses: the program's own. Functions of masses: the reference's. Functions with the opposite values; supermodular functions: both programs. Supermodular and modular functions; bases: both programs. The line of a function: what is computed. Packings: what is computed. -/
import Derived.Test.YtelmokapdkepbaaGreatDoorQ26
import Derived.Shelf.Abstract
section
namespace Go.Proofs.YtelmokapdkepbaaGreatDoor
open Go.RowKit Go.G5

set_option maxHeartbeats 2000000 in
set_option maxRecDepth 100000 in
theorem makeFunction2_any (w : World) (n : Nat) (hn : n ≤ 5) (c : FuncId) (he : ∀ args w, (callFunc c args).run Tryz.prog w = .ok (.enter c args) w) (g g' : Nat) (F : Nat → Int) (hF : ∀ s, s < 2 ^ n → InR (F s))
    (hw : ∀ (s : Nat) W', s < 2 ^ n → Below w.heap.size w W' → Calls Tryz.prog c #[.int .i64 (s : Int), .pointer (some ⟨g, 0, none⟩), .pointer (some ⟨g', 0, none⟩)] W' fun e w2 => e = .returned (.int .i64 (F s)) ∧ Below W'.heap.size W' w2) :
    Calls Tryz.prog 179 #[.int .i64 (n : Int), .func (.func c) #[] #[.pointer (some ⟨g, 0, none⟩), .pointer (some ⟨g', 0, none⟩)]] w fun e w' =>
      ∃ ad i cp, e = .returned (.tuple #[.agg #[.int .i64 (if isFunB n (madeL F (2 ^ n)) then (n : Int) else 0), .slice ad i cp], .bool (isFunB n (madeL F (2 ^ n)))]) ∧ OwnI 3 w.heap.size w' (.slice ad i cp) (if isFunB n (madeL F (2 ^ n)) then madeL F (2 ^ n) else []) ∧ Below w.heap.size w w' := by
  have hpn : (2 : Nat) ^ n ≤ 32 := Nat.pow_le_pow_right (by decide) hn
  have hp1 := Nat.two_pow_pos n
  have hpi : ((2 ^ n : Nat) : Int) = (2 : Int) ^ n := by simp
  obtain ⟨N, hN⟩ : ∃ N : Nat, N = 2 ^ n := ⟨_, rfl⟩
  rw [← hN] at hw hF hpn hp1 hpi ⊢
  clear hN
  have r0 := (BoxAt.new w (.int .i64 0) (.slice none 0 0) 27)
  have r1 := r0.keep (bl1 _ (.cells #[.int .i64 n, .slice none 0 0] 27))
  have b1 := BoxAt.new (w.alloc (.cells #[.int .i64 0, .slice none 0 0] 27)) (.int .i64 n) (.slice none 0 0) 27
  go_enter Tryz.func179, Tryz.ntmps179
  go_wp2_with fail
  go_loopw [13] (fun i wr => ∃ (k : Nat) (ad : Option Addr) (nn cp : Nat), k ≤ N ∧ i = .int .i64 k ∧ OwnI 3 (w.heap.size + 1 + 1) wr (.slice ad nn cp) (madeL F k) ∧ Below w.heap.size w wr ∧
      BoxAt wr w.heap.size (.int .i64 0) (.slice none 0 0) ∧ BoxAt wr (w.heap.size + 1) (.int .i64 n) (.slice ad nn cp))
    (fun i _ => N - (intOf i).toNat)
  case atStart => exact ⟨0, none, 0, 0, Nat.zero_le _, rfl, OwnI.nil _ _ _, (by repeat (first | exact Below.refl _ _ | (with_reducible refine Below.setCell ?_ (by first | omega | (simp; done) | (simp; omega)) _) | (with_reducible refine Below.alloc ?_ (by first | omega | (simp; done) | (simp; omega)) _) | (with_reducible refine Below.drewN' ?_ _) | (with_reducible refine Below.drew ?_) | (with_reducible assumption) | refine Below.trans ?_ (Below.mono (by assumption) (by first | omega | (simp; done) | (simp; omega))))), r1, by simpa using b1⟩
  case round =>
    obtain ⟨k, ad, nn, cp, hk, rfl, ho, B, R, X⟩ := hrel
    clear r0 r1 b1
    by_cases hlt : k < N
    · have hlt2 : (k : Int) < 2 ^ n := by rw [← hpi]; exact_mod_cast hlt
      have zr := R.lt
      have zx := X.lt
      have hFk := hF k hlt
      have hlen : (madeL F k).length = k := by simp [madeL]
      have hlk : (madeL F k).length ≤ 64 := by omega
      have hrow := ho.lt
      have HO := Lib.hid ho
      have HR := Lib.hid R
      have HXX := Lib.hid X
      obtain ⟨e0, e1, g0, g1⟩ := X
      clear ho R
      have hcl := hw k wr.drew hlt B.drew
      clear hw
      go_wp2
      go_region_law
        (first
          | (go_simp; go_at_fn c; refine hcl.mono ?_; rintro e w2 ⟨rfl, hb2⟩; have X2 := HXX.out.keep ((Below.refl _ _).drew.after hb2 (Nat.le_refl _)); have X3 := X2.keep (bl1 w2 (.cells #[.int .i64 (F k)] 3)); have zz2 := X2.lt; have x1 := X2.d1; have x2 := X2.f1; have x3 := X3.d1; have x4 := X3.f1)
          | (refine step_appendI rfl _ _ _ rfl 3 Tryz.underlying22 intElem (w.heap.size + 1 + 1) _ _ (F k) w2.heap.size rfl rfl (cell_new w2 #[.int .i64 (F k)] 3 0 _ rfl) ((HO.out.keep ((Below.refl _ _).drew.after hb2 (Nat.le_refl _))).alloc (.cells #[.int .i64 (F k)] 3)) hFk (by omega) (by simp; omega) ?_; intro v' w6 hown hgr; obtain ⟨av, nv, cv, rfl⟩ := hown.shape3; have X6 := X3.grow hgr (fun e => by have := (hrow _ e).1; omega); obtain ⟨i0, i1, j0, j1⟩ := X6))
      all_goals
       have B6 : Below w.heap.size w w6 := (((B.drew).after hb2 B.size).alloc (B.drew.after hb2 B.size).size (.cells #[.int .i64 (F k)] 3)).grown hgr (by simp; omega) (fun q hq => by have := (hrow q hq).1; omega)
       have R6 := ((HR.out.keep ((Below.refl _ _).drew.after hb2 (Nat.le_refl _))).keep (bl1 w2 (.cells #[.int .i64 (F k)] 3))).grow hgr (fun e => by have := (hrow _ e).1; omega)
       go_wp2
       go_roundw
       case rel => exact ⟨k + 1, av, nv, cv, by omega, by go_num, by rw [madeL_succ]; exact hown.setBelow (by first | omega | (simp; done) | (simp; omega)) _, B6.setCell (by first | omega | (simp; done) | (simp; omega)) _, R6.other (by omega) _, (BoxAt.mk i0 i1 j0 j1).set1 _⟩
       case measure => simp [intOf]; omega
    · have hlt2 : ¬ (k : Int) < 2 ^ n := by rw [← hpi]; exact_mod_cast hlt
      have hkN : k = N := by omega
      subst hkN
      have HO := Lib.hid ho
      have HR := Lib.hid R
      have HXX := Lib.hid X
      obtain ⟨e0, e1, g0, g1⟩ := X
      have hi := ho.ints
      clear ho hw R
      go_wp2_with fail
      refine (isFunI_any n _ _ _ hi).mono ?_
      rintro e w2 ⟨rfl, hb2⟩
      have B2 := B.after hb2 B.size
      have o2 := HO.out.keep hb2
      have HO2 := Lib.hid o2
      obtain ⟨f0, f1, j0, j1⟩ := HR.out.keep hb2
      obtain ⟨i0, i1, q0, q1⟩ := HXX.out.keep hb2
      clear e0 e1 g0 g1 hb2 B o2 hi
      cases hf : isFunB n (madeL F k) with
      | false =>
        have HF := Lib.hid hf
        go_wp2
        all_goals refine bodyPost_ret (v := .tuple #[.agg #[.int .i64 0, .slice none 0 0], .bool false]) (by simp [results, Tryz.results179, go_sem, f0, f1]) rfl ⟨none, 0, 0, rfl, OwnI.nil _ _ _, Below.setCell (Below.setCell B2 (Nat.le_refl _) _) (Nat.le_refl _) _⟩
      | true =>
        have HF := Lib.hid hf
        go_wp2
        refine bodyPost_ret (v := .tuple #[.agg #[.int .i64 n, .slice ad nn cp], .bool true]) (by simp [results, Tryz.results179, go_sem, f0, f1]) rfl ⟨ad, nn, cp, rfl, ?_, ?_⟩
        · exact ((HO2.out.setBelow (by first | omega | (simp; done) | (simp; omega)) _).setBelow (by first | omega | (simp; done) | (simp; omega)) _).mono (by first | omega | (simp; done) | (simp; omega))
        · exact Below.setCell (Below.setCell B2 (Nat.le_refl _) _) (Nat.le_refl _) _
end Go.Proofs.YtelmokapdkepbaaGreatDoor
end
section
namespace Go.Proofs.YtelmokapdkepbaaGreatDoor
open Go.RowKit Go.G5

def fomF (m : List Int) (s : Nat) : Int := sumTo m s (s + 1)
def fomOk (n : Int) (m : List Int) : Bool := inB n 0 5 && (m.length == 2 ^ n.toNat) && allIn m (-100000) 100000
def fomV (n : Int) (m : List Int) : List Int := madeL (fomF m) (2 ^ n.toNat)
def fomB (n : Int) (m : List Int) : Bool := fomOk n m && isFunB n (fomV n m)
def fomN (n : Int) (m : List Int) : Int := if fomB n m then n else 0
def fomL (n : Int) (m : List Int) : List Int := if fomB n m then fomV n m else []

theorem fomL_len (n : Int) (m : List Int) : (fomL n m).length ≤ 1048576 := by
  unfold fomL
  split
  · rename_i h
    have h1 : inB n 0 5 = true := by
      unfold fomB fomOk at h
      simp only [Bool.and_eq_true] at h
      exact h.1.1.1
    have h2 := inB_true.1 h1
    have h3 : (2 : Nat) ^ n.toNat ≤ 2 ^ 5 := Nat.pow_le_pow_right (by decide) (by omega)
    unfold fomV madeL
    simp; omega
  · simp

end Go.Proofs.YtelmokapdkepbaaGreatDoor
end
section
namespace Go.Proofs.YtelmokapdkepbaaGreatDoor
open Go.RowKit Go.G5

theorem sumTo_bd2 (m : List Int) (s k : Nat) (hk : k ≤ m.length) (h : ∀ j, (hj : j < m.length) → j < k → -100000 ≤ m[j] ∧ m[j] ≤ 100000) : -100000 * (k : Int) ≤ sumTo m s k ∧ sumTo m s k ≤ 100000 * (k : Int) := by
  induction k with
  | zero => simp [sumTo]
  | succ k ih =>
    have h1 := ih (by omega) (fun j hj hjk => h j hj (by omega))
    have h2 := h k (by omega) (by omega)
    rw [sumTo, List.getD_eq_getElem?_getD, List.getElem?_eq_getElem (show k < m.length by omega), Option.getD_some]
    split <;> omega

end Go.Proofs.YtelmokapdkepbaaGreatDoor
end
section
namespace Go.Proofs.YtelmokapdkepbaaGreatDoor
open Go.RowKit Go.G5

/-- the opposite of a value -/
def negF (l : List Int) (s : Nat) : Int := -(l.getD s 0)
def negL (l : List Int) : List Int := madeL (negF l) l.length
def ngN (n : Int) (l : List Int) : Int := if isFunB n l then n else 0
def ngL (n : Int) (l : List Int) : List Int := if isFunB n l then negL l else []
theorem negL_len (l : List Int) : (negL l).length = l.length := by unfold negL madeL; simp
theorem negF_at (l : List Int) (s : Nat) (h : s < l.length) : negF l s = -l[s] := by unfold negF; rw [getD_at l _ h]
theorem negL_at (l : List Int) (s : Nat) (h : s < l.length) : (negL l)[s]'(by rw [negL_len]; exact h) = -l[s] := by
  unfold negL madeL
  rw [List.getElem_map, List.getElem_range]
  exact negF_at l s h
theorem neg_fun (n : Int) (l : List Int) (h : isFunB n l = true) : isFunB n (negL l) = true := by
  obtain ⟨h0, h5, hlen, hlb⟩ := funOk h
  unfold isFunB allIn
  rw [negL_len, inB_true.2 ⟨h0, h5⟩, decide_eq_true hlen]
  simp only [Bool.true_and, List.all_eq_true]
  intro x hx
  obtain ⟨s, hs, rfl⟩ := List.getElem_of_mem hx
  rw [negL_len] at hs
  rw [negL_at l s hs]
  have := hlb s hs
  exact inB_true.2 ⟨by omega, by omega⟩

end Go.Proofs.YtelmokapdkepbaaGreatDoor
end
section
namespace Go.Proofs.YtelmokapdkepbaaGreatDoor
open Go.RowKit Go.G5

def supB (n : Int) (l : List Int) : Bool := isFunB n l && subB n (negL l)
def modulB (n : Int) (l : List Int) : Bool := subB n l && supB n l
def baseB (n : Int) (l x : List Int) : Bool := belB n l x && (slackOf l x (2 ^ n.toNat - 1) == 0)
end Go.Proofs.YtelmokapdkepbaaGreatDoor
end
section
namespace Go.Proofs.YtelmokapdkepbaaGreatDoor
open Go.RowKit Go.G5

def yesT (b : Bool) (x : ByteArray) : ByteArray := if b then x else ByteArray.empty
theorem join_yes (xs : List ByteArray) (h : xs ≠ []) (b : Bool) (x y : ByteArray) (hy : y = space ++ x) : joinB space (xs ++ yes b x) = joinB space xs ++ yesT b y := by
  subst hy
  cases b with
  | false =>
    show joinB space (xs ++ []) = joinB space xs ++ ByteArray.empty
    rw [List.append_nil]
    exact ba_ext (by rw [ba_app]; simp)
  | true =>
    show joinB space (xs ++ [x]) = joinB space xs ++ (space ++ x)
    rw [joinB_snoc _ _ _ h]
    refine ba_ext ?_
    simp only [ba_app, List.append_assoc]
theorem yes_ne (xs : List ByteArray) (h : xs ≠ []) (b : Bool) (x : ByteArray) : xs ++ yes b x ≠ [] := fun e => h (List.append_eq_nil_iff.1 e).1
def fnHead (F G M S : ByteArray) : List ByteArray := [⟨#[102, 117, 110, 99, 116, 105, 111, 110]⟩, F, ⟨#[103, 97, 112]⟩, G, ⟨#[109, 97, 115, 115, 101, 115]⟩, M, ⟨#[115, 104, 97, 112, 108, 101, 121]⟩, S]
def fnHeadT (F G M S : ByteArray) : ByteArray := ⟨#[102, 117, 110, 99, 116, 105, 111, 110, 32]⟩ ++ F ++ ⟨#[32, 103, 97, 112, 32]⟩ ++ G ++ ⟨#[32, 109, 97, 115, 115, 101, 115, 32]⟩ ++ M ++ ⟨#[32, 115, 104, 97, 112, 108, 101, 121, 32]⟩ ++ S
theorem fnHead_is (F G M S : ByteArray) : joinB space (fnHead F G M S) = fnHeadT F G M S := by
  unfold fnHead fnHeadT
  simp only [joinB_cons2, joinB_one]
  refine ba_ext ?_
  simp [space]
def fnTail (F G M S : ByteArray) (b0 b1 b2 b3 b4 b5 b6 : Bool) : List ByteArray := fnHead F G M S ++ yes b0 ⟨#[115, 117, 98, 109, 111, 100, 117, 108, 97, 114]⟩ ++ yes b1 ⟨#[115, 117, 112, 101, 114, 109, 111, 100, 117, 108, 97, 114]⟩ ++ yes b2 ⟨#[105, 110, 99, 114, 101, 97, 115, 105, 110, 103]⟩ ++ yes b3 ⟨#[103, 114, 111, 117, 110, 100, 101, 100]⟩ ++ yes b4 ⟨#[115, 121, 109, 109, 101, 116, 114, 105, 99]⟩ ++ yes b5 ⟨#[112, 111, 108, 121, 109, 97, 116, 114, 111, 105, 100]⟩ ++ yes b6 ⟨#[109, 97, 116, 114, 111, 105, 100]⟩
def fnTailT (F G M S : ByteArray) (b0 b1 b2 b3 b4 b5 b6 : Bool) : ByteArray := fnHeadT F G M S ++ yesT b0 ⟨#[32, 115, 117, 98, 109, 111, 100, 117, 108, 97, 114]⟩ ++ yesT b1 ⟨#[32, 115, 117, 112, 101, 114, 109, 111, 100, 117, 108, 97, 114]⟩ ++ yesT b2 ⟨#[32, 105, 110, 99, 114, 101, 97, 115, 105, 110, 103]⟩ ++ yesT b3 ⟨#[32, 103, 114, 111, 117, 110, 100, 101, 100]⟩ ++ yesT b4 ⟨#[32, 115, 121, 109, 109, 101, 116, 114, 105, 99]⟩ ++ yesT b5 ⟨#[32, 112, 111, 108, 121, 109, 97, 116, 114, 111, 105, 100]⟩ ++ yesT b6 ⟨#[32, 109, 97, 116, 114, 111, 105, 100]⟩
theorem fnTail_is (F G M S : ByteArray) (b0 b1 b2 b3 b4 b5 b6 : Bool) : joinB space (fnTail F G M S b0 b1 b2 b3 b4 b5 b6) = fnTailT F G M S b0 b1 b2 b3 b4 b5 b6 := by
  have h0 : fnHead F G M S ≠ [] := by simp [fnHead]
  have h1 := yes_ne _ h0 b0 ⟨#[115, 117, 98, 109, 111, 100, 117, 108, 97, 114]⟩
  have h2 := yes_ne _ h1 b1 ⟨#[115, 117, 112, 101, 114, 109, 111, 100, 117, 108, 97, 114]⟩
  have h3 := yes_ne _ h2 b2 ⟨#[105, 110, 99, 114, 101, 97, 115, 105, 110, 103]⟩
  have h4 := yes_ne _ h3 b3 ⟨#[103, 114, 111, 117, 110, 100, 101, 100]⟩
  have h5 := yes_ne _ h4 b4 ⟨#[115, 121, 109, 109, 101, 116, 114, 105, 99]⟩
  have h6 := yes_ne _ h5 b5 ⟨#[112, 111, 108, 121, 109, 97, 116, 114, 111, 105, 100]⟩
  unfold fnTail fnTailT
  rw [join_yes _ h6 b6 _ ⟨#[32, 109, 97, 116, 114, 111, 105, 100]⟩ rfl, join_yes _ h5 b5 _ ⟨#[32, 112, 111, 108, 121, 109, 97, 116, 114, 111, 105, 100]⟩ rfl, join_yes _ h4 b4 _ ⟨#[32, 115, 121, 109, 109, 101, 116, 114, 105, 99]⟩ rfl, join_yes _ h3 b3 _ ⟨#[32, 103, 114, 111, 117, 110, 100, 101, 100]⟩ rfl, join_yes _ h2 b2 _ ⟨#[32, 105, 110, 99, 114, 101, 97, 115, 105, 110, 103]⟩ rfl, join_yes _ h1 b1 _ ⟨#[32, 115, 117, 112, 101, 114, 109, 111, 100, 117, 108, 97, 114]⟩ rfl, join_yes _ h0 b0 _ ⟨#[32, 115, 117, 98, 109, 111, 100, 117, 108, 97, 114]⟩ rfl, fnHead_is]
theorem yes_len (b : Bool) (x : ByteArray) : (yes b x).length ≤ 1 := by cases b <;> simp [yes]
theorem yesT_size (b : Bool) (x : ByteArray) : (yesT b x).size ≤ x.size := by cases b <;> simp [yesT]
theorem numB_size (l : List Int) (h : ∀ x ∈ l, InR x) : (numB l).size ≤ 22 * l.length + 4 := by
  unfold numB
  split
  · show 4 ≤ _; omega
  · have := commas_size l h; omega
theorem fnHeadT_size (F G M S : ByteArray) (hF : F.size ≤ 1000) (hG : G.size ≤ 1000) (hM : M.size ≤ 1000) (hS : S.size ≤ 1000) : (fnHeadT F G M S).size ≤ 4100 := by
  unfold fnHeadT
  simp only [ByteArray.size_append]
  have e1 : (⟨#[102, 117, 110, 99, 116, 105, 111, 110, 32]⟩ : ByteArray).size = 9 := rfl
  have e2 : (⟨#[32, 103, 97, 112, 32]⟩ : ByteArray).size = 5 := rfl
  have e3 : (⟨#[32, 109, 97, 115, 115, 101, 115, 32]⟩ : ByteArray).size = 8 := rfl
  have e4 : (⟨#[32, 115, 104, 97, 112, 108, 101, 121, 32]⟩ : ByteArray).size = 9 := rfl
  omega
theorem massesOf_few {n : Int} {l : List Int} (hf : isFunB n l = true) : (massesOf n l).length ≤ 32 := by
  obtain ⟨N, _, _, _, h32, _⟩ := fun_nat hf
  unfold massesOf
  rw [if_pos hf, masses_len]; exact h32
theorem shapOf_few {n : Int} {l : List Int} (hf : isFunB n l = true) : (shapOf n l).length ≤ 5 := by
  obtain ⟨N, rfl, h5, _⟩ := fun_nat hf
  unfold shapOf
  rw [if_pos hf]
  simp [shapL]; omega
def funLn (n : Int) (l : List Int) : ByteArray := if isFunB n l then joinB spaceB (fnTail (funTx n l) (itoaB (gapN n l)) (numB (massesOf n l)) (numB (shapOf n l)) (subB n l) (supB n l) (incB n l) (isGrB n l) (symB n l) (polyB n l) (rankB n l)) else ByteArray.empty
theorem funLn_join {n : Int} {l : List Int} (hf : isFunB n l = true) : funLn n l = joinB spaceB (fnTail (funTx n l) (itoaB (gapN n l)) (numB (massesOf n l)) (numB (shapOf n l)) (subB n l) (supB n l) (incB n l) (isGrB n l) (symB n l) (polyB n l) (rankB n l)) := by unfold funLn; rw [if_pos hf]
theorem fnTailT_size (F G M S : ByteArray) (b0 b1 b2 b3 b4 b5 b6 : Bool) (hF : F.size ≤ 1000) (hG : G.size ≤ 1000) (hM : M.size ≤ 1000) (hS : S.size ≤ 1000) : (fnTailT F G M S b0 b1 b2 b3 b4 b5 b6).size ≤ 5000 := by
  have h0 := fnHeadT_size F G M S hF hG hM hS
  unfold fnTailT
  simp only [ByteArray.size_append]
  have s0 := yesT_size b0 (⟨#[32, 115, 117, 98, 109, 111, 100, 117, 108, 97, 114]⟩ : ByteArray)
  have t0 : (⟨#[32, 115, 117, 98, 109, 111, 100, 117, 108, 97, 114]⟩ : ByteArray).size = 11 := rfl
  have s1 := yesT_size b1 (⟨#[32, 115, 117, 112, 101, 114, 109, 111, 100, 117, 108, 97, 114]⟩ : ByteArray)
  have t1 : (⟨#[32, 115, 117, 112, 101, 114, 109, 111, 100, 117, 108, 97, 114]⟩ : ByteArray).size = 13 := rfl
  have s2 := yesT_size b2 (⟨#[32, 105, 110, 99, 114, 101, 97, 115, 105, 110, 103]⟩ : ByteArray)
  have t2 : (⟨#[32, 105, 110, 99, 114, 101, 97, 115, 105, 110, 103]⟩ : ByteArray).size = 11 := rfl
  have s3 := yesT_size b3 (⟨#[32, 103, 114, 111, 117, 110, 100, 101, 100]⟩ : ByteArray)
  have t3 : (⟨#[32, 103, 114, 111, 117, 110, 100, 101, 100]⟩ : ByteArray).size = 9 := rfl
  have s4 := yesT_size b4 (⟨#[32, 115, 121, 109, 109, 101, 116, 114, 105, 99]⟩ : ByteArray)
  have t4 : (⟨#[32, 115, 121, 109, 109, 101, 116, 114, 105, 99]⟩ : ByteArray).size = 10 := rfl
  have s5 := yesT_size b5 (⟨#[32, 112, 111, 108, 121, 109, 97, 116, 114, 111, 105, 100]⟩ : ByteArray)
  have t5 : (⟨#[32, 112, 111, 108, 121, 109, 97, 116, 114, 111, 105, 100]⟩ : ByteArray).size = 12 := rfl
  have s6 := yesT_size b6 (⟨#[32, 109, 97, 116, 114, 111, 105, 100]⟩ : ByteArray)
  have t6 : (⟨#[32, 109, 97, 116, 114, 111, 105, 100]⟩ : ByteArray).size = 8 := rfl
  omega
theorem funLn_size (n : Int) (l : List Int) (hm : ∀ x ∈ massesOf n l, InR x) (hs : ∀ x ∈ shapOf n l, InR x) : (funLn n l).size ≤ 5000 := by
  unfold funLn
  split
  · rename_i hf
    have h1 := massesOf_few hf
    have h2 := shapOf_few hf
    have h3 := numB_size _ hm
    have h4 := numB_size _ hs
    have h5 := funTx_size n l
    have h6 := gapN_bd n l
    have h7 := itoaB_size (gapN n l) ⟨by omega, by omega⟩
    rw [show spaceB = space from rfl, fnTail_is]
    exact fnTailT_size _ _ _ _ _ _ _ _ _ _ _ (by omega) (by omega) (by omega) (by omega)
  · simp
end Go.Proofs.YtelmokapdkepbaaGreatDoor
end
section
namespace Go.Proofs.YtelmokapdkepbaaGreatDoor
open Go.RowKit Go.G5

def longer (b x : List Int) : List Int := if b.length < x.length then x else b
def okB (s u : Int) : Bool := s != 0 && iand s u == 0
def packS : List Int → Int → List Int → List Int → List Int
  | [], _, _, b => b
  | s :: r, u, c, b => if okB s u then packS r u c (longer b (packS r (ior u s) (c ++ [s]) (c ++ [s]))) else packS r u c b
def packV : List Int → Int → List Int → List Int → List Int
  | [], _, _, b => b
  | s :: r, u, c, b => if okB s u then packV r u c (packV r (ior u s) (c ++ [s]) (longer b (c ++ [s]))) else packV r u c b
theorem longer_assoc (a b c : List Int) : longer (longer a b) c = longer a (longer b c) := by
  unfold longer
  by_cases h1 : a.length < b.length
  · by_cases h2 : b.length < c.length
    · rw [if_pos h1, if_pos h2, if_pos (by omega)]
    · rw [if_pos h1, if_neg h2, if_pos h1]
  · by_cases h2 : b.length < c.length
    · rw [if_neg h1, if_pos h2]
    · rw [if_neg h1, if_neg h2, if_neg h1, if_neg (by omega)]
theorem packV_is : ∀ (r : List Int) (u : Int) (c b x : List Int), packV r u c (longer b x) = longer b (packS r u c x)
  | [], _, _, _, _ => rfl
  | s :: r, u, c, b, x => by
    rw [packV, packS]
    split
    · rw [packV_is r (ior u s) (c ++ [s]) (longer b x) (c ++ [s]), longer_assoc, packV_is r u c b]
    · exact packV_is r u c b x
theorem packS_len (N : Nat) : ∀ (r : List Int) (u : Int) (c b : List Int), c.length + r.length ≤ N → b.length ≤ N → (packS r u c b).length ≤ N
  | [], _, _, _, _, h => h
  | s :: r, u, c, b, h1, h2 => by
    rw [List.length_cons] at h1
    rw [packS]
    split
    · refine packS_len N r u c _ (by omega) ?_
      have h3 := packS_len N r (ior u s) (c ++ [s]) (c ++ [s]) (by simp; omega) (by simp; omega)
      unfold longer
      split <;> assumption
    · exact packS_len N r u c b (by omega) h2
theorem packS_mem (S : List Int) : ∀ (r : List Int) (u : Int) (c b : List Int), (∀ x ∈ r, x ∈ S) → (∀ x ∈ c, x ∈ S) → (∀ x ∈ b, x ∈ S) → ∀ x ∈ packS r u c b, x ∈ S
  | [], _, _, _, _, _, h => h
  | s :: r, u, c, b, h1, h2, h3 => by
    have h4 : ∀ x ∈ r, x ∈ S := fun x hx => h1 x (List.mem_cons_of_mem _ hx)
    have h5 : ∀ x ∈ c ++ [s], x ∈ S := fun x hx => by
      rcases List.mem_append.1 hx with h | h
      · exact h2 x h
      · rw [List.mem_singleton] at h; subst h; exact h1 x (by simp)
    rw [packS]
    split
    · refine packS_mem S r u c _ h4 h2 ?_
      have h6 := packS_mem S r (ior u s) (c ++ [s]) (c ++ [s]) h4 h5 h5
      unfold longer
      split <;> assumption
    · exact packS_mem S r u c b h4 h2 h3
def packL (l : List Int) : List Int := packS l 0 [] []
theorem packV_top (l : List Int) : packV l 0 [] [] = packL l := by
  have h := packV_is l 0 [] [] []
  have e : longer [] [] = ([] : List Int) := rfl
  rw [e] at h
  rw [h]
  unfold longer packL
  split
  · rfl
  · rename_i hn
    have h0 : (packS l 0 [] []).length = 0 := by simpa using hn
    exact (List.eq_nil_of_length_eq_zero h0).symm
def pkL (g : Int) (l : List Int) : List Int := if isFamB g l then packL l else []
end Go.Proofs.YtelmokapdkepbaaGreatDoor
end
