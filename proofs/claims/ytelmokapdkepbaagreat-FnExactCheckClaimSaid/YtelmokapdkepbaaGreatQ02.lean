/- The program's table rows that the walks use. How the laws' arguments are read, and the frame of a law's row. The laws' own copies of slices and structs. -/
import Derived.Test.YtelmokapdkepbaaGreatQ01
import Derived.Test.YtelmokapdkepbaaGreatChecked
import Derived.Test.YtelmokapdkepbaaGreatRows
import Derived.WalkKit
import Derived.ProofKit
import Derived.OpenShut
import Derived.Lib.SmallJoins
import Derived.Deep.Light
section
namespace Go.Proofs.YtelmokapdkepbaaGreat
open Go.RowKit Go.G5
theorem intElem : IntElem Tryz.prog 3 := ⟨by kernel_rfl⟩
end Go.Proofs.YtelmokapdkepbaaGreat
end
section
namespace Go.Proofs.YtelmokapdkepbaaGreat
open Go.ChangeShapes Go.WideShapes Go.ChangeAt Go.RowKit Go.G5
set_option maxRecDepth 100000

theorem own : ownKnob Tryz.prog.godebug = none := by kernel_rfl
theorem laidOut : laidOutB Tryz.prog = true := by kernel_rfl

theorem cells_int : Tryz.prog.cellsOf 3 = 1 := by kernel_rfl

theorem inR_of_wf {n : Int} (h : (Lit.int .i64 n).wf = true) : InR n := by
  simp only [Lit.wf, Bool.and_eq_true, decide_eq_true_eq] at h
  have h1 := h.1
  have h2 := h.2
  simp [IntKind.min, IntKind.max, IntKind.signed, IntKind.bits] at h1 h2
  exact ⟨by omega, by omega⟩

section
variable {H : Type} {enc : TypeId × Value → H} {P : Program} {w : World} {base : Nat} {spare : Nat → Bool} {held : Bool}

theorem rdc_int {t : TypeId} {fuel : Nat} {c : Value} {x : DataW H × List MemPlace} (ht : P.underlying t = some (.int .i64)) (h : DataW.trod enc P w base spare held fuel t [c] = some x) : ∃ n, c = .int .i64 n ∧ InR n := by
  obtain ⟨n, h1, _, h2⟩ := DataW.trod_int ht h
  simp at h1
  exact ⟨n, h1, inR_of_wf h2⟩

theorem lt_of_cell {w : World} {a : Addr} {v : Value} (h : w.cell? a = some v) : a.block < w.heap.size := World.block_lt_of_cell? w a h
theorem spot_of_cell {w : World} {a : Addr} {v : Value} (h : w.cell? a = some v) : a.spot = none := by
  unfold World.cell? at h
  split at h
  · split at h
    · simp at h
    · rename_i h'; simpa using h'
  · simp at h

theorem rdc_ints {t e : TypeId} {fuel : Nat} {c : Value} {x : DataW H × List MemPlace} (ht : P.underlying t = some (.slice e)) (he : P.underlying e = some (.int .i64)) (hc : P.cellsOf e = 1)
    (h : DataW.trod enc P w base spare held fuel t [c] = some x) : ∃ l, Ints w c l := by
  rcases open_ints ht he hc h with ⟨hcs, _⟩ | ⟨a, len, cap, zs, hcs, _, hlc, hcap, hzl, _, hcell, hwf⟩
  · simp at hcs; subst hcs
    exact ⟨[], none, 0, rfl, Nat.le_refl _, Nat.zero_le _, by simp, .inl rfl⟩
  · simp at hcs; subst hcs
    have hle : len ≤ zs.length := by rw [hzl]; split <;> omega
    have hll : (zs.take len).length = len := by simp; omega
    refine ⟨zs.take len, some a, cap, by rw [hll], by rw [hll]; exact hlc, hcap, fun y hy => inR_of_wf (hwf y (List.mem_of_mem_take hy)), ?_⟩
    by_cases h0 : len = 0
    · left; subst h0; simp
    · right
      have hc0 := hcell 0 (by omega)
      have hs := spot_of_cell hc0
      have hb := lt_of_cell hc0
      simp [Addr.add] at hs hb
      refine ⟨a.block, a.off, by cases a; simp_all, hb, fun k hk => ?_⟩
      rw [hll] at hk
      have := hcell k (by omega)
      have e : (a.add k) = ⟨a.block, a.off + k, none⟩ := by
        unfold Addr.add
        by_cases hk0 : k = 0
        · subst hk0; cases a; simp_all
        · simp [hk0]
      rw [e] at this
      rw [this]
      simp [List.getElem_take, List.getD_eq_getElem?_getD, List.getElem?_eq_getElem (show k < zs.length by omega)]

end

theorem trodAll_len {H : Type} {enc : TypeId × Value → H} {P : Program} {w : World} {base : Nat} {spare : Nat → Bool} {held : Bool} :
    ∀ {ts : List TypeId} {vs : List Value} {ds : List (DataW H)} {ps : List MemPlace}, DataW.TrodAll enc P w base spare held ts vs ds ps → ds.length = ts.length
  | [], _, _, _, h => by
    obtain ⟨rfl, rfl, rfl⟩ := trodAll_nil h
    rfl
  | t :: ts, _, _, _, h => by
    obtain ⟨v, vs1, d, ds1, a, b, rfl, rfl, rfl, h1, h2⟩ := trodAll_cons h
    simp [trodAll_len h2]

/-- every argument reads behind the call as it did -/
theorem trodAll_below {H : Type} {enc : TypeId × Value → H} {P : Program} (hl : laidOutB P = true) {W W' : World} (hb : Below W.heap.size W W') :
    ∀ {ts : List TypeId} {vs : List Value} {ds : List (DataW H)} {ps : List MemPlace}, (ts.all fun t => P.readableRec t && decide (t < P.types.size)) = true →
      DataW.TrodAll enc P W 0 (fun _ => true) true ts vs ds ps → (∀ x ∈ ps, x.block < W.heap.size) → DataW.TrodAll enc P W' 0 (fun b => decide (b < W.heap.size)) true ts vs ds ps
  | [], _, _, _, _, h, _ => by
    obtain ⟨rfl, rfl, rfl⟩ := trodAll_nil h
    exact trodAll_mk0
  | t :: ts, _, _, _, hr, h, hlt => by
    obtain ⟨v, vs1, d, ds1, a, b, rfl, rfl, rfl, h1, h2⟩ := trodAll_cons h
    simp only [List.all_cons, Bool.and_eq_true, decide_eq_true_eq] at hr
    exact trodAll_cons_mk (Below.trod hl hr.1.1 hr.1.2 h1 hb fun x hx => hlt x (by simp [hx])) (trodAll_below hl hb (by simpa using hr.2) h2 fun x hx => hlt x (by simp [hx]))

section
variable {H : Type} {enc : TypeId × Value → H} {W : World} {base : Nat} {v : Value} {d : DataW H} {p : List MemPlace}
theorem rd_int (hv : Value.okWide Tryz.prog W .any base 3 v) (h : DataW.Trod enc Tryz.prog W 0 (fun _ => true) true 3 v d p) : ∃ n, v = .int .i64 n ∧ InR n := by
  obtain ⟨n, rfl, _, _, hw⟩ := open_int Tryz.underlying3 hv h
  exact ⟨n, rfl, inR_of_wf hw⟩
theorem rd_ints (hv : Value.okWide Tryz.prog W .any base 22 v) (h : DataW.Trod enc Tryz.prog W 0 (fun _ => true) true 22 v d p) : ∃ l, Ints W v l := by
  obtain ⟨a, n, c, rfl⟩ := okWide_slice Tryz.underlying22 hv
  obtain ⟨fuel, hf⟩ := h
  exact rdc_ints Tryz.underlying22 Tryz.underlying3 cells_int hf
theorem rdc_fam {fuel : Nat} {c0 c1 : Value} {x : DataW H × List MemPlace} (h : DataW.trod enc Tryz.prog W 0 (fun _ => true) true fuel 26 [c0, c1] = some x) : ∃ n l, c0 = .int .i64 n ∧ InR n ∧ Ints W c1 l := by
  obtain ⟨y0, y1, m, _, _, h0, h1⟩ := trod_struct2 Tryz.underlying26 h
  obtain ⟨n, rfl, hn⟩ := rdc_int Tryz.underlying3 h0
  obtain ⟨l, hl⟩ := rdc_ints Tryz.underlying22 Tryz.underlying3 cells_int h1
  exact ⟨n, l, rfl, hn, hl⟩
theorem rd_fam (hv : Value.okWide Tryz.prog W .any base 26 v) (h : DataW.Trod enc Tryz.prog W 0 (fun _ => true) true 26 v d p) : ∃ n u l, v = .agg #[.int .i64 n, u] ∧ InR n ∧ Ints W u l := by
  obtain ⟨cs, rfl, hsz⟩ := okWide_struct Tryz.underlying26 hv
  obtain ⟨c0, c1, rfl⟩ := Go.Joins.array2 (hsz.trans (show Tryz.prog.cellsOf 26 = 2 by kernel_rfl))
  obtain ⟨fuel, hf⟩ := h
  obtain ⟨n, l, rfl, hn, hl⟩ := rdc_fam hf
  exact ⟨n, c1, l, rfl, hn, hl⟩
theorem rdc_fun {fuel : Nat} {c0 c1 : Value} {x : DataW H × List MemPlace} (h : DataW.trod enc Tryz.prog W 0 (fun _ => true) true fuel 24 [c0, c1] = some x) : ∃ n l, c0 = .int .i64 n ∧ InR n ∧ Ints W c1 l := by
  obtain ⟨y0, y1, m, _, _, h0, h1⟩ := trod_struct2 Tryz.underlying24 h
  obtain ⟨n, rfl, hn⟩ := rdc_int Tryz.underlying3 h0
  obtain ⟨l, hl⟩ := rdc_ints Tryz.underlying22 Tryz.underlying3 cells_int h1
  exact ⟨n, l, rfl, hn, hl⟩
theorem rd_fun (hv : Value.okWide Tryz.prog W .any base 24 v) (h : DataW.Trod enc Tryz.prog W 0 (fun _ => true) true 24 v d p) : ∃ n u l, v = .agg #[.int .i64 n, u] ∧ InR n ∧ Ints W u l := by
  obtain ⟨cs, rfl, hsz⟩ := okWide_struct Tryz.underlying24 hv
  obtain ⟨c0, c1, rfl⟩ := Go.Joins.array2 (hsz.trans (show Tryz.prog.cellsOf 24 = 2 by kernel_rfl))
  obtain ⟨fuel, hf⟩ := h
  obtain ⟨n, l, rfl, hn, hl⟩ := rdc_fun hf
  exact ⟨n, c1, l, rfl, hn, hl⟩
theorem array10 {α : Type} {cs : Array α} (h : cs.size = 10) : ∃ c0 c1 c2 c3 c4 c5 c6 c7 c8 c9, cs = #[c0, c1, c2, c3, c4, c5, c6, c7, c8, c9] := by
  obtain ⟨l⟩ := cs
  simp only [List.size_toArray] at h
  match l, h with
  | [c0, c1, c2, c3, c4, c5, c6, c7, c8, c9], _ => exact ⟨c0, c1, c2, c3, c4, c5, c6, c7, c8, c9, rfl⟩
theorem rd_claim (hv : Value.okWide Tryz.prog W .any base 28 v) (h : DataW.Trod enc Tryz.prog W 0 (fun _ => true) true 28 v d p) :
    ∃ k n1 u1 l1 n2 u2 l2 n3 u3 l3 q st u4 l4, v = .agg #[.int .i64 k, .int .i64 n1, u1, .int .i64 n2, u2, .int .i64 n3, u3, .int .i64 q, .int .i64 st, u4] ∧ InR k ∧ InR n1 ∧ Ints W u1 l1 ∧ InR n2 ∧ Ints W u2 l2 ∧ InR n3 ∧ Ints W u3 l3 ∧ InR q ∧ InR st ∧ Ints W u4 l4 := by
  obtain ⟨cs, rfl, hsz⟩ := okWide_struct Tryz.underlying28 hv
  obtain ⟨c0, c1, c2, c3, c4, c5, c6, c7, c8, c9, rfl⟩ := array10 (hsz.trans (show Tryz.prog.cellsOf 28 = 10 by kernel_rfl))
  obtain ⟨fuel, hf⟩ := h
  obtain ⟨xs, n, _, _, _, hlen, hf⟩ := DataW.trod_struct Tryz.underlying28 hf
  match xs, hlen with
  | [y0, y1, y2, y3, y4, y5, y6], _ =>
    obtain ⟨k, rfl, hk⟩ := rdc_int (x := y0) Tryz.underlying3 (hf 0 _ rfl)
    obtain ⟨n1, l1, rfl, hn1, hl1⟩ := rdc_fun (x := y1) (hf 1 _ rfl)
    obtain ⟨n2, l2, rfl, hn2, hl2⟩ := rdc_fun (x := y2) (hf 2 _ rfl)
    obtain ⟨n3, l3, rfl, hn3, hl3⟩ := rdc_fam (x := y3) (hf 3 _ rfl)
    obtain ⟨q, rfl, hq⟩ := rdc_int (x := y4) Tryz.underlying3 (hf 4 _ rfl)
    obtain ⟨st, rfl, hst⟩ := rdc_int (x := y5) Tryz.underlying3 (hf 5 _ rfl)
    obtain ⟨l4, hl4⟩ := rdc_ints (x := y6) Tryz.underlying22 Tryz.underlying3 cells_int (hf 6 _ rfl)
    exact ⟨k, n1, c2, l1, n2, c4, l2, n3, c6, l3, q, st, c9, l4, rfl, hk, hn1, hl1, hn2, hl2, hn3, hl3, hq, hst, hl4⟩
end

/-- THE FRAME OF A LAW's ROW: the call returns true and of old memory nothing turns -/
theorem law_lift {f : FuncId} {fn : Func} {s : ChangeSpec} (os : Os) (started : os.Started) (H : Type) (enc : TypeId × Value → H)
    (hfn : Tryz.prog.funcs[f]? = some fn) (noInit : Tryz.prog.inits.idxOf? f = none) (hv : s.vars = []) (hres : fn.resultTypes = #[4])
    (hread : (fn.params.toList.all fun t => Tryz.prog.readableRec t && decide (t < Tryz.prog.types.size)) = true)
    (hspec : ∀ ds : List (DataW H), ds.length = fn.params.size → s.fn H ds = { results := [.lit (.bool true)], args := ds, vars := [] })
    (witness : ∃ (w : World) (tape : Tape) (i : Input), w.os = os ∧ (w.forCall tape i).Shaped Tryz.prog ∧ i.vars = [] ∧ Input.okWide Tryz.prog (w.forCall tape i) .any w.heap.size f i ∧
      s.pre6 enc Tryz.prog fn [] false (w.forCall tape i).memory i.args ∧ ({} : Assume).holds Tryz.prog (lone (Frame.enter Tryz.prog f i.args .normal) [] (w.forCall tape i)))
    (contract : ∀ (W : World) (base : Nat) (args : Array Value) (ds : List (DataW H)) (p : List MemPlace), (∀ (j : Nat) t v, fn.params[j]? = some t → args[j]? = some v → Value.okWide Tryz.prog W .any base t v) →
      DataW.TrodAll enc Tryz.prog W 0 (fun _ => true) true fn.params.toList args.toList ds p → Calls Tryz.prog f args W fun e W' => e = .returned (.bool true) ∧ Below W.heap.size W W') :
    ReturnsInHanded {} Tryz.checked os f .any (s.pre6 enc Tryz.prog fn [] false) (s.post enc Tryz.prog fn false true false false) := by
  refine returnsInHanded_of_change (C := Tryz.checked) own started noInit hfn witness ?_
  intro W base args ds gs before hval0 hW hcnd _
  have hval : ∀ (j : Nat) t v, fn.params[j]? = some t → args[j]? = some v → Value.okWide Tryz.prog W .any base t v := hval0
  have hlt0 := hW.lt
  have hW' := hW
  obtain ⟨p, q, hA0, hV, rfl, hfz, hnd⟩ := hW
  have hA : DataW.TrodAll enc Tryz.prog W 0 (fun _ => true) true fn.params.toList args.toList ds p := hA0
  rw [hv] at hV
  obtain ⟨rfl, rfl⟩ := trodVars_none hV
  refine (contract W base args ds p hval hA).mono fun e W' ⟨he, hb⟩ => ?_
  have hlen : ds.length = fn.params.size := by
    have := trodAll_len hA
    simpa using this
  refine ⟨_, he, ds, [], p ++ [], [], p, [], hW', ?_, ?_, ?_, hb.frame _, fun h => by cases h⟩
  · rw [List.append_nil, hspec ds hlen, hres]
    exact trodAll_mk1 (shut_bool Tryz.underlying4 true)
  · rw [List.append_nil, hspec ds hlen]
    exact trodAll_below laidOut hb hread hA fun x hx => by simpa using hlt0 x (by simp [hx])
  · rw [List.append_nil, hspec ds hlen, hv]
    exact hV
end Go.Proofs.YtelmokapdkepbaaGreat
end
section
namespace Go.Proofs.YtelmokapdkepbaaGreat
open Go.RowKit Go.G5

set_option maxHeartbeats 400000 in
theorem toIntS_any (v : Value) (l : List Int) (w : World) (hv : Ints w v l) (hl : l.length ≤ 1048576) :
    Calls Tryz.prog 34 #[v] w fun e w' => ∃ ad n c, e = .returned (.slice ad n c) ∧ OwnI 3 w.heap.size w' (.slice ad n c) l ∧ Below w.heap.size w w' := by
  have hr := hv.inR
  obtain ⟨a, b, off, c, rfl, hlen, hix, hc, hb⟩ := hv.view Tryz.prog 22 3 Tryz.underlying22 intElem
  go_enter Tryz.func34, Tryz.ntmps34
  go_wp2_with (at_make; refine wpList_makeI rfl _ _ _ rfl 3 Tryz.underlying22 intElem l.length _ _ rfl rfl rfl rfl (by omega) ?_; intro w1 hown hg)
  have hb1 : Below w.heap.size w w1 := (Below.refl _ _).grown hg (Nat.le_refl _) (by simp)
  have hsz := hb1.size
  go_loopw [4] (fun i wr => ∃ k : Nat, k ≤ l.length ∧ i = .int .i64 k ∧ OwnI 3 w.heap.size wr (.slice (some ⟨w.heap.size, 0, none⟩) l.length l.length) (l.take k ++ List.replicate (l.length - k) 0) ∧ Below w.heap.size w wr)
    (fun i _ => l.length - (intOf i).toNat)
  case atStart => exact ⟨0, Nat.zero_le _, rfl, by simpa using hown, hb1⟩
  case round =>
    obtain ⟨k, hk, rfl, hownr, hbr⟩ := hrel
    have hcr := cells_below hc hb hbr (Nat.le_refl _)
    by_cases hlt : k < l.length
    · have hown2 := hownr.stored (fill_len l k hk).symm k l[k] (hr _ (List.getElem_mem hlt))
      have hcell : ∃ u, wr.cell? ⟨w.heap.size, k, none⟩ = some u := ⟨_, hownr.cellAt (fill_len l k hk).symm k (by rw [fill_len l k hk]; exact hlt)⟩
      obtain ⟨u, hcell⟩ := hcell
      have hfr := hownr.frozenAt (fill_len l k hk).symm k
      rw [fill_step l k hlt] at hown2
      have H := Lib.hid hown2
      clear hown2 hownr hc hr
      go_wp2
      go_roundw
      case rel => exact ⟨k + 1, by omega, by go_num, H.out.1, hbr.grown H.out.2 hbr.size (by simp)⟩
      case measure => simp [intOf]; omega
    · have hkl : k = l.length := by omega
      subst hkl
      rw [fill_done] at hownr
      go_wp2
      go_ret
      exact ⟨_, _, _, rfl, hownr, hbr⟩

set_option maxHeartbeats 400000 in
theorem toFamily_any (n : Int) (v : Value) (l : List Int) (w : World) (hv : Ints w v l) (hl : l.length ≤ 1048576) :
    Calls Tryz.prog 33 #[.agg #[.int .i64 n, v]] w fun e w' => ∃ ad m c, e = .returned (.agg #[.int .i64 n, .slice ad m c]) ∧ OwnI 3 w.heap.size w' (.slice ad m c) l ∧ Below w.heap.size w w' := by
  obtain ⟨av, cv, rfl⟩ := hv.shape
  go_enter Tryz.func33, Tryz.ntmps33
  go_wp2_with (go_at_call 34; refine (toIntS_any _ l _ (hv.below (((Below.refl _ _).alloc (Nat.le_refl _) _).alloc (by first | omega | (simp; done) | (simp; omega)) _ |>.alloc (by first | omega | (simp; done) | (simp; omega)) _) (Nat.le_refl _)) hl).mono ?_; rintro e w1 ⟨ad, m, c, rfl, hown, hb⟩; obtain ⟨hc, hf⟩ := bcell hb; simp at hb; have hz := hb.size; simp at hz)
  simp at hown
  refine bodyPost_ret (v := .agg #[.int .i64 n, .slice ad m c]) (by simp [results, Tryz.results33, go_sem, hc]) rfl ⟨_, _, _, rfl, ?_, ?_⟩
  · exact ((((hown.setBelow (by first | omega | (simp; done) | (simp; omega)) _).setBelow (by first | omega | (simp; done) | (simp; omega)) _).setBelow (by first | omega | (simp; done) | (simp; omega)) _).mono (by omega))
  · refine Below.setCell (Below.setCell (Below.setCell ?_ (by first | omega | (simp; done) | (simp; omega)) _) (by first | omega | (simp; done) | (simp; omega)) _) (by first | omega | (simp; done) | (simp; omega)) _
    exact Below.trans (((Below.refl _ _).alloc (Nat.le_refl _) _).alloc (by first | omega | (simp; done) | (simp; omega)) _ |>.alloc (by first | omega | (simp; done) | (simp; omega)) _) (hb.mono (by omega))

set_option maxHeartbeats 400000 in
theorem toFunction_any (n : Int) (v : Value) (l : List Int) (w : World) (hv : Ints w v l) (hl : l.length ≤ 1048576) :
    Calls Tryz.prog 32 #[.agg #[.int .i64 n, v]] w fun e w' => ∃ ad m c, e = .returned (.agg #[.int .i64 n, .slice ad m c]) ∧ OwnI 3 w.heap.size w' (.slice ad m c) l ∧ Below w.heap.size w w' := by
  obtain ⟨av, cv, rfl⟩ := hv.shape
  go_enter Tryz.func32, Tryz.ntmps32
  go_wp2_with (go_at_call 34; refine (toIntS_any _ l _ (hv.below (((Below.refl _ _).alloc (Nat.le_refl _) _).alloc (by first | omega | (simp; done) | (simp; omega)) _ |>.alloc (by first | omega | (simp; done) | (simp; omega)) _) (Nat.le_refl _)) hl).mono ?_; rintro e w1 ⟨ad, m, c, rfl, hown, hb⟩; obtain ⟨hc, hf⟩ := bcell hb; simp at hb; have hz := hb.size; simp at hz)
  simp at hown
  refine bodyPost_ret (v := .agg #[.int .i64 n, .slice ad m c]) (by simp [results, Tryz.results32, go_sem, hc]) rfl ⟨_, _, _, rfl, ?_, ?_⟩
  · exact ((((hown.setBelow (by first | omega | (simp; done) | (simp; omega)) _).setBelow (by first | omega | (simp; done) | (simp; omega)) _).setBelow (by first | omega | (simp; done) | (simp; omega)) _).mono (by omega))
  · refine Below.setCell (Below.setCell (Below.setCell ?_ (by first | omega | (simp; done) | (simp; omega)) _) (by first | omega | (simp; done) | (simp; omega)) _) (by first | omega | (simp; done) | (simp; omega)) _
    exact Below.trans (((Below.refl _ _).alloc (Nat.le_refl _) _).alloc (by first | omega | (simp; done) | (simp; omega)) _ |>.alloc (by first | omega | (simp; done) | (simp; omega)) _) (hb.mono (by omega))

end Go.Proofs.YtelmokapdkepbaaGreat
end
