/- The program's table rows that the walks use. How the laws' arguments are read, and the frame of a law's row. The laws' own copies of slices and structs. The laws' own sizes and equalities. -/
import Derived.Test.YtipejodijbjpcaaGreatDoorQ01
import Derived.Test.YtipejodijbjpcaaGreatDoorChecked
import Derived.Test.YtipejodijbjpcaaGreatDoorRows
import Derived.WalkKit
import Derived.ProofKit
import Derived.OpenShut
import Derived.Lib.SmallJoins
import Derived.Deep.Light
section
namespace Go.Proofs.YtipejodijbjpcaaGreatDoor
open Go.RowKit Go.G5
theorem intElem : IntElem Tryz.prog 3 := ⟨by kernel_rfl⟩
end Go.Proofs.YtipejodijbjpcaaGreatDoor
end
section
namespace Go.Proofs.YtipejodijbjpcaaGreatDoor
open Go.ChangeShapes Go.WideShapes Go.ChangeAt Go.RowKit Go.G5
set_option maxRecDepth 100000

theorem own : ownKnob Tryz.prog.godebug = none := by kernel_rfl
theorem laidOut : laidOutB Tryz.prog = true := by kernel_rfl

theorem cells_int : Tryz.prog.cellsOf 3 = 1 := by kernel_rfl

theorem inR_of_wf {n : Int} (h : (Lit.int .i64 n).wf = true) : InR n := by
  simp only [Lit.wf, Bool.and_eq_true, decide_eq_true_eq] at h
  have h1 := h.1
  have h2 := h.2
  simp [IntKind.min, IntKind.max, IntKind.signed, IntKind.bits] at h1 h2
  exact ⟨by omega, by omega⟩

section
variable {H : Type} {enc : TypeId × Value → H} {P : Program} {w : World} {base : Nat} {spare : Nat → Bool} {held : Bool}

theorem rdc_int {t : TypeId} {fuel : Nat} {c : Value} {x : DataW H × List MemPlace} (ht : P.underlying t = some (.int .i64)) (h : DataW.trod enc P w base spare held fuel t [c] = some x) : ∃ n, c = .int .i64 n ∧ InR n := by
  obtain ⟨n, h1, _, h2⟩ := DataW.trod_int ht h
  simp at h1
  exact ⟨n, h1, inR_of_wf h2⟩

theorem lt_of_cell {w : World} {a : Addr} {v : Value} (h : w.cell? a = some v) : a.block < w.heap.size := World.block_lt_of_cell? w a h
theorem spot_of_cell {w : World} {a : Addr} {v : Value} (h : w.cell? a = some v) : a.spot = none := by
  unfold World.cell? at h
  split at h
  · split at h
    · simp at h
    · rename_i h'; simpa using h'
  · simp at h

theorem rdc_ints {t e : TypeId} {fuel : Nat} {c : Value} {x : DataW H × List MemPlace} (ht : P.underlying t = some (.slice e)) (he : P.underlying e = some (.int .i64)) (hc : P.cellsOf e = 1)
    (h : DataW.trod enc P w base spare held fuel t [c] = some x) : ∃ l, Ints w c l := by
  rcases open_ints ht he hc h with ⟨hcs, _⟩ | ⟨a, len, cap, zs, hcs, _, hlc, hcap, hzl, _, hcell, hwf⟩
  · simp at hcs; subst hcs
    exact ⟨[], none, 0, rfl, Nat.le_refl _, Nat.zero_le _, by simp, .inl rfl⟩
  · simp at hcs; subst hcs
    have hle : len ≤ zs.length := by rw [hzl]; split <;> omega
    have hll : (zs.take len).length = len := by simp; omega
    refine ⟨zs.take len, some a, cap, by rw [hll], by rw [hll]; exact hlc, hcap, fun y hy => inR_of_wf (hwf y (List.mem_of_mem_take hy)), ?_⟩
    by_cases h0 : len = 0
    · left; subst h0; simp
    · right
      have hc0 := hcell 0 (by omega)
      have hs := spot_of_cell hc0
      have hb := lt_of_cell hc0
      simp [Addr.add] at hs hb
      refine ⟨a.block, a.off, by cases a; simp_all, hb, fun k hk => ?_⟩
      rw [hll] at hk
      have := hcell k (by omega)
      have e : (a.add k) = ⟨a.block, a.off + k, none⟩ := by
        unfold Addr.add
        by_cases hk0 : k = 0
        · subst hk0; cases a; simp_all
        · simp [hk0]
      rw [e] at this
      rw [this]
      simp [List.getElem_take, List.getD_eq_getElem?_getD, List.getElem?_eq_getElem (show k < zs.length by omega)]

end

theorem trodAll_len {H : Type} {enc : TypeId × Value → H} {P : Program} {w : World} {base : Nat} {spare : Nat → Bool} {held : Bool} :
    ∀ {ts : List TypeId} {vs : List Value} {ds : List (DataW H)} {ps : List MemPlace}, DataW.TrodAll enc P w base spare held ts vs ds ps → ds.length = ts.length
  | [], _, _, _, h => by
    obtain ⟨rfl, rfl, rfl⟩ := trodAll_nil h
    rfl
  | t :: ts, _, _, _, h => by
    obtain ⟨v, vs1, d, ds1, a, b, rfl, rfl, rfl, h1, h2⟩ := trodAll_cons h
    simp [trodAll_len h2]

/-- every argument reads behind the call as it did -/
theorem trodAll_below {H : Type} {enc : TypeId × Value → H} {P : Program} (hl : laidOutB P = true) {W W' : World} (hb : Below W.heap.size W W') :
    ∀ {ts : List TypeId} {vs : List Value} {ds : List (DataW H)} {ps : List MemPlace}, (ts.all fun t => P.readableRec t && decide (t < P.types.size)) = true →
      DataW.TrodAll enc P W 0 (fun _ => true) true ts vs ds ps → (∀ x ∈ ps, x.block < W.heap.size) → DataW.TrodAll enc P W' 0 (fun b => decide (b < W.heap.size)) true ts vs ds ps
  | [], _, _, _, _, h, _ => by
    obtain ⟨rfl, rfl, rfl⟩ := trodAll_nil h
    exact trodAll_mk0
  | t :: ts, _, _, _, hr, h, hlt => by
    obtain ⟨v, vs1, d, ds1, a, b, rfl, rfl, rfl, h1, h2⟩ := trodAll_cons h
    simp only [List.all_cons, Bool.and_eq_true, decide_eq_true_eq] at hr
    exact trodAll_cons_mk (Below.trod hl hr.1.1 hr.1.2 h1 hb fun x hx => hlt x (by simp [hx])) (trodAll_below hl hb (by simpa using hr.2) h2 fun x hx => hlt x (by simp [hx]))

section
variable {H : Type} {enc : TypeId × Value → H} {W : World} {base : Nat} {v : Value} {d : DataW H} {p : List MemPlace}
theorem rd_int (hv : Value.okWide Tryz.prog W .any base 3 v) (h : DataW.Trod enc Tryz.prog W 0 (fun _ => true) true 3 v d p) : ∃ n, v = .int .i64 n ∧ InR n := by
  obtain ⟨n, rfl, _, _, hw⟩ := open_int Tryz.underlying3 hv h
  exact ⟨n, rfl, inR_of_wf hw⟩
theorem rd_ints (hv : Value.okWide Tryz.prog W .any base 22 v) (h : DataW.Trod enc Tryz.prog W 0 (fun _ => true) true 22 v d p) : ∃ l, Ints W v l := by
  obtain ⟨a, n, c, rfl⟩ := okWide_slice Tryz.underlying22 hv
  obtain ⟨fuel, hf⟩ := h
  exact rdc_ints Tryz.underlying22 Tryz.underlying3 cells_int hf
theorem rdc_fam {fuel : Nat} {c0 c1 : Value} {x : DataW H × List MemPlace} (h : DataW.trod enc Tryz.prog W 0 (fun _ => true) true fuel 24 [c0, c1] = some x) : ∃ n l, c0 = .int .i64 n ∧ InR n ∧ Ints W c1 l := by
  obtain ⟨y0, y1, m, _, _, h0, h1⟩ := trod_struct2 Tryz.underlying24 h
  obtain ⟨n, rfl, hn⟩ := rdc_int Tryz.underlying3 h0
  obtain ⟨l, hl⟩ := rdc_ints Tryz.underlying22 Tryz.underlying3 cells_int h1
  exact ⟨n, l, rfl, hn, hl⟩
theorem rd_fam (hv : Value.okWide Tryz.prog W .any base 24 v) (h : DataW.Trod enc Tryz.prog W 0 (fun _ => true) true 24 v d p) : ∃ n u l, v = .agg #[.int .i64 n, u] ∧ InR n ∧ Ints W u l := by
  obtain ⟨cs, rfl, hsz⟩ := okWide_struct Tryz.underlying24 hv
  obtain ⟨c0, c1, rfl⟩ := Go.Joins.array2 (hsz.trans (show Tryz.prog.cellsOf 24 = 2 by kernel_rfl))
  obtain ⟨fuel, hf⟩ := h
  obtain ⟨n, l, rfl, hn, hl⟩ := rdc_fam hf
  exact ⟨n, c1, l, rfl, hn, hl⟩
theorem array10 {α : Type} {cs : Array α} (h : cs.size = 10) : ∃ c0 c1 c2 c3 c4 c5 c6 c7 c8 c9, cs = #[c0, c1, c2, c3, c4, c5, c6, c7, c8, c9] := by
  obtain ⟨l⟩ := cs
  simp only [List.size_toArray] at h
  match l, h with
  | [c0, c1, c2, c3, c4, c5, c6, c7, c8, c9], _ => exact ⟨c0, c1, c2, c3, c4, c5, c6, c7, c8, c9, rfl⟩
end

/-- THE FRAME OF A LAW's ROW: the call returns true and of old memory nothing turns -/
theorem law_lift {f : FuncId} {fn : Func} {s : ChangeSpec} (os : Os) (started : os.Started) (H : Type) (enc : TypeId × Value → H)
    (hfn : Tryz.prog.funcs[f]? = some fn) (noInit : Tryz.prog.inits.idxOf? f = none) (hv : s.vars = []) (hres : fn.resultTypes = #[4])
    (hread : (fn.params.toList.all fun t => Tryz.prog.readableRec t && decide (t < Tryz.prog.types.size)) = true)
    (hspec : ∀ ds : List (DataW H), ds.length = fn.params.size → s.fn H ds = { results := [.lit (.bool true)], args := ds, vars := [] })
    (witness : ∃ (w : World) (tape : Tape) (i : Input), w.os = os ∧ (w.forCall tape i).Shaped Tryz.prog ∧ i.vars = [] ∧ Input.okWide Tryz.prog (w.forCall tape i) .any w.heap.size f i ∧
      s.pre6 enc Tryz.prog fn [] false (w.forCall tape i).memory i.args ∧ ({} : Assume).holds Tryz.prog (lone (Frame.enter Tryz.prog f i.args .normal) [] (w.forCall tape i)))
    (contract : ∀ (W : World) (base : Nat) (args : Array Value) (ds : List (DataW H)) (p : List MemPlace), (∀ (j : Nat) t v, fn.params[j]? = some t → args[j]? = some v → Value.okWide Tryz.prog W .any base t v) →
      DataW.TrodAll enc Tryz.prog W 0 (fun _ => true) true fn.params.toList args.toList ds p → Calls Tryz.prog f args W fun e W' => e = .returned (.bool true) ∧ Below W.heap.size W W') :
    ReturnsInHanded {} Tryz.checked os f .any (s.pre6 enc Tryz.prog fn [] false) (s.post enc Tryz.prog fn false true false false) := by
  refine returnsInHanded_of_change (C := Tryz.checked) own started noInit hfn witness ?_
  intro W base args ds gs before hval0 hW hcnd _
  have hval : ∀ (j : Nat) t v, fn.params[j]? = some t → args[j]? = some v → Value.okWide Tryz.prog W .any base t v := hval0
  have hlt0 := hW.lt
  have hW' := hW
  obtain ⟨p, q, hA0, hV, rfl, hfz, hnd⟩ := hW
  have hA : DataW.TrodAll enc Tryz.prog W 0 (fun _ => true) true fn.params.toList args.toList ds p := hA0
  rw [hv] at hV
  obtain ⟨rfl, rfl⟩ := trodVars_none hV
  refine (contract W base args ds p hval hA).mono fun e W' ⟨he, hb⟩ => ?_
  have hlen : ds.length = fn.params.size := by
    have := trodAll_len hA
    simpa using this
  refine ⟨_, he, ds, [], p ++ [], [], p, [], hW', ?_, ?_, ?_, hb.frame _, fun h => by cases h⟩
  · rw [List.append_nil, hspec ds hlen, hres]
    exact trodAll_mk1 (shut_bool Tryz.underlying4 true)
  · rw [List.append_nil, hspec ds hlen]
    exact trodAll_below laidOut hb hread hA fun x hx => by simpa using hlt0 x (by simp [hx])
  · rw [List.append_nil, hspec ds hlen, hv]
    exact hV
end Go.Proofs.YtipejodijbjpcaaGreatDoor
end
section
namespace Go.Proofs.YtipejodijbjpcaaGreatDoor
open Go.RowKit Go.G5

set_option maxHeartbeats 400000 in
theorem toIntS_any (v : Value) (l : List Int) (w : World) (hv : Ints w v l) (hl : l.length ≤ 1048576) :
    Calls Tryz.prog 89 #[v] w fun e w' => ∃ ad n c, e = .returned (.slice ad n c) ∧ OwnI 3 w.heap.size w' (.slice ad n c) l ∧ Below w.heap.size w w' := by
  have hr := hv.inR
  obtain ⟨a, b, off, c, rfl, hlen, hix, hc, hb⟩ := hv.view Tryz.prog 22 3 Tryz.underlying22 intElem
  go_enter Tryz.func89, Tryz.ntmps89
  go_wp2_with (at_make; refine wpList_makeI rfl _ _ _ rfl 3 Tryz.underlying22 intElem l.length _ _ rfl rfl rfl rfl (by omega) ?_; intro w1 hown hg)
  have hb1 : Below w.heap.size w w1 := (Below.refl _ _).grown hg (Nat.le_refl _) (by simp)
  have hsz := hb1.size
  go_loopw [4] (fun i wr => ∃ k : Nat, k ≤ l.length ∧ i = .int .i64 k ∧ OwnI 3 w.heap.size wr (.slice (some ⟨w.heap.size, 0, none⟩) l.length l.length) (l.take k ++ List.replicate (l.length - k) 0) ∧ Below w.heap.size w wr)
    (fun i _ => l.length - (intOf i).toNat)
  case atStart => exact ⟨0, Nat.zero_le _, rfl, by simpa using hown, hb1⟩
  case round =>
    obtain ⟨k, hk, rfl, hownr, hbr⟩ := hrel
    have hcr := cells_below hc hb hbr (Nat.le_refl _)
    by_cases hlt : k < l.length
    · have hown2 := hownr.stored (fill_len l k hk).symm k l[k] (hr _ (List.getElem_mem hlt))
      have hcell : ∃ u, wr.cell? ⟨w.heap.size, k, none⟩ = some u := ⟨_, hownr.cellAt (fill_len l k hk).symm k (by rw [fill_len l k hk]; exact hlt)⟩
      obtain ⟨u, hcell⟩ := hcell
      have hfr := hownr.frozenAt (fill_len l k hk).symm k
      rw [fill_step l k hlt] at hown2
      have H := Lib.hid hown2
      clear hown2 hownr hc hr
      go_wp2
      go_roundw
      case rel => exact ⟨k + 1, by omega, by go_num, H.out.1, hbr.grown H.out.2 hbr.size (by simp)⟩
      case measure => simp [intOf]; omega
    · have hkl : k = l.length := by omega
      subst hkl
      rw [fill_done] at hownr
      go_wp2
      go_ret
      exact ⟨_, _, _, rfl, hownr, hbr⟩

set_option maxHeartbeats 400000 in
theorem toFamily_any (n : Int) (v : Value) (l : List Int) (w : World) (hv : Ints w v l) (hl : l.length ≤ 1048576) :
    Calls Tryz.prog 8 #[.agg #[.int .i64 n, v]] w fun e w' => ∃ ad m c, e = .returned (.agg #[.int .i64 n, .slice ad m c]) ∧ OwnI 3 w.heap.size w' (.slice ad m c) l ∧ Below w.heap.size w w' := by
  obtain ⟨av, cv, rfl⟩ := hv.shape
  go_enter Tryz.func8, Tryz.ntmps8
  go_wp2_with (go_at_call 89; refine (toIntS_any _ l _ (hv.below (((Below.refl _ _).alloc (Nat.le_refl _) _).alloc (by first | omega | (simp; done) | (simp; omega)) _ |>.alloc (by first | omega | (simp; done) | (simp; omega)) _) (Nat.le_refl _)) hl).mono ?_; rintro e w1 ⟨ad, m, c, rfl, hown, hb⟩; obtain ⟨hc, hf⟩ := bcell hb; simp at hb; have hz := hb.size; simp at hz)
  simp at hown
  refine bodyPost_ret (v := .agg #[.int .i64 n, .slice ad m c]) (by simp [results, Tryz.results8, go_sem, hc]) rfl ⟨_, _, _, rfl, ?_, ?_⟩
  · exact ((((hown.setBelow (by first | omega | (simp; done) | (simp; omega)) _).setBelow (by first | omega | (simp; done) | (simp; omega)) _).setBelow (by first | omega | (simp; done) | (simp; omega)) _).mono (by omega))
  · refine Below.setCell (Below.setCell (Below.setCell ?_ (by first | omega | (simp; done) | (simp; omega)) _) (by first | omega | (simp; done) | (simp; omega)) _) (by first | omega | (simp; done) | (simp; omega)) _
    exact Below.trans (((Below.refl _ _).alloc (Nat.le_refl _) _).alloc (by first | omega | (simp; done) | (simp; omega)) _ |>.alloc (by first | omega | (simp; done) | (simp; omega)) _) (hb.mono (by omega))

end Go.Proofs.YtipejodijbjpcaaGreatDoor
end
section
namespace Go.Proofs.YtipejodijbjpcaaGreatDoor
open Go.RowKit Go.G5

def szL (left : Int) (n : Nat) : Int := if left - n < 0 then -1 else left - n
theorem szIntS_any (v : Value) (l : List Int) (left : Int) (w : World) (hv : Ints w v l) (h0 : 0 ≤ left) (h1 : left ≤ 1048576) :
    Calls Tryz.prog 71 #[v, .int .i64 left] w fun e w' => e = .returned (.int .i64 (szL left l.length)) ∧ w = w' := by
  obtain ⟨a, b, off, c, rfl, hlen, hix, hc, hb⟩ := hv.view Tryz.prog 22 3 Tryz.underlying22 intElem
  by_cases hlt : left - l.length < 0
  · go_enter Tryz.func71, Tryz.ntmps71
    go_wp2
    go_ret
    exact ⟨ret_int (by unfold szL; rw [if_pos hlt]), rfl⟩
  · go_enter Tryz.func71, Tryz.ntmps71
    go_wp2
    go_ret
    exact ⟨ret_int (by unfold szL; rw [if_neg (by omega)]), rfl⟩

theorem szFamily_any (n : Int) (v : Value) (l : List Int) (left : Int) (w : World) (hv : Ints w v l) (h0 : 0 ≤ left) (h1 : left ≤ 1048576) :
    Calls Tryz.prog 6 #[.agg #[.int .i64 n, v], .int .i64 left] w fun e w' => e = .returned (.int .i64 (szL left l.length)) ∧ Below w.heap.size w w' := by
  obtain ⟨av, cv, rfl⟩ := hv.shape
  by_cases hlt : left - l.length < 0
  · have he : szL left l.length = -1 := by unfold szL; rw [if_pos hlt]
    go_enter Tryz.func6, Tryz.ntmps6
    go_wp2_with (go_at_call 71; refine (szIntS_any _ l _ _ (hv.below ((Below.refl _ _).alloc (Nat.le_refl _) _) (Nat.le_refl _)) h0 h1).mono ?_; rintro e w1 ⟨rfl, rfl⟩)
    go_ret
    exact ⟨ret_int he.symm, (Below.refl _ _).alloc (Nat.le_refl _) _⟩
  · have he : szL left l.length = left - l.length := by unfold szL; rw [if_neg hlt]
    go_enter Tryz.func6, Tryz.ntmps6
    go_wp2_with (go_at_call 71; refine (szIntS_any _ l _ _ (hv.below ((Below.refl _ _).alloc (Nat.le_refl _) _) (Nat.le_refl _)) h0 h1).mono ?_; rintro e w1 ⟨rfl, rfl⟩)
    go_ret
    exact ⟨ret_int he.symm, (Below.refl _ _).alloc (Nat.le_refl _) _⟩

theorem szFamily_c (n : Int) (v : Value) (l : List Int) (left : Int) (w : World) (hv : Ints w v l) (h0 : 0 ≤ left) (h1 : left ≤ 1048576) :
    Calls Tryz.prog 6 #[.agg #[.int .i64 n, v], .int .i64 left] w fun e w' => (∃ r, e = .returned (.int .i64 r) ∧ (r < 0 ∨ (0 ≤ r ∧ r ≤ left ∧ l.length ≤ left))) ∧ Below w.heap.size w w' :=
  (szFamily_any n v l left w hv h0 h1).mono fun e w' ⟨he, hb⟩ => ⟨⟨_, he, by unfold szL; split <;> omega⟩, hb⟩

set_option maxHeartbeats 400000 in
theorem eqIntS_any (v v' : Value) (l l' : List Int) (w : World) (hv : Ints w v l) (hv' : Ints w v' l') :
    Calls Tryz.prog 107 #[v, v'] w fun e w' => e = .returned (.bool (decide (l = l'))) ∧ ∃ n, w' = w.drewN n := by
  obtain ⟨a, b, off, c, rfl, hlen, hix, hc, hb⟩ := hv.view Tryz.prog 22 3 Tryz.underlying22 intElem
  obtain ⟨a', b', off', c', rfl, hlen', hix', hc', hb'⟩ := hv'.view Tryz.prog 22 3 Tryz.underlying22 intElem
  by_cases hll : l.length = l'.length
  · have HL := Lib.hid hll
    have hle1 : l.length ≤ l'.length := by omega
    have hle2 : l'.length ≤ l.length := by omega
    have hb1 : ((l.length : Int) != (l'.length : Int)) = false := by simp [hll]
    clear hll
    go_enter Tryz.func107, Tryz.ntmps107
    go_wp2
    go_loopw [5] (fun i wr => ∃ k n : Nat, k ≤ l.length ∧ i = .int .i64 k ∧ wr = w.drewN n ∧ (∀ j (h : j < l.length) (h' : j < l'.length), j < k → l[j] = l'[j]))
      (fun i _ => l.length - (intOf i).toNat)
    case atStart => exact ⟨0, 0, Nat.zero_le _, rfl, rfl, by intros; omega⟩
    case round =>
      obtain ⟨k, n, hk, rfl, rfl, hall⟩ := hrel
      have H := Lib.hid hall
      clear hall
      by_cases hlt : k < l.length
      · have hlt' : k < l'.length := by omega
        by_cases heq : l[k] = l'[k]
        · have ht : (l[k] != l'[k]) = false := by simp [heq]
          have HQ := Lib.hid heq
          clear heq
          go_wp2
          go_quiet (fail)
          go_wp2
          go_roundw
          case rel =>
            refine ⟨k + 1, _, by omega, by go_num, rfl, fun j h h' hj => ?_⟩
            by_cases hjk : j = k
            · subst hjk; exact HQ.out
            · exact H.out j h h' (by omega)
          case measure => simp [intOf]; omega
        · have ht : (l[k] != l'[k]) = true := by simp [heq]
          have HQ := Lib.hid heq
          clear heq
          go_wp2
          go_quiet (fail)
          go_wp2
          go_ret
          exact ⟨ret_bool (by simp; intro e; subst e; exact HQ.out rfl), ⟨n + nq, by simp⟩⟩
      · have hkl : l.length ≤ k := by omega
        go_wp2
        go_ret
        exact ⟨ret_bool (by simp; exact List.ext_getElem HL.out fun j h h' => H.out j h h' (by omega)), ⟨n, rfl⟩⟩
  · go_enter Tryz.func107, Tryz.ntmps107
    go_wp2
    go_ret
    exact ⟨ret_bool (by simp; intro h; exact hll (by rw [h])), ⟨0, rfl⟩⟩

theorem eqFamily_any (n n' : Int) (v v' : Value) (l l' : List Int) (w : World) (hv : Ints w v l) (hv' : Ints w v' l') :
    Calls Tryz.prog 10 #[.agg #[.int .i64 n, v], .agg #[.int .i64 n', v']] w fun e w' => e = .returned (.bool (decide (n = n') && decide (l = l'))) ∧ Below w.heap.size w w' := by
  obtain ⟨av, cv, rfl⟩ := hv.shape
  obtain ⟨av', cv', rfl⟩ := hv'.shape
  by_cases hn : n = n'
  · subst hn
    go_enter Tryz.func10, Tryz.ntmps10
    go_wp2_with (go_at_call 107; refine (eqIntS_any _ _ l l' _ ((hv.alloc _).alloc _) ((hv'.alloc _).alloc _)).mono ?_; rintro e w1 ⟨rfl, nn, rfl⟩)
    all_goals go_ret
    · exact ⟨ret_bool (by simp_all), (bl2 _ _ _).drewN' _⟩
    · exact ⟨ret_bool (by simp_all), (bl2 _ _ _).drewN' _⟩
  · have hn' : (n != n') = true := by simp [hn]
    go_enter Tryz.func10, Tryz.ntmps10
    go_wp2
    go_ret
    exact ⟨ret_bool (by simp [hn]), (bl2 _ _ _)⟩

set_option maxHeartbeats 400000 in
theorem l2Same_any (v v' : Value) (l l' : List Int) (w : World) (hv : Ints w v l) (hv' : Ints w v' l') :
    Calls Tryz.prog 114 #[v, v'] w fun e w' => e = .returned (.bool (decide (l = l'))) ∧ ∃ n, w' = w.drewN n := by
  obtain ⟨a, b, off, c, rfl, hlen, hix, hc, hb⟩ := hv.view Tryz.prog 22 3 Tryz.underlying22 intElem
  obtain ⟨a', b', off', c', rfl, hlen', hix', hc', hb'⟩ := hv'.view Tryz.prog 22 3 Tryz.underlying22 intElem
  by_cases hll : l.length = l'.length
  · have HL := Lib.hid hll
    have hle1 : l.length ≤ l'.length := by omega
    have hle2 : l'.length ≤ l.length := by omega
    have hb1 : ((l.length : Int) != (l'.length : Int)) = false := by simp [hll]
    clear hll
    go_enter Tryz.func114, Tryz.ntmps114
    go_wp2
    go_loopw [5] (fun i wr => ∃ k n : Nat, k ≤ l.length ∧ i = .int .i64 k ∧ wr = w.drewN n ∧ (∀ j (h : j < l.length) (h' : j < l'.length), j < k → l[j] = l'[j]))
      (fun i _ => l.length - (intOf i).toNat)
    case atStart => exact ⟨0, 0, Nat.zero_le _, rfl, rfl, by intros; omega⟩
    case round =>
      obtain ⟨k, n, hk, rfl, rfl, hall⟩ := hrel
      have H := Lib.hid hall
      clear hall
      by_cases hlt : k < l.length
      · have hlt' : k < l'.length := by omega
        by_cases heq : l[k] = l'[k]
        · have ht : (l[k] != l'[k]) = false := by simp [heq]
          have HQ := Lib.hid heq
          clear heq
          go_wp2
          go_quiet (fail)
          go_wp2
          go_roundw
          case rel =>
            refine ⟨k + 1, _, by omega, by go_num, rfl, fun j h h' hj => ?_⟩
            by_cases hjk : j = k
            · subst hjk; exact HQ.out
            · exact H.out j h h' (by omega)
          case measure => simp [intOf]; omega
        · have ht : (l[k] != l'[k]) = true := by simp [heq]
          have HQ := Lib.hid heq
          clear heq
          go_wp2
          go_quiet (fail)
          go_wp2
          go_ret
          exact ⟨ret_bool (by simp; intro e; subst e; exact HQ.out rfl), ⟨n + nq, by simp⟩⟩
      · have hkl : l.length ≤ k := by omega
        go_wp2
        go_ret
        exact ⟨ret_bool (by simp; exact List.ext_getElem HL.out fun j h h' => H.out j h h' (by omega)), ⟨n, rfl⟩⟩
  · go_enter Tryz.func114, Tryz.ntmps114
    go_wp2
    go_ret
    exact ⟨ret_bool (by simp; intro h; exact hll (by rw [h])), ⟨0, rfl⟩⟩

set_option maxHeartbeats 400000 in
theorem slicesEqual_any (v v' : Value) (l l' : List Int) (w : World) (hv : Ints w v l) (hv' : Ints w v' l') :
    Calls Tryz.prog 124 #[v, v'] w fun e w' => e = .returned (.bool (decide (l = l'))) ∧ ∃ n, w' = w.drewN n := by
  obtain ⟨a, b, off, c, rfl, hlen, hix, hc, hb⟩ := hv.view Tryz.prog 22 3 Tryz.underlying22 intElem
  obtain ⟨a', b', off', c', rfl, hlen', hix', hc', hb'⟩ := hv'.view Tryz.prog 22 3 Tryz.underlying22 intElem
  by_cases hll : l.length = l'.length
  · have HL := Lib.hid hll
    have hle1 : l.length ≤ l'.length := by omega
    have hle2 : l'.length ≤ l.length := by omega
    have hb1 : ((l.length : Int) != (l'.length : Int)) = false := by simp [hll]
    clear hll
    go_enter Tryz.func124, Tryz.ntmps124
    go_wp2
    go_loopw [13] (fun i wr => ∃ k n : Nat, k ≤ l.length ∧ i = .int .i64 k ∧ wr = w.drewN n ∧ (∀ j (h : j < l.length) (h' : j < l'.length), j < k → l[j] = l'[j]))
      (fun i _ => l.length - (intOf i).toNat)
    case atStart => exact ⟨0, 0, Nat.zero_le _, rfl, rfl, by intros; omega⟩
    case round =>
      obtain ⟨k, n, hk, rfl, rfl, hall⟩ := hrel
      have H := Lib.hid hall
      clear hall
      by_cases hlt : k < l.length
      · have hlt' : k < l'.length := by omega
        by_cases heq : l[k] = l'[k]
        · have ht : (l[k] != l'[k]) = false := by simp [heq]
          have HQ := Lib.hid heq
          clear heq
          go_wp2
          go_quiet (fail)
          go_wp2
          go_roundw
          case rel =>
            refine ⟨k + 1, _, by omega, by go_num, rfl, fun j h h' hj => ?_⟩
            by_cases hjk : j = k
            · subst hjk; exact HQ.out
            · exact H.out j h h' (by omega)
          case measure => simp [intOf]; omega
        · have ht : (l[k] != l'[k]) = true := by simp [heq]
          have HQ := Lib.hid heq
          clear heq
          go_wp2
          go_quiet (fail)
          go_wp2
          go_ret
          exact ⟨ret_bool (by simp; intro e; subst e; exact HQ.out rfl), ⟨n + nq, by simp⟩⟩
      · have hkl : l.length ≤ k := by omega
        go_wp2
        go_ret
        exact ⟨ret_bool (by simp; exact List.ext_getElem HL.out fun j h h' => H.out j h h' (by omega)), ⟨n, rfl⟩⟩
  · go_enter Tryz.func124, Tryz.ntmps124
    go_wp2
    go_ret
    exact ⟨ret_bool (by simp; intro h; exact hll (by rw [h])), ⟨0, rfl⟩⟩

theorem equalFamiliesI_any (n n' : Int) (v v' : Value) (l l' : List Int) (w : World) (hv : Ints w v l) (hv' : Ints w v' l') :
    Calls Tryz.prog 213 #[.agg #[.int .i64 n, v], .agg #[.int .i64 n', v']] w fun e w' => e = .returned (.bool (decide (n = n') && decide (l = l'))) ∧ Below w.heap.size w w' := by
  obtain ⟨av, cv, rfl⟩ := hv.shape
  obtain ⟨av', cv', rfl⟩ := hv'.shape
  by_cases hn : n = n'
  · subst hn
    have hnn : (n == n) = true := by simp
    go_enter Tryz.func213, Tryz.ntmps213
    go_wp2_with (go_at_call 124; refine (slicesEqual_any _ _ l l' _ ((hv.alloc _).alloc _) ((hv'.alloc _).alloc _)).mono ?_; rintro e w1 ⟨rfl, nn, rfl⟩)
    go_ret
    exact ⟨ret_bool (by simp), (bl2 _ _ _).drewN' _⟩
  · have hn' : (n == n') = false := by simp [hn]
    go_enter Tryz.func213, Tryz.ntmps213
    go_wp2
    go_ret
    exact ⟨ret_bool (by simp [hn]), (bl2 _ _ _)⟩

theorem equalFamiliesS_any (n n' : Int) (v v' : Value) (l l' : List Int) (w : World) (hv : Ints w v l) (hv' : Ints w v' l') :
    Calls Tryz.prog 30 #[.agg #[.int .i64 n, v], .agg #[.int .i64 n', v']] w fun e w' => e = .returned (.bool (decide (n = n') && decide (l = l'))) ∧ Below w.heap.size w w' := by
  obtain ⟨av, cv, rfl⟩ := hv.shape
  obtain ⟨av', cv', rfl⟩ := hv'.shape
  by_cases hn : n = n'
  · subst hn
    have hnn : (n == n) = true := by simp
    go_enter Tryz.func30, Tryz.ntmps30
    go_wp2_with (go_at_call 114; refine (l2Same_any _ _ l l' _ ((hv.alloc _).alloc _) ((hv'.alloc _).alloc _)).mono ?_; rintro e w1 ⟨rfl, nn, rfl⟩)
    go_ret
    exact ⟨ret_bool (by simp), (bl2 _ _ _).drewN' _⟩
  · have hn' : (n == n') = false := by simp [hn]
    go_enter Tryz.func30, Tryz.ntmps30
    go_wp2
    go_ret
    exact ⟨ret_bool (by simp [hn]), (bl2 _ _ _)⟩

theorem equalFunctionsI_any (n n' : Int) (v v' : Value) (l l' : List Int) (w : World) (hv : Ints w v l) (hv' : Ints w v' l') :
    Calls Tryz.prog 212 #[.agg #[.int .i64 n, v], .agg #[.int .i64 n', v']] w fun e w' => e = .returned (.bool (decide (n = n') && decide (l = l'))) ∧ Below w.heap.size w w' := by
  obtain ⟨av, cv, rfl⟩ := hv.shape
  obtain ⟨av', cv', rfl⟩ := hv'.shape
  by_cases hn : n = n'
  · subst hn
    have hnn : (n == n) = true := by simp
    go_enter Tryz.func212, Tryz.ntmps212
    go_wp2_with (go_at_call 124; refine (slicesEqual_any _ _ l l' _ ((hv.alloc _).alloc _) ((hv'.alloc _).alloc _)).mono ?_; rintro e w1 ⟨rfl, nn, rfl⟩)
    go_ret
    exact ⟨ret_bool (by simp), (bl2 _ _ _).drewN' _⟩
  · have hn' : (n == n') = false := by simp [hn]
    go_enter Tryz.func212, Tryz.ntmps212
    go_wp2
    go_ret
    exact ⟨ret_bool (by simp [hn]), (bl2 _ _ _)⟩

theorem equalFunctionsS_any (n n' : Int) (v v' : Value) (l l' : List Int) (w : World) (hv : Ints w v l) (hv' : Ints w v' l') :
    Calls Tryz.prog 13 #[.agg #[.int .i64 n, v], .agg #[.int .i64 n', v']] w fun e w' => e = .returned (.bool (decide (n = n') && decide (l = l'))) ∧ Below w.heap.size w w' := by
  obtain ⟨av, cv, rfl⟩ := hv.shape
  obtain ⟨av', cv', rfl⟩ := hv'.shape
  by_cases hn : n = n'
  · subst hn
    have hnn : (n == n) = true := by simp
    go_enter Tryz.func13, Tryz.ntmps13
    go_wp2_with (go_at_call 114; refine (l2Same_any _ _ l l' _ ((hv.alloc _).alloc _) ((hv'.alloc _).alloc _)).mono ?_; rintro e w1 ⟨rfl, nn, rfl⟩)
    go_ret
    exact ⟨ret_bool (by simp), (bl2 _ _ _).drewN' _⟩
  · have hn' : (n == n') = false := by simp [hn]
    go_enter Tryz.func13, Tryz.ntmps13
    go_wp2
    go_ret
    exact ⟨ret_bool (by simp [hn]), (bl2 _ _ _)⟩

end Go.Proofs.YtipejodijbjpcaaGreatDoor
end
