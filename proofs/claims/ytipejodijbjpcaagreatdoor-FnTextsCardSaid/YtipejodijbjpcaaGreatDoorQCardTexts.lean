/- The frame of a law's row whose condition lays the library's tables. The frame of a law's row whose condition lays the library's tables, with the world's shape handed on. The statement FnTexts: for every input the call returns true and each argument reads as it did. No condition. The card of FnTexts: for every input the call returns true and each argument reads as it did. No condition. -/
import Derived.Test.YtipejodijbjpcaaGreatDoorQ39
import Derived.LaidMore
import Derived.Stop.LaidErr
import Derived.Stop.Joined
import Derived.MakeChecks
import Derived.ChangeMaps5
import Derived.Lay
import Derived.Test.YtipejodijbjpcaaGreatDoorCards
import Derived.Test.YtipejodijbjpcaaGreatDoorTie
import Derived.SevenTiedAt
section
namespace Go.Proofs.YtipejodijbjpcaaGreatDoor
open Go.ChangeShapes Go.WideShapes Go.ChangeAt Go.RowKit Go.G5
set_option maxRecDepth 100000

end Go.Proofs.YtipejodijbjpcaaGreatDoor
end
section
namespace Go.Proofs.YtipejodijbjpcaaGreatDoor
open Go.ChangeShapes Go.WideShapes Go.ChangeAt Go.RowKit Go.G5
set_option maxRecDepth 100000

/-- THE FRAME OF A LAW's ROW, with tables laid and the world's shape: the call returns true and of old memory nothing turns -/
theorem law_lift_shaped {f : FuncId} {fn : Func} {s : ChangeSpec} (laid : List (String × DataW Unit)) (os : Os) (started : os.Started) (H : Type) (enc : TypeId × Value → H)
    (hfn : Tryz.prog.funcs[f]? = some fn) (noInit : Tryz.prog.inits.idxOf? f = none) (hv : s.vars = []) (hres : fn.resultTypes = #[4])
    (hread : (fn.params.toList.all fun t => Tryz.prog.readableRec t && decide (t < Tryz.prog.types.size)) = true)
    (hspec : ∀ ds : List (DataW H), ds.length = fn.params.size → s.fn H ds = { results := [.lit (.bool true)], args := ds, vars := [] })
    (witness : ∃ (w : World) (tape : Tape) (i : Input), w.os = os ∧ (w.forCall tape i).Shaped Tryz.prog ∧ i.vars = [] ∧ Input.okWide Tryz.prog (w.forCall tape i) .any w.heap.size f i ∧
      ((s.pre enc Tryz.prog fn [] false (w.forCall tape i).memory i.args ∧ laidMetH Tryz.prog laid (w.forCall tape i).memory) ∧ sizedMet enc Tryz.prog fn (OpenSpec.ofChange s) false (w.forCall tape i).memory i.args) ∧ ({} : Assume).holds Tryz.prog (lone (Frame.enter Tryz.prog f i.args .normal) [] (w.forCall tape i)))
    (contract : ∀ (W : World) (base : Nat) (args : Array Value) (ds : List (DataW H)) (p : List MemPlace), (∀ (j : Nat) t v, fn.params[j]? = some t → args[j]? = some v → Value.okWide Tryz.prog W .any base t v) →
      DataW.TrodAll enc Tryz.prog W 0 (fun _ => true) true fn.params.toList args.toList ds p → laidMetH Tryz.prog laid W → W.ShapedOpen Tryz.prog → Calls Tryz.prog f args W fun e W' => e = .returned (.bool true) ∧ Below W.heap.size W W') :
    ReturnsInHanded {} Tryz.checked os f .any (fun w args => (s.pre enc Tryz.prog fn [] false w args ∧ laidMetH Tryz.prog laid w) ∧ sizedMet enc Tryz.prog fn (OpenSpec.ofChange s) false w args) (s.post enc Tryz.prog fn false true false false) := by
  refine returnsInHanded_of_calls (C := Tryz.checked) own started noInit witness ?_
  intro w tape i _ hsh _ hok hpre _
  obtain ⟨_, _, _, fn', hfn', _, _, _, _, hval0⟩ := hok
  have e : fn' = fn := Option.some.inj (hfn'.symm.trans hfn)
  subst e
  obtain ⟨⟨⟨ds, gs, before, hw, _⟩, hx⟩, _⟩ := hpre
  have hW := DataW.Whole.of_heap (w' := w.forCall tape i) (by rfl) hw
  have hL : laidMetH Tryz.prog laid (w.forCall tape i) := laidMetH.of_heap (by rfl) hx
  obtain ⟨W, hWd⟩ : ∃ W, W = w.forCall tape i := ⟨_, rfl⟩
  have hval : ∀ (j : Nat) t v, fn'.params[j]? = some t → i.args[j]? = some v → Value.okWide Tryz.prog W .any w.heap.size t v := by rw [hWd]; exact hval0
  rw [← hWd] at hW hL hsh ⊢
  have hlt0 := hW.lt
  have hW' := hW
  obtain ⟨p, q, hA0, hV, rfl, hfz, hnd⟩ := hW
  have hA : DataW.TrodAll enc Tryz.prog W 0 (fun _ => true) true fn'.params.toList i.args.toList ds p := hA0
  rw [hv] at hV
  obtain ⟨rfl, rfl⟩ := trodVars_none hV
  refine (contract W w.heap.size i.args ds p hval hA hL hsh).mono fun e W' ⟨he, hb⟩ => ?_
  have hlen : ds.length = fn'.params.size := by
    have := trodAll_len hA
    simpa using this
  subst he
  refine ChangeSpec.post_blind (?_ : s.post enc Tryz.prog fn' false true false false W i.args (.bool true) W')
  refine ⟨ds, [], p ++ [], [], p, [], hW', ?_, ?_, ?_, hb.frame _, fun h => by cases h⟩
  · rw [List.append_nil, hspec ds hlen, hres]
    exact trodAll_mk1 (shut_bool Tryz.underlying4 true)
  · rw [List.append_nil, hspec ds hlen]
    exact trodAll_below laidOut hb hread hA fun x hx => by simpa using hlt0 x (by simp [hx])
  · rw [List.append_nil, hspec ds hlen, hv]
    exact hV
theorem maxl_of_shaped {W : World} (h : W.ShapedOpen Tryz.prog) : MaxL W := sh_laysM146.s1_3 W h
theorem pow_of_third' {W : World} {a b : String × DataW Unit} {r : List (String × DataW Unit)} (h : laidMet Tryz.prog (a :: b :: ("internal/strconv.uint64pow10", Lib.tabData .u64 Lib.pow10Tab) :: r) W) : Pow W :=
  Lib.tabIs_of_head (g := 3) (t := 256) (e := 163) (n := 20) (by kernel_rfl) (by kernel_rfl) (by kernel_rfl) (by kernel_rfl) (by kernel_rfl) (by kernel_rfl) (laidMet.tail (laidMet.tail h))
end Go.Proofs.YtipejodijbjpcaaGreatDoor
end
section
namespace Go.Proofs.YtipejodijbjpcaaGreatDoor
open Go.ChangeShapes Go.WideShapes Go.ChangeAt Go.RowKit Go.G5
theorem fnTexts_params : Tryz.f4.params = #[9, 3, 9] := by kernel_rfl
theorem fnTexts_door (os : Os) (args : Array Value) : laidMetH Tryz.prog Rows.fnTextsRow.laid ((World.laidAll Tryz.prog os Rows.fnTextsRow.laid).forCall (fun _ _ => 0) ⟨#[], args, []⟩).memory := by
  rw [MakeChecks.laidMetH_plain _ _ _ (by kernel_rfl)]
  exact laidMet_laidAll _ (by kernel_rfl) (by kernel_rfl)
theorem fnTexts_pow {W : World} (h : laidMetH Tryz.prog Rows.fnTextsRow.laid W) : Pow W := by
  rw [MakeChecks.laidMetH_plain _ _ _ (by kernel_rfl)] at h
  exact pow_of_third' h
set_option maxRecDepth 100000 in
theorem fnTexts_lifted (os : Os) (started : os.Started) (H : Type) (enc : TypeId × Value → H) :
    ReturnsInHanded {} Tryz.checked os 4 .any (fun w args => (Rows.fnTextsSpec.pre enc Tryz.prog Tryz.f4 Rows.fnTextsRow.domain false w args ∧ laidMetH Tryz.prog Rows.fnTextsRow.laid w) ∧ sizedMet enc Tryz.prog Tryz.f4 (OpenSpec.ofChange Rows.fnTextsSpec) false w args) (Rows.fnTextsSpec.post enc Tryz.prog Tryz.f4 false true false false) := by
  refine law_lift_shaped Rows.fnTextsRow.laid os started H enc Tryz.func4 (by kernel_rfl) rfl (by kernel_rfl) (by kernel_rfl) ?_
    (ChangeSpec.witness_shaped (enc := enc) (C := Tryz.checked) (os := os) (X := fun w _ => laidMetH Tryz.prog Rows.fnTextsRow.laid w) false (World.laidAll Tryz.prog os Rows.fnTextsRow.laid) #[.string ByteArray.empty, .int .i64 0, .string ByteArray.empty] 8 rfl (World.shaped_of_ZipB (by kernel_rfl) (by kernel_rfl)) (by kernel_rfl) (by kernel_rfl) (by kernel_rfl) (fnTexts_door os _)) ?_
  · intro ds hds
    rw [fnTexts_params] at hds
    match ds, hds with
    | [d0, d1, d2], _ => rfl
  · intro W base args ds p hval hA hL hsh
    rw [fnTexts_params] at hA hval
    obtain ⟨v0, vs0, d0, ds0, p0, q0, hargs, rfl, rfl, h0, r0⟩ := trodAll_cons hA
    obtain ⟨v1, vs1, d1, ds1, p1, q1, rfl, rfl, rfl, h1, r1⟩ := trodAll_cons r0
    obtain ⟨v2, vs2, d2, ds2, p2, q2, rfl, rfl, rfl, h2, r2⟩ := trodAll_cons r1
    obtain ⟨rfl, rfl, rfl⟩ := trodAll_nil r2
    obtain rfl : args = #[v0, v1, v2] := by cases args; simp_all
    obtain ⟨s0, rfl, _⟩ := Go.ChangeMaps.open_string Tryz.underlying9 (hval 0 9 v0 rfl rfl) h0
    obtain ⟨n1, rfl, _⟩ := rd_int (hval 1 3 v1 rfl rfl) h1
    obtain ⟨s2, rfl, _⟩ := Go.ChangeMaps.open_string Tryz.underlying9 (hval 2 9 v2 rfl rfl) h2
    exact texts_walk W s0 s2 n1 (fnTexts_pow hL) (maxl_of_shaped hsh)

end Go.Proofs.YtipejodijbjpcaaGreatDoor
end
section
namespace Go.Proofs.YtipejodijbjpcaaGreatDoor
open Go.ChangeShapes Go.WideShapes Go.ChangeAt Go.RowKit Go.G5
theorem fnTexts_and {a b : Bool} (ha : a = true) (hb : b = true) : (a && b) = true := by rw [ha, hb]; rfl
theorem fnTexts_j0 : (Rows.fnTextsRow.wf (OpenSpec.ofChange Rows.fnTextsSpec)) = true := by kernel_rfl
theorem fnTexts_j1 : (laidOutB Tryz.prog) = true := by kernel_rfl
theorem fnTexts_j2 : (mapsRowed Tryz.prog) = true := by kernel_rfl
theorem fnTexts_j3 : (Tryz.f4.params.all (Tryz.prog.readableRec ·)) = true := by kernel_rfl
theorem fnTexts_j4 : (namedTie Tryz.prog Rows.fnTextsRow.named Rows.fnTextsSpec.vars) = true := by kernel_rfl
theorem fnTexts_j5 : ((Rows.fnTextsRow.stops == [])) = true := by kernel_rfl
theorem fnTexts_j6 : ((Tryz.prog.stops == [])) = true := by kernel_rfl
theorem fnTexts_j7 : ((Rows.fnTextsRow.knobs == [])) = true := by kernel_rfl
theorem fnTexts_j8 : ((Tryz.prog.stopKnobs == [])) = true := by kernel_rfl
theorem fnTexts_j9 : ((Rows.fnTextsRow.inPlace == Tryz.prog.inPlace 4)) = true := by kernel_rfl
theorem fnTexts_j10 : ((Rows.fnTextsRow.unfollowed == Tryz.prog.unfollowed 4)) = true := by kernel_rfl
theorem fnTexts_j11 : ((Rows.fnTextsRow.recurses == Tryz.prog.recurses 4)) = true := by kernel_rfl
theorem fnTexts_j12 : ((Rows.fnTextsRow.named == Tryz.prog.varsNamed 4)) = true := by kernel_rfl
theorem fnTexts_j13 : ((Rows.fnTextsRow.maps == (Tryz.f4.params.toList ++ Rows.fnTextsSpec.plain.varTypes Tryz.prog).any (Tryz.prog.mapsRec ·))) = true := by kernel_rfl
theorem fnTexts_j14 : ((Rows.fnTextsRow.ifaces == (Tryz.f4.params.toList ++ Rows.fnTextsSpec.plain.varTypes Tryz.prog).any (Tryz.prog.ifacesRec ·))) = true := by kernel_rfl
theorem fnTexts_j15 : ((Rows.fnTextsRow.mapsOut == Tryz.prog.mapsAmong Tryz.f4.resultTypes.toList)) = true := by kernel_rfl
theorem fnTexts_j16 : ((Rows.fnTextsRow.loops == (Tryz.f4.params.toList ++ Rows.fnTextsSpec.plain.varTypes Tryz.prog).any (Tryz.prog.loopsFrom ·))) = true := by kernel_rfl
theorem fnTexts_j17 : ((Rows.fnTextsRow.wideKeys == (Tryz.f4.params.toList ++ Rows.fnTextsSpec.plain.varTypes Tryz.prog ++ Tryz.f4.resultTypes.toList).any (Tryz.prog.wideKeysFrom ·))) = true := by kernel_rfl
theorem fnTexts_j18 : (Rows.fnTextsSpec.vars.all (Tryz.prog.varReadable ·)) = true := by kernel_rfl
theorem fnTexts_j19 : (Tryz.f4.resultTypes.all (fun t => Tryz.prog.readableRec t && decide (t < Tryz.prog.types.size))) = true := by kernel_rfl
theorem fnTexts_j20 : ((Rows.fnTextsRow.ifacesOut == Tryz.f4.resultTypes.toList.any (Tryz.prog.ifacesRec ·))) = true := by kernel_rfl
theorem fnTexts_j21 : ((Rows.fnTextsRow.loopsOut == Tryz.f4.resultTypes.toList.any (Tryz.prog.loopsFrom ·))) = true := by kernel_rfl
theorem fnTexts_j22 : ((Rows.fnTextsRow.plainKeys == Tryz.prog.plainKeys)) = true := by kernel_rfl
theorem fnTexts_j23 : (Rows.fnTextsRow.shortTexts.isNone) = true := by kernel_rfl
theorem fnTexts_j24 : (Tryz.prog.stopsHeard) = true := by kernel_rfl
theorem fnTexts_j25 : (Tryz.prog.mayEnter) = true := by kernel_rfl
theorem fnTexts_j26 : ((Rows.fnTextsRow.lifted == Tryz.prog.liftsFinal)) = true := by kernel_rfl
theorem fnTexts_j27 : ((Tryz.prog.make == some Rows.fnTextsRow.make)) = true := by kernel_rfl
theorem fnTexts_j28 : ((Rows.fnTextsRow.kinds == (if Rows.fnTextsRow.domain.isEmpty then [] else Tryz.f4.params.toList.map fun t => match Tryz.prog.underlying t with | some (.int k) => some k | _ => none))) = true := by kernel_rfl
theorem fnTexts_j29 : ((Rows.fnTextsRow.pinned == Rows.fnTextsRow.pinnedBy)) = true := by kernel_rfl
theorem fnTexts_j30 : ((Rows.fnTextsRow.veiled == (Tryz.f4.params.toList ++ Rows.fnTextsSpec.plain.varTypes Tryz.prog ++ Tryz.f4.resultTypes.toList).any (Tryz.prog.veiledRec ·))) = true := by kernel_rfl
theorem fnTexts_j31 : (Rows.fnTextsRow.veiledFits Tryz.prog Tryz.f4.params.toList (Tryz.f4.params.toList ++ Rows.fnTextsSpec.plain.varTypes Tryz.prog ++ Tryz.f4.resultTypes.toList)) = true := by kernel_rfl
set_option maxRecDepth 100000 in
theorem fnTexts_closed : joinedFacts Tryz.prog 4 Tryz.f4 Rows.fnTextsSpec Rows.fnTextsRow = true := by
  unfold joinedFacts
  exact fnTexts_and (fnTexts_and (fnTexts_and (fnTexts_and (fnTexts_and (fnTexts_and (fnTexts_and (fnTexts_and (fnTexts_and (fnTexts_and (fnTexts_and (fnTexts_and (fnTexts_and (fnTexts_and (fnTexts_and (fnTexts_and (fnTexts_and (fnTexts_and (fnTexts_and (fnTexts_and (fnTexts_and (fnTexts_and (fnTexts_and (fnTexts_and (fnTexts_and (fnTexts_and (fnTexts_and (fnTexts_and (fnTexts_and (fnTexts_and (fnTexts_and (fnTexts_j0) fnTexts_j1) fnTexts_j2) fnTexts_j3) fnTexts_j4) fnTexts_j5) fnTexts_j6) fnTexts_j7) fnTexts_j8) fnTexts_j9) fnTexts_j10) fnTexts_j11) fnTexts_j12) fnTexts_j13) fnTexts_j14) fnTexts_j15) fnTexts_j16) fnTexts_j17) fnTexts_j18) fnTexts_j19) fnTexts_j20) fnTexts_j21) fnTexts_j22) fnTexts_j23) fnTexts_j24) fnTexts_j25) fnTexts_j26) fnTexts_j27) fnTexts_j28) fnTexts_j29) fnTexts_j30) fnTexts_j31
theorem fnTexts_named : Tryz.prog.funcNamed Rows.fnTextsRow.func = some 4 := by kernel_rfl
theorem fnTexts_inst : Tryz.f4.isInstance Tryz.prog Rows.fnTextsRow.origin Rows.fnTextsRow.targs := of_decide_eq_true (by kernel_rfl)
theorem fnTexts_wrap : Tryz.f4.isWrapper Tryz.prog Rows.fnTextsRow.wrapper Rows.fnTextsRow.mainSum := by unfold Func.isWrapper; first | (rw [if_pos (by decide +kernel)]; kernel_rfl) | (rw [if_neg (by decide +kernel)]; exact ⟨rfl, rfl⟩)
theorem fnTexts_holds : Rows.FnTextsSaid :=
  OpenClaim.holds_of_wide 4 Tryz.f4 rfl rfl rfl rfl rfl rfl rfl ⟨rfl, rfl, rfl, rfl, rfl⟩ rfl rfl rfl rfl rfl fnTexts_named Tryz.func4 fnTexts_closed fnTexts_inst fnTexts_wrap
    (fun os started H enc _ => fnTexts_lifted os started H enc)
theorem fnTexts_w : Rows.fnTextsRow.wfByText (OpenSpec.ofChange Rows.fnTextsSpec) = true := by kernel_rfl
theorem fnTexts_main : Tryz.prog.mainIs = some (Rows.fnTextsCard.stood.harness.1, Rows.fnTextsCard.stood.harness.2.toList) := by kernel_rfl
theorem fnTexts_looks : false = Tryz.prog.looks [] := by kernel_rfl
theorem fnTexts_stand : ([9, 3, 9].all fun u => !Tryz.prog.wantsStandIn u) = true := by kernel_rfl
theorem fnTexts_goes : false = Rows.fnTextsRow.goesBy Tryz.prog := by kernel_rfl
theorem fnTexts_card : Rows.FnTextsCardSaid :=
  Claim7.holds_tied_plain_at .later [] [.data, .data, .data, .data, .pinned] true _ false
    fnTexts_holds (fun _ h => by cases h) fnTexts_w (fun _ h => by cases h) fnTexts_row_tie rfl ⟨rfl, rfl⟩ fnTexts_main rfl
    (fun f fn hf hfn => by
      obtain rfl : f = 4 := Option.some.inj (fnTexts_named.symm.trans hf) |>.symm
      obtain rfl : fn = Tryz.f4 := (Option.some.inj (Tryz.func4.symm.trans hfn)).symm
      exact ⟨fnTexts_looks, fun j t ht => by
        rw [fnTexts_params] at ht
        have hm : t ∈ [9, 3, 9] := by simpa using Array.mem_of_getElem? ht
        exact (show Tryz.prog.wantsStandIn t = false by simpa using List.all_eq_true.1 fnTexts_stand t hm)⟩)
    fnTexts_goes
end Go.Proofs.YtipejodijbjpcaaGreatDoor
end
