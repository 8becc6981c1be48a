/- The card of FnClaims: for every input the call returns true and each argument reads as it did. No condition. -/
import Derived.Test.YtipejodijbjpcaaGreatDoorQ51
import Derived.Test.YtipejodijbjpcaaGreatDoorFactClaims
import Derived.Test.YtipejodijbjpcaaGreatDoorCards
import Derived.Test.YtipejodijbjpcaaGreatDoorTie
import Derived.SevenTiedAt
namespace Go.Proofs.YtipejodijbjpcaaGreatDoor
open Go.ChangeShapes Go.WideShapes Go.ChangeAt Go.RowKit Go.G5
theorem fnClaims_holds : Rows.FnClaimsSaid :=
  OpenClaim.holds_of_wide 5 Tryz.f5 rfl rfl rfl rfl rfl rfl rfl ⟨rfl, rfl, rfl, rfl, rfl⟩ rfl rfl rfl rfl rfl fnClaims_named Tryz.func5 fnClaims_closed fnClaims_inst fnClaims_wrap
    (fun os started H enc _ => AP os started H enc)
theorem fnClaims_card : Rows.FnClaimsCardSaid :=
  Claim7.holds_tied_plain_at .later [] [.data, .data, .data] true _ false
    fnClaims_holds (fun _ h => by cases h) fnClaims_w (fun _ h => by cases h) fnClaims_row_tie rfl ⟨rfl, rfl⟩ fnClaims_main rfl
    (fun f fn hf hfn => by
      obtain rfl : f = 5 := Option.some.inj (fnClaims_named.symm.trans hf) |>.symm
      obtain rfl : fn = Tryz.f5 := (Option.some.inj (Tryz.func5.symm.trans hfn)).symm
      exact ⟨fnClaims_looks, fun j t ht => by
        rw [oB] at ht
        have hm : t ∈ [58] := by simpa using Array.mem_of_getElem? ht
        exact (show Tryz.prog.wantsStandIn t = false by simpa using List.all_eq_true.1 fnClaims_stand t hm)⟩)
    fnClaims_goes
end Go.Proofs.YtipejodijbjpcaaGreatDoor
