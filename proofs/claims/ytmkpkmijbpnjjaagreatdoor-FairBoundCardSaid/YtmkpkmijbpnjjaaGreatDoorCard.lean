/- The tied card of FairBound: for every number of threads and all options the law holds; the ten listed tables of Go's library are tied to the program's text. -/
import Derived.Test.YtmkpkmijbpnjjaaGreatDoorLaw
import Derived.Test.YtmkpkmijbpnjjaaGreatDoorGoes
import Derived.Test.YtmkpkmijbpnjjaaGreatDoorTie
import Derived.SevenTiedAt
namespace Go.Proofs.YtmkpkmijbpnjjaaGreatDoor.fairBound
open Go
set_option maxRecDepth 100000
theorem wf0 : Rows.fairBoundRow.wfByText (OpenSpec.ofChange Rows.fairBoundSpec) = true := by kernel_rfl
theorem main0 : Tryz.pinned.checked.prog.mainIs = some (true, "81b799e921fdc5b859336bd9ff2d3f00191bd3d65564adfd021dc9dd4bb62ac3".toList) := by kernel_rfl
theorem looks0 : true = Tryz.prog.looks [] := by kernel_rfl
theorem stand3 : Tryz.prog.wantsStandIn 3 = false := by kernel_rfl
theorem stand23 : Tryz.prog.wantsStandIn 23 = false := by kernel_rfl
theorem start0 : Rows.fairBoundRow.start = .entering := rfl
theorem goesBy0 : false = Rows.fairBoundRow.goesBy Tryz.pinned.checked.prog := by
  unfold OpenClaim.goesBy Program.goesAt
  have h : Tryz.pinned.checked.prog.goesFrom Rows.fairBoundRow.func = false := goes0 _
  rw [h, start0]
  rfl
theorem card : Rows.FairBoundCardSaid :=
  Claim7.holds_tied_plain_at .later [] [.data, .data, .data, .data, .pinned, .pinned, .pinned, .pinned, .pinned, .pinned] true (true, "81b799e921fdc5b859336bd9ff2d3f00191bd3d65564adfd021dc9dd4bb62ac3") true
    over (fun _ h => by cases h) wf0 (fun _ h => by cases h) fairBound_row_tie rfl ⟨rfl, rfl⟩ main0 rfl
    (fun f fn hf hfn => by
      obtain rfl : f = 3 := Option.some.inj (named3.symm.trans hf) |>.symm
      obtain rfl : fn = Tryz.f3 := (Option.some.inj (Tryz.func3.symm.trans hfn)).symm
      refine ⟨looks0, fun j t ht => ?_⟩
      rw [Tryz.params3] at ht
      have hm : t = 3 ∨ t = 23 := by simpa using Array.mem_of_getElem? ht
      rcases hm with rfl | rfl
      · exact stand3
      · exact stand23)
    goesBy0
#print axioms card
end Go.Proofs.YtmkpkmijbpnjjaaGreatDoor.fairBound
namespace Go.Proofs.YtmkpkmijbpnjjaaGreatDoor
/-- The card, under a short name, for the claim. -/
theorem fairBound_card : Rows.FairBoundCardSaid := fairBound.card
end Go.Proofs.YtmkpkmijbpnjjaaGreatDoor
