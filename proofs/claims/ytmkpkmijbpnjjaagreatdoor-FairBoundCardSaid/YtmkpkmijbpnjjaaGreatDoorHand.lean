/- The contract of awake(): it returns true, reckoned by the evaluator of YtmkpkmijbpnjjaaGreatDoorEv3. -/
import Derived.Test.YtmkpkmijbpnjjaaGreatDoorProg
import Derived.Test.YtmkpkmijbpnjjaaGreatDoorEv3
namespace Go.Proofs.YtmkpkmijbpnjjaaGreatDoor
open Go.Ev Go.RowKit
theorem follows : Tryz.prog.follows .mixedOrders = true := by kernel_rfl
theorem awake_run : truly Tryz.prog 100 6 = true := by kernel_rfl

def manystrandlaw14_awake.f : Option Bool := some true
theorem manystrandlaw14_awake.calls (r : Bool) (w : World) (h : manystrandlaw14_awake.f = some r) :
    Calls Tryz.prog 6 #[] w fun e w' => e = .returned (.bool r) ∧ Below w.heap.size w w' := by
  unfold manystrandlaw14_awake.f at h
  injection h with h
  subst h
  exact closed_true (wfp_of follows) awake_run w
end Go.Proofs.YtmkpkmijbpnjjaaGreatDoor
