/- The contract of awake(): it returns true, reckoned by the evaluator of YtcnllhnhinmokaaEv3. -/
import Derived.Test.YtcnllhnhinmokaaProg
import Derived.Test.YtcnllhnhinmokaaEv3
namespace Go.Proofs.Ytcnllhnhinmokaa
open Go.Ev Go.RowKit
theorem follows : Try.prog.follows .mixedOrders = true := by kernel_rfl
theorem awake_run : truly Try.prog 60 12 = true := by kernel_rfl

def manystrandlaw24_awake.f : Option Bool := some true
theorem manystrandlaw24_awake.calls (r : Bool) (w : World) (h : manystrandlaw24_awake.f = some r) :
    Calls Try.prog 12 #[] w fun e w' => e = .returned (.bool r) ∧ Below w.heap.size w w' := by
  unfold manystrandlaw24_awake.f at h
  injection h with h
  subst h
  exact closed_true (wfp_of follows) awake_run w
end Go.Proofs.Ytcnllhnhinmokaa
