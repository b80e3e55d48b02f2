-- Written by a program of this session, out of the given translation.
import Derived.Test.YtcnllhnhinmokaaPHItemsOfx0
import Derived.Test.YtcnllhnhinmokaaPHItemsOfx1
import Derived.Test.YtcnllhnhinmokaaPHItemsOfx2
import Derived.Test.YtcnllhnhinmokaaPHItemsOfx3
namespace Go.Proofs.Ytcnllhnhinmokaa.PHItemsOf
open Go.RowKit Go.Proofs.YtcnllhnhinmokaaW.PrintWords Go.Proofs.YtcnllhnhinmokaaW.PrintLast Go.Proofs.YtcnllhnhinmokaaW.PrintMore
attribute [local go_sem] max2_int min2_int max_two min_two max_three min_three max_four min_four   -- for this text's walks alone
set_option linter.unusedVariables false
set_option linter.unusedSimpArgs false

end Go.Proofs.Ytcnllhnhinmokaa.PHItemsOf
