-- Told by hand; its numbers filled in by a program of this session.
import Derived.Test.YtkkfkdncddbaeaaFnBase
import Derived.Test.YtkkfkdncddbaeaaHL06
import Derived.Test.YtkkfkdncddbaeaaFn42
import Derived.Test.YtkkfkdncddbaeaaFn41
namespace Go.Proofs.Ytkkfkdncddbaeaa.Fn
open Go.RowKit Go.Proofs.YtkkfkdncddbaeaaW.PrintWords Go.Proofs.YtkkfkdncddbaeaaW.PrintLast Go.Proofs.YtkkfkdncddbaeaaW.PrintMore
attribute [local go_sem] max2_int min2_int max_two min_two max_three min_three max_four min_four   -- for this text's walks alone
set_option linter.unusedVariables false
set_option linter.unusedSimpArgs false

/-! The example of layer 06 lives. -/
set_option maxRecDepth 100000 in
theorem alive6 : flagstonelaw06_alive.f 60 = some true := by kernel_rfl

end Go.Proofs.Ytkkfkdncddbaeaa.Fn
