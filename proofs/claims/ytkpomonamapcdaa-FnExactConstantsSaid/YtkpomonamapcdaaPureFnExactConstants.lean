/- The plain law of the constants. -/
import Derived.Test.YtkpomonamapcdaaM
import Derived.Test.YtkpomonamapcdaaB18
namespace Go.Proofs.Ytkpomonamapcdaa.B
theorem FnExactConstants : laws_FnExactConstants.f = some true := rfl
end Go.Proofs.Ytkpomonamapcdaa.B
