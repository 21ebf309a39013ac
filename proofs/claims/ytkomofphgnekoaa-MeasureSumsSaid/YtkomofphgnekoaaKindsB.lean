/- What the laws' parameters hold: the chain. -/
import Derived.Test.YtkomofphgnekoaaKinds
import Derived.Test.YtkomofphgnekoaaWalkP
set_option linter.unusedVariables false
namespace Go.Proofs.Ytkomofphgnekoaa
end Go.Proofs.Ytkomofphgnekoaa
