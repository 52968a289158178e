/- Contracts of the functions Oe the abstract machine, part I2. No condition. -/
import Derived.Test.YthjkhlcbpfnobaaGreatCI1
namespace Go.Proofs.YthjkhlcbpfnobaaGreat
open Go.Vm Go.Mo
set_option maxHeartbeats 1000000
set_option maxRecDepth 100000
set_option linter.unusedSimpArgs false
set_option linter.unusedVariables false
end Go.Proofs.YthjkhlcbpfnobaaGreat
