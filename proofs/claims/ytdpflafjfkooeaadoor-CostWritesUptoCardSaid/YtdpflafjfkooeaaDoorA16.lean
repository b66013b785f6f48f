import Derived.Test.YtdpflafjfkooeaaDoorA14
import Derived.Test.YtdpflafjfkooeaaDoorA12
namespace Go.Proofs.YtdpflafjfkooeaaDoorG
open Go Go.RowKit Go.Proofs
set_option linter.unusedSimpArgs false
set_option linter.unusedVariables false
end Go.Proofs.YtdpflafjfkooeaaDoorG
