/- Texts of one proof, one behind the other: Era23e0. -/
import Derived.Test.YtlideagcmhlkeaaDoorRT8
import Derived.BigRegion
import Derived.IntWalk
import Derived.Deep.DeepCutAuto

/- Eras of layer 23 with an end (kind 0). -/
namespace Go.Proofs.YtlideagcmhlkeaaDoor
open Go.RowKit Go.Lib
set_option linter.unusedVariables false
set_option linter.unusedSimpArgs false

end Go.Proofs.YtlideagcmhlkeaaDoor
