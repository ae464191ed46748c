/-
  regattaref02: a number more in a sum, a product more.
-/
import Derived.Test.YthingodgjeicpaaRefF
namespace Go.Proofs.Ythingodgjeicpaa
open Go.RowKit
set_option linter.unusedVariables false
set_option linter.unusedSimpArgs false
end Go.Proofs.Ythingodgjeicpaa
