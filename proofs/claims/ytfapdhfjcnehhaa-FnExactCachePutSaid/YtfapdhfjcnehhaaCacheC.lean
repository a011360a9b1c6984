
/-
  Contracts: where a kept result stands: the reference's way and the program's.
-/
import Derived.Test.YtfapdhfjcnehhaaCacheB
namespace Go.Proofs.Ytfapdhfjcnehhaa
open Go.RowKit
set_option linter.unusedVariables false

end Go.Proofs.Ytfapdhfjcnehhaa
