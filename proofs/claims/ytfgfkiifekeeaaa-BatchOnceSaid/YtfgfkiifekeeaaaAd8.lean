/- Package addr: Same. -/
import Derived.Test.YtfgfkiifekeeaaaAd7
namespace Go.Proofs.Ytfgfkiifekeeaaa
open Go.RowKit Go.Shelf
set_option linter.unusedSimpArgs false
set_option linter.unusedVariables false

end Go.Proofs.Ytfgfkiifekeeaaa
