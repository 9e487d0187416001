/- Runs in turns are steps. -/
import Derived.Test.YtcipidfgblbeiaaPKahn3
import Derived.Test.YtcipidfgblbeiaaPTurnS
namespace Go.AmT
open Go Go.Am
set_option linter.unusedVariables false
set_option linter.unusedSimpArgs false

end Go.AmT
