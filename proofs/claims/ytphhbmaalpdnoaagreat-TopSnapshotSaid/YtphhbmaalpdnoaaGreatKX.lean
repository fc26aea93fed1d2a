/- Ground of laws of throngtop: contracts and plain lemmas; no condition beyond the row's own. -/
import Derived.Test.YtphhbmaalpdnoaaGreatKR
set_option linter.unusedSimpArgs false
set_option linter.unusedVariables false
set_option linter.defProp false
namespace Go.V
end Go.V
namespace Go.V
end Go.V
