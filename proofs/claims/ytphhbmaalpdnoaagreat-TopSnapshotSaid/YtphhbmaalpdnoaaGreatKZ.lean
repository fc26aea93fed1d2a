/- Ground of laws of throngtop: contracts and plain lemmas; no condition beyond the row's own. -/
import Derived.Test.YtphhbmaalpdnoaaGreatKX
set_option linter.unusedSimpArgs false
set_option linter.unusedVariables false
set_option linter.defProp false
namespace Go.V
end Go.V
namespace Go.V
section
variable {P:Program} {c:Cfg} {w:World} {st:Store} {Oth M:Nat->Nat->Prop}
end
end Go.V
namespace Go.V
section
variable {g:Gnd} {ok:Nat->Bool} {c:Int} {goal:Nat} {d:Nat->Int} {W:Nat->Bool}
end
end Go.V
namespace Go.V
end Go.V
namespace Go.V
end Go.V
