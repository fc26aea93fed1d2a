/- Ground of laws of thronglaw21: contracts and plain lemmas; no condition beyond the row's own. -/
import Derived.Test.YthjfdaifoocijaaGreatKO
set_option linter.unusedSimpArgs false
set_option linter.unusedVariables false
namespace Go.V
end Go.V
namespace Go.V
instance (w : Wld) (id k : Int) (p : Vc) : Decidable (y8 w id k p) := by unfold y8 kg; infer_instance
end Go.V
namespace Go.V
structure MayF (w : Wld) : Prop where
 hg : zt w.G
 hB : w.B.length <= 256
 hU : w.U.length <= 4096
 hT : w.G.T.length <= 16384
 hb : ∀ b ∈ w.B, zy b /\ onP w.G b
 hk : ∀ u ∈ w.U, qy u.kind
 hr : y6 w.U
 hn1 : 1 <= w.next
 hn2 : w.next <= 1099511627776
theorem MayF.fits {w : Wld} (h : MayF w) : w.fits := ⟨by unfold Gnd.fits; have := h.hT; omega, by have := h.hB; omega, by have := h.hU; omega⟩
end Go.V
