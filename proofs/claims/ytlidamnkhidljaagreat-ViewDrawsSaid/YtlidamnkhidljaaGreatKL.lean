/- The ground on which laws of thronglaw31 are proved: contracts of functions and plain lemmas; no condition beyond the row's own. -/
import Derived.Test.YtlidamnkhidljaaGreatKI
set_option linter.unusedSimpArgs false
set_option linter.unusedVariables false
namespace Go.V
instance (w : Wld) (id k : Int) (p : Vc) : Decidable (qe w id k p) := by unfold qe zch; infer_instance
end Go.V
namespace Go.V
end Go.V
namespace Go.V
theorem zk0 {w : Wld} (hm : mayP w) {i : Nat} (hi : i < w.U.length) (h0 : w.U[i].inn = 0) : (0 <= w.U[i].pos.1 /\ w.U[i].pos.1 < w.G.W * 65536) /\ (0 <= w.U[i].pos.2 /\ w.U[i].pos.2 < w.G.H * 65536) := by
 have := zvx hm.1.1.2.1.1 (hm.2.1 _ (List.getElem_mem hi) h0).1
 have := this.1
 have := this.2
 omega
theorem zq6 {w : Wld} (hm : mayP w) {i : Nat} (hi : i < w.U.length) (h0 : w.U[i].inn = 0) : qk w.G w.U[i].pos < w.G.T.length := (zbe hm.1.1.2.1.1 (zk0 hm hi h0)).2.1
end Go.V
namespace Go.V
structure MayF (w : Wld) : Prop where
 hg : gndP w.G
 hB : w.B.length <= 256
 hU : w.U.length <= 4096
 hT : w.G.T.length <= 16384
 hb : ∀ b ∈ w.B, bldP b /\ onP w.G b
 hk : ∀ u ∈ w.U, x7 u.kind
 hr : xn w.U
 hn1 : 1 <= w.next
 hn2 : w.next <= 1099511627776
theorem mayF {w : Wld} (h : mayP w) : MayF w := by
 obtain ⟨⟨hh, hok⟩, _⟩ := h
 have hbl := hh.2.1.2.1
 have ha := zz hh.2.1.1
 exact ⟨hh.2.1.1, hbl.1, hh.2.1.2.2, by omega, fun b hb => ⟨(hbl.2.2.1 b hb).1, (hbl.2.2.1 b hb).2.1⟩, fun u hu => (hok.2 u hu).1.1.2.2, hok.1, hh.1.2.2.1, hh.1.2.2.2⟩
theorem MayF.fits {w : Wld} (h : MayF w) : w.fits := ⟨by unfold Gnd.fits; have := h.hT; omega, by have := h.hB; omega, by have := h.hU; omega⟩
end Go.V
