/- Ground of laws of thronglaw21: contracts and plain lemmas; no condition beyond the row's own. -/
import Derived.Test.YthjfdaifoocijaaGreatKG
set_option linter.unusedSimpArgs false
set_option linter.unusedVariables false
namespace Go.Proofs
open Go Go.V
set_option maxRecDepth 4000
theorem Fw {t : UInt8} (h : t.toNat <= 5) : t = 0 \/ t = 1 \/ t = 2 \/ t = 3 \/ t = 4 \/ t = 5 := by
 have : t.toNat = (0 : UInt8).toNat \/ t.toNat = (1 : UInt8).toNat \/ t.toNat = (2 : UInt8).toNat \/ t.toNat = (3 : UInt8).toNat \/ t.toNat = (4 : UInt8).toNat \/ t.toNat = (5 : UInt8).toNat := by grind
 simpa only [UInt8.toNat_inj] using this
theorem Al (k : Int) (st : Store) (R : AV -> Store -> Prop) (h : R (.agg (vp k)) st) : ACalls Tryz.prog 134 [int k] st R := by
 refine ACalls.of_body (c := cfg 14) zb Tryz.func134 (by rfl) (by rfl) (by rfl) (by rfl) ?_
 unfold vp yc Gq xq Bh yv at h
 refine yx (fun h1 => ?_) (fun h1 => ?_)
 ·simp only [h1] at h
  exact ret h
 refine yx (fun h2 => ?_) (fun h2 => ?_)
 ·simp only [h2] at h
  exact ret h
 refine yx (fun h3 => ?_) (fun h3 => ?_)
 ·simp only [h3] at h
  exact ret h
 simp only [h1, h2, h3, if_false] at h
 exact ret h
theorem Ko (k : Int) (st : Store) (R : AV -> Store -> Prop) (h : qy k -> R (.tup [.agg (vp k), bool true]) st) (h' : ¬ qy k -> R (.tup [.agg [int 0, int 0, int 0, int 0, int 0], bool false]) st) : ACalls Tryz.prog 43 [int k] st R := by
 refine ACalls.of_body (c := cfg 18) zb Tryz.func43 (by rfl) (by rfl) (by rfl) (by rfl) ?_
 unfold vp yc Gq xq Bh yv qy at h
 refine yx (fun h1 => ?_) (fun h1 => ?_)
 ·simp only [h1] at h
  exact ret (h (by decide))
 refine yx (fun h2 => ?_) (fun h2 => ?_)
 ·simp only [h2] at h
  exact ret (h (by decide))
 refine yx (fun h3 => ?_) (fun h3 => ?_)
 ·simp only [h3] at h
  exact ret (h (by decide))
 refine yx (fun h4 => ?_) (fun h4 => ?_)
 ·simp only [h4] at h
  exact ret (h (by decide))
 exact ret (h' (by unfold qy; omega))
theorem Ay (k : Int) (hk : qy k) (st : Store) (R : AV -> Store -> Prop) (h : R (.agg (vp k)) st) : ACalls Tryz.prog 11 [int k] st R := by
 refine ACalls.of_body (c := cfg 11) zb Tryz.func11 (by rfl) (by rfl) (by rfl) (by rfl) ?_
 refine Ko k _ _ (fun _ => ret h) (fun h1 => absurd hk h1)
theorem tw (c : Int) (t : UInt8) (ht : t.toNat <= 5) (st : Store) (R : AV -> Store -> Prop) (h : R (int (j6 c t.toNat)) st) : ACalls Tryz.prog 285 [int c, u8 t] st R := by
 refine ACalls.of_body (c := cfg 17) zb Tryz.func285 (by rfl) (by rfl) (by rfl) (by rfl) ?_
 unfold j6 at h
 have hn := Fw ht
 refine yx (fun h1 => ?_) (fun h1 => ?_)
 ·rw [if_pos h1] at h
  rcases hn with rfl | rfl | rfl | rfl | rfl | rfl <;> exact ⟨_, rfl, by decide, optR (ret h)⟩
 refine yx (fun h2 => ?_) (fun h2 => ?_)
 ·rw [if_neg h1, if_pos h2] at h
  rcases hn with rfl | rfl | rfl | rfl | rfl | rfl <;> exact ⟨_, rfl, by decide, optR (ret h)⟩
 rw [if_neg h1, if_neg h2] at h
 rcases hn with rfl | rfl | rfl | rfl | rfl | rfl <;> exact ⟨_, rfl, by decide, optR (ret h)⟩
theorem zc0 (c : Int) (hc : c = 0 \/ c = 1 \/ c = 2) (t : UInt8) (ht : t.toNat <= 5) (st : Store) (R : AV -> Store -> Prop) (h : R (int (j6 c t.toNat)) st) : ACalls Tryz.prog 220 [int c, u8 t] st R := by
 refine ACalls.of_body (c := cfg 15) zb Tryz.func220 (by rfl) (by rfl) (by rfl) (by rfl) ?_
 unfold j6 at h
 have hn := Fw ht
 rcases hc with rfl | rfl | rfl <;> rcases hn with rfl | rfl | rfl | rfl | rfl | rfl <;> exact ⟨_, rfl, by decide, _, rfl, by decide, optR (ret h)⟩
end Go.Proofs
