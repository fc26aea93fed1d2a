/- Ground of laws of thronglaw24: contracts and plain lemmas; no condition beyond the row's own. -/
import Derived.Test.YthjfdaifoocijaaGreatKK
set_option linter.unusedSimpArgs false
set_option linter.unusedVariables false
namespace Go.Proofs
open Go Go.V
set_option maxRecDepth 4000
theorem Mx {t : UInt8} (h : t.toNat <= 5) : t = 0 \/ t = 1 \/ t = 2 \/ t = 3 \/ t = 4 \/ t = 5 := by
 have : t.toNat = (0 : UInt8).toNat \/ t.toNat = (1 : UInt8).toNat \/ t.toNat = (2 : UInt8).toNat \/ t.toNat = (3 : UInt8).toNat \/ t.toNat = (4 : UInt8).toNat \/ t.toNat = (5 : UInt8).toNat := by grind
 simpa only [UInt8.toNat_inj] using this
theorem qw (k : Int) (st : Store) (R : AV -> Store -> Prop) (h : R (.agg (vx k)) st) : ACalls Tryz.prog 134 [int k] st R := by
 refine ACalls.of_body (c := cfg 14) zb Tryz.func134 (by rfl) (by rfl) (by rfl) (by rfl) ?_
 unfold vx zm kp yh x3 xl at h
 refine yp (fun h1 => ?_) (fun h1 => ?_)
 ·simp only [h1] at h
  exact ret h
 refine yp (fun h2 => ?_) (fun h2 => ?_)
 ·simp only [h2] at h
  exact ret h
 refine yp (fun h3 => ?_) (fun h3 => ?_)
 ·simp only [h3] at h
  exact ret h
 simp only [h1, h2, h3, if_false] at h
 exact ret h
theorem W8 (k : Int) (st : Store) (R : AV -> Store -> Prop) (h : jt k -> R (.tup [.agg (vx k), bool true]) st) (h' : ¬ jt k -> R (.tup [.agg [int 0, int 0, int 0, int 0, int 0], bool false]) st) : ACalls Tryz.prog 43 [int k] st R := by
 refine ACalls.of_body (c := cfg 18) zb Tryz.func43 (by rfl) (by rfl) (by rfl) (by rfl) ?_
 unfold vx zm kp yh x3 xl jt at h
 refine yp (fun h1 => ?_) (fun h1 => ?_)
 ·simp only [h1] at h
  exact ret (h (by decide))
 refine yp (fun h2 => ?_) (fun h2 => ?_)
 ·simp only [h2] at h
  exact ret (h (by decide))
 refine yp (fun h3 => ?_) (fun h3 => ?_)
 ·simp only [h3] at h
  exact ret (h (by decide))
 refine yp (fun h4 => ?_) (fun h4 => ?_)
 ·simp only [h4] at h
  exact ret (h (by decide))
 exact ret (h' (by unfold jt; omega))
theorem I6 (k : Int) (hk : jt k) (st : Store) (R : AV -> Store -> Prop) (h : R (.agg (vx k)) st) : ACalls Tryz.prog 11 [int k] st R := by
 refine ACalls.of_body (c := cfg 11) zb Tryz.func11 (by rfl) (by rfl) (by rfl) (by rfl) ?_
 refine W8 k _ _ (fun _ => ret h) (fun h1 => absurd hk h1)
theorem Ka (c : Int) (t : UInt8) (ht : t.toNat <= 5) (st : Store) (R : AV -> Store -> Prop) (h : R (int (je c t.toNat)) st) : ACalls Tryz.prog 285 [int c, u8 t] st R := by
 refine ACalls.of_body (c := cfg 17) zb Tryz.func285 (by rfl) (by rfl) (by rfl) (by rfl) ?_
 unfold je at h
 have hn := Mx ht
 refine yp (fun h1 => ?_) (fun h1 => ?_)
 ·rw [if_pos h1] at h
  rcases hn with rfl | rfl | rfl | rfl | rfl | rfl <;> exact ⟨_, rfl, by decide, optR (ret h)⟩
 refine yp (fun h2 => ?_) (fun h2 => ?_)
 ·rw [if_neg h1, if_pos h2] at h
  rcases hn with rfl | rfl | rfl | rfl | rfl | rfl <;> exact ⟨_, rfl, by decide, optR (ret h)⟩
 rw [if_neg h1, if_neg h2] at h
 rcases hn with rfl | rfl | rfl | rfl | rfl | rfl <;> exact ⟨_, rfl, by decide, optR (ret h)⟩
theorem zsx (c : Int) (hc : c = 0 \/ c = 1 \/ c = 2) (t : UInt8) (ht : t.toNat <= 5) (st : Store) (R : AV -> Store -> Prop) (h : R (int (je c t.toNat)) st) : ACalls Tryz.prog 220 [int c, u8 t] st R := by
 refine ACalls.of_body (c := cfg 15) zb Tryz.func220 (by rfl) (by rfl) (by rfl) (by rfl) ?_
 unfold je at h
 have hn := Mx ht
 rcases hc with rfl | rfl | rfl <;> rcases hn with rfl | rfl | rfl | rfl | rfl | rfl <;> exact ⟨_, rfl, by decide, _, rfl, by decide, optR (ret h)⟩
end Go.Proofs
