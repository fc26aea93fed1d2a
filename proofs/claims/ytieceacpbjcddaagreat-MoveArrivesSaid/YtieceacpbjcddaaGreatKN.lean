/- Ground of laws of thronglaw24: contracts and plain lemmas; no condition beyond the row's own. -/
import Derived.Test.YtieceacpbjcddaaGreatKL
set_option linter.unusedSimpArgs false
set_option linter.unusedVariables false
set_option linter.defProp false
namespace Go.Proofs
open Go Go.V
set_option maxRecDepth 4000
theorem Nd {t : UInt8} (h : t.toNat <= 5) : t = 0 \/ t = 1 \/ t = 2 \/ t = 3 \/ t = 4 \/ t = 5 := by
 have : t.toNat = (0 : UInt8).toNat \/ t.toNat = (1 : UInt8).toNat \/ t.toNat = (2 : UInt8).toNat \/ t.toNat = (3 : UInt8).toNat \/ t.toNat = (4 : UInt8).toNat \/ t.toNat = (5 : UInt8).toNat := by grind
 simpa only [UInt8.toNat_inj] using this
theorem xx (k : Int) (st : Store) (R : AV -> Store -> Prop) (h : R (.agg (v8 k)) st) : ACalls Tryz.prog 139 [int k] st R := by
 refine ACalls.of_body (c := cfg 14) zb Tryz.func139 (by rfl) (by rfl) (by rfl) (by rfl) ?_
 unfold v8 zk ym zm zx x5 at h
 refine yj (fun h1 => ?_) (fun h1 => ?_)
 ·simp only [h1] at h
  exact ret h
 refine yj (fun h2 => ?_) (fun h2 => ?_)
 ·simp only [h2] at h
  exact ret h
 refine yj (fun h3 => ?_) (fun h3 => ?_)
 ·simp only [h3] at h
  exact ret h
 simp only [h1, h2, h3, if_false] at h
 exact ret h
theorem cq (k : Int) (st : Store) (R : AV -> Store -> Prop) (h : ki k -> R (.tup [.agg (v8 k), bool true]) st) (h' : ¬ ki k -> R (.tup [.agg [int 0, int 0, int 0, int 0, int 0], bool false]) st) : ACalls Tryz.prog 38 [int k] st R := by
 refine ACalls.of_body (c := cfg 18) zb Tryz.func38 (by rfl) (by rfl) (by rfl) (by rfl) ?_
 unfold v8 zk ym zm zx x5 ki at h
 refine yj (fun h1 => ?_) (fun h1 => ?_)
 ·simp only [h1] at h
  exact ret (h (by decide))
 refine yj (fun h2 => ?_) (fun h2 => ?_)
 ·simp only [h2] at h
  exact ret (h (by decide))
 refine yj (fun h3 => ?_) (fun h3 => ?_)
 ·simp only [h3] at h
  exact ret (h (by decide))
 refine yj (fun h4 => ?_) (fun h4 => ?_)
 ·simp only [h4] at h
  exact ret (h (by decide))
 exact ret (h' (by unfold ki; omega))
theorem Hk (k : Int) (hk : ki k) (st : Store) (R : AV -> Store -> Prop) (h : R (.agg (v8 k)) st) : ACalls Tryz.prog 10 [int k] st R := by
 refine ACalls.of_body (c := cfg 11) zb Tryz.func10 (by rfl) (by rfl) (by rfl) (by rfl) ?_
 refine cq k _ _ (fun _ => ret h) (fun h1 => absurd hk h1)
theorem Og (c : Int) (t : UInt8) (ht : t.toNat <= 5) (st : Store) (R : AV -> Store -> Prop) (h : R (int (js c t.toNat)) st) : ACalls Tryz.prog 363 [int c, u8 t] st R := by
 refine ACalls.of_body (c := cfg 17) zb Tryz.func363 (by rfl) (by rfl) (by rfl) (by rfl) ?_
 unfold js at h
 have hn := Nd ht
 refine yj (fun h1 => ?_) (fun h1 => ?_)
 ·rw [if_pos h1] at h
  rcases hn with rfl | rfl | rfl | rfl | rfl | rfl <;> exact ⟨_, rfl, by decide, optR (ret h)⟩
 refine yj (fun h2 => ?_) (fun h2 => ?_)
 ·rw [if_neg h1, if_pos h2] at h
  rcases hn with rfl | rfl | rfl | rfl | rfl | rfl <;> exact ⟨_, rfl, by decide, optR (ret h)⟩
 rw [if_neg h1, if_neg h2] at h
 rcases hn with rfl | rfl | rfl | rfl | rfl | rfl <;> exact ⟨_, rfl, by decide, optR (ret h)⟩
theorem P6 (c : Int) (hc : c = 0 \/ c = 1 \/ c = 2) (t : UInt8) (ht : t.toNat <= 5) (st : Store) (R : AV -> Store -> Prop) (h : R (int (js c t.toNat)) st) : ACalls Tryz.prog 127 [int c, u8 t] st R := by
 refine ACalls.of_body (c := cfg 15) zb Tryz.func127 (by rfl) (by rfl) (by rfl) (by rfl) ?_
 unfold js at h
 have hn := Nd ht
 rcases hc with rfl | rfl | rfl <;> rcases hn with rfl | rfl | rfl | rfl | rfl | rfl <;> exact ⟨_, rfl, by decide, _, rfl, by decide, optR (ret h)⟩
end Go.Proofs
