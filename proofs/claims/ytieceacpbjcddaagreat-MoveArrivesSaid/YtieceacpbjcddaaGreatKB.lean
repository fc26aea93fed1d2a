/- Ground of laws of thronglaw24: contracts and plain lemmas; no condition beyond the row's own. -/
import Derived.Laws.Append
import Derived.Test.YtieceacpbjcddaaGreatKA
set_option linter.unusedSimpArgs false
set_option linter.unusedVariables false
set_option linter.defProp false
namespace Go.V
section
variable {P : Program} {c : Cfg} {ev : Operand -> LV} {bx : Nat -> Option (List AV)} {st : Store} {d : Nat} {K : LV -> Prop}
theorem Ha {w : World} {T : Nat -> Nat -> Prop} {k : Nat} {rows : List (List AV)} {tok : Option Nat} {v : Value} (h : VRel w T (.lst k rows tok) v) :
    (∃ (a : Option Addr) (cap : Nat), v = .slice a rows.length cap /\ rows = [] /\ tok = none /\ cap = 0) \/ ∃ (b off cap : Nat), v = .slice (some ⟨b, off, none⟩) rows.length cap /\ rows.length <= cap ∧
      (∀ (i : Nat) (row : List AV), rows[i]? = some row -> row.length = k) /\ ∃ f : Nat -> Value,
      (∀ (i : Nat) (row : List AV) (j : Nat) (x : AV), rows[i]? = some row -> row[j]? = some x -> w.cell? ⟨b, off + (i * k + j), none⟩ = some (f (i * k + j)) /\ ¬ T b (off + (i * k + j)) /\ VRel w T x (f (i * k + j)) /\ qg (f (i * k + j)) = true) := by
  cases h with
  | nil _ a => simp
  | lst _ _ b off cap _ f hcap hk htok hc h0 hx => exact .inr ⟨b, off, cap, rfl, hcap, hk, f, fun i row j x h1 h2 => ⟨(hc i row j x h1 h2).1, (hc i row j x h1 h2).2, hx i row j x h1 h2, h0 i row j x h1 h2⟩⟩
theorem VRel.empty (w : World) (T : Nat -> Nat -> Prop) (k b off cap : Nat) : VRel w T (.lst k [] none) (.slice (some ⟨b, off, none⟩) 0 cap) :=
  VRel.lst [] none b off cap k (fun _ => undef) (Nat.zero_le _) (fun i row h => by simp at h) (fun t ht => by cases ht) (fun i row j x h => by simp at h) (fun i row j x h => by simp at h) (fun i row j x h => by simp at h)
theorem ztd (hI : yk P c.I) (t : TypeId) (x ix : Operand) (h : vcV c ev bx st d (.indexAddr t x ix) K) : jy P c ev bx st d (.indexAddr t x ix) K := by
  simp only [vcV] at h
  obtain ⟨i, hi, h⟩ := zj h
  split at h
  · rename_i e k' rows tok k j hty hx hix
    replace h := zj h
    obtain ⟨ie, hie, h⟩ := h
    cases hb : Nat.beq k' ie.size with
    | false => grind
    | true =>
      rw [hb] at h
      simp only [cond_true] at h
      obtain rfl : k' = ie.size := (xc _ _).1 hb
      obtain ⟨m, rfl, h⟩ := h
      replace h := zj h
      obtain ⟨row, hrow, h⟩ := h
      refine ⟨_, h, fun K' h' => ?_, fun w T β ρ o ho he => ?_⟩
      · simp only [vcV]
        refine za i hi ?_
        simp only [hty, hx, hix]
        refine za ie hie ?_
        rw [hb]
        exact ⟨m, rfl, za row hrow h'⟩
      · have hm : m < rows.length := (List.getElem?_eq_some_iff.1 hrow).1
        rcases Ha (yv he hx) with ⟨_, _, _, h2, _⟩ | ⟨b, off, cap, hv, hcap, hk, f, hf⟩
        · grind
        · refine ⟨.pointer (some ⟨b, off + m * ie.size, none⟩), ?_, VRel.cp _ _ _ (fun j => f (m * ie.size + j)) (fun j y hy => ?_) (fun j y hy => ?_)⟩
          · simp [execOp, ho, hv, he.s hix, Instr.indexAt, asIntOf, ya (qy (hI _ _ hi) hty), xl (hI _ _ hie), x8, hm]
          · grind
          grind
  · rename_i e b o len cap k j hty hx hix
    replace h := zj h
    obtain ⟨ie, hie, m, rfl, hm, h⟩ := h
    refine ⟨_, h, fun K' h' => ?_, fun w T β ρ o ho he => ?_⟩
    · simp only [vcV]
      refine za i hi ?_
      simp only [hty, hx, hix]
      exact za ie hie ⟨m, rfl, hm, h'⟩
    · refine ⟨_, ?_, VRel.s _⟩
      simp [execOp, ho, he.s hx, he.s hix, Instr.indexAt, asIntOf, ya (qy (hI _ _ hi) hty), xl (hI _ _ hie), x8, hm]
  · rename_i n e k j hty hix
    replace h := zj h
    obtain ⟨ie, hie, m, rfl, hm, h⟩ := h
    obtain ⟨y, hy, hy', hs⟩ := i7 h
    refine ⟨_, hy, fun K' h' => ?_, fun w T β ρ o ho he => ?_⟩
    · simp only [vcV]
      refine za i hi ?_
      simp only [hty, hix]
      exact za ie hie ⟨m, rfl, hm, hy' _ h'⟩
    · obtain ⟨b, off, hv, hr⟩ := hs w T β _ (he.ev x)
      refine ⟨_, ?_, hr⟩
      simp [execOp, ho, hv, he.s hix, Instr.indexAt, asIntOf, ya (Hc (hI _ _ hi) hty), xl (hI _ _ hie), x8, hm, Instr.sureAddr]
  grind
theorem zte (hI : yk P c.I) (t : TypeId) (x ix : Operand) (h : vcV c ev bx st d (.index t x ix) K) : jy P c ev bx st d (.index t x ix) K := by
  simp only [vcV] at h
  obtain ⟨i, hi, h⟩ := zj h
  split at h
  · rename_i n e cs k j hty hx hix
    replace h := zj h
    obtain ⟨ie, hie, m, rfl, hm, h⟩ := h
    rw [F7] at h
    obtain ⟨y, hy, h⟩ := zj h
    refine ⟨_, h, fun K' h' => ?_, fun w T β ρ o ho he => ?_⟩
    · simp only [vcV]
      refine za i hi ?_
      simp only [hty, hx, hix]
      refine za ie hie ⟨m, rfl, hm, ?_⟩
      grind[F7,za]
    · obtain ⟨us, hu, hr⟩ := Aj (yv he hx)
      obtain ⟨v, hv1, hv2⟩ := Hs (P := P) (hI _ _ hie) hr hy
      refine ⟨v, ?_, hv2⟩
      simp [execOp, ho, hu, he.s hix, Instr.index, asIntOf, ya (Hc (hI _ _ hi) hty), xl (hI _ _ hie), hm, hv1]
  · rename_i s k j hty hx hix
    obtain ⟨m, rfl, h⟩ := h
    replace h := zj h
    obtain ⟨b, hb, h⟩ := h
    refine ⟨_, h, fun K' h' => ?_, fun w T β ρ o ho he => ?_⟩
    · simp only [vcV]
      refine za i hi ?_
      simp only [hty, hx, hix]
      exact ⟨m, rfl, za b hb h'⟩
    · refine ⟨_, ?_, VRel.s _⟩
      simp [execOp, ho, he.s hx, he.s hix, Instr.index, asIntOf, ya (Mz (hI _ _ hi) hty), hb]
  grind
theorem O2 {α β : Type} {f : α -> β} {l : List α} {a b : β} (h : l.map f = [a, b]) : ∃ x y, l = [x, y] /\ f x = a /\ f y = b := by
  obtain ⟨x, l', rfl, h1, h2⟩ := List.map_eq_cons_iff.1 h
  obtain ⟨y, l'', rfl, h3, h4⟩ := List.map_eq_cons_iff.1 h2
  rw [List.map_eq_nil_iff] at h4
  grind
theorem O0 {α β : Type} {f : α -> β} {l : List α} {a b c : β} (h : l.map f = [a, b, c]) : ∃ x y z, l = [x, y, z] /\ f x = a /\ f y = b /\ f z = c := by
  obtain ⟨x, l', rfl, h1, h2⟩ := List.map_eq_cons_iff.1 h
  obtain ⟨y, z, rfl, h3, h4⟩ := O2 h2
  grind
theorem cg {α β : Type} {f : α -> β} {l : List α} {a b c d : β} (h : l.map f = [a, b, c, d]) : ∃ x y z u, l = [x, y, z, u] /\ f x = a /\ f y = b /\ f z = c /\ f u = d := by
  obtain ⟨x, l', rfl, h1, h2⟩ := List.map_eq_cons_iff.1 h
  obtain ⟨y, z, u, rfl, h3, h4, h5⟩ := O0 h2
  grind
theorem ztj (hI : yk P c.I) (cl : Call) (h : vcV c ev bx st d (.call cl) K) : jy P c ev bx st d (.call cl) K := by
  obtain ⟨callee, args, argTypes⟩ := cl
  simp only [vcV, Cc] at h
  split at h
  · rename_i b
    cases b <;> simp only at h
    case len =>
      obtain ⟨t, ht, h⟩ := zj h
      obtain ⟨i, hi, h⟩ := zj h
      obtain ⟨x, hx, h⟩ := zj h
      have key : ∃ y, K y /\ (∀ K' : LV -> Prop, K' y -> O5 (ev x) st i.ty K') /\ ∀ w T β ρ ty, Env w T β ev bx st ρ -> ∃ v, (Builtin.len_ argTypes ty (args.map ρ)).run P w = .ok v w /\ LRel w T β y v := by
        have hargs : ∀ ρ : Operand -> Value, (args.map ρ)[0]? = some (ρ x) := fun ρ => by grind
        unfold O5 at h ⊢
        split at h
        · rename_i e k rows tok hty hev
          refine ⟨_, h, fun K' h' => h', fun w T β ρ ty he => ?_⟩
          rcases Ha (yv he hev) with ⟨_, cap, hv, _⟩ | ⟨b, off, cap, hv, _⟩
          · exact ⟨_, by simp [Builtin.len_, goInt, ht, hargs, hx, hv, ya (qy (hI _ _ hi) hty)], VRel.s _⟩
          · exact ⟨_, by simp [Builtin.len_, goInt, ht, hargs, hx, hv, ya (qy (hI _ _ hi) hty)], VRel.s _⟩
        · rename_i e a n cap hty hev
          exact ⟨_, h, fun K' h' => h', fun w T β ρ ty he => ⟨_, by simp [Builtin.len_, goInt, ht, hargs, hx, he.s hev, ya (qy (hI _ _ hi) hty)], VRel.s _⟩⟩
        · rename_i e hty hev
          refine ⟨_, h, fun K' h' => h', fun w T β ρ ty he => ?_⟩
          obtain ⟨ad, hv⟩ : ∃ ad, ρ x = .slice ad 0 0 := by
            have h1 := yv he hev
            generalize ρ x = v at h1
            cases h1 with
            | emp ad _ => simp
          exact ⟨_, by simp [Builtin.len_, goInt, ht, hargs, hx, hv, ya (qy (hI _ _ hi) hty)], VRel.s _⟩
        · rename_i s hty hev
          exact ⟨_, h, fun K' h' => h', fun w T β ρ ty he => ⟨_, by simp [Builtin.len_, goInt, ht, hargs, hx, he.s hev, ya (Mz (hI _ _ hi) hty)], VRel.s _⟩⟩
        · rename_i k e hty hev
          exact ⟨_, h, fun K' h' => h', fun w T β ρ ty he => ⟨_, by simp [Builtin.len_, goInt, ht, hargs, hx, he.s hev, ya (Fl (hI _ _ hi) hty)], VRel.s _⟩⟩
        · rename_i k e r hty hev
          obtain ⟨ob, hob, h⟩ := zj h
          cases ob with
          | cells l => grind
          | iter m since seen last => grind
          | ghost o gh => grind
          | map es bs clock =>
            refine ⟨_, h, fun K' h' => za _ hob h', fun w T β ρ ty he => ?_⟩
            obtain ⟨ms, h1, h2, _⟩ := he.obj r _ hob
            refine ⟨_, ?_, VRel.s _⟩
            simp [Builtin.len_, goInt, ht, hargs, hx, he.s hev, ya (Fl (hI _ _ hi) hty), getObj, Sem.run, h1, h2, goInt]
        · rename_i n e hty
          exact ⟨_, h, fun K' h' => h', fun w T β ρ ty he => ⟨_, by simp [Builtin.len_, goInt, ht, hargs, hx, ya (Hc (hI _ _ hi) hty)], VRel.s _⟩⟩
        grind
      obtain ⟨y, hy, hy', hs⟩ := key
      refine ⟨y, hy, fun K' h' => ?_, fun w T β ρ o ho he => ?_⟩
      · simp only [vcV, Cc]
        grind[za]
      · obtain ⟨v, h1, h2⟩ := hs w T β ρ o.type he
        simp_all[execOp,resolve,invoke,builtin]
    case cap =>
      obtain ⟨t, ht, h⟩ := zj h
      obtain ⟨i, hi, h⟩ := zj h
      obtain ⟨x, hx, h⟩ := zj h
      have hargs : ∀ ρ : Operand -> Value, (args.map ρ)[0]? = some (ρ x) := fun ρ => by grind
      split at h
      · rename_i e a n cap hty hev
        refine ⟨_, h, fun K' h' => ?_, fun w T β ρ o ho he => ⟨_, ?_, VRel.s _⟩⟩
        · simp only [vcV, Cc]
          grind[za]
        · simp [execOp, ho, resolve, invoke, builtin, Builtin.cap_, ht, hx, he.s hev, ya (qy (hI _ _ hi) hty), goInt]
      grind
    case min =>
      have key : ∃ z : Value, K (.av (.s z)) /\ (∀ K' : LV -> Prop, K' (.av (.s z)) -> Gb min2 (args.toList.map ev) K') /\ ∀ w T β ρ ty, Env w T β ev bx st ρ -> (Builtin.min_ argTypes ty (args.map ρ)).run P w = .ok z w := by
        unfold Gb at h ⊢
        split at h
        · rename_i k a k' b hev
          refine ⟨_, h, fun K' h' => h', fun w T β ρ ty he => ?_⟩
          obtain ⟨l⟩ := args
          obtain ⟨x, y, rfl, h1, h2⟩ := O2 hev
          simp [Builtin.min_, he.s h1, he.s h2, Builtin.min2, min2, Bool.cond_decide]
        · rename_i k a k' b k'' c' hev
          refine ⟨_, h, fun K' h' => h', fun w T β ρ ty he => ?_⟩
          obtain ⟨l⟩ := args
          obtain ⟨x, y, z, rfl, h1, h2, h3⟩ := O0 hev
          simp [Builtin.min_, he.s h1, he.s h2, he.s h3, Builtin.min2, min2, Bool.cond_decide]
        · rename_i k a k' b k'' c' k3 d' hev
          refine ⟨_, h, fun K' h' => h', fun w T β ρ ty he => ?_⟩
          obtain ⟨l⟩ := args
          obtain ⟨x, y, z, u, rfl, h1, h2, h3, h4⟩ := cg hev
          simp [Builtin.min_, he.s h1, he.s h2, he.s h3, he.s h4, Builtin.min2, min2, Bool.cond_decide]
        grind
      obtain ⟨z, hz, hz', hs⟩ := key
      exact ⟨_, hz, fun K' h' => by simp_all[vcV,Cc], fun w T β ρ o ho he => ⟨z, by simp [execOp, ho, resolve, invoke, builtin, hs w T β ρ o.type he], VRel.s _⟩⟩
    case max =>
      have key : ∃ z : Value, K (.av (.s z)) /\ (∀ K' : LV -> Prop, K' (.av (.s z)) -> Gb max2 (args.toList.map ev) K') /\ ∀ w T β ρ ty, Env w T β ev bx st ρ -> (Builtin.max_ argTypes ty (args.map ρ)).run P w = .ok z w := by
        unfold Gb at h ⊢
        split at h
        · rename_i k a k' b hev
          refine ⟨_, h, fun K' h' => h', fun w T β ρ ty he => ?_⟩
          obtain ⟨l⟩ := args
          obtain ⟨x, y, rfl, h1, h2⟩ := O2 hev
          simp [Builtin.max_, he.s h1, he.s h2, Builtin.max2, max2, Bool.cond_decide]
        · rename_i k a k' b k'' c' hev
          refine ⟨_, h, fun K' h' => h', fun w T β ρ ty he => ?_⟩
          obtain ⟨l⟩ := args
          obtain ⟨x, y, z, rfl, h1, h2, h3⟩ := O0 hev
          simp [Builtin.max_, he.s h1, he.s h2, he.s h3, Builtin.max2, max2, Bool.cond_decide]
        · rename_i k a k' b k'' c' k3 d' hev
          refine ⟨_, h, fun K' h' => h', fun w T β ρ ty he => ?_⟩
          obtain ⟨l⟩ := args
          obtain ⟨x, y, z, u, rfl, h1, h2, h3, h4⟩ := cg hev
          simp [Builtin.max_, he.s h1, he.s h2, he.s h3, he.s h4, Builtin.max2, max2, Bool.cond_decide]
        grind
      obtain ⟨z, hz, hz', hs⟩ := key
      exact ⟨_, hz, fun K' h' => by simp_all[vcV,Cc], fun w T β ρ o ho he => ⟨z, by simp [execOp, ho, resolve, invoke, builtin, hs w T β ρ o.type he], VRel.s _⟩⟩
  grind
theorem Km {w : World} {T : Nat -> Nat -> Prop} {β : Nat -> Nat} {ρ : Operand -> Value} (he : Env w T β ev bx st ρ) {x : Option Operand} {l : Option Int} (h : Ap ev x = some l) :
    (l = none /\ x = none) \/ ∃ k i o, l = some i /\ x = some o /\ ρ o = .int k i := by
  cases x with
  | none => simp_all[Ap]
  | some o =>
    simp only [Ap] at h
    split at h
    · rename_i k i hev
      simp at h
      exact .inr ⟨k, i, o, h.symm, rfl, he.s hev⟩
    · cases h
/-- The bounds of a slice expression. -/
theorem Ii {w : World} {T : Nat -> Nat -> Prop} {β : Nat -> Nat} {ρ : Operand -> Value} (he : Env w T β ev bx st ρ) {lo hi : Option Operand} {l h : Option Int} (hl : Ap ev lo = some l) (hh : Ap ev hi = some h)
    (len cap p q : Nat) (hp : l.getD 0 = (p : Int)) (hq : h.getD (len : Int) = (q : Int)) (hpq : p <= q) (hqc : q <= cap) :
    (Instr.sliceBounds true len cap (lo.map ρ) (hi.map ρ) none).run P w = .ok (p, q, cap) w := by
  rcases Km he hl with ⟨rfl, rfl⟩ | ⟨k, i, o, rfl, rfl, hlo⟩ <;> rcases Km he hh with ⟨rfl, rfl⟩ | ⟨k', i', o', rfl, rfl, hhi⟩ <;> simp at hp hq
  · have hp' : p = 0 := by omega
    have hq' : q = len := by omega
    simp_all[Instr.sliceBounds]
  · have hp' : p = 0 := by omega
    simp_all[Instr.sliceBounds,Instr.sliceBound,asIntOf]
  · have hq' : q = len := by omega
    simp_all[Instr.sliceBounds,Instr.sliceBound,asIntOf]
  simp_all[Instr.sliceBounds,Instr.sliceBound,asIntOf]
theorem zs6 (hI : yk P c.I) (t : TypeId) (x : Operand) (lo hi mx : Option Operand) (h : vcV c ev bx st d (.slice t x lo hi mx) K) : jy P c ev bx st d (.slice t x lo hi mx) K := by
  simp only [vcV] at h
  cases mx with
  | some m => grind
  | none =>
  simp only [Option.isSome_none, cond_false] at h
  replace h := zj h
  obtain ⟨i, hi', h⟩ := h
  split at h
  · rename_i e k rows tok l hh hty hx hl hh'
    replace h := zj h
    obtain ⟨ie, hie, h⟩ := h
    cases hb : Nat.beq k ie.size with
    | false => grind
    | true =>
    rw [hb] at h
    simp only [cond_true] at h
    obtain rfl : k = ie.size := (xc _ _).1 hb
    obtain ⟨p, q, hp, hq, hpq, hql, h⟩ := h
    refine ⟨_, h, fun K' h' => ?_, fun w T β ρ o ho he => ?_⟩
    · simp only [vcV, Option.isSome_none, cond_false]
      grind[za]
    · rcases Ha (yv he hx) with ⟨ad, cap, hv, rfl, _, rfl⟩ | ⟨b, off, cap, hv, hcap, hk, f, hf⟩
      · have hq0 : q = 0 := by grind
        have hp0 : p = 0 := by omega
        subst hq0 hp0
        refine ⟨.slice ad 0 0, ?_, VRel.nil _ _⟩
        have hb := Ii (P := P) he hl hh' 0 0 0 0 hp hq (Nat.le_refl _) (Nat.le_refl _)
        cases ad <;> simp [execOp, ho, hv, Instr.sliceAt, Instr.slice, ya (qy (hI _ _ hi') hty), hb, xl (hI _ _ hie)]
      · have hbd := Ii (P := P) he hl hh' rows.length cap p q hp hq hpq (by omega)
        have hlen : (List.drop p (List.take q rows)).length = q - p := by grind
        by_cases hm : cap = p
        · have hqp : q = p := by omega
          have hnil : List.drop p (List.take q rows) = [] := List.eq_nil_of_length_eq_zero (by omega)
          refine ⟨.slice (some ⟨b, off, none⟩) 0 0, ?_, ?_⟩
          · subst hm
            subst hqp
            simp [execOp, ho, hv, Instr.sliceAt, Instr.slice, ya (qy (hI _ _ hi') hty), hbd, xl (hI _ _ hie)]
          · show VRel w T (.lst _ (List.drop p (List.take q rows)) none) _
            grind[VRel.empty]
        · refine ⟨.slice (some ⟨b, off + p * ie.size, none⟩) (q - p) (cap - p), ?_, ?_⟩
          · simp [execOp, ho, hv, Instr.sliceAt, Instr.slice, ya (qy (hI _ _ hi') hty), hbd, xl (hI _ _ hie), hm, x8]
          · show VRel w T (.lst _ (List.drop p (List.take q rows)) none) _
            rw [<- hlen]
            have hget : ∀ (i : Nat) (row : List AV), (List.drop p (List.take q rows))[i]? = some row -> rows[p + i]? = some row := by grind
            refine VRel.lst _ none b (off + p * ie.size) (cap - p) _ (fun j => f (p * ie.size + j)) (by omega) (fun i row h => hk _ _ (hget i row h)) (fun t ht => by cases ht) (fun i row j x h1 h2 => ?_) (fun i row j x h1 h2 => ?_) (fun i row j x h1 h2 => ?_)
            · grind
            · grind
            grind
  · rename_i e b o len cap l hh hty hx hl hh'
    replace h := zj h
    obtain ⟨ie, hie, p, q, hp, hq, hpq, hqc, hpc⟩ := h
    rcases hpc with ⟨hpc, h⟩ | ⟨hpc, h⟩
    · refine ⟨_, h, fun K' h' => ?_, fun w T β ρ o ho he => ?_⟩
      · simp only [vcV, Option.isSome_none, cond_false]
        grind[za]
      · have hb := Ii (P := P) he hl hh' len cap p q hp hq hpq hqc
        have hm : ¬ cap = p := by omega
        refine ⟨_, ?_, VRel.s _⟩
        simp [execOp, ho, he.s hx, Instr.sliceAt, Instr.slice, ya (qy (hI _ _ hi') hty), hb, xl (hI _ _ hie), hm, x8]
    · refine ⟨_, h, fun K' h' => ?_, fun w T β ρ o ho he => ?_⟩
      · simp only [vcV, Option.isSome_none, cond_false]
        grind[za]
      · have hb := Ii (P := P) he hl hh' len cap p q hp hq hpq hqc
        have hq2 : q = cap := by omega
        subst hq2 hpc
        refine ⟨_, ?_, VRel.s _⟩
        simp [execOp, ho, he.s hx, Instr.sliceAt, Instr.slice, ya (qy (hI _ _ hi') hty), hb, xl (hI _ _ hie)]
  · rename_i e l hh hty hx hl hh'
    replace h := zj h
    obtain ⟨ie, hie, hp, hq, h⟩ := h
    refine ⟨_, h, fun K' h' => ?_, fun w T β ρ o ho he => ?_⟩
    · simp_all[vcV,za]
    · have hb := Ii (P := P) he hl hh' 0 0 0 0 hp hq (Nat.le_refl _) (Nat.le_refl _)
      refine ⟨_, ?_, VRel.s _⟩
      simp [execOp, ho, he.s hx, Instr.sliceAt, Instr.slice, ya (qy (hI _ _ hi') hty), hb, xl (hI _ _ hie)]
  · rename_i n e b o hty hx hl hl'
    replace h := zj h
    obtain ⟨ie, hie, h⟩ := h
    refine ⟨_, h, fun K' h' => ?_, fun w T β ρ o' ho he => ?_⟩
    · simp_all[vcV,za]
    · have e1 : lo.map ρ = none := by grind[Km]
      have e2 : hi.map ρ = none := by grind[Km]
      refine ⟨_, ?_, VRel.s _⟩
      simp [execOp, ho, he.s hx, Instr.sliceAt, Instr.sureAddr, ya (Hc (hI _ _ hi') hty), e1, e2, Instr.sliceBounds, xl (hI _ _ hie), x8]
  grind
theorem Rc {w : World} {T : Nat -> Nat -> Prop} {x : AV} {v : Value} (h : VRel w T x v) {l : List AV} (hl : cellsOf x = some l) : Reads w T l v.cells.toList /\ ((∃ c, v = .agg c) \/ qg v = true /\ v.cells.toList = [v]) := by
  cases h with
  | any v => cases hl
  | agg cs c hl' h =>
    simp only [cellsOf, Option.some.injEq] at hl
    subst hl
    exact ⟨⟨by trivial, fun i x y hx hy => h i x y hx (by simpa [Value.cells] using hy)⟩, .inl ⟨c, rfl⟩⟩
  | s v => cases v <;> simp only [cellsOf] at hl <;> cases hl <;> exact ⟨Reads.cons (VRel.s _) Reads.nil, .inr ⟨rfl, rfl⟩⟩
  | tup cs c hl' h => cases hl
  | emp a h => cases hl; exact ⟨Reads.cons (VRel.emp a h) Reads.nil, .inr ⟨rfl, rfl⟩⟩
  | nil k a => cases hl; exact ⟨Reads.cons (VRel.nil k a) Reads.nil, .inr ⟨rfl, rfl⟩⟩
  | lst rows tok b off cap k c hcap hk htok hc h1 hx => cases hl; exact ⟨Reads.cons (.lst rows tok b off cap k c hcap hk htok hc h1 hx) Reads.nil, .inr ⟨rfl, rfl⟩⟩
  | cp cells b off c hc hx => cases hl; exact ⟨Reads.cons (.cp cells b off c hc hx) Reads.nil, .inr ⟨rfl, rfl⟩⟩
  | clos f cs c hl' h => cases hl; exact ⟨Reads.cons (.clos f cs c hl' h) Reads.nil, .inr ⟨rfl, rfl⟩⟩
theorem zkd (vs : List Value) (cells : Array Value) (off : Nat) (h : off + vs.length <= cells.size) :
    ((vs.zipIdx.foldl (fun cs (x : Value × Nat) => cs.setIfInBounds (off + x.2) x.1) cells)).toList = cells.toList.take off ++ vs ++ cells.toList.drop (off + vs.length) := by
  suffices H : ∀ (vs : List Value) (n : Nat) (cells : Array Value), off + n + vs.length <= cells.size ->
      ((vs.zipIdx n).foldl (fun cs (x : Value × Nat) => cs.setIfInBounds (off + x.2) x.1) cells).toList = cells.toList.take (off + n) ++ vs ++ cells.toList.drop (off + n + vs.length) by grind
  intro vs
  induction vs with
  | nil => simp
  | cons v vs ih =>
    intro n cells h
    simp only [List.length_cons] at h
    simp only [List.zipIdx_cons, List.foldl_cons]
    rw [ih (n + 1) _ (by grind)]
    have hlt : off + n < cells.toList.length := by grind
    simp only [Array.toList_setIfInBounds]
    apply List.ext_getElem?
    intro i
    simp only [List.getElem?_append, List.getElem?_take, List.getElem?_drop, List.getElem?_set, List.length_append, List.length_take, List.length_set, List.length_cons, List.length_drop, Array.length_toList]
    grind
theorem Pn {w : World} {T : Nat -> Nat -> Prop} {β : Nat -> Nat} {place : Nat -> Option (Nat × Nat)} : ∀ (parts : List (Nat × LV)) (vals : List (Nat × Value)) (cells : List AV) (cs : Array Value) (l : List AV),
    parts.length = vals.length -> (∀ (i : Nat) (p : Nat × LV) (v : Nat × Value), parts[i]? = some p -> vals[i]? = some v -> p.1 = v.1 /\ LRel w T β p.2 v.2) -> Reads w T cells cs.toList -> C7 place cells parts = some l ->
    ∃ ds, Instr.fill place cs vals = some ds /\ Reads w T l ds.toList := by
  intro parts
  induction parts with
  | nil =>
    intro vals cells cs l hlen _ hr h
    cases vals with
    | nil => simp_all[C7,Instr.fill]
    | cons v vs => grind
  | cons p parts ih =>
    intro vals cells cs l hlen hp hr h
    cases vals with
    | nil => grind
    | cons v vals =>
      obtain ⟨i, x⟩ := p
      obtain ⟨i', u⟩ := v
      obtain ⟨rfl, hx⟩ := hp 0 _ _ rfl rfl
      simp only [C7] at h
      cases hpl : place i with
      | none => grind
      | some os =>
        obtain ⟨off, size⟩ := os
        rw [hpl] at h
        cases x with
        | av x =>
          simp only at h
          cases hc : cellsOf x with
          | none => grind
          | some xs =>
            rw [hc] at h
            simp only at h
            cases hb : (Nat.beq xs.length size && Nat.ble (off + size) cells.length) with
            | false => grind
            | true =>
              rw [hb] at h
              simp only [cond_true] at h
              simp only [Bool.and_eq_true] at hb
              have h1 : xs.length = size := (xc _ _).1 hb.1
              have h2 : off + size <= cells.length := Nat.le_of_ble_eq_true hb.2
              have hrx := (Rc hx hc).1
              have h3 : u.cells.size = size := by rw [<- h1, hrx.1]; simp
              have h4 : off + size <= cs.size := by have := hr.1; grind
              have hsp : Reads w T (z7 cells off xs) (u.cells.zipIdx.foldl (fun cs (x : Value × Nat) => cs.setIfInBounds (off + x.2) x.1) cs).toList := by
                have e : (u.cells.zipIdx.foldl (fun cs (x : Value × Nat) => cs.setIfInBounds (off + x.2) x.1) cs) = (u.cells.toList.zipIdx.foldl (fun cs (x : Value × Nat) => cs.setIfInBounds (off + x.2) x.1) cs) := by grind[Array.toList_zipIdx]
                rw [e, zkd _ _ _ (by grind)]
                unfold z7
                refine ((hr.take off).append hrx).append ?_
                rw [hrx.1]
                exact hr.drop _
              obtain ⟨ds, hd1, hd2⟩ := ih vals _ _ l (by grind) (fun j p v h1 h2 => hp (j + 1) p v (by grind) (by grind)) hsp h
              simp_all[Instr.fill]
        | _ => simp at h
theorem znf {α β : Type} {P : Program} {w : World} {f : α -> Sem β} {g : α -> Option β} (hf : ∀ a b, g a = some b -> (f a).run P w = .ok b w) : ∀ {l : List α} {m : List β}, l.mapM g = some m -> (l.mapM f).run P w = .ok m w := by
  intro l
  induction l with
  | nil => simp
  | cons a l ih =>
    intro m h
    rw [List.mapM_cons] at h
    cases hg : g a with
    | none => grind
    | some b =>
      cases hl : l.mapM g with
      | none => grind
      | some m' =>
        simp_all
theorem ztk (hI : yk P c.I) (t : TypeId) (parts : Array (Nat × Operand)) (h : vcV c ev bx st d (.build t parts) K) : jy P c ev bx st d (.build t parts) K := by
  simp only [vcV] at h
  obtain ⟨i, hi, h⟩ := zj h
  have hparts : ∀ (w : World) (T : Nat -> Nat -> Prop) (β : Nat -> Nat) (ρ : Operand -> Value), Env w T β ev bx st ρ ->
      (parts.toList.map fun p => (p.1, ev p.2)).length = (parts.map fun (p : Nat × Operand) => (p.1, ρ p.2)).toList.length ∧
      ∀ (i : Nat) (p : Nat × LV) (v : Nat × Value), (parts.toList.map fun p => (p.1, ev p.2))[i]? = some p -> (parts.map fun (p : Nat × Operand) => (p.1, ρ p.2)).toList[i]? = some v -> p.1 = v.1 /\ LRel w T β p.2 v.2 := by
    intro w T β ρ he
    refine ⟨by simp, fun i p v hp hv => ?_⟩
    rw [Array.toList_map, List.getElem?_map] at hv
    rw [List.getElem?_map] at hp
    cases hq : parts.toList[i]? with
    | none => grind
    | some q =>
      rw [hq] at hp hv
      simp at hp hv
      subst hp hv
      exact ⟨rfl, he.ev _⟩
  split at h
  · rename_i fs hty
    obtain ⟨pl, hpl, h⟩ := zj h
    obtain ⟨l, hl, h⟩ := zj h
    rw [Ba] at h
    refine ⟨_, h, fun K' h' => ?_, fun w T β ρ o ho he => ?_⟩
    · simp only [vcV]
      grind[za,D6]
    · obtain ⟨a, ha1, ha2⟩ := Fk (hI _ _ hi) hty
      obtain ⟨z, hz1, hz2⟩ := Hj (hI _ _ hi) w
      obtain ⟨h1, h2⟩ := hparts w T β ρ he
      have hpl' : (a.mapM (m := Sem) fun f => do pure (f.offset, <- sizeOf f.type)).run P w = .ok pl.toArray w := by
        rw [Array.mapM_eq_mapM_toList]
        have : (a.toList.mapM (m := Sem) fun f => do pure (f.offset, <- sizeOf f.type)).run P w = .ok pl w := by
          refine znf (g := fun f => (c.I f.type).map fun j => (f.offset, j.size)) ?_ ?_
          · intro f b hb
            cases hj : c.I f.type with
            | none => grind
            | some j =>
              rw [hj] at hb
              simp at hb
              subst hb
              simp [xl (hI _ _ hj)]
          · subst ha2
            rw [<- hpl]
            unfold ej
            rw [List.mapM_map]
            rfl
        simp_all
      have hr0 : Reads w T (i.zero.map AV.s) z.cells.toList := by rw [hz2]; exact Reads.map_s _
      obtain ⟨ds, hd1, hd2⟩ := Pn (w := w) (T := T) (β := β) _ _ _ z.cells l h1 h2 hr0 hl
      have hd1' : Instr.fill (fun x => pl.toArray[x]?) z.cells ((parts.map fun (p : Nat × Operand) => (p.1, ρ p.2)).toList) = some ds := by simp_all
      refine ⟨.agg ds, ?_, Hb hd2⟩
      simp_all[execOp,Instr.build,ya]
  · rename_i n e hty
    obtain ⟨ie, hie, h⟩ := zj h
    obtain ⟨l, hl, h⟩ := zj h
    rw [Ba] at h
    refine ⟨_, h, fun K' h' => ?_, fun w T β ρ o ho he => ?_⟩
    · simp only [vcV]
      grind[za,D6]
    · obtain ⟨z, hz1, hz2⟩ := Hj (hI _ _ hi) w
      obtain ⟨h1, h2⟩ := hparts w T β ρ he
      have hr0 : Reads w T (i.zero.map AV.s) z.cells.toList := by rw [hz2]; exact Reads.map_s _
      obtain ⟨ds, hd1, hd2⟩ := Pn (w := w) (T := T) (β := β) _ _ _ z.cells l h1 h2 hr0 hl
      refine ⟨.agg ds, ?_, Hb hd2⟩
      simp only [execOp, ho, Instr.build, Sem.run_bind, Result.andThen_ok, Sem.run_pure, hz1, ya (Hc (hI _ _ hi) hty), xl (hI _ _ hie), hd1]
  grind
end
theorem Mv {P : Program} {c : Cfg} {ev : Operand -> LV} {bx : Nat -> Option (List AV)} {st : Store} {d : Nat} {K : LV -> Prop} (hI : yk P c.I) (op : Op) (h : vcV c ev bx st d op K) : jy P c ev bx st d op K := by
  cases op with
  | move x => exact zta x h
  | assign x => exact ztm x h
  | pick a b e => exact zs8 a b e h
  | nilCheck x => exact zs9 x h
  | binOp op t x y yt => exact ztl hI op t x y yt h
  | unOp op t x => exact zs5 op t x h
  | convert s t x => exact zti hI s t x h
  | load t a => exact ztc hI t a h
  | fieldAddr s x f => exact ztf hI s x f h
  | field s x f => exact ztg hI s x f h
  | indexAddr t x i => exact ztd hI t x i h
  | index t x i => exact zte hI t x i h
  | slice t x lo hi mx => exact zs6 hI t x lo hi mx h
  | extract x i => exact zth x i h
  | build t ps => exact ztk hI t ps h
  | makeFunc f a b => exact ztb f a b h
  | call cl => exact ztj hI cl h
  | _ => exact h.elim
/-- What is asked of a call's end. -/
def qe (st : Store) (R : AV -> Store -> Prop) (Oth M : Nat -> Nat -> Prop) (w : World) (v : Value) (w' : World) : Prop :=
  ∃ r st' M', R r st' /\ VRel w' (fun b o => M' b o \/ Oth b o) r v /\ StoreOK st' Oth M' w' /\ Chg M w M' w'
def Mi (P : Program) (R : Value -> World -> Prop) : Result Next -> Prop
  | .ok (.enter f args) w => Calls P f args w fun e w' => ∃ v, e = .returned v /\ R v w'
  | .ok (.value v) w => R v w
  | _ => False
/-- The function 'f', called with what reads as 'args', hands back what 'R' says. -/
structure ACalls (P : Program) (f : FuncId) (args : List AV) (st : Store) (R : AV -> Store -> Prop) : Prop where
  out : ∀ (Oth M : Nat -> Nat -> Prop) (w : World) (vs : Array Value), StoreOK st Oth M w -> Reads w (fun b o => M b o \/ Oth b o) args vs.toList ->
    Mi P (qe st R Oth M w) ((callFunc f vs).run P w)
def Fresh (st : Store) (b : Nat) : Prop := st.obj b = none /\ st.tok b = none
/-- A slice with room that nobody else has. -/
def Owned (k : Nat) (st : Store) (v : AV) (rows : List (List AV)) (st' : Store) : Prop :=
  (v = .emp /\ rows = [] /\ st' = st) \/ (rows ≠ [] /\ ∃ b, Fresh st b /\ v = .lst k rows (some b) /\ st' = st.setTok b (some (rows.length * k)))
/-- The elements that a slice reads as. -/
def jc (k : Nat) (x : LV) : Option (List (List AV)) :=
  match x with
  | .av (.lst k' rows _) => bif Nat.beq k' k then some rows else none
  | .av (.s (.slice none 0 _)) => some []
  | .av .emp => some []
  | _ => none
def room (n bytes : Nat) : Prop := n * bytes <= 140737488355328 /\ n <= 140737488355328
def Rl (c : Cfg) (st : Store) (e : TypeId) (s x : LV) (K : AV -> Store -> Prop) : Prop :=
  optK (c.I e) fun ie =>
    match s with
    | .av (.s (.slice none 0 0)) => optK (jc ie.size x) fun rows => room rows.length ie.bytes /\ ∀ v st', Owned ie.size st v rows st' -> K v st'
    | .av .emp => optK (jc ie.size x) fun rows => room rows.length ie.bytes /\ ∀ v st', Owned ie.size st v rows st' -> K v st'
    | .av (.lst k rows (some b)) => bif Nat.beq k ie.size && Nat.blt 0 ie.size then optK (jc ie.size x) fun rows' => st.tok b = some (rows.length * k) /\ room (rows ++ rows').length ie.bytes ∧
        ∀ v st', Owned ie.size (st.setTok b none) v (rows ++ rows') st' -> K v st'
      else False
    | _ => False
/-- An append, in words of worlds: to a slice whose cells are an object of the store. -/
structure AppX (P : Program) (c : Cfg) (st : Store) (e : TypeId) (s x : AV) (K : AV -> Store -> Prop) : Prop where
  has : ∃ ie, c.I e = some ie
  out : ∀ ie, c.I e = some ie -> ∀ (Oth M : Nat -> Nat -> Prop) (w : World) (sv xv : Value) (argTypes : Array TypeId) (ty : TypeId) (args : Array Value) (t : TypeId), StoreOK st Oth M w ->
    VRel w (fun b o => M b o \/ Oth b o) s sv -> VRel w (fun b o => M b o \/ Oth b o) x xv -> argTypes[0]? = some t -> (∃ t1 e1, argTypes[1]? = some t1 /\ P.underlying t1 = some (.slice e1)) ->
    P.underlying t = some (.slice e) -> TIok P e ie -> args[0]? = some sv -> args[1]? = some xv -> ∃ v w', (Builtin.append_ argTypes ty args).run P w = .ok v w' /\ qe st K Oth M w v w'
/-- An append. -/
structure appendK (P : Program) (c : Cfg) (st : Store) (e : TypeId) (s x : LV) (K : AV -> Store -> Prop) : Prop where
  out : Rl c st e s x K \/ ∃ s' x', s = .av s' /\ x = .av x' /\ AppX P c st e s' x' K
/-- An operation, in words of worlds. -/
structure AEff (P : Program) (c : Cfg) (o : Oper) (args : List AV) (st : Store) (R : AV -> Store -> Prop) : Prop where
  out : ∀ (Oth M : Nat -> Nat -> Prop) (w : World) (ρ : Operand -> Value), yk P c.I -> StoreOK st Oth M w -> Reads w (fun b o => M b o \/ Oth b o) args (o.op.operands.map ρ).toList ->
    match (execOp ρ o).run P w with
    | .ok (.value v) w' => qe st R Oth M w v w'
    | .ok .skip w' => o.dst = none /\ qe st R Oth M w (.tuple #[]) w'
    | _ => False
def Hh (j : TI) : Bool := match j.ty with | .slice _ => true | _ => false
/-- The operations that have rules of their own. -/
def isX : Op -> Bool
  | .lookup .. => true
  | .mapUpdate .. => true
  | .insert .. => true
  | .makeMap .. => true
  | .makeSlice .. => true
  | .range .. => true
  | .next .. => true
  | .entry .. => true
  | .makeInterface .. => true
  | .slice _ _ _ _ mx => mx.isSome
  | .call cl => match cl.callee with
    | .builtin .delete => true
    | .builtin .copy => true
    | .builtin .clear => true
    | _ => false
  | _ => false
def yy (A : Fr) (n : Nat) (d : Option Tmp) (x : LV) (K : Fr -> Prop) : Prop :=
  match d with
  | none => K A
  | some d => bif Nat.blt d n then K (A.put d x) else False
def AV.one : AV -> Bool
  | .s v => qg v
  | .agg _ => false
  | .tup _ => false
  | .any => false
  | _ => true
theorem Ok {w : World} {T : Nat -> Nat -> Prop} {x : AV} {v : Value} (h : VRel w T x v) (h1 : x.one = true) : qg v = true := by
  cases h <;> trivial
def Bg (i : TI) (A : Fr) (st : Store) (p : LV) (x : AV) (K : Fr -> Store -> Prop) : Prop :=
  optK (cellsOf x) fun xs => bif Nat.beq xs.length i.size && xs.all AV.one then
    match p with
    | .bx k o => optK (A.bx k) fun l => bif Nat.ble (o + xs.length) l.length then Bb (z7 l o xs) fun l' => K (A.setBx k l') st else False
    | .av (.s (.pointer (some ⟨b, o, none⟩))) => optK (st.obj b) fun y => match y with
      | .cells l => o + xs.length <= l.length /\ Bb (z7 l o xs) fun l' => K A (st.setObj b (.cells l'))
      | _ => False
    | _ => False
  else False
def km (i : TI) : List AV := i.zero.map AV.s
/-- The rows of a slice literal. -/
def Cu (k n : Nat) (acc : List (List AV)) : List (Nat × LV) -> Option (List (List AV))
  | [] => some acc
  | (i, x) :: rest => match x with
    | .av x => match cellsOf x with
      | some xs => bif Nat.beq xs.length k && Nat.blt i n then Cu k n (acc.set i xs) rest else none
      | none => none
    | _ => none
/-- A comparison; of a slice with nil: it may be so only where the slice is empty. -/
def L8 (c : Cfg) (o : Oper) (op : BinOp) (t : TypeId) (x y : Operand) (yt : TypeId) (K : Fr -> Store -> Prop) (A : Fr) (st : Store) : Prop :=
  match A.ev x, A.ev y with
  | .av (.lst _ rows _), .av (.s (.slice none 0 0)) => optK (c.I t) fun i => match i.ty with
    | .slice _ => match op with
      | .eql => ∀ b : Bool, (b = true -> rows = []) -> yy A c.n o.dst (qx b) fun A' => K A' st
      | .neq => ∀ b : Bool, (b = true -> rows = []) -> yy A c.n o.dst (qx (!b)) fun A' => K A' st
      | _ => False
    | _ => False
  | _, _ => optK o.dst fun d => bif Nat.blt d c.n then vcV c A.ev A.bx st d (.binOp op t x y yt) (fun x => K (A.put d x) st) else False
def Pb : Ty -> Bool
  | .int .u8 => true
  | _ => false
def vcX (P : Program) (c : Cfg) (o : Oper) (K : Fr -> Store -> Prop) (A : Fr) (st : Store) : Prop :=
  optK (o.op.operands.toList.mapM fun x => (A.ev x).toAV) fun vs => AEff P c o vs st fun r st' => yy A c.n o.dst (.av r) fun A' => K A' st'
/-- '[]byte("..")': the row is marked. -/
def Lv (P : Program) (c : Cfg) (o : Oper) (s t : TypeId) (x : Operand) (K : Fr -> Store -> Prop) (A : Fr) (st : Store) : Prop :=
  match A.ev x with
  | .av (.lst k rows (some b)) => bif Nat.beq s t then optK (c.I t) fun i => match i.ty with
    | .slice e => optK (c.I e) fun ie => bif Pb ie.ty && Nat.beq k 1 then optK (st.tok b) fun _ => yy A c.n o.dst (.av (.lst k rows (some b))) fun A' => K A' st else False
    | _ => False
    else False
  | .av (.s (.slice _ _ _)) => vcX P c o K A st
  | .av (.s (.pointer _)) => vcX P c o K A st
  | _ => optK o.dst fun d => bif Nat.blt d c.n then vcV c A.ev A.bx st d (.convert s t x) (fun x => K (A.put d x) st) else False
/-- What a method's name means for a value behind an interface: the function, what it gets as receiver. -/
structure Meets (P : Program) (t : TypeId) (v : Value) (m : String) (g : FuncId) (x : AV) : Prop where
  out : ∃ u, (∀ w : World, (method (P.types.size + Made.depth) t v m).run P w = .ok (g, u) w) /\ ∀ (w : World) (T : Nat -> Nat -> Prop), VRel w T x u
/-- A call through an interface. -/
def Kw (P : Program) (c : Cfg) (o : Oper) (cl : Call) (m : String) (y : LV) (K : Fr -> Store -> Prop) (A : Fr) (st : Store) : Prop :=
  match y with
  | .av (.s (.iface t v)) => optK (cl.args.toList.mapM fun x => (A.ev x).toAV) fun vs => ∃ g x, Meets P t v m g x ∧
      ACalls P g (x :: vs) st fun r st' => yy A c.n o.dst (.av r) fun A' => K A' st'
  | _ => False
/-- The function that a value is: what it gets ahead of the arguments, what behind them. -/
def Ld (x : LV) : Option (FuncId × List AV × List AV) :=
  match x with
  | .av (.clos g cap) => some (g, [], cap)
  | .av (.s (.func (.func g) fv cv)) => some (g, fv.toList.map AV.s, cv.toList.map AV.s)
  | _ => none
def Ak (P : Program) (c : Cfg) (o : Oper) (K : Fr -> Store -> Prop) (A : Fr) (st : Store) : Prop :=
  match o.op with
  | .alloc t => optK (c.I t) fun i => optK o.dst fun d => bif Nat.blt d c.n then
      Bb (km i) fun l => (bif c.G.contains d then ∀ b, Fresh st b -> K (A.put d (.av (.s (.pointer (some ⟨b, 0, none⟩))))) (st.setObj b (.cells l))
        else K (A.newBx d l) st) else False
  | .box _ x => optK o.dst fun d => bif Nat.blt d c.n then (match A.ev x with
      | .av x => optK (cellsOf x) fun l =>
        bif c.G.contains d then ∀ b, Fresh st b -> K (A.put d (.av (.s (.pointer (some ⟨b, 0, none⟩))))) (st.setObj b (.cells l))
        else K (A.newBx d l) st
      | _ => False) else False
  | .buildSlice t n parts => optK (c.I t) fun i => optK o.dst fun d => bif Nat.blt d c.n then (match i.ty with
      | .slice e => optK (c.I e) fun ie => optK (Cu ie.size n (List.replicate n (km ie)) (parts.toList.map fun p => (p.1, A.ev p.2))) fun rows =>
        bif rows.flatten.all AV.one then n * ie.size <= 16777216 /\ (match rows with
          | [] => K (A.put d (.av .emp)) st
          | _ :: _ => bif c.G.contains d then (bif c.G.contains (d + 1000000) then ∀ b, Fresh st b -> K (A.put d (.av (.s (.slice (some ⟨b, 0, none⟩) rows.length rows.length)))) (st.setObj b (.cells rows.flatten))
              else ∀ b, Fresh st b -> K (A.put d (.av (.lst ie.size rows (some b)))) (st.setTok b (some (rows.length * ie.size))))
            else K (A.put d (.av (.lst ie.size rows none))) st) else False
      | _ => False) else False
  | .store t a x => bif o.dst.isNone then optK (c.I t) fun i => match A.ev x with
      | .av x => Bg i A st (A.ev a) x K
      | _ => False
      else False
  | .binOp op t x y yt => L8 c o op t x y yt K A st
  | .convert s t x => Lv P c o s t x K A st
  | .call cl => match cl.callee with
    | .value f => match Ld (A.ev f) with
      | some (g, fv, cap) => optK (cl.args.toList.mapM fun x => (A.ev x).toAV) fun vs =>
        ACalls P g (fv ++ (vs ++ cap)) st fun r st' => yy A c.n o.dst (.av r) fun A' => K A' st'
      | _ => False
    | .invoke y m => Kw P c o cl m (A.ev y) K A st
    | .builtin .append => optK cl.argTypes[0]? fun t => optK (c.I t) fun i => optK cl.args[0]? fun s => optK cl.args[1]? fun x => match i.ty with
      | .slice e => bif (cl.argTypes[1]?.bind c.I).any Hh then
          appendK P c st e (A.ev s) (A.ev x) fun r st' => yy A c.n o.dst (.av r) fun A' => K A' st' else vcX P c o K A st
      | _ => False
    | _ => optK o.dst fun d => bif Nat.blt d c.n then vcV c A.ev A.bx st d o.op (fun x => K (A.put d x) st) else False
  | op => optK o.dst fun d => bif Nat.blt d c.n then vcV c A.ev A.bx st d op (fun x => K (A.put d x) st) else False
/-- A call of a loop's round does 'R'. -/
structure AYield (P : Program) (l : Nat) (args : List AV) (st : Store) (R : AV -> Store -> Prop) : Prop where
  out : ∀ (Oth M : Nat -> Nat -> Prop) (w : World) (vs : Array Value), StoreOK st Oth M w -> Reads w (fun b o => M b o \/ Oth b o) args vs.toList ->
    ∃ fn tmps assign body, (Instr.yield l vs).run P w = .ok (.round l fn tmps assign body) w /\ RoundIn Fence.wide 0 P l fn tmps assign body w fun e w' => ∃ v, e = .returned v /\ qe st R Oth M w v w'
/-- Which loop's round this calls. -/
def Mk (A : Fr) (op : Op) : Option Nat :=
  match op with
  | .call cl => match cl.callee with
    | .value f => match A.ev f with
      | .av (.s (.func (.yield l) x y)) => bif Nat.beq x.size 0 && Nat.beq y.size 0 then some l else none
      | _ => none
    | _ => none
  | _ => none
def Rq (A : Fr) (op : Op) : Option (List AV) :=
  match op with
  | .call cl => cl.args.toList.mapM fun x => (A.ev x).toAV
  | _ => none
def vo (P : Program) (c : Cfg) (o : Oper) (K : Fr -> Store -> Prop) (A : Fr) (st : Store) : Prop :=
  bif isX o.op then vcX P c o K A st else Ak P c o K A st
/-- An operation; it may be a call of a loop's round. -/
def Fi (P : Program) (c : Cfg) (o : Oper) (K : Fr -> Store -> Prop) (A : Fr) (st : Store) : Prop :=
  match Mk A o.op with
  | some l => optK (Rq A o.op) fun vs => AYield P l vs st fun r st' => yy A c.n o.dst (.av r) fun A' => K A' st'
  | none => vo P c o K A st
/-- What is asked of one operation, in words of worlds. -/
def Cfg.N (c : Cfg) : SN := ⟨c.n, c.D0, c.nm⟩
def AOp (P : Program) (n : SN) (o : Oper) (K : Fr -> Store -> Prop) (A : Fr) (st : Store) : Prop :=
  ∀ Oth M a w, Sim n Oth A st M a w -> o.wp P a w (fun a' w' => ∃ A' st' M', K A' st' /\ Sim n Oth A' st' M' a' w' /\ Chg M w M' w') (fun _ _ _ => False)
def zx1 (P : Program) (c : Cfg) (o : Oper) (K : Fr -> Store -> Prop) (A : Fr) (st : Store) : Prop :=
  ∀ Oth M a w, Sim c.N Oth A st M a w -> o.wpIn c.F 0 P a w (fun a' w' => ∃ A' st' M', K A' st' /\ Sim c.N Oth A' st' M' a' w' /\ Chg M w M' w') (fun _ _ _ => False)
theorem SimB.env {n : SN} {Oth M : Nat -> Nat -> Prop} {β : Nat -> Nat} {A : Fr} {st : Store} {a : Act} {w : World} (h : SimB n Oth β A st M a w) :
    Env w (fun b o => M b o \/ Oth b o) β A.ev A.bx st a.eval :=
  ⟨h.ev, fun k l hk => (h.bx k l hk).1, fun b x hx => (h.sto.obj b x hx).1⟩
theorem Il {P : Program} {c : Cfg} {o : Oper} {K : Fr -> Store -> Prop} {A : Fr} {st : Store} (hI : yk P c.I)
    (h : optK o.dst fun d => bif Nat.blt d c.n then vcV c A.ev A.bx st d o.op (fun x => K (A.put d x) st) else False) : AOp P c.N o K A st := by
  obtain ⟨d, hd, h⟩ := zj h
  cases hb : Nat.blt d c.n with
  | false => grind
  | true =>
    rw [hb] at h
    simp only [cond_true] at h
    have hlt : d < c.n := Nat.le_of_ble_eq_true hb
    obtain ⟨x, hx, _, hs⟩ := Mv hI o.op h
    rintro Oth M a w ⟨β, sim⟩
    obtain ⟨v, hr, hv⟩ := hs w _ β a.eval o rfl sim.env
    unfold Oper.wp
    rw [hr, Oper.upon_value, hd]
    exact ⟨_, st, M, hx, ⟨β, sim.put hlt hv⟩, Chg.refl M w⟩
section
variable {P : Program} {c : Cfg} {w : World} {Oth M : Nat -> Nat -> Prop} {st : Store}
/-- M and one block more. -/
def jm (M : Nat -> Nat -> Prop) (B : Nat) : Nat -> Nat -> Prop := fun b o => M b o \/ b = B
theorem Gg (w : World) (o : Obj) : (w.alloc o).heap[w.heap.size]? = some o := by
  show (w.heap.push o)[_]? = _
  simp
theorem Cv (w : World) (o : Obj) (M Oth : Nat -> Nat -> Prop) : Keeps w (fun b o => M b o \/ Oth b o) (w.alloc o) (fun b o => jm M w.heap.size b o \/ Oth b o) where
  cell b o' c hc _ := by grind[Be,Aa,Gx]
  out b o' c hc hT hT' := by
    rcases hT' with (h | h) | h
    · grind
    · have := Gx hc; omega
    grind
  shp b c e fr hw := ⟨c, fr, by grind[Aa], rfl⟩
theorem StoreOK.alloc (h : StoreOK st Oth M w) (o : Obj) : StoreOK st Oth (jm M w.heap.size) (w.alloc o) where
  obj b x hx := ⟨ObjRel.same (h.obj b x hx).1 (Cv w o M Oth) (Aa w o b (h.obj b x hx).1.lt), fun o => .inl ((h.obj b x hx).2 o)⟩
  tok b top ht := by
    obtain ⟨c, e, fr, h1, h2, h3, h4⟩ := h.tok b top ht
    exact ⟨c, e, fr, by grind[Aa], h2, h3, fun o ho => .inl (h4 o ho)⟩
  mlt b o' hm := by
    rcases hm with h' | h'
    · have := h.mlt b o' h'; simp; omega
    simp_all
  olt b o' hm := by have := h.olt b o' hm; simp; omega
  dis b o' hO hM := by
    rcases hM with h' | h'
    · exact h.dis b o' hO h'
    · have := h.olt b o' hO; omega
theorem Fa (w : World) (o : Obj) (M : Nat -> Nat -> Prop) : Chg M w (jm M w.heap.size) (w.alloc o) where
  size := by simp
  keep b o' hb _ := Be (Aa w o b hb) o'
  blk b hb _ := Aa w o b hb
  shp b c e fr hw := ⟨c, fr, by grind[Aa], rfl⟩
  sub b o' hm hb := by
    rcases hm with h | h
    · exact h
    · omega
  tape := rfl
  os := rfl
  output := rfl
theorem StoreOK.fresh (h : StoreOK st Oth M w) {b : Nat} (hb : w.heap.size <= b) : Fresh st b := by
  constructor
  · cases ho : st.obj b with
    | none => rfl
    | some x => have := (h.obj b x ho).1.lt; omega
  · cases ho : st.tok b with
    | none => rfl
    | some x =>
      obtain ⟨c, e, fr, h1, _⟩ := h.tok b x ho
      grind
theorem Ig {l : List AV} {cs : Array Value} (w : World) (e : TypeId) (M Oth : Nat -> Nat -> Prop) (h : Reads w (fun b o => M b o \/ Oth b o) l cs.toList) :
    CellsRel (w.alloc (.cells cs e)) (fun b o => jm M w.heap.size b o \/ Oth b o) l w.heap.size :=
  ⟨cs, e, (0, 0), Gg w _, rfl, by simpa using h.1, fun i x y hx hy => (h.2 i x y hx (by grind)).keep (Cv w _ M Oth)⟩
theorem Marks.alloc {Oth M : Nat -> Nat -> Prop} {w : World} {ds : List Deferred} (h : Marks Oth M w ds) (hm : ∀ b o, M b o -> b < w.heap.size) (x : Obj) : Marks Oth (jm M w.heap.size) (w.alloc x) ds :=
  h.step fun D _ hl h2 => ⟨Aa w x D hl, fun o hm => hm.elim (h2 o).1 fun e => by omega⟩
theorem MarksD.alloc {Oth M : Nat -> Nat -> Prop} {w : World} {n : SN} {ds : List Deferred} (h : MarksD Oth M w n ds) (hm : ∀ b o, M b o -> b < w.heap.size) (x : Obj) : MarksD Oth (jm M w.heap.size) (w.alloc x) n ds := by
  obtain ⟨ms, e, h0, h⟩ := h.ex
  exact ⟨ms, e, h0, h.alloc hm x⟩
theorem SimB.newBx {n : SN} {β : Nat -> Nat} {A : Fr} {a : Act} (h : SimB n Oth β A st M a w) {d : Nat} (hd : d < n.sz) {l : List AV} {cs : Array Value} (e : TypeId)
    (hr : Reads w (fun b o => M b o \/ Oth b o) l cs.toList) :
    SimB n Oth (fun k => if k = d then w.heap.size else β k) (A.newBx d l) st (jm M w.heap.size) (a.put (some d) (.pointer (some ⟨w.heap.size, 0, none⟩))) (w.alloc (.cells cs e)) where
  tsz := by simp [Act.put, h.tsz]
  dfr := h.dfr.alloc h.sto.mlt _
  tm i := by
    simp only [Fr.newBx, Act.put, Array.getD_eq_getD_getElem?]
    by_cases hi : i = d
    · subst hi
      have : i < a.tmps.size := by rw [h.tsz]; exact hd
      simp_all[LRel]
    · have hb : Nat.beq i d = false := by grind[xc]
      simp only [hb, cond_false]
      rw [Array.getElem?_setIfInBounds_ne (Ne.symm hi)]
      have h1 := h.tm i
      rw [Array.getD_eq_getD_getElem?] at h1
      cases hx : A.t i with
      | any => trivial
      | und => rw [hx] at h1; exact h1
      | av x => rw [hx] at h1; exact VRel.keep (Cv w _ M Oth) h1
      | bx k o =>
        simp only [LV.kill]
        cases hk : Nat.beq k d with
        | true => trivial
        | false =>
          have hne : k ≠ d := fun e => by simp_all
          simp_all[LRel]
  bx k l' hk := by
    simp only [Fr.newBx] at hk
    by_cases hkd : k = d
    · subst hkd
      simp only [Nat.beq_refl, cond_true, Option.some.injEq] at hk
      subst hk
      simp only [if_true]
      exact ⟨Ig w e M Oth hr, fun o => .inr rfl⟩
    · have hb : Nat.beq k d = false := by grind[xc]
      simp only [hb, cond_false] at hk
      simp only [hkd, if_false]
      exact ⟨(h.bx k l' hk).1.same (Cv w _ M Oth) (Aa w _ _ (h.bx k l' hk).1.lt), fun o => .inl ((h.bx k l' hk).2 o)⟩
  inj k k' hk hk' he := by
    simp only [Fr.newBx] at hk hk'
    have hlt : ∀ k, A.bx k ≠ none -> β k < w.heap.size := fun k hk => by
      cases hl : A.bx k with
      | none => grind
      | some l => exact (h.bx k l hl).1.lt
    by_cases h1 : k = d <;> by_cases h2 : k' = d
    · omega
    · have hb : Nat.beq k' d = false := by grind[xc]
      grind
    · have hb : Nat.beq k d = false := by grind[xc]
      grind
    · have hb : Nat.beq k d = false := by grind[xc]
      have hb' : Nat.beq k' d = false := by grind[xc]
      simp only [hb, hb', cond_false] at hk hk'
      simp only [h1, h2, if_false] at he
      exact h.inj k k' hk hk' he
  sep k b hk hb he := by
    have hlt : b < w.heap.size := by
      rcases hb with hb | hb
      · cases ho : st.obj b with
        | none => grind
        | some x => exact (h.sto.obj b x ho).1.lt
      · cases ho : st.tok b with
        | none => grind
        | some x =>
          obtain ⟨c, e, fr, h1, _⟩ := h.sto.tok b x ho
          grind
    simp only [Fr.newBx] at hk
    by_cases h1 : k = d
    · grind
    · have hb' : Nat.beq k d = false := by grind[xc]
      simp only [hb', cond_false] at hk
      simp only [h1, if_false] at he
      exact h.sep k b hk hb he
  sto := h.sto.alloc _
theorem SimB.grow1 {n : SN} {β : Nat -> Nat} {A : Fr} {a : Act} (h : SimB n Oth β A st M a w) (o : Obj) : SimB n Oth β A st (jm M w.heap.size) a (w.alloc o) where
  tsz := h.tsz
  dfr := h.dfr.alloc h.sto.mlt _
  tm i := (h.tm i).keep (Cv w _ M Oth)
  bx k l hk := ⟨(h.bx k l hk).1.same (Cv w _ M Oth) (Aa w _ _ (h.bx k l hk).1.lt), fun o => .inl ((h.bx k l hk).2 o)⟩
  inj := h.inj
  sep := h.sep
  sto := h.sto.alloc _
theorem yz {i j : Nat} (h : i ≠ j) : Nat.beq i j = false := by grind[xc]
/-- A new object. -/
theorem SimB.newObj {n : SN} {β : Nat -> Nat} {A : Fr} {a : Act} (h : SimB n Oth β A st M a w) (o : Obj) (x : AObj)
    (hr : ObjRel (w.alloc o) (fun b o => jm M w.heap.size b o \/ Oth b o) x w.heap.size) :
    SimB n Oth β A (st.setObj w.heap.size x) (jm M w.heap.size) a (w.alloc o) where
  tsz := h.tsz
  dfr := h.dfr.alloc h.sto.mlt _
  tm := (h.grow1 o).tm
  bx := (h.grow1 o).bx
  inj := h.inj
  sep k b hk hb he := by
    by_cases hbs : b = w.heap.size
    · cases hl : A.bx k with
      | none => grind
      | some l => have := (h.bx k l hl).1.lt; omega
    · refine h.sep k b hk ?_ he
      simpa [Store.setObj, yz hbs] using hb
  sto := by
    have h' := h.sto.alloc o
    refine ⟨fun b y hy => ?_, h'.tok, h'.mlt, h'.olt, h'.dis⟩
    by_cases hbs : b = w.heap.size
    · subst hbs
      simp only [Store.setObj, Nat.beq_refl, cond_true, Option.some.injEq] at hy
      subst hy
      exact ⟨hr, fun o => .inr rfl⟩
    · simp only [Store.setObj, yz hbs, cond_false] at hy
      exact h'.obj b y hy
end
section
variable {P : Program} {c : Cfg} {w : World} {Oth M : Nat -> Nat -> Prop} {st : Store}
theorem CellsRel.mono {T T' : Nat -> Nat -> Prop} (hs : ∀ b o, T' b o -> T b o) {l : List AV} {b : Nat} (h : CellsRel w T l b) : CellsRel w T' l b := by
  obtain ⟨c, e, fr, h1, h2, h3, h4⟩ := h
  exact ⟨c, e, fr, h1, h2, h3, fun i x y hx hy => (h4 i x y hx hy).mono hs⟩
theorem ObjRel.mono {T T' : Nat -> Nat -> Prop} (hs : ∀ b o, T' b o -> T b o) {x : AObj} {b : Nat} (h : ObjRel w T x b) : ObjRel w T' x b := by
  cases x with
  | cells l => exact CellsRel.mono hs h
  | map es bs clock =>
    obtain ⟨ms, h1, h2, h3, h4⟩ := h
    exact ⟨ms, h1, h2, fun i x y hx hy => ⟨(h3 i x y hx hy).1.mono hs, (h3 i x y hx hy).2.mono hs⟩, h4⟩
  | iter m since seen last => exact h
  | ghost o gh => exact ⟨h.1, fun p hp => (h.2 p hp).mono hs⟩
theorem LRel.mono {T T' : Nat -> Nat -> Prop} (hs : ∀ b o, T' b o -> T b o) {β : Nat -> Nat} {x : LV} {v : Value} (h : LRel w T β x v) : LRel w T' β x v := by
  cases x with
  | any => trivial
  | und => exact h
  | av x => exact VRel.mono hs h
  | bx k off => exact h
theorem SimB.shrink {n : SN} {β : Nat -> Nat} {A : Fr} {a : Act} (h : SimB n Oth β A st M a w) {M' : Nat -> Nat -> Prop} (hs : ∀ b o, M' b o -> M b o)
    (hb : ∀ k l, A.bx k = some l -> ∀ o, M' (β k) o) (ho : ∀ b x, st.obj b = some x -> ∀ o, M' b o) (ht : ∀ b top, st.tok b = some top -> ∀ o, top <= o -> M' b o) : SimB n Oth β A st M' a w where
  tsz := h.tsz
  dfr := h.dfr.sub hs
  tm i := (h.tm i).mono fun b o hm => hm.imp (hs b o) id
  bx k l hk := ⟨(h.bx k l hk).1.mono fun b o hm => hm.imp (hs b o) id, hb k l hk⟩
  inj := h.inj
  sep := h.sep
  sto :=
    { obj := fun b x hx => ⟨(h.sto.obj b x hx).1.mono fun b o hm => hm.imp (hs b o) id, ho b x hx⟩
      tok := fun b top hx => by
        obtain ⟨c, e, fr, h1, h2, h3, h4⟩ := h.sto.tok b top hx
        grind
      mlt := fun b o hm => h.sto.mlt b o (hs b o hm)
      olt := h.sto.olt
      dis := fun b o hO hM => h.sto.dis b o hO (hs b o hM) }
/-- M and the cells of one block from 'top' on. -/
def Mh (M : Nat -> Nat -> Prop) (B top : Nat) : Nat -> Nat -> Prop := fun b o => M b o \/ (b = B /\ top <= o)
theorem gb (w : World) (o : Obj) (M : Nat -> Nat -> Prop) (top : Nat) : Chg M w (Mh M w.heap.size top) (w.alloc o) :=
  { Fa w o M with
    sub := fun b o' hm hb => by
      rcases hm with h | h
      · exact h
      · omega }
theorem SimB.newTok {n : SN} {β : Nat -> Nat} {A : Fr} {a : Act} (h : SimB n Oth β A st M a w) (cs : Array Value) (e : TypeId) (top : Nat) (htop : top <= cs.size) :
    SimB n Oth β A (st.setTok w.heap.size (some top)) (Mh M w.heap.size top) a (w.alloc (.cells cs e)) := by
  have hlt : ∀ b, (st.obj b ≠ none \/ st.tok b ≠ none) -> b < w.heap.size := fun b hb => by
    rcases hb with hb | hb
    · cases ho : st.obj b with
      | none => grind
      | some x => exact (h.sto.obj b x ho).1.lt
    · cases ho : st.tok b with
      | none => grind
      | some x =>
        obtain ⟨c, e, fr, h1, _⟩ := h.sto.tok b x ho
        grind
  have h1 := (h.grow1 (.cells cs e)).shrink (M' := Mh M w.heap.size top) (fun b o hm => hm.imp id fun h => h.1)
    (fun k l hk o => .inl ((h.bx k l hk).2 o)) (fun b x hx o => .inl ((h.sto.obj b x hx).2 o))
    (fun b t hx o ho => by
      obtain ⟨c, e, fr, h1, h2, h3, h4⟩ := h.sto.tok b t hx
      exact .inl (h4 o ho))
  refine { h1 with sep := fun k b hk hb he => ?_, sto := { h1.sto with tok := fun b t ht => ?_ } }
  · by_cases hbs : b = w.heap.size
    · cases hl : A.bx k with
      | none => grind
      | some l => have := (h.bx k l hl).1.lt; omega
    · refine h.sep k b hk ?_ he
      simpa [Store.setTok, yz hbs] using hb
  · by_cases hbs : b = w.heap.size
    · subst hbs
      simp only [Store.setTok, Nat.beq_refl, cond_true, Option.some.injEq] at ht
      subst ht
      exact ⟨cs, e, (0, 0), Gg w _, .inl rfl, htop, fun o ho => .inr ⟨rfl, ho⟩⟩
    · simp only [Store.setTok, yz hbs, cond_false] at ht
      exact h1.sto.tok b t ht
/-- What becomes of a world when cells of one block are stored. -/
structure Wrote (w : World) (b o : Nat) (vs : List Value) (w' : World) : Prop where
  size : w'.heap.size = w.heap.size
  other : ∀ b', b' ≠ b -> w'.heap[b']? = w.heap[b']?
  blk : ∀ c e fr, w.heap[b]? = some (.cells c e fr) -> ∃ c', w'.heap[b]? = some (.cells c' e fr) /\ c'.toList = c.toList.take o ++ vs ++ c.toList.drop (o + vs.length) /\ c'.size = c.size
  tape : w'.tape = w.tape
  os : w'.os = w.os
  output : w'.output = w.output
theorem K4 (w : World) (b o : Nat) (v : Value) (b' : Nat) : (w.setCell ⟨b, o, none⟩ v).heap[b']? = if b' = b then (w.heap[b']?).map (fun | .cells c e fr => .cells (c.setIfInBounds o v) e fr | x => x) else w.heap[b']? := by
  simp only [World.setCell, Array.getElem?_modify]
  grind
theorem F0 (w : World) (b o : Nat) : ∀ (vs : List Value) (i : Nat) (w : World) (c : Array Value) (e : TypeId) (fr : Nat × Nat), w.heap[b]? = some (.cells c e fr) -> wj fr c.size -> o + i + vs.length <= c.size ->
    (∀ v ∈ vs, qg v = true) -> ∃ w', (storeCells ⟨b, o, none⟩ vs i).run P w = .ok () w' /\ Wrote w b (o + i) vs w' := by
  intro vs
  induction vs with
  | nil =>
    intro i w c e fr hw _ _ _
    exact ⟨w, by rfl, rfl, fun _ _ => rfl, fun c e fr h => ⟨c, h, by simp, rfl⟩, rfl, rfl, rfl⟩
  | cons v vs ih =>
    intro i w c e fr hw hf hlen hone
    simp only [List.length_cons] at hlen
    have hlt : o + i < c.size := by omega
    have hcell : w.cell? ⟨b, o + i, none⟩ = some c[o + i] := by simp [World.cell?, hw, hlt]
    have hfz : w.frozen? ⟨b, o + i, none⟩ = false := by grind[World.frozen?,wj]
    have hst : (store (Addr.add ⟨b, o, none⟩ i) v).run P w = .ok () (w.setCell ⟨b, o + i, none⟩ v) := by
      rw [x8]
      have h1 := hone v (by simp)
      cases v <;> simp [qg] at h1 <;> simp [store, Sem.run, hcell, hfz]
    have hw1 : (w.setCell ⟨b, o + i, none⟩ v).heap[b]? = some (.cells (c.setIfInBounds (o + i) v) e fr) := by simp_all[K4]
    obtain ⟨w', hr, hwr⟩ := ih (i + 1) _ _ e fr hw1 (by grind) (by grind) (fun v hv => hone v (by simp [hv]))
    refine ⟨w', by grind[storeCells,Sem.run_bind,Result.andThen_ok], by rw [hwr.size]; simp, fun b' hb => by rw [hwr.other b' hb, K4, if_neg hb], fun c₁ e₁ fr₁ hc₁ => ?_, by rw [hwr.tape]; rfl, by rw [hwr.os]; rfl, by rw [hwr.output]; rfl⟩
    rw [hw] at hc₁
    cases hc₁
    obtain ⟨c', hc', hl, hs⟩ := hwr.blk _ _ _ hw1
    refine ⟨c', hc', ?_, by grind⟩
    rw [hl, Array.toList_setIfInBounds]
    have hlt' : o + i < c.toList.length := by omega
    apply List.ext_getElem?
    intro j
    simp only [List.getElem?_append, List.getElem?_take, List.getElem?_drop, List.getElem?_set, List.length_append, List.length_take, List.length_set, List.length_cons, Array.length_toList]
    grind
theorem Wrote.keeps {b o : Nat} {vs : List Value} {w' : World} (h : Wrote w b o vs w') {T : Nat -> Nat -> Prop} (hb : ∀ o, T b o) : Keeps w T w' T where
  cell b' o' c hc hT := by
    have hne : b' ≠ b := fun e => hT (e ▸ hb o')
    rw [Be (h.other b' hne)]
    exact hc
  out b' o' c hc hT := hT
  shp b' c e fr hw := by
    by_cases hbb : b' = b
    · subst hbb
      obtain ⟨c', h1, _, h2⟩ := h.blk c e fr hw
      grind
    · exact ⟨c, fr, by rw [h.other b' hbb]; exact hw, rfl⟩
theorem Wrote.chg {b o : Nat} {vs : List Value} {w' : World} (h : Wrote w b o vs w') (hb : ∀ o, M b o) : Chg M w M w' where
  size := by rw [h.size]; simp
  keep b' o' _ hm := Be (h.other b' fun e => hm (e ▸ hb o')) o'
  blk b' _ hm := h.other b' fun e => hm 0 (e ▸ hb 0)
  shp := (h.keeps (T := M) hb).shp
  sub _ _ hm _ := hm
  tape := h.tape
  os := h.os
  output := h.output
theorem CellsRel.wrote {b o : Nat} {vs : List Value} {w' : World} {T : Nat -> Nat -> Prop} (h : Wrote w b o vs w') (hT : ∀ o, T b o) {l xs : List AV} (hl : CellsRel w T l b) (hx : Reads w T xs vs) :
    CellsRel w' T (z7 l o xs) b := by
  obtain ⟨c, e, fr, h1, h2, h3, h4⟩ := hl
  obtain ⟨c', h5, h6, h7⟩ := h.blk c e fr h1
  have hr : Reads w T l c.toList := ⟨by omega, fun i x y hx hy => h4 i x y hx (by grind)⟩
  have hr' : Reads w' T (z7 l o xs) c'.toList := by
    rw [h6]
    unfold z7
    refine (((hr.take o).append hx).append ?_).keep (h.keeps hT)
    rw [hx.1]
    exact hr.drop _
  exact ⟨c', e, fr, h5, h2, by simpa using hr'.1, fun i x y hx hy => hr'.2 i x y hx (by grind)⟩
theorem StoreOK.wrote {b o : Nat} {vs : List Value} {w' : World} (h : StoreOK st Oth M w) (hw : Wrote w b o vs w') (hb : ∀ o, M b o) (hob : st.obj b = none) : StoreOK st Oth M w' where
  obj b' x hx := by
    have hne : b' ≠ b := fun e => by grind
    exact ⟨ObjRel.same (h.obj b' x hx).1 (hw.keeps fun o => .inl (hb o)) (hw.other b' hne), (h.obj b' x hx).2⟩
  tok b' top ht := by
    obtain ⟨c, e, fr, h1, h2, h3, h4⟩ := h.tok b' top ht
    by_cases he : b' = b
    · subst he
      obtain ⟨c', h5, _, h6⟩ := hw.blk c e fr h1
      grind
    · exact ⟨c, e, fr, by rw [hw.other b' he]; exact h1, h2, h3, h4⟩
  mlt b' o' hm := by rw [hw.size]; exact h.mlt b' o' hm
  olt b' o' hm := by rw [hw.size]; exact h.olt b' o' hm
  dis := h.dis
/-- A store into a box of the call's own. -/
theorem SimB.setBx {n : SN} {β : Nat -> Nat} {A : Fr} {a : Act} (h : SimB n Oth β A st M a w) {k o : Nat} {l xs : List AV} {vs : List Value} {w' : World} (hk : A.bx k = some l)
    (hx : Reads w (fun b o => M b o \/ Oth b o) xs vs) (hw : Wrote w (β k) o vs w') : SimB n Oth β (A.setBx k (z7 l o xs)) st M a w' := by
  have hM := (h.bx k l hk).2
  have hT : ∀ o, M (β k) o \/ Oth (β k) o := fun o => .inl (hM o)
  have hsome : ∀ k', (A.setBx k (z7 l o xs)).bx k' ≠ none -> A.bx k' ≠ none := by grind[Fr.setBx,yz]
  have hob : st.obj (β k) = none := by
    cases ho : st.obj (β k) with
    | none => rfl
    | some x => exact absurd rfl (h.sep k (β k) (by grind) (.inl (by grind)))
  exact
    { tsz := h.tsz
      dfr := h.dfr.step fun D _ _ h2 => ⟨hw.other D fun e => (h2 0).1 (e ▸ hM 0), fun o => (h2 o).1⟩
      tm := fun i => (h.tm i).keep (hw.keeps hT)
      bx := fun k' l' hk' => by
        by_cases he : k' = k
        · subst he
          simp only [Fr.setBx, Nat.beq_refl, cond_true, Option.some.injEq] at hk'
          subst hk'
          exact ⟨CellsRel.wrote hw hT (h.bx k' l hk).1 hx, hM⟩
        · simp only [Fr.setBx, yz he, cond_false] at hk'
          have hne : β k' ≠ β k := fun e => he (h.inj k' k (by grind) (by grind) e)
          exact ⟨(h.bx k' l' hk').1.same (hw.keeps hT) (hw.other _ hne), (h.bx k' l' hk').2⟩
      inj := fun k1 k2 h1 h2 => h.inj k1 k2 (hsome k1 h1) (hsome k2 h2)
      sep := fun k1 b h1 => h.sep k1 b (hsome k1 h1)
      sto := h.sto.wrote hw hM hob }
/-- A store into an object. -/
theorem SimB.setObj {n : SN} {β : Nat -> Nat} {A : Fr} {a : Act} (h : SimB n Oth β A st M a w) {b o : Nat} {l xs : List AV} {vs : List Value} {w' : World} (hk : st.obj b = some (.cells l))
    (hx : Reads w (fun b o => M b o \/ Oth b o) xs vs) (hw : Wrote w b o vs w') : SimB n Oth β A (st.setObj b (.cells (z7 l o xs))) M a w' := by
  have hM := (h.sto.obj b _ hk).2
  have hT : ∀ o, M b o \/ Oth b o := fun o => .inl (hM o)
  exact
    { tsz := h.tsz
      dfr := h.dfr.step fun D _ _ h2 => ⟨hw.other D fun e => (h2 0).1 (e ▸ hM 0), fun o => (h2 o).1⟩
      tm := fun i => (h.tm i).keep (hw.keeps hT)
      bx := fun k' l' hk' => by
        have hne : β k' ≠ b := h.sep k' b (by grind) (.inl (by grind))
        exact ⟨(h.bx k' l' hk').1.same (hw.keeps hT) (hw.other _ hne), (h.bx k' l' hk').2⟩
      inj := h.inj
      sep := fun k1 b1 h1 h2 => h.sep k1 b1 h1 (by grind[Store.setObj,yz])
      sto :=
        { obj := fun b' x hx' => by
            by_cases he : b' = b
            · subst he
              simp only [Store.setObj, Nat.beq_refl, cond_true, Option.some.injEq] at hx'
              subst hx'
              exact ⟨CellsRel.wrote hw hT (h.sto.obj b' _ hk).1 hx, hM⟩
            · simp only [Store.setObj, yz he, cond_false] at hx'
              exact ⟨ObjRel.same (h.sto.obj b' x hx').1 (hw.keeps hT) (hw.other b' he), (h.sto.obj b' x hx').2⟩
          tok := fun b' top ht => by
            obtain ⟨c, e, fr, h1, h2, h3, h4⟩ := h.sto.tok b' top ht
            by_cases he : b' = b
            · subst he
              obtain ⟨c', h5, _, h6⟩ := hw.blk c e fr h1
              grind
            · exact ⟨c, e, fr, by rw [hw.other b' he]; exact h1, h2, h3, h4⟩
          mlt := fun b' o' hm => by rw [hw.size]; exact h.sto.mlt b' o' hm
          olt := fun b' o' hm => by rw [hw.size]; exact h.sto.olt b' o' hm
          dis := h.sto.dis } }
end
section
variable {P : Program} {c : Cfg} {K : Fr -> Store -> Prop} {A : Fr} {st : Store}
theorem jv {d n : Nat} {p : Prop} (h : bif Nat.blt d n then p else False) : d < n /\ p := by simp_all
theorem zxm {o : Oper} {t : TypeId} (ho : o.op = .alloc t) (hI : yk P c.I)
    (h : optK (c.I t) fun i => optK o.dst fun d => bif Nat.blt d c.n then
      (bif c.G.contains d then ∀ b, Fresh st b -> K (A.put d (.av (.s (.pointer (some ⟨b, 0, none⟩))))) (st.setObj b (.cells (km i)))
        else K (A.newBx d (km i)) st) else False) : AOp P c.N o K A st := by
  obtain ⟨i, hi, h⟩ := zj h
  obtain ⟨d, hd, h⟩ := zj h
  obtain ⟨hlt, h⟩ := jv h
  rintro Oth M a w ⟨β, sim⟩
  obtain ⟨z, hz1, hz2⟩ := Hj (hI _ _ hi) w
  have hr : (execOp a.eval o).run P w = .ok (.value (.pointer (some ⟨w.heap.size, 0, none⟩))) (w.alloc (.cells z.cells t)) := by simp_all[execOp,Instr.alloc,newVar,newRow]
  have hrd : ∀ T, Reads w T (km i) z.cells.toList := fun T => by grind[km,Reads.map_s]
  unfold Oper.wp
  rw [hr, Oper.upon_value, hd]
  cases hg : c.G.contains d with
  | true =>
    rw [hg] at h
    refine ⟨_, _, jm M w.heap.size, h w.heap.size (sim.sto.fresh (Nat.le_refl _)), ⟨β, ?_⟩, Fa _ _ _⟩
    exact (sim.newObj _ (.cells (km i)) (Ig w t M Oth (hrd _))).put hlt (VRel.s _)
  | false =>
    rw [hg] at h
    exact ⟨_, _, jm M w.heap.size, h, ⟨_, sim.newBx hlt t (hrd _)⟩, Fa _ _ _⟩
theorem zxj {o : Oper} {t : TypeId} {x : Operand} (ho : o.op = .box t x) (hI : yk P c.I)
    (h : optK o.dst fun d => bif Nat.blt d c.n then (match A.ev x with
      | .av x => optK (cellsOf x) fun l =>
        bif c.G.contains d then ∀ b, Fresh st b -> K (A.put d (.av (.s (.pointer (some ⟨b, 0, none⟩))))) (st.setObj b (.cells l))
        else K (A.newBx d l) st
      | _ => False) else False) : AOp P c.N o K A st := by
  obtain ⟨d, hd, h⟩ := zj h
  obtain ⟨hlt, h⟩ := jv h
  split at h
  · rename_i y hy
    obtain ⟨l, hl, h⟩ := zj h
    rintro Oth M a w ⟨β, sim⟩
    have hv := yv sim.env hy
    obtain ⟨hrd, _⟩ := Rc hv hl
    have hr : (execOp a.eval o).run P w = .ok (.value (.pointer (some ⟨w.heap.size, 0, none⟩))) (w.alloc (.cells (a.eval x).cells t)) := by
      simp [execOp, ho, Instr.box, newVar, newRow]
    unfold Oper.wp
    rw [hr, Oper.upon_value, hd]
    cases hg : c.G.contains d with
    | true =>
      rw [hg] at h
      refine ⟨_, _, jm M w.heap.size, h w.heap.size (sim.sto.fresh (Nat.le_refl _)), ⟨β, ?_⟩, Fa _ _ _⟩
      exact (sim.newObj _ (.cells l) (Ig w t M Oth hrd)).put hlt (VRel.s _)
    | false =>
      rw [hg] at h
      exact ⟨_, _, jm M w.heap.size, h, ⟨_, sim.newBx hlt t hrd⟩, Fa _ _ _⟩
  grind
theorem zxe {o : Oper} {t : TypeId} {p x : Operand} (ho : o.op = .store t p x) (hd : o.dst = none) (hI : yk P c.I)
    (h : optK (c.I t) fun i => match A.ev x with
      | .av x => Bg i A st (A.ev p) x K
      | _ => False) : AOp P c.N o K A st := by
  obtain ⟨i, hi, h⟩ := zj h
  split at h
  · rename_i y hy
    obtain ⟨xs, hxs, h⟩ := zj h
    cases hb : (Nat.beq xs.length i.size && xs.all AV.one) with
    | false => grind
    | true =>
    rw [hb] at h
    simp only [cond_true] at h
    simp only [Bool.and_eq_true] at hb
    have hsz : xs.length = i.size := (xc _ _).1 hb.1
    rintro Oth M a w ⟨β, sim⟩
    have hv := yv sim.env hy
    obtain ⟨hrd, hone⟩ := Rc hv hxs
    have hone' : ∀ v ∈ (a.eval x).cells.toList, qg v = true := by
      intro v hv
      obtain ⟨j, hj⟩ := List.mem_iff_getElem?.1 hv
      have hjl : j < xs.length := by rw [hrd.1]; grind
      exact Ok (hrd.2 j _ v (List.getElem?_eq_getElem hjl) hj) (List.all_eq_true.1 hb.2 _ (List.getElem_mem hjl))
    have hvs : (a.eval x).cells.size = i.size := by rw [<- hsz, hrd.1]; simp
    unfold Oper.wp
    split at h
    · rename_i k off hp
      obtain ⟨l, hl, h⟩ := zj h
      cases hb2 : Nat.ble (off + xs.length) l.length with
      | false => grind
      | true =>
      rw [hb2] at h
      simp only [cond_true, Ba] at h
      have hle : off + xs.length <= l.length := Nat.le_of_ble_eq_true hb2
      have hp' : a.eval p = .pointer (some ⟨β k, off, none⟩) := by have := sim.ev p; rw [hp] at this; exact this
      obtain ⟨⟨cs, e, fr, h1, h2, h3, h4⟩, hM⟩ := sim.bx k l hl
      obtain ⟨w', hr, hw⟩ := F0 (P := P) w (β k) off (a.eval x).cells.toList 0 w cs e fr h1 (.inl h2) (by grind) hone'
      have hrun : (execOp a.eval o).run P w = .ok .skip w' := by
        simp [execOp, ho, hp', Instr.storeAt, Instr.sureAddr, storeVar, xl (hI _ _ hi), hvs, hr]
      rw [hrun, Oper.upon_skip, hd]
      exact ⟨_, _, M, h, ⟨β, sim.setBx hl hrd hw⟩, hw.chg hM⟩
    · rename_i b off hp
      obtain ⟨ob, hob, h⟩ := zj h
      cases ob with
      | map es bs clock => grind
      | iter m since seen last => grind
      | ghost o gh => grind
      | cells l =>
      obtain ⟨hle, h⟩ := h
      rw [Ba] at h
      have hp' : a.eval p = .pointer (some ⟨b, off, none⟩) := VRel.eq_s (yv sim.env hp)
      obtain ⟨⟨cs, e, fr, h1, h2, h3, h4⟩, hM⟩ := sim.sto.obj b _ hob
      obtain ⟨w', hr, hw⟩ := F0 (P := P) w b off (a.eval x).cells.toList 0 w cs e fr h1 (.inl h2) (by grind) hone'
      have hrun : (execOp a.eval o).run P w = .ok .skip w' := by
        simp [execOp, ho, hp', Instr.storeAt, Instr.sureAddr, storeVar, xl (hI _ _ hi), hvs, hr]
      rw [hrun, Oper.upon_skip, hd]
      exact ⟨_, _, M, h, ⟨β, sim.setObj hob hrd hw⟩, hw.chg hM⟩
    grind
  grind
end
section
variable {P : Program} {c : Cfg} {K : Fr -> Store -> Prop} {A : Fr} {st : Store}
theorem VRel.clos_inv {w : World} {T : Nat -> Nat -> Prop} {f : FuncId} {cs : List AV} {v : Value} (h : VRel w T (.clos f cs) v) : ∃ c, v = .func (.func f) #[] c /\ Reads w T cs c.toList := by
  cases h with
  | clos _ _ c hl h => exact ⟨c, rfl, by omega, fun i x y hx hy => h i x y hx (by grind)⟩
/-- What a call may turn: not the frame's boxes. -/
def inM (M : Nat -> Nat -> Prop) (A : Fr) (β : Nat -> Nat) : Nat -> Nat -> Prop := fun b o => M b o /\ ∀ k, A.bx k ≠ none -> β k ≠ b
def Kl (Oth M : Nat -> Nat -> Prop) (A : Fr) (β : Nat -> Nat) : Nat -> Nat -> Prop := fun b o => Oth b o \/ (M b o /\ ∃ k, A.bx k ≠ none /\ β k = b)
theorem Cx {Oth M : Nat -> Nat -> Prop} {β : Nat -> Nat} : ∀ b o, (inM M A β b o \/ Kl Oth M A β b o) -> (M b o \/ Oth b o) := by
  rintro b o (h | h | h)
  · exact .inl h.1
  · grind
  grind
theorem SimB.inner {n : SN} {Oth M : Nat -> Nat -> Prop} {β : Nat -> Nat} {a : Act} {w : World} (sim : SimB n Oth β A st M a w) : StoreOK st (Kl Oth M A β) (inM M A β) w :=
  { obj := fun b x hx => ⟨(sim.sto.obj b x hx).1.mono Cx, fun o => ⟨(sim.sto.obj b x hx).2 o, fun k hk => sim.sep k b hk (.inl (by grind))⟩⟩
    tok := fun b top hx => by
      obtain ⟨c, e, fr, h1, h2, h3, h4⟩ := sim.sto.tok b top hx
      exact ⟨c, e, fr, h1, h2, h3, fun o ho => ⟨h4 o ho, fun k hk => sim.sep k b hk (.inr (by grind))⟩⟩
    mlt := fun b o hm => sim.sto.mlt b o hm.1
    olt := fun b o hm => by
      rcases hm with h | h
      · exact sim.sto.olt b o h
      · exact sim.sto.mlt b o h.1
    dis := fun b o hO hM => by
      rcases hO with h | ⟨h, k, hk, he⟩
      · exact sim.sto.dis b o h hM.1
      · exact hM.2 k hk he }
/-- The frame behind what turns no box of it. -/
theorem SimB.post {n : SN} {Oth M : Nat -> Nat -> Prop} {β : Nat -> Nat} {a : Act} {w : World} (sim : SimB n Oth β A st M a w) {R : AV -> Store -> Prop} :
    ∀ v w', qe st R (Kl Oth M A β) (inM M A β) w v w' -> ∃ r st' M', R r st' /\ VRel w' (fun b o => M' b o \/ Oth b o) r v /\ SimB n Oth β A st' M' a w' /\ Chg M w M' w' := by
  rintro v w' ⟨r, st', Mc', hR, hr, hsto, hchg⟩
  let M' : Nat -> Nat -> Prop := fun b o => Mc' b o \/ (M b o /\ ∃ k, A.bx k ≠ none /\ β k = b)
  have hT2 : ∀ b o, (M' b o \/ Oth b o) -> (Mc' b o \/ Kl Oth M A β b o) := by
    rintro b o ((h | h) | h)
    · grind
    · exact .inr (.inr h)
    · exact .inr (.inl h)
  have hblk : ∀ k, A.bx k ≠ none -> w'.heap[β k]? = w.heap[β k]? := fun k hk => by
    cases hl : A.bx k with
    | none => grind
    | some l => exact hchg.blk _ (sim.bx k l hl).1.lt fun o hm => hm.2 k hk rfl
  have hno : ∀ k b o, A.bx k ≠ none -> Mc' b o -> β k ≠ b := fun k b o hk hm he => by
    subst he
    cases hl : A.bx k with
    | none => grind
    | some l => exact (hchg.sub _ o hm (sim.bx k l hl).1.lt).2 k hk rfl
  refine ⟨r, st', M', hR, hr.mono hT2, ?_, ?_⟩
  · exact
      { tsz := sim.tsz
        dfr := sim.dfr.step fun D _ hl h2 => ⟨hchg.blk D hl fun o hm => (h2 o).1 hm.1, fun o hm => by
          rcases hm with hm | hm
          · exact (h2 o).1 (hchg.sub D o hm hl).1
          grind⟩
        tm := fun i => ((LRel.mono Cx (sim.tm i)).keep hchg.keeps).mono hT2
        bx := fun k l hl => by
          have hk : A.bx k ≠ none := by grind
          exact ⟨(((sim.bx k l hl).1.mono Cx).same hchg.keeps (hblk k hk)).mono hT2, fun o => .inr ⟨(sim.bx k l hl).2 o, k, hk, rfl⟩⟩
        inj := sim.inj
        sep := fun k b hk hb => by
          rcases hb with hb | hb
          · cases ho : st'.obj b with
            | none => grind
            | some x => exact hno k b 0 hk ((hsto.obj b x ho).2 0)
          · cases ho : st'.tok b with
            | none => grind
            | some top =>
              obtain ⟨c, e, fr, h1, h2, h3, h4⟩ := hsto.tok b top ho
              grind
        sto :=
          { obj := fun b x hx => ⟨(hsto.obj b x hx).1.mono hT2, fun o => .inl ((hsto.obj b x hx).2 o)⟩
            tok := fun b top hx => by
              obtain ⟨c, e, fr, h1, h2, h3, h4⟩ := hsto.tok b top hx
              grind
            mlt := fun b o hm => by
              rcases hm with h | h
              · exact hsto.mlt b o h
              · exact Nat.lt_of_lt_of_le (sim.sto.mlt b o h.1) hchg.size
            olt := fun b o hm => Nat.lt_of_lt_of_le (sim.sto.olt b o hm) hchg.size
            dis := fun b o hO hM => by
              rcases hM with h | h
              · exact hsto.dis b o (.inl hO) h
              · exact sim.sto.dis b o hO h.1 } }
  · exact
      { size := hchg.size
        keep := fun b o hb hm => hchg.keep b o hb fun h => hm h.1
        blk := fun b hb hm => hchg.blk b hb fun o h => hm o h.1
        shp := hchg.shp
        sub := fun b o hm hb => by
          rcases hm with h | h
          · exact (hchg.sub b o h hb).1
          grind
        tape := hchg.tape
        os := hchg.os
        output := hchg.output }
/-- The frame behind a call: its own boxes are as they were. -/
theorem SimB.call {n : SN} {Oth M : Nat -> Nat -> Prop} {β : Nat -> Nat} {a : Act} {w : World} (sim : SimB n Oth β A st M a w) {g : FuncId} {args : List AV} {vs : Array Value} {R : AV -> Store -> Prop}
    (hc : ACalls P g args st R) (hv : Reads w (fun b o => M b o \/ Oth b o) args vs.toList) :
    Mi P (fun v w' => ∃ r st' M', R r st' /\ VRel w' (fun b o => M' b o \/ Oth b o) r v /\ SimB n Oth β A st' M' a w' /\ Chg M w M' w') ((callFunc g vs).run P w) := by
  have key := sim.post (R := R)
  have hout := hc.out _ _ w vs sim.inner ⟨hv.1, fun i x y hx hy => (hv.2 i x y hx hy).mono Cx⟩
  generalize (callFunc g vs).run P w = res at *
  cases res with
  | halt h w' => trivial
  | ok nx w' =>
    cases nx with
    | enter f as => exact Calls.mono hout fun e w'' ⟨v, he, hp⟩ => ⟨v, he, key v w'' hp⟩
    | value v => exact key v w' hout
    | _ => trivial
/-- The operations with rules of their own. -/
theorem Mf {o : Oper} (hI : yk P c.I) (h : vcX P c o K A st) : AOp P c.N o K A st := by
  obtain ⟨vs, hvs, h⟩ := zj h
  rintro Oth M a w ⟨β, sim⟩
  obtain ⟨hm1, hm2⟩ := Ge hvs
  have hr : Reads w (fun b o => M b o \/ Oth b o) vs (o.op.operands.map a.eval).toList := by
    refine ⟨by simp [hm1], fun i x y hx hy => ?_⟩
    obtain ⟨z, hz, hzz⟩ := hm2 i x hx
    have hz' : o.op.operands[i]? = some z := by grind
    rw [Array.toList_map, List.getElem?_map, hz] at hy
    simp at hy
    subst hy
    exact yv sim.env (Hd hzz)
  have hout := h.out _ _ w a.eval hI sim.inner ⟨hr.1, fun i x y hx hy => (hr.2 i x y hx hy).mono Cx⟩
  have key := sim.post (R := fun r st' => yy A c.n o.dst (.av r) fun A' => K A' st')
  have fin : ∀ v w', (∃ r st' M', (yy A c.n o.dst (.av r) fun A' => K A' st') /\ VRel w' (fun b o => M' b o \/ Oth b o) r v /\ SimB c.N Oth β A st' M' a w' /\ Chg M w M' w') ->
      ∃ A' st' M', K A' st' /\ Sim c.N Oth A' st' M' (a.put o.dst v) w' /\ Chg M w M' w' := by
    rintro v w' ⟨r, st', M', hk, hv, hs, hchg⟩
    unfold yy at hk
    cases hd : o.dst with
    | none => rw [hd] at hk; exact ⟨A, st', M', hk, ⟨β, hs⟩, hchg⟩
    | some d =>
      rw [hd] at hk
      obtain ⟨hlt, hk⟩ := jv hk
      exact ⟨_, st', M', hk, ⟨β, hs.put hlt hv⟩, hchg⟩
  unfold Oper.wp
  generalize (execOp a.eval o).run P w = res at *
  cases res with
  | halt h w' => grind
  | ok nx w' =>
    cases nx with
    | value v => rw [Oper.upon_value]; exact fin v w' (key v w' hout)
    | skip =>
      obtain ⟨hd, hout⟩ := hout
      rw [Oper.upon_skip]
      have := fin _ w' (key _ w' hout)
      trivial
    | _ => grind
theorem Wg (w : World) (T : Nat -> Nat -> Prop) (l : List Value) : Reads w T (l.map AV.s) l := ⟨by simp, fun i x y hx hy => by
  rw [List.getElem?_map, hy] at hx
  cases hx
  exact .s _⟩
theorem zt2 {w : World} {T : Nat -> Nat -> Prop} {x : LV} {g : FuncId} {fv cap : List AV} {v : Value} (h : Ld x = some (g, fv, cap)) (hx : ∀ y, x = .av y -> VRel w T y v) : ∃ f c, v = .func (.func g) f c /\ Reads w T fv f.toList /\ Reads w T cap c.toList := by
  unfold Ld at h
  split at h
  · cases h
    obtain ⟨c, h1, h2⟩ := VRel.clos_inv (hx _ rfl)
    exact ⟨#[], c, h1, Reads.nil, h2⟩
  · cases h
    exact ⟨_, _, VRel.eq_s (hx _ rfl), Wg _ _ _, Wg _ _ _⟩
  · cases h
theorem zxi {o : Oper} {cl : Call} {f : Operand} (ho : o.op = .call cl) (hcl : cl.callee = .value f)
    (h : match Ld (A.ev f) with
      | some (g, fv, cap) => optK (cl.args.toList.mapM fun x => (A.ev x).toAV) fun vs =>
        ACalls P g (fv ++ (vs ++ cap)) st fun r st' => yy A c.n o.dst (.av r) fun A' => K A' st'
      | _ => False) : AOp P c.N o K A st := by
  split at h
  · rename_i g fv cap hf
    obtain ⟨vs, hvs, h⟩ := zj h
    rintro Oth M a w ⟨β, sim⟩
    obtain ⟨fvv, capv, hcv, hfr, hcr⟩ := zt2 hf fun x hx => yv sim.env hx
    obtain ⟨hm1, hm2⟩ := Ge hvs
    have hr1 : Reads w (fun b o => M b o \/ Oth b o) vs (cl.args.map a.eval).toList := by
      refine ⟨by simp [hm1], fun i x y hx hy => ?_⟩
      obtain ⟨z, hz, hzz⟩ := hm2 i x hx
      have hz' : cl.args[i]? = some z := by grind
      rw [Array.toList_map, List.getElem?_map, hz] at hy
      simp at hy
      subst hy
      exact yv sim.env (Hd hzz)
    have hr : Reads w (fun b o => M b o \/ Oth b o) (fv ++ (vs ++ cap)) (fvv ++ (cl.args.map a.eval) ++ capv).toList := by
      rw [Array.toList_append, Array.toList_append, List.append_assoc]
      exact hfr.append (hr1.append hcr)
    have hrun : (execOp a.eval o).run P w = (callFunc g (fvv ++ (cl.args.map a.eval) ++ capv)).run P w := by grind[execOp,resolve,Deferred.ofValue,invoke]
    have hc := sim.call h hr
    unfold Oper.wp
    rw [hrun]
    have fin : ∀ v w', (∃ r st' M', (yy A c.n o.dst (.av r) fun A' => K A' st') /\ VRel w' (fun b o => M' b o \/ Oth b o) r v /\ SimB c.N Oth β A st' M' a w' /\ Chg M w M' w') ->
        ∃ A' st' M', K A' st' /\ Sim c.N Oth A' st' M' (a.put o.dst v) w' /\ Chg M w M' w' := by
      rintro v w' ⟨r, st', M', hk, hv, hs, hchg⟩
      unfold yy at hk
      cases hd : o.dst with
      | none => rw [hd] at hk; exact ⟨A, st', M', hk, ⟨β, hs⟩, hchg⟩
      | some d =>
        rw [hd] at hk
        obtain ⟨hlt, hk⟩ := jv hk
        exact ⟨_, st', M', hk, ⟨β, hs.put hlt hv⟩, hchg⟩
    generalize (callFunc g (fvv ++ (cl.args.map a.eval) ++ capv)).run P w = res at *
    cases res with
    | halt h w' => trivial
    | ok nx w' =>
      cases nx with
      | enter f as =>
        rw [Oper.upon_enter]
        exact Calls.mono hc fun e w'' ⟨v, he, hp⟩ => by subst he; exact fin v w'' hp
      | value v => rw [Oper.upon_value]; exact fin v w' hc
      | _ => trivial
  grind
/-- A call through an interface. -/
theorem zxg {o : Oper} {cl : Call} {y : Operand} {m : String} (ho : o.op = .call cl) (hcl : cl.callee = .invoke y m) (h : Kw P c o cl m (A.ev y) K A st) : AOp P c.N o K A st := by
  unfold Kw at h
  split at h
  · rename_i t v hf
    obtain ⟨vs, hvs, g, x, ⟨u, hm, hu⟩, h⟩ := zj h
    rintro Oth M a w ⟨β, sim⟩
    have hcv : a.eval y = .iface t v := VRel.eq_s (yv sim.env hf)
    obtain ⟨hm1, hm2⟩ := Ge hvs
    have hr1 : Reads w (fun b o => M b o \/ Oth b o) vs (cl.args.map a.eval).toList := by
      refine ⟨by simp [hm1], fun i x y hx hy => ?_⟩
      obtain ⟨z, hz, hzz⟩ := hm2 i x hx
      have hz' : cl.args[i]? = some z := by grind
      rw [Array.toList_map, List.getElem?_map, hz] at hy
      simp at hy
      subst hy
      exact yv sim.env (Hd hzz)
    have hr : Reads w (fun b o => M b o \/ Oth b o) (x :: vs) (#[u] ++ (cl.args.map a.eval)).toList := by grind[Reads.cons]
    have hrun : (execOp a.eval o).run P w = (callFunc g (#[u] ++ (cl.args.map a.eval))).run P w := by
      have e1 : (#[Value.iface t v] ++ Array.map a.eval cl.args).extract 1 (#[Value.iface t v] ++ Array.map a.eval cl.args).size = Array.map a.eval cl.args := by simp
      have e2 : execOp a.eval o = callMethod (.iface t v) m ((#[Value.iface t v] ++ Array.map a.eval cl.args).extract 1 (#[Value.iface t v] ++ Array.map a.eval cl.args).size) := by
        have e3 : (#[Value.iface t v] ++ Array.map a.eval cl.args)[0]? = some (Value.iface t v) := by simp_all[Array.getElem?_append_left]
        simp_all[execOp,resolve,invoke]
      rw [e2, e1]
      simp [callMethod, hm]
    have hc := sim.call h hr
    unfold Oper.wp
    rw [hrun]
    have fin : ∀ v w', (∃ r st' M', (yy A c.n o.dst (.av r) fun A' => K A' st') /\ VRel w' (fun b o => M' b o \/ Oth b o) r v /\ SimB c.N Oth β A st' M' a w' /\ Chg M w M' w') ->
        ∃ A' st' M', K A' st' /\ Sim c.N Oth A' st' M' (a.put o.dst v) w' /\ Chg M w M' w' := by
      rintro v w' ⟨r, st', M', hk, hv, hs, hchg⟩
      unfold yy at hk
      cases hd : o.dst with
      | none => rw [hd] at hk; exact ⟨A, st', M', hk, ⟨β, hs⟩, hchg⟩
      | some d =>
        rw [hd] at hk
        obtain ⟨hlt, hk⟩ := jv hk
        exact ⟨_, st', M', hk, ⟨β, hs.put hlt hv⟩, hchg⟩
    generalize (callFunc g (#[u] ++ (cl.args.map a.eval))).run P w = res at *
    cases res with
    | halt h w' => trivial
    | ok nx w' =>
      cases nx with
      | enter f as =>
        rw [Oper.upon_enter]
        exact Calls.mono hc fun e w'' ⟨v, he, hp⟩ => by subst he; exact fin v w'' hp
      | value v => rw [Oper.upon_value]; exact fin v w' hc
      | _ => trivial
  grind
end
section
variable {P : Program} {c : Cfg} {K : Fr -> Store -> Prop} {A : Fr} {st : Store}
theorem D7 {α : Type} {k : Nat} : ∀ {rows : List (List α)} (_ : ∀ row ∈ rows, row.length = k) {i j : Nat} {row : List α} {x : α}, rows[i]? = some row -> row[j]? = some x -> rows.flatten[i * k + j]? = some x := by
  intro rows
  induction rows with
  | nil => simp
  | cons r rows ih =>
    intro hk i j row x h1 h2
    have hr : r.length = k := hk r (by simp)
    cases i with
    | zero =>
      grind
    | succ i =>
      grind
theorem wg {α : Type} {k : Nat} : ∀ {rows : List (List α)} (_ : ∀ row ∈ rows, row.length = k), rows.flatten.length = rows.length * k := by
  intro rows
  induction rows with
  | nil => simp
  | cons r rows ih =>
    grind
theorem Vf (r l xs : List AV) (o : Nat) : z7 (r ++ l) (r.length + o) xs = r ++ z7 l o xs := by
  unfold z7
  rw [List.take_append, List.drop_append]
  have h1 : List.take (r.length + o) r = r := List.take_of_length_le (by omega)
  have h2 : List.drop (r.length + o + xs.length) r = [] := List.drop_of_length_le (by omega)
  rw [h1, h2]
  have e1 : r.length + o - r.length = o := by omega
  have e2 : r.length + o + xs.length - r.length = o + xs.length := by omega
  grind
theorem zt8 {k : Nat} {xs : List AV} (hx : xs.length = k) : ∀ {rows : List (List AV)} (_ : ∀ row ∈ rows, row.length = k) {i : Nat}, i < rows.length -> (rows.set i xs).flatten = z7 rows.flatten (i * k) xs := by
  intro rows
  induction rows with
  | nil => simp
  | cons r rows ih =>
    intro hk i hi
    have hr : r.length = k := hk r (by simp)
    cases i with
    | zero =>
      simp_all[z7]
    | succ i =>
      simp only [List.set_cons_succ, List.flatten_cons]
      rw [ih (fun row h => hk row (by simp [h])) (by grind)]
      rw [<- Vf]
      grind
theorem zrk {k n : Nat} : ∀ (parts : List (Nat × LV)) (acc rows : List (List AV)), (∀ row ∈ acc, row.length = k) -> acc.length = n -> Cu k n acc parts = some rows ->
    C7 (fun i => some (i * k, k)) acc.flatten parts = some rows.flatten /\ (∀ row ∈ rows, row.length = k) /\ rows.length = n := by
  intro parts
  induction parts with
  | nil => intro acc rows h1 h2 h; simp [Cu] at h; subst h; trivial
  | cons p parts ih =>
    intro acc rows h1 h2 h
    obtain ⟨i, x⟩ := p
    simp only [Cu] at h
    cases x with
    | av x =>
      simp only at h
      cases hc : cellsOf x with
      | none => grind
      | some xs =>
        rw [hc] at h
        simp only at h
        cases hb : (Nat.beq xs.length k && Nat.blt i n) with
        | false => grind
        | true =>
          rw [hb] at h
          simp only [cond_true] at h
          simp only [Bool.and_eq_true] at hb
          have hx : xs.length = k := (xc _ _).1 hb.1
          have hi : i < n := Nat.le_of_ble_eq_true hb.2
          obtain ⟨h3, h4, h5⟩ := ih (acc.set i xs) rows (fun row hr => by grind) (by grind) h
          refine ⟨?_, h4, h5⟩
          have hfl := wg h1
          have hle : (i + 1) * k <= n * k := Nat.mul_le_mul_right k hi
          have hb2 : (Nat.beq xs.length k && Nat.ble (i * k + k) acc.flatten.length) = true := by simp_all[Nat.add_mul]
          simp only [C7, hc, hb2, cond_true]
          grind[zt8]
    | _ => simp at h
/-- A new block whose first cells read as rows. -/
theorem Ms {w : World} {M Oth T' : Nat -> Nat -> Prop} {rows : List (List AV)} {k : Nat} (hk : ∀ row ∈ rows, row.length = k) {cs : Array Value} {e : TypeId} {cap : Nat}
    (hr : ∀ (i : Nat) (x : AV), rows.flatten[i]? = some x -> ∃ v, cs[i]? = some v /\ VRel w (fun b o => M b o \/ Oth b o) x v /\ qg v = true) (hcap : rows.length <= cap) (tok : Option Nat)
    (hT : Keeps w (fun b o => M b o \/ Oth b o) (w.alloc (.cells cs e)) T') (hno : ∀ o, o < rows.length * k -> ¬ T' w.heap.size o)
    (htok : ∀ t, tok = some t -> t = w.heap.size /\ rows ≠ [] /\ cap * k <= cs.size) :
    VRel (w.alloc (.cells cs e)) T' (.lst k rows tok) (.slice (some ⟨w.heap.size, 0, none⟩) rows.length cap) := by
  have hlen := wg hk
  have hlt : ∀ (i : Nat) (row : List AV) (j : Nat) (x : AV), rows[i]? = some row -> row[j]? = some x -> i * k + j < rows.length * k := by
    intro i row j x h1 h2
    have := (List.getElem?_eq_some_iff.1 (D7 hk h1 h2)).1
    omega
  refine VRel.lst rows tok w.heap.size 0 cap k (fun j => cs.getD j undef) hcap (fun i row h => hk row (List.mem_of_getElem? h)) (fun t ht => ?_) (fun i row j x h1 h2 => ?_) (fun i row j x h1 h2 => ?_) (fun i row j x h1 h2 => ?_)
  · obtain ⟨h1, h2, h3⟩ := htok t ht
    exact ⟨h1, rfl, h2, cs, e, (0, 0), Gg w _, h3⟩
  · obtain ⟨v, hv, _⟩ := hr _ x (D7 hk h1 h2)
    simp_all
  · obtain ⟨v, hv, _, hv1⟩ := hr _ x (D7 hk h1 h2)
    simp_all
  · obtain ⟨v, hv, hvr, _⟩ := hr _ x (D7 hk h1 h2)
    have : cs.getD (i * k + j) undef = v := by simp [hv]
    simp only [this]
    exact hvr.keep hT
theorem ct (w : World) (o : Obj) (M Oth : Nat -> Nat -> Prop) (top : Nat) : Keeps w (fun b o => M b o \/ Oth b o) (w.alloc o) (fun b o => Mh M w.heap.size top b o \/ Oth b o) where
  cell := (Cv w o M Oth).cell
  out b o' c hc hT hT' := by
    rcases hT' with (h | h) | h
    · grind
    · have := Gx hc; omega
    grind
  shp := (Cv w o M Oth).shp
theorem zok (z : Array Value) (n : Nat) (hz : 0 < z.size) : ((Array.range (n * z.size)).map (fun i => z[i % z.size]!)).toList = (List.replicate n z.toList).flatten := by
  induction n with
  | zero => simp
  | succ n ih =>
    rw [List.replicate_succ', List.flatten_append, <- ih]
    simp only [Array.toList_map, Array.toList_range, Nat.add_mul, Nat.one_mul, List.range_add, List.map_append, List.map_map, List.flatten_cons, List.flatten_nil, List.append_nil]
    congr 1
    apply List.ext_getElem?
    intro i
    simp only [List.getElem?_map]
    by_cases hi : i < z.size
    · simp [hi, Nat.mod_eq_of_lt hi]
    grind
theorem iz {o : Oper} {t : TypeId} {n : Nat} {parts : Array (Nat × Operand)} (ho : o.op = .buildSlice t n parts) (hI : yk P c.I)
    (h : optK (c.I t) fun i => optK o.dst fun d => bif Nat.blt d c.n then (match i.ty with
      | .slice e => optK (c.I e) fun ie => optK (Cu ie.size n (List.replicate n (km ie)) (parts.toList.map fun p => (p.1, A.ev p.2))) fun rows =>
        bif rows.flatten.all AV.one then n * ie.size <= 16777216 /\ (match rows with
          | [] => K (A.put d (.av .emp)) st
          | _ :: _ => bif c.G.contains d then (bif c.G.contains (d + 1000000) then ∀ b, Fresh st b -> K (A.put d (.av (.s (.slice (some ⟨b, 0, none⟩) rows.length rows.length)))) (st.setObj b (.cells rows.flatten))
              else ∀ b, Fresh st b -> K (A.put d (.av (.lst ie.size rows (some b)))) (st.setTok b (some (rows.length * ie.size))))
            else K (A.put d (.av (.lst ie.size rows none))) st) else False
      | _ => False) else False) : AOp P c.N o K A st := by
  obtain ⟨i, hi, h⟩ := zj h
  obtain ⟨d, hd, h⟩ := zj h
  obtain ⟨hlt, h⟩ := jv h
  split at h
  · rename_i e hty
    obtain ⟨ie, hie, h⟩ := zj h
    replace h := zj h
    obtain ⟨rows, hrows, h⟩ := h
    cases hone : rows.flatten.all AV.one with
    | false => grind
    | true =>
    rw [hone] at h
    simp only [cond_true] at h
    obtain ⟨hroom, hK⟩ := h
    rintro Oth M a w ⟨β, sim⟩
    obtain ⟨z, hz1, hz2⟩ := Hj (hI _ _ hie) w
    have hzs : z.cells.size = ie.size := by rw [<- (hI _ _ hie).zsz, <- hz2]; simp
    obtain ⟨hf1, hf2, hf3⟩ := zrk _ _ rows (fun row hr => by grind[km]) (by simp) hrows
    let base : Array Value := (Array.range (n * ie.size)).map (fun i => (if n * ie.size = 0 then #[] else z.cells)[i % (if n * ie.size = 0 then #[] else z.cells).size]!)
    have hbase : Reads w (fun b o => M b o \/ Oth b o) (List.replicate n (km ie)).flatten base.toList := by
      by_cases hn : n = 0
      · subst hn
        grind[Reads.nil]
      · by_cases hs0 : ie.size = 0
        · have e1 : base.toList = [] := by simp [base, hs0]
          simp_all[km,Reads.nil]
        have hne : ¬ n * ie.size = 0 := by grind[Nat.mul_eq_zero]
        have : base.toList = (List.replicate n z.cells.toList).flatten := by
          simp only [base, hne, if_false]
          grind[zok]
        rw [this, hz2]
        have e : (List.replicate n (km ie)).flatten = (List.replicate n ie.zero).flatten.map AV.s := by simp_all[km]
        rw [e]
        exact Reads.map_s _
    have hparts : ((parts.toList.map fun p => (p.1, A.ev p.2))).length = (parts.map fun (p : Nat × Operand) => (p.1, a.eval p.2)).toList.length ∧
        ∀ (i : Nat) (p : Nat × LV) (v : Nat × Value), (parts.toList.map fun p => (p.1, A.ev p.2))[i]? = some p -> (parts.map fun (p : Nat × Operand) => (p.1, a.eval p.2)).toList[i]? = some v -> p.1 = v.1 /\ LRel w (fun b o => M b o \/ Oth b o) β p.2 v.2 := by
      refine ⟨by simp, fun i p v hp hv => ?_⟩
      rw [Array.toList_map, List.getElem?_map] at hv
      rw [List.getElem?_map] at hp
      cases hq : parts.toList[i]? with
      | none => grind
      | some q =>
        rw [hq] at hp hv
        simp at hp hv
        subst hp hv
        exact ⟨rfl, sim.ev _⟩
    obtain ⟨ds, hds1, hds2⟩ := Pn (β := β) (place := fun i => some (i * ie.size, ie.size)) _ _ _ base rows.flatten hparts.1 hparts.2 hbase hf1
    have hrun : (execOp a.eval o).run P w = .ok (.value (.slice (some ⟨w.heap.size, 0, none⟩) n n)) (w.alloc (.cells ds e)) := by
      have h1 : ¬ n * ie.size > 2 ^ 24 := by omega
      simp only [execOp, ho, Instr.buildSlice, Sem.run_bind, ya (qy (hI _ _ hi) hty), Result.andThen_ok, xl (hI _ _ hie), h1, if_false]
      by_cases hn0 : n * ie.size = 0
      · have h2 : Instr.fill (fun i => some (i * ie.size, ie.size)) (Array.map (fun x => (#[] : Array Value)[x % (#[] : Array Value).size]!) (Array.range (n * ie.size))) (Array.map (fun (x : Nat × Operand) => (x.1, a.eval x.2)) parts).toList = some ds := by grind
        simp_all[newRow]
      · have h2 : Instr.fill (fun i => some (i * ie.size, ie.size)) (Array.map (fun x => z.cells[x % z.cells.size]!) (Array.range (n * ie.size))) (Array.map (fun (x : Nat × Operand) => (x.1, a.eval x.2)) parts).toList = some ds := by grind
        simp_all[newRow]
    unfold Oper.wp
    rw [hrun, Oper.upon_value, hd]
    have hlen := wg hf2
    have hdsz : ds.size = n * ie.size := by
      have := hds2.1
      grind
    have hread : ∀ (i : Nat) (x : AV), rows.flatten[i]? = some x -> ∃ v, ds[i]? = some v /\ VRel w (fun b o => M b o \/ Oth b o) x v /\ qg v = true := fun i x hx => by
      obtain ⟨v, hv, hvr⟩ := hds2.getElem? hx
      grind[Ok]
    have hnoT : ∀ o, ¬ (M w.heap.size o \/ Oth w.heap.size o) := fun o h => by
      rcases h with h | h
      · have := sim.sto.mlt _ _ h; omega
      · have := sim.sto.olt _ _ h; omega
    subst hf3
    cases rows with
    | nil => exact ⟨_, _, M, hK, ⟨β, (sim.grow (Grow.alloc w _)).put hlt (x := .av .emp) (VRel.emp _ (fun x h => by grind))⟩, (Grow.alloc w _).chg M⟩
    | cons r rs =>
      cases hg : c.G.contains d with
      | true =>
        cases hg2 : c.G.contains (d + 1000000) with
        | true =>
          simp only [hg, hg2, cond_true] at hK
          refine ⟨_, _, _, hK w.heap.size (sim.sto.fresh (Nat.le_refl _)), ⟨β, (sim.newObj (.cells ds e) (.cells (r :: rs).flatten) (Ig w e M Oth hds2)).put hlt (VRel.s _)⟩, Fa _ _ _⟩
        | false =>
        simp only [hg, hg2, cond_true, cond_false] at hK
        refine ⟨_, _, _, hK w.heap.size (sim.sto.fresh (Nat.le_refl _)), ⟨β, (sim.newTok ds e ((r :: rs).length * ie.size) (by omega)).put hlt ?_⟩, gb _ _ _ _⟩
        refine Ms hf2 hread (Nat.le_refl _) _ (ct _ _ _ _ _) (fun o ho hh => ?_) (fun t ht => ?_)
        · rcases hh with (h | h) | h
          · grind
          · omega
          grind
        grind
      | false =>
        simp only [hg, cond_false] at hK
        refine ⟨_, _, M, hK, ⟨β, (sim.grow (Grow.alloc w _)).put hlt ?_⟩, (Grow.alloc w _).chg M⟩
        exact Ms hf2 hread (Nat.le_refl _) _ ((Grow.alloc w _).keeps _) (fun o ho hh => hnoT o hh) (fun t ht => by cases ht)
  grind
end
end Go.V
