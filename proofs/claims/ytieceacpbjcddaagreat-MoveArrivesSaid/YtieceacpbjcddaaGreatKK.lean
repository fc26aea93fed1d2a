/- Ground of laws of thronglaw24: contracts and plain lemmas; no condition beyond the row's own. -/
import Derived.Test.YtieceacpbjcddaaGreatKD
set_option linter.unusedSimpArgs false
set_option linter.unusedVariables false
set_option linter.defProp false
namespace Go.V
section
variable {P : Program} {c : Cfg} {w : World} {st : Store} {Oth M : Nat -> Nat -> Prop}
theorem zxw {o : Oper} {t : TypeId} {x : Operand} (ho : o.op = .makeInterface t x) {d : TypeDesc} (hd : yk P c.I -> P.underlying t = some d) (hn : ∀ m, d ≠ .interface m) {y : AV} {u : Value}
    (hy : ∀ (w : World) (T : Nat -> Nat -> Prop) (v : Value), VRel w T y v -> v = u) {R : AV -> Store -> Prop} (h : R (.s (.iface t u)) st) : AEff P c o [y] st R := by
  refine ⟨fun Oth M w ρ hI sto hr => ?_⟩
  rw [ho] at hr
  have hr : Reads w (fun b o => M b o \/ Oth b o) [y] [ρ x] := by simpa [Op.operands] using hr
  obtain ⟨v, he, h1⟩ := Ho hr
  simp only [List.cons.injEq, and_true] at he
  rw [<- he] at h1
  have h1 := hy _ _ _ h1
  have hund := ya (P := P) (hd hI)
  have hrun : (execOp ρ o).run P w = .ok (.value (.iface t u)) w := by
    simp only [execOp, ho, Instr.makeInterface, Sem.run_bind, hund, Result.andThen_ok, h1]
    cases d <;> simp at hn ⊢
  rw [hrun]
  exact ⟨_, _, _, h, .s _, sto, Chg.refl M w⟩
/-- A struct without fields behind an interface. -/
theorem zxv {o : Oper} {t : TypeId} {x : Operand} (ho : o.op = .makeInterface t x) {it : TI} (hit : c.I t = some it) (hty : it.ty = .struct []) {R : AV -> Store -> Prop} (h : R (.s (.iface t (.agg #[]))) st) : AEff P c o [.agg []] st R := by
  refine zxw (y := .agg []) ho (d := .struct #[]) (fun hI => ?_) (fun m h => by cases h) (u := .agg #[]) (fun w T v hv => ?_) h
  · obtain ⟨a, h1, h2⟩ := Fk (hI _ _ hit) hty
    have : a = #[] := by
      apply Array.ext'
      simpa using h2.symm
    rw [h1, this]
  · obtain ⟨cv, rfl, hl, _⟩ := Aj hv
    have : cv = #[] := by
      apply Array.ext'
      simp at hl
      simpa using hl.symm
    rw [this]
end
theorem V2 {P : Program} {t : TypeId} {inf : TypeInfo} (h : P.info? t = some inf) (w : World) : (typeInfo t).run P w = .ok inf w := by
  simp [typeInfo, run_program, h]
/-- A method of a value that is no pointer, told by its row. -/
theorem Meets.val {P : Program} {t : TypeId} {v : Value} {m : String} {g : FuncId} {x : AV} {inf : TypeInfo} {row : Method} {d : TypeDesc} (hi : P.info? t = some inf) (hf : inf.methods.find? (·.name == m) = some row) (hp : row.path = #[])
    (hr : row.func = some (g, false)) (hu : P.underlying t = some d) (hd : ∀ e, d ≠ .pointer e) (hx : ∀ w T, VRel w T x v) : Meets P t v m g x := by
  refine ⟨v, fun w => ?_, hx⟩
  have hdep : P.types.size + Made.depth = (P.types.size + 99) + 1 := rfl
  rw [hdep]
  generalize P.types.size + 99 = n
  have e : row.path.toList = [] := by rw [hp]
  unfold method
  rw [Sem.run_bind, V2 hi, Result.andThen_ok, hf]
  dsimp only
  rw [e]
  unfold follow
  rw [Sem.run_bind, Sem.run_pure, Result.andThen_ok]
  dsimp only
  rw [hr]
  dsimp only
  unfold receiverAt
  cases d <;> simp [ya hu, Place.get] at hd ⊢
/-- A pointer's method, behind an interface that holds the pointer. -/
theorem Meets.ptr {P : Program} {t : TypeId} {v : Value} {m : String} {g : FuncId} {x : AV} {inf : TypeInfo} {row : Method} {e : TypeId} (hi : P.info? t = some inf) (hf : inf.methods.find? (·.name == m) = some row) (hp : row.path = #[])
    (hr : row.func = some (g, true)) (hu : P.underlying t = some (.pointer e)) (hx : ∀ w T, VRel w T x v) : Meets P t v m g x := by
  refine ⟨v, fun w => ?_, hx⟩
  have hdep : P.types.size + Made.depth = (P.types.size + 99) + 1 := rfl
  rw [hdep]
  generalize P.types.size + 99 = n
  have e : row.path.toList = [] := by rw [hp]
  unfold method
  rw [Sem.run_bind, V2 hi, Result.andThen_ok, hf]
  dsimp only
  rw [e]
  unfold follow
  rw [Sem.run_bind, Sem.run_pure, Result.andThen_ok]
  dsimp only
  rw [hr]
  dsimp only
  unfold receiverAt
  simp [ya hu, Place.get]
/-- Asked of the program. -/
def Hx (P : Program) (t : TypeId) (m : String) (g : FuncId) (ptr : Bool) : Bool :=
  match P.info? t, P.underlying t with
  | some inf, some d => (match inf.methods.find? (·.name == m) with
    | some row => row.path.isEmpty && (match row.func with | some (f, b) => Nat.beq f g && (b == ptr) | none => false)
    | none => false) && (match d with | .pointer _ => ptr | _ => !ptr)
  | _, _ => false
theorem zq9 {P : Program} {t : TypeId} {m : String} {g : FuncId} {ptr : Bool} (h : Hx P t m g ptr = true) : ∃ inf row d, P.info? t = some inf /\ inf.methods.find? (·.name == m) = some row /\ row.path = #[] /\ row.func = some (g, ptr) /\ P.underlying t = some d /\ (match d with | .pointer _ => ptr | _ => !ptr) = true := by
  unfold Hx at h
  split at h
  · rename_i inf d h1 h2
    rw [Bool.and_eq_true] at h
    obtain ⟨h3, h4⟩ := h
    split at h3
    · rename_i row h5
      rw [Bool.and_eq_true] at h3
      obtain ⟨h6, h7⟩ := h3
      split at h7
      · rename_i f b h8
        rw [Bool.and_eq_true] at h7
        obtain ⟨h9, h10⟩ := h7
        have e1 : f = g := Nat.eq_of_beq_eq_true h9
        have e2 : b = ptr := eq_of_beq h10
        subst e1 e2
        exact ⟨inf, row, d, h1, h5, Array.isEmpty_iff.1 h6, h8, h2, h4⟩
      · cases h7
    · cases h3
  · cases h
theorem Meets.valB {P : Program} {t : TypeId} {v : Value} {m : String} {g : FuncId} {x : AV} (h : Hx P t m g false = true) (hx : ∀ w T, VRel w T x v) : Meets P t v m g x := by
  obtain ⟨inf, row, d, h1, h2, h3, h4, h5, h6⟩ := zq9 h
  exact Meets.val h1 h2 h3 h4 h5 (fun e he => by subst he; cases h6) hx
end Go.V
