/- The ground on which laws of thronglaw26 are proved: contracts of functions and plain lemmas; no condition beyond the row's own. -/
import Derived.Test.YtimehecofabmjaaGreatRows
import Derived.Test.YtimehecofabmjaaGreatPB
import Derived.Test.YtimehecofabmjaaGreatSI
import Derived.Test.YtimehecofabmjaaGreatSJ
set_option linter.unusedSimpArgs false
set_option linter.unusedVariables false
namespace Go.V
set_option linter.unusedVariables false

def bV (b : UInt8) : BitVec 64 := BitVec.ofNat 64 b.toNat
def pV : BitVec 64 := 1099511628211#64
def fV (S : BitVec 64) (b : UInt8) : BitVec 64 := (S ^^^ bV b) * pV
theorem p_inv : pV * 14886173955864302971#64 = 1#64 := by decide
theorem fV_inj {S S' : BitVec 64} {b b' : UInt8} (h : fV S b = fV S' b') : S ^^^ bV b = S' ^^^ bV b' := by
  have h2 := congrArg (· * 14886173955864302971#64) h
  dsimp only [fV] at h2
  rw [BitVec.mul_assoc, BitVec.mul_assoc, p_inv, BitVec.mul_one, BitVec.mul_one] at h2
  exact h2
theorem bV_inj {b b' : UInt8} (h : bV b = bV b') : b = b' := by
  have h2 := congrArg BitVec.toNat h
  unfold bV at h2
  rw [BitVec.toNat_ofNat, BitVec.toNat_ofNat] at h2
  have h3 := b.toNat_lt
  have h4 := b'.toNat_lt
  rw [Nat.mod_eq_of_lt (by omega), Nat.mod_eq_of_lt (by omega)] at h2
  exact UInt8.toNat_inj.1 h2
theorem fV_S {S S' : BitVec 64} {b : UInt8} (h : S ≠ S') : fV S b ≠ fV S' b := fun e => h (by
  have h1 := fV_inj e
  have h2 := congrArg (· ^^^ bV b) h1
  simpa [BitVec.xor_assoc] using h2)
theorem fV_b {S : BitVec 64} {b b' : UInt8} (h : b ≠ b') : fV S b ≠ fV S b' := fun e => h (bV_inj (by
  have h1 := fV_inj e
  have h2 := congrArg (S ^^^ ·) h1
  simpa [← BitVec.xor_assoc] using h2))
theorem sumV_ne : ∀ (l : List UInt8) {S S' : BitVec 64}, S ≠ S' → l.foldl fV S ≠ l.foldl fV S' := by
  intro l
  induction l with
  | nil => intro S S' h; exact h
  | cons a l ih => intro S S' h; exact ih (fV_S h)

theorem step_V (S : BitVec 64) (b : UInt8) : fnvStep (S.toNat : Int) b = ((fV S b).toNat : Int) := by
  have hw : ∀ v : Int, IntKind.u64.wrap v = v % 18446744073709551616 := fun v => by simp [IntKind.wrap, IntKind.bits, IntKind.signed]
  have hb := b.toNat_lt
  unfold fnvStep
  have e1 : IntKind.u64.wrap (b.toNat : Int) = ((bV b).toNat : Int) := by
    rw [hw]
    unfold bV
    rw [BitVec.toNat_ofNat, Nat.mod_eq_of_lt (by omega)]
    omega
  rw [e1]
  have h : ∀ x : BitVec 64, BitVec.ofInt 64 (x.toNat : Int) = x := fun x => by
    apply BitVec.eq_of_toNat_eq
    rw [BitVec.ofInt_natCast, BitVec.toNat_ofNat, Nat.mod_eq_of_lt x.isLt]
  have e2 : bitsOf .xor .u64 (S.toNat : Int) ((bV b).toNat : Int) = (((S ^^^ bV b).toNat : Nat) : Int) := by
    show IntKind.u64.wrap ((BitVec.ofInt 64 (S.toNat : Int) ^^^ BitVec.ofInt 64 ((bV b).toNat : Int)).toNat : Int) = _
    rw [h, h, hw]
    have := (S ^^^ bV b).isLt
    omega
  rw [e2, hw]
  unfold fV
  rw [BitVec.toNat_mul]
  have e3 : pV.toNat = 1099511628211 := by decide
  rw [e3]
  generalize (S ^^^ bV b).toNat = a
  have e4 : (2 : Nat) ^ 64 = 18446744073709551616 := by decide
  rw [e4]
  omega
theorem sum_V : ∀ (l : List UInt8) (S : BitVec 64), fnvSum (S.toNat : Int) l = ((l.foldl fV S).toNat : Int) := by
  intro l
  induction l with
  | nil => intro S; rfl
  | cons a l ih =>
    intro S
    show fnvSum (fnvStep (S.toNat : Int) a) l = _
    rw [step_V, ih]
    rfl

theorem fnv_turn (pre post : List UInt8) {c c' : UInt8} (h : c ≠ c') : fnvSum fnvStart (pre ++ c :: post) ≠ fnvSum fnvStart (pre ++ c' :: post) := by
  have e0 : fnvStart = ((14695981039346656037#64).toNat : Int) := by decide
  rw [e0, sum_V, sum_V]
  intro e
  have e : (List.foldl fV (14695981039346656037#64) (pre ++ c :: post)).toNat = (List.foldl fV (14695981039346656037#64) (pre ++ c' :: post)).toNat := by exact_mod_cast e
  have e := BitVec.eq_of_toNat_eq e
  rw [List.foldl_append, List.foldl_append] at e
  exact sumV_ne post (fV_b h) e

theorem xor_one (t : Nat) : (t ^^^ 1) / 2 = t / 2 ∧ (t ^^^ 1) % 2 ≠ t % 2 := by
  have h1 := Nat.xor_div_two (a := t) (b := 1)
  have h2 := Nat.xor_mod_two_pow (a := t) (b := 1) (n := 1)
  rw [show (2 : Nat) ^ 1 = 2 from rfl] at h2
  refine ⟨by rw [h1]; simp, ?_⟩
  rw [h2]
  rcases Nat.mod_two_eq_zero_or_one t with e | e <;> rw [e] <;> decide

theorem put_turn (t : Nat) : ∃ c c' tl, putZ (t : Int) = c :: tl ∧ putZ ((t ^^^ 1 : Nat) : Int) = c' :: tl ∧ c ≠ c' := by
  obtain ⟨h1, h2⟩ := xor_one t
  generalize t ^^^ 1 = u at h1 h2
  by_cases h : t < 128
  · refine ⟨_, _, [], putZ_small (by omega), putZ_small (by omega), fun e => ?_⟩
    have := congrArg UInt8.toNat e
    rw [lowB_nat, lowB_nat] at this
    omega
  · refine ⟨lowB (t : Int) ||| 128, lowB (u : Int) ||| 128, putZ ((t : Int) / 128), putZ_big (by omega), ?_, fun e => ?_⟩
    · rw [putZ_big (by omega)]
      have e : ((u : Nat) : Int) / 128 = (t : Int) / 128 := by omega
      rw [e]
    · have := congrArg UInt8.toNat e
      rw [or128_nat, or128_nat] at this
      omega

theorem xor_i64 (t : Nat) (h : t < 4611686018427387904) : bitsOf .xor .i64 (t : Int) 1 = ((t ^^^ 1 : Nat) : Int) := by
  have hh : ∀ a : Nat, a < 2 ^ 64 → (BitVec.ofInt 64 (a : Int)).toNat = a := by
    intro a ha
    rw [BitVec.ofInt_natCast, BitVec.toNat_ofNat, Nat.mod_eq_of_lt ha]
  show IntKind.i64.wrap ((BitVec.ofInt 64 (t : Int) ^^^ BitVec.ofInt 64 ((1 : Nat) : Int)).toNat : Int) = _
  obtain ⟨h1, h2⟩ := xor_one t
  rw [BitVec.toNat_xor, hh t (by omega), hh 1 (by decide)]
  exact wrap_i64 ⟨by omega, by omega⟩

theorem hash_turn {w : Wld} (h : 0 ≤ w.tick ∧ w.tick ≤ 1099511627776) : fnvSum fnvStart (worldL { w with tick := bitsOf .xor .i64 w.tick 1 }) ≠ fnvSum fnvStart (worldL w) := by
  obtain ⟨t, ht⟩ : ∃ t : Nat, w.tick = (t : Int) := ⟨w.tick.toNat, by omega⟩
  rw [ht, xor_i64 t (by omega)]
  obtain ⟨c, c', tl, h1, h2, h3⟩ := put_turn t
  have e : ∀ x : Int, ∀ d : UInt8, putZ x = d :: tl → worldL { w with tick := x } = [84, 87] ++ d :: (tl ++ (putZ w.players ++ (putZ w.next ++ ((putZ (gndL w.G).length ++ gndL w.G) ++ ((putZ w.B.length ++ w.B.flatMap bldL) ++ (putZ w.U.length ++ w.U.flatMap untL)))))) := fun x d hd => by
    unfold worldL numsL
    simp only [List.flatMap_cons, List.flatMap_nil, hd]
    simp
  have e1 := e w.tick c (by rw [ht]; exact h1)
  have e2 := e ((t ^^^ 1 : Nat) : Int) c' h2
  have e3 : worldL w = worldL { w with tick := w.tick } := rfl
  rw [e3, e1, e2]
  exact fnv_turn _ _ (Ne.symm h3)
end Go.V
namespace Go.Proofs
open Go Go.V
set_option linter.unusedVariables false

set_option maxHeartbeats 1000000 in
theorem imageHashes_law (l : List Ask26) (hl : l.length ≤ 140737488355328) (hn : ∀ a ∈ l, ∀ u ∈ a.W.U, u.pos.ok) (st : Store) (R : AV → Store → Prop) (h : R (V.bool true) st) : ACalls Tryz.prog 8 [lst 9 ask26C l] st R := by
  refine ACalls.of_body (c := cfg 77) infoOK Tryz.func8 (by rfl) (by rfl) (by rfl) (by rfl) ?_
  refine AWp.loop (σ := Nat) ⟨fun i => [(0, .av (lst 9 ask26C l)), (3, .av (int (i : Nat)))], fun _ => [], fun i st' => i ≤ l.length ∧ st' = st, fun i => l.length - i⟩ infoOK ?_ ?_
  · exact ⟨0, trivial, ⟨Nat.zero_le _, rfl⟩, ⟨LV.le_refl _, LV.le_refl _, trivial⟩, trivial⟩
  rintro i st' ⟨hi, rfl⟩
  refine bcase_intro (fun h1 => ?_) (fun h1 => wakes26_spec _ _ (ret h))
  have hlt : i < l.length := lt_len h1
  refine bcd (fun h2 => ?_) (fun h2 => wakes26_spec _ _ (ret h))
  refine ⟨i, rfl, optK_intro _ (rws_get hlt) ?_⟩
  refine heavy26_spec l[i] _ _ (fun z hz => ?_)
  refine bcase_intro (fun c1 => ret h) (fun c1 => ?_)
  obtain ⟨hw, hx, hU, _⟩ := heavy26_fits (a := l[i]) fun hh => by rw [hz.2 hh] at c1; cases c1
  have hni := hn _ (List.getElem_mem hlt)
  have next : ∀ A : Fr, A.t 0 = .av (lst 9 ask26C l) → A.t 3 = .av (int (((i : Int) + 1))) → ∃ s : Nat, l.length - s < l.length - i ∧ (s ≤ l.length ∧ st' = st') ∧ fitsT A [(0, .av (lst 9 ask26C l)), (3, .av (int (s : Nat)))] ∧ fitsB A [] := by
    intro A h0 h3
    refine ⟨i + 1, by omega, ⟨hlt, rfl⟩, ⟨by rw [h0]; exact LV.le_refl _, by rw [h3]; exact LV.le_refl _, trivial⟩, trivial⟩
  refine ⟨i, rfl, optK_intro _ (rws_get hlt) ?_⟩
  by_cases hm : mayP l[i].W
  rotate_left
  · refine ihash_spec l[i].W hw hni _ _ (fun _ => ?_) (fun hh => absurd hh hm)
    refine num26_spec _ _ _ ?_
    refine in64 (by omega) ?_
    exact next _ rfl rfl
  have hturn := hash_turn (w := l[i].W) hm.1.1.1.1
  refine ihash_spec l[i].W hw hni _ _ (fun hh => absurd hm hh) (fun _ => ?_)
  refine num26_spec _ _ _ ?_
  refine ⟨i, rfl, optK_intro _ (rws_get hlt) ?_⟩
  refine copyWorld_spec l[i].W hw _ _ ?_
  refine ihash_spec l[i].W hw hni _ _ (fun hh => absurd hm hh) (fun _ => ?_)
  generalize hh1 : fnvSum fnvStart (worldL l[i].W) = hh at hturn
  have fits' : ({ l[i].W with tick := bitsOf .xor .i64 l[i].W.tick 1 } : Wld).fits := hw
  generalize hw' : ({ l[i].W with tick := bitsOf .xor .i64 l[i].W.tick 1 } : Wld) = w' at hturn fits'
  have hni' : ∀ u ∈ w'.U, u.pos.ok := by rw [← hw']; exact hni
  refine ACalls.le (ys := [.agg (wldC w')]) ⟨by rw [← hw']; exact AV.le_refl _, trivial⟩ ?_
  refine ihash_spec w' fits' hni' _ _ (fun _ => ?_) (fun _ => ?_)
  · refine num26_spec _ _ _ ?_
    refine bcne (fun c => absurd rfl c) (fun _ => ?_)
    refine num26_spec _ _ _ ?_
    refine in64 (by omega) ?_
    exact next _ rfl rfl
  · generalize fnvSum fnvStart (worldL w') = h2' at hturn
    refine num26_spec _ _ _ ?_
    refine bcne (fun c => absurd rfl c) (fun _ => ?_)
    refine num26_spec _ _ _ ?_
    refine bceq (fun c => absurd c hturn) (fun _ => ?_)
    refine in64 (by omega) ?_
    exact next _ rfl rfl
end Go.Proofs
namespace Go.Proofs.YtimehecofabmjaaGreat
open Go Go.V Go.ChangeShapes Go.WideShapes Go.ChangeAt Go.RowKit
set_option linter.unusedVariables false
set_option linter.unusedSimpArgs false

theorem own : ownKnob Tryz.prog.godebug = none := by kernel_rfl
theorem laid : laidOutB Tryz.prog = true := by kernel_rfl

theorem slice_cells {P : Program} {w : World} {r : Reach} {base : Nat} {t e : TypeId} {v : Value} (ht : P.underlying t = some (.slice e)) (h : Value.okWide P w r base t v) : v.cells.toList = [v] := by
  simp only [Value.okWide, ht] at h
  cases v <;> simp_all [Cell.okWide, Cell.ok, Value.cells]

set_option maxRecDepth 100000 in
theorem imageHashes_lifted (os : Os) (started : os.Started) (H : Type) (enc : TypeId × Value → H) :
    ReturnsInHanded {} Tryz.checked os 8 .any (Rows.imageHashesSpec.pre6 enc Tryz.prog Tryz.f8 Rows.imageHashesRow.domain false) (Rows.imageHashesSpec.post enc Tryz.prog Tryz.f8 false true false false) := by
  refine returnsInHanded_of_change_sized (C := Tryz.checked) own started (by kernel_rfl) Tryz.func8
    (ChangeSpec.witness6 (enc := enc) (C := Tryz.checked) false ⟨#[], #[.slice none 0 0], []⟩ 8 (by kernel_rfl) (by kernel_rfl) (by kernel_rfl) (by kernel_rfl)) ?_
  intro W base args ds gs before hval0 hW hcnd hsz _
  have hval : ∀ (j : Nat) t v, Tryz.f8.params[j]? = some t → args[j]? = some v → Value.okWide Tryz.prog W .any base t v := hval0
  have hW' := hW
  obtain ⟨p, q, hA0, hV, rfl, hfz, hnd⟩ := hW
  have hA : DataW.TrodAll enc Tryz.prog W 0 (fun _ => true) true Tryz.f8.params.toList args.toList ds p := hA0
  rw [Tryz.params8] at hA hval
  obtain ⟨v, d, rfl, rfl, hd⟩ := trodAll_one hA
  obtain ⟨rfl, rfl⟩ := trodVars_none hV
  obtain ⟨fuel, hd0⟩ := hd
  have hw : ∀ n ∈ d.weights Tryz.prog 22, n ≤ reachBytes := fun n hn => by
    have h2 := List.all_eq_true.1 hsz n (DataW.weights_mem_each (j := 0) (t := 22) (d := d) (by rfl) (by rfl) n hn)
    simpa using h2
  obtain ⟨l, hl, hc⟩ := asks26_codec.out enc W 0 true fuel _ _ hd0 hw
  have hv1 : v.cells.toList = [v] := slice_cells Tryz.underlying22 (hval 0 _ v rfl rfl)
  rw [hv1] at hc
  have hv : VRel W T0 (lst 9 ask26C l) v := (hc.2 0 _ v rfl rfl).1
  have hlt : ∀ x ∈ p, x.block < W.heap.size := fun x hx => hW'.lt x (by simpa using hx)
  clear hA0 hval0
  refine (calls_of_acalls Tryz.func8 rfl (by rfl) (R := fun r => r = V.bool true) (imageHashes_law l hl.1 hl.2 _ (fun r _ => r = V.bool true) rfl) hv).mono fun e W' ⟨r, u, he, hr, ⟨T, hvr⟩, hb⟩ => ?_
  subst hr
  have hu : u = .bool true := VRel.eq_s hvr
  subst hu
  subst he
  refine ⟨_, rfl, post_of_old (pa := p) (pv := []) hW' (fun _ _ _ => trodAll_cons_mk (shut_bool Tryz.underlying4 _) trodAll_mk0) (fun sp hsp => ?_) (fun _ _ => rfl) rfl (Below.kept hb _) (Below.froz hb) (ok_one (by kernel_rfl) rfl (okWide_bool_mk Tryz.underlying4 _))⟩
  exact trodAll_mk1 (WideElems.Trod_stays laid (by kernel_rfl) (of_decide_eq_true (by kernel_rfl)) ⟨fuel, hd0⟩ (fun x hx => hb.same (hlt x hx)) (fun x hx => hsp x (by simpa using hx)))

theorem imageHashes_proved : Rows.ImageHashesSaid :=
  OpenClaim.holds_of_wide 8 Tryz.f8 rfl rfl rfl rfl rfl rfl rfl ⟨rfl, rfl, rfl, rfl, rfl⟩ rfl rfl rfl rfl rfl (by kernel_rfl) Tryz.func8 (by kernel_rfl)
    (of_decide_eq_true (by kernel_rfl)) (by unfold Func.isWrapper; first | (rw [if_pos (by decide +kernel)]; kernel_rfl) | (rw [if_neg (by decide +kernel)]; exact ⟨rfl, rfl⟩))
    (fun os started H enc _ => imageHashes_lifted os started H enc)
#print axioms imageHashes_proved
end Go.Proofs.YtimehecofabmjaaGreat
