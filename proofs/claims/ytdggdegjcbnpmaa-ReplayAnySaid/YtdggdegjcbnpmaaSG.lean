/- The ground on which laws of thronglaw29 are proved: contracts of functions and plain lemmas; no condition beyond the row's own. -/
import Derived.Test.YtdggdegjcbnpmaaVD
import Derived.Test.YtdggdegjcbnpmaaSE
/- What is read is what was laid: no program in sight. -/
namespace Go.V
set_option linter.unusedVariables false

theorem putZ_nat (v : Nat) : putZ (v : Int) = putL v := by
  unfold putZ
  split
  · rw [Int.toNat_natCast]
  · rw [putL, dif_neg (by omega)]

theorem lowB_byte (c : UInt8) : lowB (c.toNat : Int) = c := by
  unfold lowB
  have := c.toNat_lt
  have e : ((c.toNat : Int) % 256).toNat = c.toNat := by omega
  rw [e]
  simp

theorem byte_or (c : UInt8) (h : 128 ≤ c.toNat) (v : Nat) : lowB ((c.toNat % 128 + 128 * v : Nat) : Int) ||| 128 = c := by
  rw [← lowB_mod _ (by omega), Int.tmod_eq_emod_of_nonneg (by omega)]
  have e : (((c.toNat % 128 + 128 * v : Nat) : Int) % 128) = ((c.toNat % 128 : Nat) : Int) := by omega
  rw [e]
  have e2 : ∀ n : Nat, n < 256 → 128 ≤ n → lowB ((n % 128 : Nat) : Int) ||| 128 = UInt8.ofNat n := by decide +kernel
  rw [e2 c.toNat c.toNat_lt h]
  simp

theorem getGo_put : ∀ (b : List UInt8) (i : Nat) (n : Int) (m : Int) (k : Nat), getGo b i n = (m, k, 0) →
    ∃ v : Nat, m = n + v * 128 ^ i ∧ b = putL v ++ b.drop (k - i) ∧ i < k ∧ (0 < i → 0 < v) := by
  intro b
  induction b with
  | nil => intro i n m k h; simp [getGo] at h
  | cons c l ih =>
    intro i n m k h
    unfold getGo at h
    split at h
    · simp at h
    · rename_i hc
      split at h
      · rename_i h1
        simp only [Prod.mk.injEq, and_true] at h
        obtain ⟨rfl, rfl⟩ := h
        refine ⟨c.toNat, by rw [Nat.mod_eq_of_lt h1], ?_, by omega, fun hi => ?_⟩
        · rw [putL, dif_neg (by omega), lowB_byte]
          simp
        · omega
      · rename_i h1
        obtain ⟨v, rfl, hb, hk, hv⟩ := ih _ _ _ _ h
        have hv := hv (by omega)
        refine ⟨c.toNat % 128 + 128 * v, ?_, ?_, by omega, fun _ => by omega⟩
        · rw [Int.pow_succ]
          have e1 : (v : Int) * (128 ^ i * 128) = 128 * (v : Int) * 128 ^ i := by rw [Int.mul_comm (128 ^ i) 128, ← Int.mul_assoc, Int.mul_comm (v : Int) 128]
          rw [e1, Int.add_assoc, ← Int.add_mul]
          simp
        · rw [putL, dif_pos (by omega), byte_or c (by omega) v]
          have e : (c.toNat % 128 + 128 * v) / 128 = v := by omega
          rw [e, show k - i = (k - (i + 1)) + 1 by omega]
          show c :: l = c :: (putL v ++ l.drop (k - (i + 1)))
          rw [← hb]

theorem getNum_put {b : List UInt8} (h : (getNum b).2.2 = 0) : b = putZ (getNum b).1 ++ b.drop (getNum b).2.1 := by
  obtain ⟨v, h1, h2, _⟩ := getGo_put b 0 0 (getNum b).1 (getNum b).2.1 (Prod.ext rfl (Prod.ext rfl h))
  have e : (getNum b).1 = (v : Int) := by rw [h1]; simp
  rw [e, putZ_nat]
  exact h2

theorem num_put {s : Rd} {lo hi : Int} (h : (s.num lo hi).2.e = 0) : s.e = 0 ∧ s.b = putZ (s.num lo hi).1 ++ (s.num lo hi).2.b ∧ lo ≤ (s.num lo hi).1 ∧ (s.num lo hi).1 ≤ hi := by
  obtain ⟨h1, h2, h3, h4, h5, h6⟩ := got_e h
  have e1 : (s.num lo hi).1 = (getNum s.b).1 := h3
  have e2 : (s.num lo hi).2 = ⟨s.b.drop (getNum s.b).2.1, 0⟩ := h4
  rw [e1, e2]
  exact ⟨h1, getNum_put h2, h5, h6⟩

theorem zig_int {n : Int} (h : 0 ≤ n) : putZ n = intZ (zig n) := by
  unfold intZ zig
  by_cases h1 : n % 2 = 0
  · rw [if_pos h1, if_neg (by omega)]
    congr 1; omega
  · rw [if_neg h1, if_pos (by omega)]
    congr 1; omega

theorem int_put {s : Rd} {lo hi : Int} (h : (s.int lo hi).2.e = 0) : s.e = 0 ∧ s.b = intZ (s.int lo hi).1 ++ (s.int lo hi).2.b ∧ lo ≤ (s.int lo hi).1 ∧ (s.int lo hi).1 ≤ hi := by
  obtain ⟨h1, h2, h3, h4, h5, h6⟩ := got_e h
  have e1 : (s.int lo hi).1 = (getInt s.b).1 := h3
  have e2 : (s.int lo hi).2 = ⟨s.b.drop (getInt s.b).2.1, 0⟩ := h4
  rw [e1, e2]
  have h7 := getNum_put (b := s.b) h2
  have h8 := getNum_facts s.b
  refine ⟨h1, ?_, h5, h6⟩
  have e3 : (getInt s.b).1 = zig (getNum s.b).1 := rfl
  rw [e3, ← zig_int (by omega)]
  exact h7

theorem byte_put {s : Rd} (h : s.byte.2.e = 0) : s.e = 0 ∧ s.b = s.byte.1 :: s.byte.2.b := by
  obtain ⟨b, e⟩ := s
  unfold Rd.byte at *
  by_cases h1 : e = 0
  · subst h1
    cases b with
    | nil => simp at h
    | cons c l => exact ⟨rfl, rfl⟩
  · simp only [ne_eq, h1, not_false_eq_true, if_true] at h

theorem same_put : ∀ (l : List UInt8) (s : Rd), (s.same l).e = 0 → s.e = 0 ∧ s.b = l ++ (s.same l).b := by
  intro l
  induction l with
  | nil => intro s h; exact ⟨h, rfl⟩
  | cons c l ih =>
    intro s h
    obtain ⟨h1, h2⟩ := ih (s.byte.2.must (s.byte.1 == c)) h
    obtain ⟨h3, h4, h5⟩ := must_e h1
    obtain ⟨h6, h7⟩ := byte_put h3
    rw [h5] at h2
    have e : (s.same (c :: l)).b = ((s.byte.2.must (s.byte.1 == c)).same l).b := rfl
    refine ⟨h6, ?_⟩
    rw [e, h7, h5, h2, eq_of_beq h4]
    simp [h5]

theorem raw_put {s : Rd} (h : s.raw.2.e = 0) : s.e = 0 ∧ s.b = putZ s.raw.1.length ++ s.raw.1 ++ s.raw.2.b := by
  unfold Rd.raw at *
  by_cases h1 : s.e = 0
  · rw [if_neg (by simpa using h1)] at h ⊢
    simp only at h ⊢
    unfold Rd.take at *
    split at h
    · rename_i h2; exact absurd h h2
    · rename_i h2
      rw [if_neg h2]
      have h3 : (getRaw s.b).2.2 = 0 := by
        unfold Rd.fail at h2
        rw [if_pos h1] at h2
        simpa using h2
      refine ⟨h1, ?_⟩
      simp only
      have hf := getNum_facts s.b
      unfold getRaw at h3 ⊢
      by_cases g1 : (getNum s.b).2.2 ≠ 0
      · rw [if_pos g1] at h3; exact absurd h3 g1
      rw [if_neg g1] at h3 ⊢
      by_cases g2 : (getNum s.b).1 > 1048576
      · rw [if_pos g2] at h3; simp at h3
      rw [if_neg g2] at h3 ⊢
      by_cases g3 : (getNum s.b).1 > (s.b.length : Int) - (getNum s.b).2.1
      · rw [if_pos g3] at h3; simp at h3
      rw [if_neg g3]
      simp only
      have h4 := getNum_put (b := s.b) (by simpa using g1)
      have e1 : (((s.b.drop (getNum s.b).2.1).take (getNum s.b).1.toNat).length : Int) = (getNum s.b).1 := by
        rw [List.length_take, List.length_drop]; omega
      rw [e1, ← List.drop_drop, List.append_assoc, List.take_append_drop]
      exact h4
  · rw [if_pos (by simpa using h1)] at h
    exact absurd h h1

def rise : Int → List Int → Prop
  | _, [] => True
  | p, x :: xs => p < x ∧ x ≤ 1099511627776 ∧ rise x xs

theorem idsGo_put : ∀ (n : Nat) (s : Rd) (last : Int) (l : List Int), (Rd.idsGo n s last l).2.e = 0 →
    s.e = 0 ∧ ∃ m, (Rd.idsGo n s last l).1 = l ++ m ∧ m.length = n ∧ s.b = numsL m ++ (Rd.idsGo n s last l).2.b ∧ rise last m := by
  intro n
  induction n with
  | zero => intro s last l h; exact ⟨h, [], by simp [Rd.idsGo], rfl, by simp [Rd.idsGo, numsL], trivial⟩
  | succ n ih =>
    intro s last l h
    by_cases he : s.e = 0
    · rw [idsGo_ok he] at h ⊢
      obtain ⟨h1, m, h2, h3, h4, h5⟩ := ih _ _ _ h
      obtain ⟨_, h6, h7, h8⟩ := num_put h1
      refine ⟨he, (s.num (last + 1) 1099511627776).1 :: m, by rw [h2]; simp, by simp [h3], ?_, by omega, h8, h5⟩
      rw [h6, h4]
      simp [numsL]
    · rw [idsGo_bad he] at h
      exact absurd h he

theorem rise_units {m : List Int} (h : rise 0 m) (h1 : 1 ≤ m.length) (h2 : m.length ≤ 64) : unitsP m := by
  have key : ∀ (l : List Int) (p : Int), 0 ≤ p → rise p l → ∀ j, j < l.length → (p + 1 ≤ l.getD j 0 ∧ l.getD j 0 ≤ 1099511627776) ∧ (0 < j → l.getD (j - 1) 0 < l.getD j 0) := by
    intro l
    induction l with
    | nil => intro p _ _ j hj; simp at hj
    | cons x l ih =>
      intro p hp ⟨h1, h2, h3⟩ j hj
      cases j with
      | zero => simp; omega
      | succ j =>
        have := ih x (by omega) h3 j (by simpa using hj)
        refine ⟨by simp only [List.getD_cons_succ]; omega, fun _ => ?_⟩
        cases j with
        | zero => simp only [Nat.zero_add, Nat.sub_self, List.getD_cons_zero, List.getD_cons_succ]; omega
        | succ j =>
          have := this.2 (by omega)
          simpa using this
  exact ⟨⟨h1, h2⟩, fun j hj => by have := key m 0 (by omega) h j hj; exact ⟨by omega, this.2⟩⟩

theorem ids_put {s : Rd} (h : s.ids.2.e = 0) : s.e = 0 ∧ s.b = idsL s.ids.1 ++ s.ids.2.b ∧ unitsP s.ids.1 := by
  unfold Rd.ids at *
  obtain ⟨h1, m, h2, h3, h4, h5⟩ := idsGo_put _ _ _ _ h
  obtain ⟨h6, h7, h8, h9⟩ := num_put h1
  rw [h2, List.nil_append]
  have e : (m.length : Int) = (s.num 1 64).1 := by rw [h3]; omega
  refine ⟨h6, ?_, rise_units h5 (by omega) (by omega)⟩
  unfold idsL
  rw [e, List.append_assoc, ← h4]
  exact h7

theorem tail_put {s : Rd} {c : Cmd} (hc : c = cmd0 c.P c.S c.K) (hk : 1 ≤ c.K ∧ c.K ≤ 7) (h : (s.tail c).2.e = 0) :
    s.e = 0 ∧ s.b = tailL (s.tail c).1 ++ (s.tail c).2.b ∧ (s.tail c).1.okP ∧ (s.tail c).1.only = (s.tail c).1 ∧ (s.tail c).1.P = c.P ∧ (s.tail c).1.S = c.S ∧ (s.tail c).1.K = c.K := by
  rw [hc] at h ⊢
  generalize c.P = P at *
  generalize c.S = S at *
  generalize c.K = K at *
  unfold Rd.tail cmd0 at *
  simp only at h ⊢
  by_cases k1 : K = 1
  · subst k1
    simp only [if_true] at h ⊢
    obtain ⟨h1, h2, h3, h4⟩ := int_put h
    obtain ⟨h5, h6, h7, h8⟩ := int_put h1
    obtain ⟨h9, h10, h11, h12⟩ := num_put h5
    refine ⟨h9, ?_, ?_, ?_, by trivial, by trivial, by trivial⟩
    · unfold tailL; simp only [if_true]; rw [h10, h6, h2]; simp
    · rw [Cmd.ok1 rfl]; unfold placeP; exact ⟨⟨h11, h12⟩, ⟨h7, h8⟩, ⟨h3, h4⟩⟩
    · rw [Cmd.only1 rfl]
  rw [if_neg k1] at h ⊢
  by_cases k2 : K = 2
  · subst k2
    simp only [if_true] at h ⊢
    obtain ⟨h1, h2, h3, h4⟩ := num_put h
    obtain ⟨h5, h6, h7⟩ := ids_put h1
    refine ⟨h5, ?_, ?_, ?_, by trivial, by trivial, by trivial⟩
    · unfold tailL; simp only [if_true]; rw [h6, h2]; simp
    · rw [Cmd.ok2 rfl]; exact ⟨h7, h3, h4⟩
    · rw [Cmd.only2 rfl]
  rw [if_neg k2] at h ⊢
  by_cases k3 : K = 3
  · subst k3
    simp only [if_true] at h ⊢
    obtain ⟨h5, h6, h7⟩ := ids_put h
    refine ⟨h5, ?_, ?_, ?_, by trivial, by trivial, by trivial⟩
    · unfold tailL; simp only [if_true]; rw [h6]; simp
    · rw [Cmd.ok3 rfl]; exact h7
    · rw [Cmd.only3 rfl]
  rw [if_neg k3] at h ⊢
  by_cases k4 : K = 4
  · subst k4
    simp only [if_true] at h ⊢
    obtain ⟨h1, h2, h3, h4⟩ := num_put h
    obtain ⟨h5, h6, h7, h8⟩ := num_put h1
    obtain ⟨h9, h10, h11, h12⟩ := num_put h5
    refine ⟨h9, ?_, ?_, ?_, by trivial, by trivial, by trivial⟩
    · unfold tailL; simp only [if_true]; rw [h10, h6, h2]; simp
    · rw [Cmd.ok4 rfl]; exact ⟨⟨h11, h12⟩, ⟨h7, h8⟩, ⟨h3, h4⟩⟩
    · rw [Cmd.only4 rfl]
  rw [if_neg k4] at h ⊢
  by_cases k5 : K = 5
  · subst k5
    simp only [if_true] at h ⊢
    obtain ⟨h9, h10, h11, h12⟩ := num_put h
    refine ⟨h9, ?_, ?_, ?_, by trivial, by trivial, by trivial⟩
    · unfold tailL; simp only [if_true]; rw [h10]; simp
    · rw [Cmd.ok5 rfl]; exact ⟨h11, h12⟩
    · rw [Cmd.only5 rfl]
  rw [if_neg k5] at h ⊢
  by_cases k6 : K = 6
  · subst k6
    simp only [if_true] at h ⊢
    obtain ⟨h1, h2, h3, h4⟩ := num_put h
    obtain ⟨h5, h6, h7⟩ := ids_put h1
    refine ⟨h5, ?_, ?_, ?_, by trivial, by trivial, by trivial⟩
    · unfold tailL; simp only [if_true]; rw [h6, h2]; simp
    · rw [Cmd.ok6 rfl]; exact ⟨h7, h3, h4⟩
    · rw [Cmd.only6 rfl]
  rw [if_neg k6] at h ⊢
  have k7 : K = 7 := by omega
  subst k7
  simp only [if_true] at h ⊢
  obtain ⟨h5, h6, h7, h8⟩ := num_put h
  obtain ⟨h9, h10, h11, h12⟩ := num_put h5
  refine ⟨h9, ?_, ?_, ?_, by trivial, by trivial, by trivial⟩
  · unfold tailL; simp only [if_true]; rw [h10, h6]; simp
  · rw [Cmd.ok7 rfl]; exact ⟨⟨h11, h12⟩, ⟨h7, h8⟩⟩
  · rw [Cmd.only7 rfl]

theorem tail_e {s : Rd} {c : Cmd} (h : (s.tail c).2.e = 0) : s.e = 0 := by
  unfold Rd.tail at h
  repeat' split at h
  all_goals simp only at h
  · exact (num_put (int_put (int_put h).1).1).1
  · exact (ids_put (num_put h).1).1
  · exact (ids_put h).1
  · exact (num_put (num_put (num_put h).1).1).1
  · exact (num_put h).1
  · exact (ids_put (num_put h).1).1
  · exact (num_put (num_put h).1).1
  · exact h

theorem cmd_put {s : Rd} (h : s.cmd.2.e = 0) : s.e = 0 ∧ s.b = cmdL s.cmd.1 ++ s.cmd.2.b ∧ cmdP s.cmd.1 := by
  unfold Rd.cmd at *
  simp only at h ⊢
  have hq := tail_e h
  obtain ⟨h1, h2, h3, h4⟩ := num_put hq
  obtain ⟨h5, h6, h7, h8⟩ := num_put h1
  obtain ⟨h9, h10, h11, h12⟩ := num_put h5
  obtain ⟨_, h14, h15, h16, h17, h18, h19⟩ := tail_put (c := cmd0 ((s.num 1 7).2.num 1 8).1 (((s.num 1 7).2.num 1 8).2.num 0 1099511627776).1 (s.num 1 7).1) rfl ⟨h11, h12⟩ h
  refine ⟨h9, ?_, h15, by rw [h17]; exact ⟨h7, h8⟩, by rw [h18]; exact ⟨h3, h4⟩, h16⟩
  unfold cmdL
  rw [h17, h18, h19, List.append_assoc, ← h14, List.append_assoc, List.append_assoc]
  show s.b = putZ (s.num 1 7).1 ++ (putZ ((s.num 1 7).2.num 1 8).1 ++ (putZ (((s.num 1 7).2.num 1 8).2.num 0 1099511627776).1 ++ (((s.num 1 7).2.num 1 8).2.num 0 1099511627776).2.b))
  rw [← h2, ← h6, ← h10]

theorem tilesGo_put : ∀ (n : Nat) (s : Rd) (l : List UInt8), (Rd.tilesGo n s l).2.e = 0 →
    s.e = 0 ∧ ∃ m, (Rd.tilesGo n s l).1 = l ++ m ∧ m.length = n ∧ s.b = m ++ (Rd.tilesGo n s l).2.b ∧ ∀ t ∈ m, t.toNat ≤ 5 := by
  intro n
  induction n with
  | zero => intro s l h; exact ⟨h, [], by simp [Rd.tilesGo], rfl, by simp [Rd.tilesGo], fun t ht => by cases ht⟩
  | succ n ih =>
    intro s l h
    by_cases he : s.e = 0
    · rw [tilesGo_ok he] at h ⊢
      obtain ⟨h1, m, h2, h3, h4, h5⟩ := ih _ _ h
      obtain ⟨h6, h7, h8⟩ := must_e h1
      obtain ⟨_, h9⟩ := byte_put h6
      refine ⟨he, s.byte.1 :: m, by rw [h2]; simp, by simp [h3], ?_, fun t ht => ?_⟩
      · rw [h8] at h4
        rw [h9, h4, h8]; rfl
      · rcases List.mem_cons.1 ht with rfl | ht
        · simpa using h7
        · exact h5 t ht
    · rw [tilesGo_bad he] at h
      exact absurd h he

theorem fin_put {s : Rd} (h : s.fin.e = 0) : s.e = 0 ∧ s.b = [] ∧ s.fin = s := by
  obtain ⟨h1, h2, h3⟩ := must_e h
  exact ⟨h1, List.eq_nil_of_length_eq_zero (by simpa using h2), h3⟩

theorem take_front {a b : List UInt8} {n : Nat} (h : n = a.length) : (a ++ b).take n = a := by rw [h, List.take_left]

theorem mapParse_put {b : List UInt8} (h : (mapParse b).2 = 0) : b = gndL (mapParse b).1 ∧ gndP (mapParse b).1 := by
  unfold mapParse at *
  by_cases he : (mapSum b).e = 0
  · rw [if_neg (by simpa using he)]
    simp only
    unfold mapSum at he
    obtain ⟨h1, h2, _⟩ := fin_put he
    obtain ⟨h3, h4⟩ := same_put _ _ h1
    rw [h2, List.append_nil] at h4
    unfold mapTiles at h3
    obtain ⟨h5, m, h6, h7, h8, h9⟩ := tilesGo_put _ _ _ h3
    have hT : (mapTiles b).1 = m := by unfold mapTiles; rw [h6]; rfl
    have hR : (Rd.tilesGo ((mapHead b).1 * (mapSide b).1).toNat (mapSide b).2 []).2 = (mapTiles b).2 := rfl
    rw [hR] at h8
    obtain ⟨g1, g2, g3, g4⟩ := num_put h5
    obtain ⟨g5, g6, g7, g8⟩ := num_put g1
    obtain ⟨g9, g10⟩ := same_put _ _ g5
    have hb : b = signL ⟨(mapHead b).1, (mapSide b).1, m⟩ ++ (mapTiles b).2.b := by
      have e1 : b = [84, 71] ++ (Rd.same ⟨b, 0⟩ [84, 71]).b := g10
      have e2 : (Rd.same ⟨b, 0⟩ [84, 71]).b = putZ (mapHead b).1 ++ (mapHead b).2.b := g6
      have e3 : (mapHead b).2.b = putZ (mapSide b).1 ++ (mapSide b).2.b := g2
      unfold signL
      simp only
      rw [List.append_assoc, List.append_assoc, List.append_assoc, ← h8, ← e3, ← e2, ← e1]
    have hlen : b.length - (mapTiles b).2.b.length = (signL ⟨(mapHead b).1, (mapSide b).1, m⟩).length := by
      have := congrArg List.length hb
      rw [List.length_append] at this
      omega
    have htk : b.take (b.length - (mapTiles b).2.b.length) = signL ⟨(mapHead b).1, (mapSide b).1, m⟩ := by
      rw [hlen]
      have e := congrArg (List.take (signL ⟨(mapHead b).1, (mapSide b).1, m⟩).length) hb
      rw [List.take_left] at e
      exact e
    rw [htk] at h4
    rw [hT]
    have w1 : 1 ≤ (mapHead b).1 ∧ (mapHead b).1 ≤ 128 := ⟨g7, g8⟩
    have w2 : 1 ≤ (mapSide b).1 ∧ (mapSide b).1 ≤ 128 := ⟨g3, g4⟩
    have := side_mul w1 w2
    refine ⟨?_, w1, w2, by simp only; omega, h9⟩
    unfold gndL
    rw [← h4]
    exact hb
  · rw [if_pos (by simpa using he)] at h
    dsimp only at h
    exact absurd h he

theorem cmdsGo_put (pl : Int) : ∀ (n : Nat) (s : Rd) (l : List Cmd), (Rd.cmdsGo pl n s l).2.e = 0 →
    s.e = 0 ∧ ∃ m, (Rd.cmdsGo pl n s l).1 = l ++ m ∧ m.length = n ∧ s.b = m.flatMap cmdL ++ (Rd.cmdsGo pl n s l).2.b ∧
      ∀ j, (h : j < m.length) → (cmdP m[j] ∧ m[j].P ≤ pl) ∧ ((h2 : 0 < j) → afterP (m[j - 1]'(by omega)) m[j]) ∧ (j = 0 → ∀ d, l.getLast? = some d → afterP d m[j]) := by
  intro n
  induction n with
  | zero => intro s l h; exact ⟨h, [], by simp [Rd.cmdsGo], rfl, by simp [Rd.cmdsGo], fun j hj => by simp at hj⟩
  | succ n ih =>
    intro s l h
    by_cases he : s.e = 0
    · rw [cmdsGo_ok he] at h ⊢
      obtain ⟨h1, m, h2, h3, h4, h5⟩ := ih _ _ h
      obtain ⟨h6, h7, h8⟩ := must_e h1
      obtain ⟨_, h9, h10⟩ := cmd_put h6
      rw [h8] at h4
      have hn : s.cmd.1.P ≤ pl ∧ ∀ d, l.getLast? = some d → afterP d s.cmd.1 := by
        unfold nextB at h7
        rw [Bool.and_eq_true] at h7
        refine ⟨of_decide_eq_true h7.1, fun d hd => ?_⟩
        have := h7.2
        rw [hd] at this
        exact of_decide_eq_true this
      refine ⟨he, s.cmd.1 :: m, by rw [h2]; simp, by simp [h3], ?_, fun j hj => ?_⟩
      · rw [h9, h4, h8]; simp
      · cases j with
        | zero => exact ⟨⟨h10, hn.1⟩, fun h => by omega, fun _ d hd => hn.2 d hd⟩
        | succ j =>
          have h11 := h5 j (by simpa using hj)
          refine ⟨h11.1, fun _ => ?_, fun h => by omega⟩
          cases j with
          | zero => exact h11.2.2 rfl s.cmd.1 (by simp)
          | succ j => exact h11.2.1 (by omega)
    · rw [cmdsGo_bad he] at h
      exact absurd h he

theorem bytesGo_put : ∀ (n : Nat) (s : Rd) (l : List UInt8), (Rd.bytesGo n s l).2.e = 0 → s.e = 0 ∧ ∃ m, (Rd.bytesGo n s l).1 = l ++ m ∧ m.length = n ∧ s.b = m ++ (Rd.bytesGo n s l).2.b := by
  intro n
  induction n with
  | zero => intro s l h; exact ⟨h, [], by simp [Rd.bytesGo], rfl, by simp [Rd.bytesGo]⟩
  | succ n ih =>
    intro s l h
    obtain ⟨h1, m, h2, h3, h4⟩ := ih _ _ h
    obtain ⟨h5, h6⟩ := byte_put h1
    refine ⟨h5, s.byte.1 :: m, ?_, by simp [h3], ?_⟩
    · have e : (Rd.bytesGo (n + 1) s l).1 = (Rd.bytesGo n s.byte.2 (l ++ [s.byte.1])).1 := rfl
      rw [e, h2]; simp
    · have e : (Rd.bytesGo (n + 1) s l).2 = (Rd.bytesGo n s.byte.2 (l ++ [s.byte.1])).2 := rfl
      rw [e, h6, h4]; simp
theorem eight_leN (l : List UInt8) (h : l.length = 8) : eightL (leN l) = l := by
  have key : ∀ (l : List UInt8) (i : Nat) (hi : i < l.length), lowB (leN l / 256 ^ i) = l[i] := by
    intro l
    induction l with
    | nil => intro i hi; simp at hi
    | cons d l ih =>
      intro i hi
      have e : leN (d :: l) = (d.toNat : Int) + 256 * leN l := rfl
      have hd := d.toNat_lt
      cases i with
      | zero =>
        rw [Int.pow_zero, Int.ediv_one, e]
        have : lowB ((d.toNat : Int) + 256 * leN l) = lowB (d.toNat : Int) := by
          unfold lowB
          congr 2
          omega
        rw [this, lowB_byte]; rfl
      | succ i =>
        have := ih i (by simpa using hi)
        rw [List.getElem_cons_succ, ← this, e, Int.pow_succ, Int.mul_comm (256 ^ i) 256, ← Int.ediv_ediv_of_nonneg (by decide)]
        congr 2
        omega
  apply List.ext_getElem (by rw [eightL_len, h])
  intro i h1 h2
  rw [← key l i h2]
  simp [eightL]

theorem frame_put {pl sum : Int} {s : Rd} {turn : Int} (h : (frRd pl sum s).e = 0) :
    s.e = 0 ∧ frSum pl sum s = fnvSum sum (frBody (frFrm pl s turn)) ∧ s.b = frBody (frFrm pl s turn) ++ eightL (frSum pl sum s) ++ (frRd pl sum s).b ∧ frmP pl (frFrm pl s turn).C ∧
      0 ≤ (frFrm pl s turn).hash ∧ (frFrm pl s turn).hash ≤ 18446744073709551615 := by
  unfold frRd at h
  obtain ⟨h1, h2⟩ := same_put _ _ h
  unfold frHash at h1
  obtain ⟨h3, m, h4, h5, h6⟩ := bytesGo_put _ _ _ h1
  have hm : (frHash pl s).1 = m := by unfold frHash; rw [h4]; rfl
  have hH : (Rd.bytesGo 8 (frCmds pl s).2 []).2 = (frHash pl s).2 := rfl
  rw [hH] at h6
  unfold frCmds at h3
  obtain ⟨h7, c, h8, h9, h10, h11⟩ := cmdsGo_put pl _ _ _ h3
  have hc : (frCmds pl s).1 = c := by unfold frCmds; rw [h8]; rfl
  have hC : (Rd.cmdsGo pl (s.num 0 512).1.toNat (s.num 0 512).2 []).2 = (frCmds pl s).2 := rfl
  rw [hC] at h10
  obtain ⟨h12, h13, h14, h15⟩ := num_put h7
  have hcl : (c.length : Int) = (s.num 0 512).1 := by rw [h9]; omega
  have hbody : frBody (frFrm pl s turn) = putZ c.length ++ c.flatMap cmdL ++ m := by
    unfold frBody frFrm
    simp only
    rw [hc, hm, eight_leN m h5]
  have hb : s.b = frBody (frFrm pl s turn) ++ (frHash pl s).2.b := by
    rw [hbody, hcl, List.append_assoc, List.append_assoc, ← h6, ← h10]
    exact h13
  have hS : frSum pl sum s = fnvSum sum (frBody (frFrm pl s turn)) := by
    have e := congrArg List.length hb
    rw [List.length_append] at e
    have e2 : s.b.length - (frHash pl s).2.b.length = (frBody (frFrm pl s turn)).length := by omega
    have e3 : s.b.take (frBody (frFrm pl s turn)).length = frBody (frFrm pl s turn) := by
      have e4 := congrArg (List.take (frBody (frFrm pl s turn)).length) hb
      rw [List.take_left] at e4
      exact e4
    unfold frSum
    rw [e2, e3]
  refine ⟨h12, hS, ?_, ⟨by show (frCmds pl s).1.length ≤ 512; rw [hc]; omega, ?_⟩, ?_⟩
  · have e : (frRd pl sum s).b = ((frHash pl s).2.same (eightL (frSum pl sum s))).b := rfl
    rw [e, List.append_assoc, ← h2]
    exact hb
  · have e : (frFrm pl s turn).C = c := hc
    rw [e]
    exact fun j hj => ⟨(h11 j hj).1, fun h => (h11 j hj).2.1 h⟩
  · have e : (frFrm pl s turn).hash = leN m := by unfold frFrm; rw [hm]
    rw [e]
    have := leN_bd m
    rw [h5] at this
    omega

def frsOK (pl : Int) (l : List Frm) : Prop := ∀ j, (h : j < l.length) → (l[j].turn = j ∧ frmP pl l[j].C) ∧ 0 ≤ l[j].hash ∧ l[j].hash ≤ 18446744073709551615

theorem frsOK_snoc {pl : Int} {l : List Frm} {f : Frm} (h : frsOK pl l) (hf : (f.turn = l.length ∧ frmP pl f.C) ∧ 0 ≤ f.hash ∧ f.hash ≤ 18446744073709551615) : frsOK pl (l ++ [f]) := by
  intro j hj
  by_cases hl : j < l.length
  · have e : (l ++ [f])[j] = l[j] := List.getElem_append_left hl
    rw [e]; exact h j hl
  · have hj2 : j = l.length := by simp at hj; omega
    subst hj2
    have e : (l ++ [f])[l.length] = f := by simp
    rw [e]; exact hf

theorem framesGo_put (pl : Int) (hd b : List UInt8) : ∀ (n : Nat) (s : Rd) (sum : Int) (l : List Frm), s.e = 0 → l.length + n = 4097 → l.length ≤ 4096 → b = l.foldl frStep hd ++ s.b → sum = fnvSum fnvStart (l.foldl frStep hd) → frsOK pl l →
    frsOK pl (framesGo pl n s sum l).1 ∧ (framesGo pl n s sum l).1.length ≤ 4096 ∧ ∃ rest, b = (framesGo pl n s sum l).1.foldl frStep hd ++ rest ∧ ((framesGo pl n s sum l).2.e = 0 ↔ rest = []) := by
  intro n
  induction n with
  | zero => intro s sum l _ h1 h2; omega
  | succ n ih =>
    intro s sum l he h1 h2 hb hsum hl
    rw [framesGo]
    by_cases g1 : s.b.length = 0
    · rw [if_pos g1]
      have : s.b = [] := List.eq_nil_of_length_eq_zero g1
      exact ⟨hl, h2, s.b, hb, by simp [he, this]⟩
    rw [if_neg g1]
    by_cases g2 : l.length < 4096
    · have hm : s.must (decide (l.length < 4096)) = s := by unfold Rd.must; simp [g2]
      rw [hm, if_neg (by simpa using he)]
      by_cases g3 : (frRd pl sum s).e = 0
      · rw [if_neg (by simpa using g3)]
        obtain ⟨_, f1, f2, f3, f4, f5⟩ := frame_put (turn := (l.length : Int)) g3
        have hS : frSum pl sum s = fnvSum fnvStart (l.foldl frStep hd ++ frBody (frFrm pl s l.length)) := by rw [f1, hsum, fnvSum_app]
        have hfold : (l ++ [frFrm pl s l.length]).foldl frStep hd = (l.foldl frStep hd ++ frBody (frFrm pl s l.length)) ++ eightL (frSum pl sum s) := by
          rw [List.foldl_append, hS]; rfl
        refine ih _ _ _ g3 (by simp; omega) (by simp; omega) ?_ ?_ (frsOK_snoc hl ⟨⟨rfl, f3⟩, f4, f5⟩)
        · rw [hfold, hb, f2]
          simp only [List.append_assoc]
        · rw [hfold, fnvSum_app, ← hS]
          rfl
      · rw [if_pos (by simpa using g3)]
        refine ⟨hl, h2, s.b, hb, ?_⟩
        simp only
        constructor
        · intro h; exact absurd h g3
        · intro h; rw [h] at g1; exact absurd rfl g1
    · have hm : (s.must (decide (l.length < 4096))).e = 1 := by unfold Rd.must Rd.fail; simp [g2, he]
      rw [if_pos (by rw [hm]; decide)]
      refine ⟨hl, h2, s.b, hb, ?_⟩
      simp only
      constructor
      · intro h; rw [hm] at h; exact absurd h (by decide)
      · intro h; rw [h] at g1; exact absurd rfl g1

set_option maxRecDepth 20000 in
theorem repParse_put (b : List UInt8) : ((repParse b).1 = rep0 ∧ (repParse b).2 ≠ 0) ∨
    (repP (repParse b).1 ∧ (∀ f ∈ (repParse b).1.F, 0 ≤ f.hash ∧ f.hash ≤ 18446744073709551615) ∧ ∃ rest, b = repL (repParse b).1 ++ rest ∧ ((repParse b).2 = 0 ↔ rest = [])) := by
  unfold repParse
  by_cases h0 : b.length > 1048576
  · rw [if_pos h0]; exact .inl ⟨rfl, by decide⟩
  rw [if_neg h0]
  by_cases h1 : (rpGnd b).2.e = 0
  · rw [if_neg (by simpa using h1)]
    right
    have hraw : (rpRaw b).2.e = 0 := by
      by_cases hr : (rpRaw b).2.e = 0
      · exact hr
      · unfold rpGnd at h1; rw [if_neg hr] at h1; exact h1
    have hgE : rpGnd b = ((mapParse (rpRaw b).1).1, (rpRaw b).2.must (decide ((mapParse (rpRaw b).1).2 = 0))) := by unfold rpGnd; rw [if_pos hraw]
    rw [hgE] at h1
    dsimp only at h1
    obtain ⟨_, h2, h3⟩ := must_e h1
    have hg : ∀ (p : Gnd × Rd) (x : Gnd) (y : Rd), p = (x, y) → p.1 = x ∧ p.2 = y := by intro p x y h; rw [h]; exact ⟨rfl, rfl⟩
    obtain ⟨hg1, hg2'⟩ := hg _ _ _ hgE
    have hg2 : (rpGnd b).2 = (rpRaw b).2 := hg2'.trans h3
    obtain ⟨m1, m2⟩ := mapParse_put (of_decide_eq_true h2)
    rw [← hg1] at m1 m2
    obtain ⟨r1, r2⟩ := raw_put (s := (rpHead b).2) hraw
    have r2 : (rpHead b).2.b = putZ (rpRaw b).1.length ++ (rpRaw b).1 ++ (rpRaw b).2.b := r2
    obtain ⟨n1, n2, n3, n4⟩ := num_put (s := Rd.same ⟨b, 0⟩ [84, 82]) (lo := 1) (hi := 8) r1
    have n2 : (Rd.same ⟨b, 0⟩ [84, 82]).b = putZ (rpHead b).1 ++ (rpHead b).2.b := n2
    have n3 : 1 ≤ (rpHead b).1 := n3
    have n4 : (rpHead b).1 ≤ 8 := n4
    obtain ⟨_, q1⟩ := same_put _ _ n1
    have q1 : b = [84, 82] ++ (Rd.same ⟨b, 0⟩ [84, 82]).b := q1
    have hb : b = headL ⟨(rpHead b).1, (rpGnd b).1, []⟩ ++ (rpGnd b).2.b := by
      unfold headL
      simp only
      rw [← m1, hg2, List.append_assoc, List.append_assoc, ← r2, ← n2, ← q1]
    have hlen : b.length - (rpGnd b).2.b.length = (headL ⟨(rpHead b).1, (rpGnd b).1, []⟩).length := by
      have := congrArg List.length hb
      rw [List.length_append] at this
      omega
    have htk : b.take (b.length - (rpGnd b).2.b.length) = headL ⟨(rpHead b).1, (rpGnd b).1, []⟩ := by
      rw [hlen]
      have e := congrArg (List.take (headL ⟨(rpHead b).1, (rpGnd b).1, []⟩).length) hb
      rw [List.take_left] at e
      exact e
    obtain ⟨f1, f2, rest, f3, f4⟩ := framesGo_put (rpHead b).1 (headL ⟨(rpHead b).1, (rpGnd b).1, []⟩) b 4097 (rpGnd b).2 (fnvSum fnvStart (b.take (b.length - (rpGnd b).2.b.length))) [] (by rw [hg2]; exact hraw) (by simp) (by simp) hb (by rw [htk]; rfl) (fun j hj => by simp at hj)
    have hF : framesGo (rpHead b).1 4097 (rpGnd b).2 (fnvSum fnvStart (b.take (b.length - (rpGnd b).2.b.length))) [] = rpFrames b := by rw [rpFrames]
    rw [hF] at f1 f2 f3 f4
    refine ⟨⟨⟨n3, n4⟩, m2, f2, fun j hj => (f1 j hj).1⟩, fun f hf => ?_, rest, ?_, f4⟩
    · obtain ⟨j, hj, rfl⟩ := List.getElem_of_mem hf
      exact (f1 j hj).2
    · exact f3
  · rw [if_pos (by simpa using h1)]; exact .inl ⟨rfl, h1⟩

theorem repP_fits {r : Rep} (h : repP r) : r.fits := by
  obtain ⟨h1, h2, h3, h4⟩ := h
  have hs := side_mul h2.1 h2.2.1
  refine ⟨by unfold Gnd.fits; have := h2.2.2.1; omega, by omega, fun f hf => ?_⟩
  obtain ⟨j, hj, rfl⟩ := List.getElem_of_mem hf
  have hp := (h4 j hj).2
  refine ⟨by have := hp.1; omega, fun c hc => ?_⟩
  have := (cmdP_nums (frmP_cmd hp c hc)).2.2.2.2.2.2.2.2.2.1
  unfold Cmd.fits
  omega
end Go.V
namespace Go.Proofs
open Go Go.V
set_option linter.unusedVariables false

set_option maxHeartbeats 1000000 in
theorem replayAny_law (l : List Ask29) (hl : l.length ≤ 140737488355328) (hs : ∀ a ∈ l, a.sized) (st : Store) (R : AV → Store → Prop) (h : R (bool true) st) : ACalls Try.prog 6 [lst 6 askC l] st R := by
  refine ACalls.of_body (c := cfg 92) infoOK Try.func6 (by rfl) (by rfl) (by rfl) (by rfl) ?_
  refine AWp.loop (σ := Nat) ⟨fun i => [(0, .av (lst 6 askC l)), (3, .av (int (i : Nat)))], fun _ => [], fun i st' => i ≤ l.length ∧ st' = st, fun i => l.length - i⟩ infoOK ?_ ?_
  · exact ⟨0, trivial, ⟨Nat.zero_le _, rfl⟩, ⟨LV.le_refl _, LV.le_refl _, trivial⟩, trivial⟩
  rintro i st' ⟨hi, rfl⟩
  refine bcase_intro (fun h1 => ?_) (fun h1 => ?_)
  rotate_left
  · exact wakes_spec _ _ (ret h)
  have hlt : i < l.length := lt_len h1
  refine bcd (fun h2 => ?_) (fun h2 => ?_)
  rotate_left
  · exact wakes_spec _ _ (ret h)
  refine ⟨i, rfl, optK_intro _ (rws_get hlt) ?_⟩
  refine heavy_spec l[i] (hs _ (List.getElem_mem hlt)) _ _ (fun b hb => ?_)
  cases b with
  | true => exact ret h
  | false =>
  obtain ⟨hL, hX⟩ := hb rfl
  refine ⟨i, rfl, optK_intro _ (rws_get hlt) ?_⟩
  refine repParse_spec l[i].X (by omega) _ _ ?_
  have next : ∀ A : Fr, A.t 0 = .av (lst 6 askC l) → A.t 3 = .av (int (((i : Int) + 1))) → ∃ s : Nat, l.length - s < l.length - i ∧ (s ≤ l.length ∧ st' = st') ∧ fitsT A [(0, .av (lst 6 askC l)), (3, .av (int (s : Nat)))] ∧ fitsB A [] := by
    intro A h0 h3
    refine ⟨i + 1, by omega, ⟨hlt, rfl⟩, ⟨by rw [h0]; exact LV.le_refl _, by rw [h3]; exact LV.le_refl _, trivial⟩, trivial⟩
  have hp := repParse_put l[i].X
  generalize repParse l[i].X = re at hp ⊢
  obtain ⟨r, e⟩ := re
  dsimp only at hp ⊢
  rcases hp with ⟨rfl, he⟩ | ⟨hp, _, rest, hX2, he⟩
  · refine num_law e _ _ ?_
    refine bceq (fun h3 => absurd h3 he) (fun _ => ?_)
    refine ACalls.le (ys := [.agg (repC rep0), .agg (repC rep0)]) ⟨AV.le_refl _, AV.le_aggL ⟨AV.le_refl _, AV.le_refl _, AV.le_refl _, AV.le_nil 1, AV.le_nil 3, trivial⟩, trivial⟩ (eqReplay_spec rep0 rep0 ⟨by unfold Gnd.fits; decide, by decide, fun f hf => by cases hf⟩ _ _ ?_)
    rw [show decide (rep0 = rep0) = true by simp]
    refine ⟨⟨by omega, by omega⟩, ?_⟩
    exact next _ rfl rfl
  · have hfit := repP_fits hp
    have hlen := congrArg List.length hX2
    rw [List.length_append] at hlen
    refine bceq (fun h3 => by exfalso; have := hp.1.1; omega) (fun _ => ?_)
    refine replayBytes_spec r hfit (fun hn => absurd hp hn) (fun _ _ => ?_) (fun _ hn => absurd (by omega) hn)
    refine ADraw.of_sched infoOK (by rfl) (by rfl) sch6_11 (by rfl) ?_
    refine ⟨num_law 0 _ _ ⟨trivial, ?_⟩, trivial⟩
    refine ⟨i, rfl, optK_intro _ (rws_get hlt) ?_⟩
    refine bcd (fun h4 => ?_) (fun h4 => ?_)
    · rw [rws_len, rws_len] at h4; omega
    refine ⟨i, rfl, optK_intro _ (rws_get hlt) ?_⟩
    refine ⟨0, (rowsB (repL r)).length, rfl, rfl, Nat.zero_le _, by rw [rws_len, rws_len]; omega, ?_⟩
    have e1 : ((rowsB l[i].X).take (rowsB (repL r)).length).drop 0 = rowsB (repL r) := by
      rw [List.drop_zero, rws_take, rws_len, hX2, List.take_left]
    rw [e1]
    refine ⟨eqBytes_spec (repL r) (repL r) (by omega) _ _ ⟨trivial, ?_⟩, trivial⟩
    rw [show decide (repL r = repL r) = true by simp]
    refine ⟨i, rfl, optK_intro _ (rws_get hlt) ?_⟩
    refine ⟨num_law e _ _ ⟨⟨rfl, rfl, rfl, trivial⟩, ?_⟩, trivial⟩
    have e2 : (e == 0) = (((rowsB (repL r)).length : Int) == ((rowsB l[i].X).length : Int)) := by
      rw [rws_len, rws_len, Bool.eq_iff_iff]
      simp only [beq_iff_eq]
      rw [he]
      constructor
      · intro h5; rw [h5] at hlen; simp at hlen; omega
      · intro h5; exact List.eq_nil_of_length_eq_zero (by omega)
    refine bcase_intro (fun h5 => ?_) (fun h5 => ?_)
    · rw [e2] at h5; simp at h5
    refine ⟨⟨by omega, by omega⟩, ?_⟩
    exact next _ rfl rfl
end Go.Proofs
