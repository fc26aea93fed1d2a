/- The ground on which laws of thronglaw31 are proved: contracts of functions and plain lemmas; no condition beyond the row's own. -/
import Derived.Test.YtlidamnkhidljaaGreatKK
import Derived.Test.YtlidamnkhidljaaGreatKE
import Derived.Test.YtlidamnkhidljaaGreatKL
set_option linter.unusedSimpArgs false
set_option linter.unusedVariables false
namespace Go.Proofs
open Go Go.V
set_option maxRecDepth 4000
theorem zik {t : UInt8} (h : t.toNat <= 5) : t = 0 \/ t = 1 \/ t = 2 \/ t = 3 \/ t = 4 \/ t = 5 := by
 have : t.toNat = (0 : UInt8).toNat \/ t.toNat = (1 : UInt8).toNat \/ t.toNat = (2 : UInt8).toNat \/ t.toNat = (3 : UInt8).toNat \/ t.toNat = (4 : UInt8).toNat \/ t.toNat = (5 : UInt8).toNat := by
  show t.toNat = 0 \/ t.toNat = 1 \/ t.toNat = 2 \/ t.toNat = 3 \/ t.toNat = 4 \/ t.toNat = 5
  omega
 simpa only [UInt8.toNat_inj] using this
theorem ji (k : Int) (st : Store) (R : AV -> Store -> Prop) (h : R (.agg (zsn k)) st) : ACalls Tryz.prog 70 [int k] st R := by
 refine ACalls.of_body (c := cfg 14) ze Tryz.func70 (by rfl) (by rfl) (by rfl) (by rfl) ?_
 unfold zsn kRad zo6 kCls zog kg at h
 refine bceq (fun h1 => ?_) (fun h1 => ?_)
 ·simp only [h1] at h
  exact ret h
 refine bceq (fun h2 => ?_) (fun h2 => ?_)
 ·simp only [h2] at h
  exact ret h
 refine bceq (fun h3 => ?_) (fun h3 => ?_)
 ·simp only [h3] at h
  exact ret h
 simp only [h1, h2, h3, if_false] at h
 exact ret h
theorem zg2 (c : Int) (t : UInt8) (ht : t.toNat <= 5) (st : Store) (R : AV -> Store -> Prop) (h : R (int (zi2 c t.toNat)) st) : ACalls Tryz.prog 117 [int c, u8 t] st R := by
 refine ACalls.of_body (c := cfg 17) ze Tryz.func117 (by rfl) (by rfl) (by rfl) (by rfl) ?_
 unfold zi2 at h
 have hn := zik ht
 refine bceq (fun h1 => ?_) (fun h1 => ?_)
 ·rw [if_pos h1] at h
  rcases hn with rfl | rfl | rfl | rfl | rfl | rfl <;> exact ⟨_, rfl, by decide, optR (ret h)⟩
 refine bceq (fun h2 => ?_) (fun h2 => ?_)
 ·rw [if_neg h1, if_pos h2] at h
  rcases hn with rfl | rfl | rfl | rfl | rfl | rfl <;> exact ⟨_, rfl, by decide, optR (ret h)⟩
 rw [if_neg h1, if_neg h2] at h
 rcases hn with rfl | rfl | rfl | rfl | rfl | rfl <;> exact ⟨_, rfl, by decide, optR (ret h)⟩
theorem zjn (g : Gnd) (hg : gndP g) (t : Nat) (ht : (t : Int) < g.W * g.H) (p : Vc) (hp : jd p.1 p.2) (r : Int) (hr : 0 < r /\ r <= 262144) (st : Store) (R : AV -> Store -> Prop) (h : R (bool (decide (hitP g t p r))) st) :
  ACalls Tryz.prog 97 [.agg (gndC g), int t, .agg (vecC p), int r] st R := by
 have hb := zdj hg ht
 have hn := zod hg ht hp hr.1
 have hx := txty hg ht
 have hq := trem (t := t) hg.1.1
 have hq2 := tquo (t := t) hg.1.1
 have hg1 := hg.1
 have hg2 := hg.2.1
 have hp' := hp
 unfold jd at hp'
 refine ACalls.of_body (c := cfg 41) ze Tryz.func97 (by rfl) (by rfl) (by rfl) (by rfl) ?_
 refine ADraw.of_sched ze (by rfl) (by rfl) zrx (by rfl) ?_
 refine ⟨by omega, ?_⟩
 have q1 : yu ((t : Int).tmod g.W * 65536) := by rw [hq]; unfold yu; omega
 have q2 : yu ((t : Int).tdiv g.W) := by rw [hq2]; unfold yu; omega
 have q3 : yu ((t : Int).tdiv g.W * 65536) := by rw [hq2]; unfold yu; omega
 refine ⟨q1, ?_⟩
 refine ⟨by omega, ?_⟩
 refine ⟨q2, ?_⟩
 refine ⟨q3, ?_⟩
 refine ⟨⟨(by repeat (first | exact Tv | refine ⟨rfl, ?_⟩ | refine ⟨optR (optR (optR (za _ (zb _ _ _) rfl))), ?_⟩)), ?_⟩, Tv⟩
 refine ⟨⟨Tv, ?_⟩, Tv⟩
 have e1 : (t : Int).tmod g.W * 65536 = tx g t := by rw [hq]; rfl
 have e2 : (t : Int).tdiv g.W * 65536 = ty g t := by rw [hq2]; rfl
 rw [e1, e2]
 refine in64 (by omega) ?_
 refine in64 (by omega) ?_
 have c1 := zaf (x := p.1) hx.1
 have c2 := zaf (x := p.2) hx.2
 refine vm p (kl p.1 (tx g t), kl p.2 (ty g t)) r ⟨⟨by omega, by omega⟩, ⟨by omega, by omega⟩⟩ ⟨⟨by dsimp only; omega, by dsimp only; omega⟩, ⟨by dsimp only; omega, by dsimp only; omega⟩⟩ (by omega) _ _ (ret ?_)
 rw [hn]
 exact h
set_option maxRecDepth 20000 in
theorem zho (p : Vc) (r : Int) (st : Store) (R : AV -> Store -> Prop) (h : ∀ z : Bool, (z = true ↔ (0 <= r /\ r <= 262144) /\ jd p.1 p.2) -> R (bool z) st) : ACalls Tryz.prog 96 [.agg (vecC p), int r] st R := by
 refine ACalls.of_body (c := cfg 15) ze Tryz.func96 (by rfl) (by rfl) (by rfl) (by rfl) ?_
 repeat' (first | refine bcd (fun _ => ?_) (fun _ => ?_) | refine zf (fun _ => ?_) (fun _ => ?_) | refine in64 (by omega) ?_ | (refine zg3 p _ _ ?_; rintro (_ | _) hz)| fail)
 all_goals
  refine ret (h _ ?_)
  simp only [decide_eq_true_eq, decide_eq_false_iff_not, Bool.false_eq_true, false_iff, true_iff, beq_iff_eq, bne_iff_ne, beq_eq_false_iff_ne, ne_eq, reduceCtorEq, jd] at *
  omega
theorem zbw (r : Int) (hr : 0 < r /\ r <= 262144) (st : Store) (R : AV -> Store -> Prop) (h : R (int r) st) : ACalls Tryz.prog 101 [int r] st R := by
 refine ACalls.of_body (c := cfg 6) ze Tryz.func101 (by rfl) (by rfl) (by rfl) (by rfl) ?_
 have e : min2 (max2 r 0) 262144 = r := by rw [zja, zjb]; omega
 rw [<- e] at h
 exact ret h
theorem zhz (p : Vc) (r : Int) (q : Vc) (s : Int) (hp : p.ok) (hq : q.ok) (hr : 0 < r /\ r <= 262144) (hs : 0 < s /\ s <= 262144) (st : Store) (R : AV -> Store -> Prop) (h : R (bool (zbb p r q s)) st) :
  ACalls Tryz.prog 74 [.agg (vecC p), int r, .agg (vecC q), int s] st R := by
 refine ACalls.of_body (c := cfg 18) ze Tryz.func74 (by rfl) (by rfl) (by rfl) (by rfl) ?_
 refine ADraw.of_sched ze (by rfl) (by rfl) zr2 (by rfl) ?_
 refine ⟨zbw r hr _ _ ⟨(by repeat (first | exact Tv | refine ⟨rfl, ?_⟩ | refine ⟨optR (optR (optR (za _ (zb _ _ _) rfl))), ?_⟩)), ?_⟩, Tv⟩
 refine ⟨zbw s hs _ _ ⟨(by repeat (first | exact Tv | refine ⟨rfl, ?_⟩ | refine ⟨optR (optR (optR (za _ (zb _ _ _) rfl))), ?_⟩)), ?_⟩, Tv⟩
 refine in64 (by omega) ?_
 refine ⟨vm p q (r + s) hp hq (by omega) _ _ ⟨Tv, ?_⟩, Tv⟩
 exact ⟨⟨Tv, ret h⟩, Tv⟩
theorem zep (l : List Bld) (hl : l.length <= 1000000000000) (st : Store) (R : AV -> Store -> Prop) (h : ∀ z : Bool, (z = true ↔ zf9 l) -> R (bool z) st) : ACalls Tryz.prog 86 [lst 6 bldC l] st R := by
 refine ACalls.of_body (c := cfg 22) ze Tryz.func86 (by rfl) (by rfl) (by rfl) (by rfl) ?_
 refine AWp.loop (σ := Nat) ⟨fun i => [(0, .av (lst 6 bldC l)), (3, .av (int (i : Nat)))], fun _ => [],
  fun i st' => 1 <= i /\ (i <= l.length \/ i = 1) /\ st' = st /\ ∀ j, (h : j < l.length) -> j < i -> 0 < j -> (l[j - 1]'(by omega)).id < l[j].id, fun i => l.length - i⟩ ze ?_ ?_
 ·exact ⟨1, Tv, ⟨Nat.le_refl _, .inr rfl, rfl, fun j _ hj => by omega⟩, ⟨Tq, Tq, Tv⟩, Tv⟩
 ·rintro i st' ⟨hi1, hi, rfl, hall⟩
  refine zf (fun h1 => ?_) (fun h1 => ?_)
  ·have hlt : i < l.length := zjc h1
   refine ADraw.of_sched ze (by rfl) (by rfl) zr1 (by rfl) ?_
   refine in64 (by omega) ?_
   refine ⟨i - 1, by omega, za _ (z6 (show i - 1 < l.length by omega)) ?_⟩
   refine ⟨i, rfl, za _ (z6 hlt) ?_⟩
   refine bcd (fun h2 => ret (h _ ?_)) (fun h2 => ?_)
   ·simp only [Bool.false_eq_true, false_iff]
    intro h3
    have := h3 i hlt (by omega)
    omega
   ·refine in64 (by omega) ?_
    refine ⟨i + 1, ?_, ⟨by omega, .inl hlt, rfl, fun j hj h0 h00 => ?_⟩, ⟨Tq, Tq, Tv⟩, Tv⟩
    ·show l.length - (i + 1) < l.length - i
     omega
    ·by_cases hji : j = i
     ·subst hji
      omega
     ·exact hall j hj (by omega) h00
  ·have hge : ¬ i < l.length := by
    rw [zk] at h1
    simpa using h1
   refine ret (h _ ?_)
   simp only [true_iff]
   exact fun j hj h0 => hall j hj (by omega) h0
theorem vn (g : Gnd) (hg : gndP g) (b : Bld) (hb : bldP b /\ onP g b) (st : Store) (R : AV -> Store -> Prop) (h : R (ints (qu g.W b)) st) : ACalls Tryz.prog 49 [.agg (gndC g), .agg (bldC b)] st R := by
 have hb' := hb
 unfold bldP onP at hb'
 have hg1 := hg.1
 have hg2 := hg.2.1
 refine ACalls.of_body (c := cfg 35) ze Tryz.func49 (by rfl) (by rfl) (by rfl) (by rfl) ?_
 refine AWp.loop (σ := Nat × AV) ⟨fun s => [(2, .bx 2 0), (3, .bx 3 0), (4, .av s.2), (8, .av (int b.h)), (9, .av (int (s.1 : Nat)))], fun _ => [(2, gndC g), (3, bldC b)],
  fun s st' => s.1 <= b.h.toNat /\ App 1 st s.2 (rws intC (qk g.W b s.1)) st', fun s => b.h.toNat - s.1⟩ ze ?_ ?_
 ·exact ⟨(0, _), Tv, ⟨Nat.zero_le _, App.start 1 st⟩, ⟨Tq, Tq, Tq, Tq, Tq, Tv⟩, ⟨rfl, rfl, Tv⟩⟩
 rintro ⟨y, v⟩ st' ⟨hy, ha⟩
 dsimp only at hy ha ⊢
 refine bcd (fun h1 => ?_) (fun h1 => ?_)
 rotate_left
 ·have : y = b.h.toNat := by omega
  subst this
  exact ⟨_, st, AV.le_trans ha.le (Tt), ha.has, h⟩
 refine AWp.loop (σ := Nat × AV) ⟨fun s => [(2, .bx 2 0), (3, .bx 3 0), (4, .av s.2), (5, .av (int (y : Nat))), (8, .av (int b.h)), (9, .av (int (y : Nat))), (13, .av (int b.w)), (14, .av (int (s.1 : Nat)))], fun _ => [(2, gndC g), (3, bldC b)],
  fun s st' => s.1 <= b.w.toNat /\ App 1 st s.2 (rws intC (qk g.W b y ++ qh g.W b y s.1)) st', fun s => b.w.toNat - s.1⟩ ze ?_ ?_
 ·refine ⟨(0, v), Tv, ⟨Nat.zero_le _, ?_⟩, ⟨Tq, Tq, Tq, Tq, Tq, Tq, Tq, Tq, Tv⟩, ⟨rfl, rfl, Tv⟩⟩
  dsimp only
  rw [show qh g.W b y 0 = [] from rfl, List.append_nil]
  exact ha
 rintro ⟨x, v2⟩ st2 ⟨hx, ha2⟩
 dsimp only at hx ha2 ⊢
 refine bcd (fun h2 => ?_) (fun h2 => ?_)
 rotate_left
 ·have : x = b.w.toNat := by omega
  subst this
  refine in64 (by omega) ?_
  refine ⟨(y + 1, v2), ?_, ⟨by dsimp only; omega, ?_⟩, ⟨Tq, Tq, Tq, Tq, Tq, Tv⟩, ⟨rfl, rfl, Tv⟩⟩
  ·show b.h.toNat - (y + 1) < b.h.toNat - y
   omega
  ·dsimp only
   rw [jm]
   exact ha2
 obtain ⟨q1, q2, _⟩ := xr hg (x := b.x + x) (y := b.y + y) (by omega) (by omega)
 have hm := ym hg
 have q3 : 0 <= g.W * (b.y + (y : Int)) := Int.mul_nonneg (by omega) (by omega)
 refine in64 (by omega) ?_
 refine in64 (by omega) ?_
 refine in64 (by omega) ?_
 refine in64 (by omega) ?_
 refine ⟨by decide, ?_⟩
 have hlen : (qk g.W b y ++ qh g.W b y x).length <= 16 := by
  rw [List.length_append, ko, zam]
  have : y * b.w.toNat <= 3 * 4 := Nat.mul_le_mul (by omega) (by omega)
  omega
 refine ja (ie := ti3) (rows' := [intC (b.x + (x : Int) + g.W * (b.y + (y : Int)))]) ha2 ?_ ?_ ⟨?_, ?_⟩ (fun v3 st3 ha3 => ?_)
 ·rfl
 ·rfl
 ·simp only [zk, List.length_singleton, ti3]; omega
 ·simp only [zk, List.length_singleton]; omega
 refine in64 (by omega) ?_
 refine ⟨(x + 1, v3), ?_, ⟨by dsimp only; omega, ?_⟩, ⟨Tq, Tq, Tq, Tq, Tq, Tq, Tq, Tq, Tv⟩, ⟨rfl, rfl, Tv⟩⟩
 ·show b.w.toNat - (x + 1) < b.w.toNat - x
  omega
 ·dsimp only
  rw [zdk, <- List.append_assoc]
  unfold rws
  rw [List.map_append]
  exact ha3
theorem CellsOf.fresh {F : Store} {p : Nat} {l : List Ent} (h : CellsOf F p l) {b : Nat} (x : AObj) (hb : Fresh F b) : CellsOf (F.setObj b x) p l := by
 obtain ⟨ma, mi, bs1, c1, G, bs2, c2, ha, hi⟩ := h
 exact ⟨ma, mi, bs1, c1, G, bs2, c2, ha.fresh x hb, hi⟩
theorem zim {st : Store} {b cap : Nat} {ns : List Int} {L : List AV} (ho : st.obj b = some (.cells (ns.map aI ++ L))) (hlen : ns.length < 4611686018427387904) (R : AV -> Store -> Prop)
  (h : R (.tup []) (st.setObj b (.cells ((ns.mergeSort fun x y => decide (x <= y)).map aI ++ L)))) : ACalls Tryz.prog 121 [.s (.slice (some ⟨b, 0, none⟩) ns.length cap)] st R :=
 znw Tryz.lays189 Tryz.func121 rfl rfl ho hlen h
theorem znv {st : Store} (R : AV -> Store -> Prop) (h : R (.tup []) st) : ACalls Tryz.prog 121 [.s (.slice none 0 0)] st R :=
 zdp Tryz.lays189 Tryz.func121 rfl rfl h
def zdn (b3 b4 b5 b6 : Nat) : AV := .clos 118 [ptr b4, ptr b3, ptr b5, ptr b6]
set_option maxHeartbeats 2000000 in
theorem zbp {F : Store} {p : Nat} {l : List Ent} (hc : CellsOf F p l) (hl : l.length <= 1000000000) (hok : ∀ e ∈ l, e.2.ok) {q : Vc} (hq : q.ok) {r : Int} (hr : yu r) (R : AV -> Store -> Prop)
  (h : ∀ F' N v ns, CellsOf F' p l -> Disj F' N -> Ints N v ns -> zet l q r ns -> R v (F'.un N)) : ACalls Tryz.prog 99 [ptr p, .agg (vecC q), int r] F R := by
 refine ACalls.of_awp (c := cfg 126 [3, 4, 5, 6] []) ze Tryz.func99 (by rfl) (by rfl) (by rfl) (by rfl) ?_
 refine AWp.seq (AWp.of_vc ze ?_)
 intro b3 hb3 b4 hb4 b5 hb5 b6 hb6
 have n43 : b4 ≠ b3 := fun e => by have := hb4.1; rw [e, zb] at this; cases this
 have n54 : b5 ≠ b4 := fun e => by have := hb5.1; rw [e, zb] at this; cases this
 have n53 : b5 ≠ b3 := fun e => by have := hb5.1; rw [e, zc (Ne.symm n43), zb] at this; cases this
 have n65 : b6 ≠ b5 := fun e => by have := hb6.1; rw [e, zb] at this; cases this
 have n64 : b6 ≠ b4 := fun e => by have := hb6.1; rw [e, zc (Ne.symm n54), zb] at this; cases this
 have n63 : b6 ≠ b3 := fun e => by have := hb6.1; rw [e, zc (Ne.symm n53), zc (Ne.symm n43), zb] at this; cases this
 have est : (((F.setObj b3 (.cells [ptr p])).setObj b4 (.cells (vecC q))).setObj b5 (.cells [int r])).setObj b6 (.cells [.s (.slice none 0 0)]) =
   F.un ((((Store.empty.setObj b3 (.cells [ptr p])).setObj b4 (.cells (vecC q))).setObj b5 (.cells [int r])).setObj b6 (.cells [.s (.slice none 0 0)])) := by
  rw [<- zu, <- zu, <- zu, <- zu, w7]
 have f3 : Fresh F b3 := hb3
 have f4 : Fresh F b4 := by have := hb4; rw [<- w7 F, zu] at this; exact (ka this).1
 have f5 : Fresh F b5 := by have := hb5; rw [<- w7 F, zu, zu] at this; exact (ka this).1
 have f6 : Fresh F b6 := by have := hb6; rw [<- w7 F, zu, zu, zu] at this; exact (ka this).1
 have hN0 : NearAt ((((Store.empty.setObj b3 (.cells [ptr p])).setObj b4 (.cells (vecC q))).setObj b5 (.cells [int r])).setObj b6 (.cells [.s (.slice none 0 0)])) b3 b4 b5 b6 p q r (.s (.slice none 0 0)) [] := by
  refine ⟨?_, ?_, ?_, zb _ _ _, .inl ⟨rfl, rfl⟩, Ne.symm n63, Ne.symm n64, Ne.symm n65, fun b n cap e => by cases e⟩
  ·rw [zc (Ne.symm n63), zc (Ne.symm n53), zc (Ne.symm n43)]; exact zb _ _ _
  ·rw [zc (Ne.symm n64), zc (Ne.symm n54)]; exact zb _ _ _
  ·rw [zc (Ne.symm n65)]; exact zb _ _ _
 have hd0 : Disj F ((((Store.empty.setObj b3 (.cells [ptr p])).setObj b4 (.cells (vecC q))).setObj b5 (.cells [int r])).setObj b6 (.cells [.s (.slice none 0 0)])) :=
  j1 (j1 (j1 (j1 (zhn F) f3) f4) f5) f6
 show AWp _ _ _ _ _ ((((F.setObj b3 (.cells [ptr p])).setObj b4 (.cells (vecC q))).setObj b5 (.cells [int r])).setObj b6 (.cells [.s (.slice none 0 0)]))
 rw [est]
 generalize ((((Store.empty.setObj b3 (.cells [ptr p])).setObj b4 (.cells (vecC q))).setObj b5 (.cells [int r])).setObj b6 (.cells [.s (.slice none 0 0)])) = N0 at *
 clear est hb3 hb4 hb5 hb6
 refine AWp.seq (AWp.of_vc ze ?_)
 refine za (o := (F.un N0).obj b5) _ (un_r hN0.h5) ?_
 refine bcd (fun c1 => ?_) (fun c1 => ?_)
 ·refine j7 (i := ti42) (v := .s (.slice none 0 0)) (b := b6) (o := 0) (l := [.s (.slice none 0 0)]) rfl rfl rfl (un_r hN0.h6) (Nat.le_refl _) ?_
  refine za (o := Store.obj (Store.setObj _ b6 _) b6) _ (zb _ _ _) ?_
  refine ret ?_
  rw [zu]
  refine h F _ _ [] hc (xc hd0 hN0.h6) (.inl ⟨rfl, rfl⟩) ⟨List.Pairwise.nil, fun id => ⟨(fun h => (by cases h)), fun ⟨e, _, _, hn⟩ => ?_⟩⟩
  unfold near at hn
  have := (of_decide_eq_true hn).1
  omega
 refine AWp.seq (AWp.of_vc ze ?_)
 have hr0 : 0 < r := by omega
 have hr1 : r <= 9223372036854775807 := hr.2
 have sub_q1 := jx q.1 r
 have sub_q2 := jx q.2 r
 have add_q1 := zc0 q.1 r
 have add_q2 := zc0 q.2 r
 refine AWp.meet (σ := Unit) ⟨fun _ => [(3, .av (ptr b3)), (4, .av (ptr b4)), (5, .av (ptr b5)), (6, .av (ptr b6)), (7, .av (zdn b3 b4 b5 b6)), (8, .bx 8 0)], fun _ => [(8, [int (zj (fsub q.1 r, fsub q.2 r)).1, int (zj (fsub q.1 r, fsub q.2 r)).2])],
  fun _ st' => st' = F.un N0⟩ ze ?_ ?_
 ·refine ADraw.of_sched ze (by rfl) (by rfl) zrw (by rfl) ?_
  refine za (o := (F.un N0).obj b4) _ (un_r hN0.h4) ?_
  refine za (o := (F.un N0).obj b5) _ (un_r hN0.h5) ?_
  refine za (o := (F.un N0).obj b4) _ (un_r hN0.h4) ?_
  refine za (o := (F.un N0).obj b5) _ (un_r hN0.h5) ?_
  refine ⟨xz q.1 r hq.1 hr _ _ ⟨(by repeat (first | exact Tv | refine ⟨rfl, ?_⟩ | refine ⟨za (o := (F.un N0).obj b4) _ (un_r hN0.h4) rfl, ?_⟩ | refine ⟨za (o := (F.un N0).obj b5) _ (un_r hN0.h5) rfl, ?_⟩)), ⟨xz q.2 r hq.2 hr _ _ ⟨(by repeat (first | exact Tv | refine ⟨rfl, ?_⟩ | refine ⟨za (o := (F.un N0).obj b4) _ (un_r hN0.h4) rfl, ?_⟩ | refine ⟨za (o := (F.un N0).obj b5) _ (un_r hN0.h5) rfl, ?_⟩)), ⟨xp (fsub q.1 r, fsub q.2 r) ⟨sub_q1, sub_q2⟩ _ _ ⟨(by repeat (first | exact Tv | refine ⟨rfl, ?_⟩ | refine ⟨za (o := (F.un N0).obj b4) _ (un_r hN0.h4) rfl, ?_⟩ | refine ⟨za (o := (F.un N0).obj b5) _ (un_r hN0.h5) rfl, ?_⟩)), ⟨⟨(by repeat (first | exact Tv | refine ⟨rfl, ?_⟩ | refine ⟨za (o := (F.un N0).obj b4) _ (un_r hN0.h4) rfl, ?_⟩ | refine ⟨za (o := (F.un N0).obj b5) _ (un_r hN0.h5) rfl, ?_⟩)), ⟨⟨(by repeat (first | exact Tv | refine ⟨rfl, ?_⟩ | refine ⟨za (o := (F.un N0).obj b4) _ (un_r hN0.h4) rfl, ?_⟩ | refine ⟨za (o := (F.un N0).obj b5) _ (un_r hN0.h5) rfl, ?_⟩)), ?_⟩, Tv⟩⟩, Tv⟩⟩, ⟨⟨(by repeat (first | exact Tv | refine ⟨rfl, ?_⟩ | refine ⟨za (o := (F.un N0).obj b4) _ (un_r hN0.h4) rfl, ?_⟩ | refine ⟨za (o := (F.un N0).obj b5) _ (un_r hN0.h5) rfl, ?_⟩)), ⟨xp (fsub q.1 r, fsub q.2 r) ⟨sub_q1, sub_q2⟩ _ _ ⟨(by repeat (first | exact Tv | refine ⟨rfl, ?_⟩ | refine ⟨za (o := (F.un N0).obj b4) _ (un_r hN0.h4) rfl, ?_⟩ | refine ⟨za (o := (F.un N0).obj b5) _ (un_r hN0.h5) rfl, ?_⟩)), ⟨⟨(by repeat (first | exact Tv | refine ⟨rfl, ?_⟩ | refine ⟨za (o := (F.un N0).obj b4) _ (un_r hN0.h4) rfl, ?_⟩ | refine ⟨za (o := (F.un N0).obj b5) _ (un_r hN0.h5) rfl, ?_⟩)), ?_⟩, Tv⟩⟩, Tv⟩⟩, Tv⟩⟩⟩, ⟨⟨(by repeat (first | exact Tv | refine ⟨rfl, ?_⟩ | refine ⟨za (o := (F.un N0).obj b4) _ (un_r hN0.h4) rfl, ?_⟩ | refine ⟨za (o := (F.un N0).obj b5) _ (un_r hN0.h5) rfl, ?_⟩)), ⟨xz q.2 r hq.2 hr _ _ ⟨(by repeat (first | exact Tv | refine ⟨rfl, ?_⟩ | refine ⟨za (o := (F.un N0).obj b4) _ (un_r hN0.h4) rfl, ?_⟩ | refine ⟨za (o := (F.un N0).obj b5) _ (un_r hN0.h5) rfl, ?_⟩)), ⟨xp (fsub q.1 r, fsub q.2 r) ⟨sub_q1, sub_q2⟩ _ _ ⟨(by repeat (first | exact Tv | refine ⟨rfl, ?_⟩ | refine ⟨za (o := (F.un N0).obj b4) _ (un_r hN0.h4) rfl, ?_⟩ | refine ⟨za (o := (F.un N0).obj b5) _ (un_r hN0.h5) rfl, ?_⟩)), ⟨⟨(by repeat (first | exact Tv | refine ⟨rfl, ?_⟩ | refine ⟨za (o := (F.un N0).obj b4) _ (un_r hN0.h4) rfl, ?_⟩ | refine ⟨za (o := (F.un N0).obj b5) _ (un_r hN0.h5) rfl, ?_⟩)), ?_⟩, Tv⟩⟩, Tv⟩⟩, Tv⟩⟩, Tv⟩⟩⟩, ⟨⟨(by repeat (first | exact Tv | refine ⟨rfl, ?_⟩ | refine ⟨za (o := (F.un N0).obj b4) _ (un_r hN0.h4) rfl, ?_⟩ | refine ⟨za (o := (F.un N0).obj b5) _ (un_r hN0.h5) rfl, ?_⟩)), ⟨xz q.1 r hq.1 hr _ _ ⟨(by repeat (first | exact Tv | refine ⟨rfl, ?_⟩ | refine ⟨za (o := (F.un N0).obj b4) _ (un_r hN0.h4) rfl, ?_⟩ | refine ⟨za (o := (F.un N0).obj b5) _ (un_r hN0.h5) rfl, ?_⟩)), ⟨xz q.2 r hq.2 hr _ _ ⟨(by repeat (first | exact Tv | refine ⟨rfl, ?_⟩ | refine ⟨za (o := (F.un N0).obj b4) _ (un_r hN0.h4) rfl, ?_⟩ | refine ⟨za (o := (F.un N0).obj b5) _ (un_r hN0.h5) rfl, ?_⟩)), ⟨xp (fsub q.1 r, fsub q.2 r) ⟨sub_q1, sub_q2⟩ _ _ ⟨(by repeat (first | exact Tv | refine ⟨rfl, ?_⟩ | refine ⟨za (o := (F.un N0).obj b4) _ (un_r hN0.h4) rfl, ?_⟩ | refine ⟨za (o := (F.un N0).obj b5) _ (un_r hN0.h5) rfl, ?_⟩)), ⟨⟨(by repeat (first | exact Tv | refine ⟨rfl, ?_⟩ | refine ⟨za (o := (F.un N0).obj b4) _ (un_r hN0.h4) rfl, ?_⟩ | refine ⟨za (o := (F.un N0).obj b5) _ (un_r hN0.h5) rfl, ?_⟩)), ?_⟩, Tv⟩⟩, Tv⟩⟩, Tv⟩⟩, Tv⟩⟩, Tv⟩⟩
  all_goals exact ⟨(), rfl, ⟨Tq, Tq, Tq, Tq, Tq, Tq, Tv⟩, ⟨rfl, Tv⟩⟩
 rintro _ _ rfl
 refine AWp.meet (σ := Unit) ⟨fun _ => [(3, .av (ptr b3)), (6, .av (ptr b6)), (7, .av (zdn b3 b4 b5 b6)), (8, .bx 8 0), (9, .bx 9 0)], fun _ => [(8, [int (zj (fsub q.1 r, fsub q.2 r)).1, int (zj (fsub q.1 r, fsub q.2 r)).2]), (9, [int (zj (fadd q.1 r, fadd q.2 r)).1, int (zj (fadd q.1 r, fadd q.2 r)).2])],
  fun _ st' => st' = F.un N0⟩ ze ?_ ?_
 ·refine ADraw.of_sched ze (by rfl) (by rfl) zrv (by rfl) ?_
  refine za (o := (F.un N0).obj b4) _ (un_r hN0.h4) ?_
  refine za (o := (F.un N0).obj b5) _ (un_r hN0.h5) ?_
  refine za (o := (F.un N0).obj b4) _ (un_r hN0.h4) ?_
  refine za (o := (F.un N0).obj b5) _ (un_r hN0.h5) ?_
  refine ⟨kf q.1 r hq.1 hr _ _ ⟨(by repeat (first | exact Tv | refine ⟨rfl, ?_⟩ | refine ⟨za (o := (F.un N0).obj b4) _ (un_r hN0.h4) rfl, ?_⟩ | refine ⟨za (o := (F.un N0).obj b5) _ (un_r hN0.h5) rfl, ?_⟩)), ⟨kf q.2 r hq.2 hr _ _ ⟨(by repeat (first | exact Tv | refine ⟨rfl, ?_⟩ | refine ⟨za (o := (F.un N0).obj b4) _ (un_r hN0.h4) rfl, ?_⟩ | refine ⟨za (o := (F.un N0).obj b5) _ (un_r hN0.h5) rfl, ?_⟩)), ⟨xp (fadd q.1 r, fadd q.2 r) ⟨add_q1, add_q2⟩ _ _ ⟨(by repeat (first | exact Tv | refine ⟨rfl, ?_⟩ | refine ⟨za (o := (F.un N0).obj b4) _ (un_r hN0.h4) rfl, ?_⟩ | refine ⟨za (o := (F.un N0).obj b5) _ (un_r hN0.h5) rfl, ?_⟩)), ⟨⟨(by repeat (first | exact Tv | refine ⟨rfl, ?_⟩ | refine ⟨za (o := (F.un N0).obj b4) _ (un_r hN0.h4) rfl, ?_⟩ | refine ⟨za (o := (F.un N0).obj b5) _ (un_r hN0.h5) rfl, ?_⟩)), ⟨⟨(by repeat (first | exact Tv | refine ⟨rfl, ?_⟩ | refine ⟨za (o := (F.un N0).obj b4) _ (un_r hN0.h4) rfl, ?_⟩ | refine ⟨za (o := (F.un N0).obj b5) _ (un_r hN0.h5) rfl, ?_⟩)), ?_⟩, Tv⟩⟩, Tv⟩⟩, ⟨⟨(by repeat (first | exact Tv | refine ⟨rfl, ?_⟩ | refine ⟨za (o := (F.un N0).obj b4) _ (un_r hN0.h4) rfl, ?_⟩ | refine ⟨za (o := (F.un N0).obj b5) _ (un_r hN0.h5) rfl, ?_⟩)), ⟨xp (fadd q.1 r, fadd q.2 r) ⟨add_q1, add_q2⟩ _ _ ⟨(by repeat (first | exact Tv | refine ⟨rfl, ?_⟩ | refine ⟨za (o := (F.un N0).obj b4) _ (un_r hN0.h4) rfl, ?_⟩ | refine ⟨za (o := (F.un N0).obj b5) _ (un_r hN0.h5) rfl, ?_⟩)), ⟨⟨(by repeat (first | exact Tv | refine ⟨rfl, ?_⟩ | refine ⟨za (o := (F.un N0).obj b4) _ (un_r hN0.h4) rfl, ?_⟩ | refine ⟨za (o := (F.un N0).obj b5) _ (un_r hN0.h5) rfl, ?_⟩)), ?_⟩, Tv⟩⟩, Tv⟩⟩, Tv⟩⟩⟩, ⟨⟨(by repeat (first | exact Tv | refine ⟨rfl, ?_⟩ | refine ⟨za (o := (F.un N0).obj b4) _ (un_r hN0.h4) rfl, ?_⟩ | refine ⟨za (o := (F.un N0).obj b5) _ (un_r hN0.h5) rfl, ?_⟩)), ⟨kf q.2 r hq.2 hr _ _ ⟨(by repeat (first | exact Tv | refine ⟨rfl, ?_⟩ | refine ⟨za (o := (F.un N0).obj b4) _ (un_r hN0.h4) rfl, ?_⟩ | refine ⟨za (o := (F.un N0).obj b5) _ (un_r hN0.h5) rfl, ?_⟩)), ⟨xp (fadd q.1 r, fadd q.2 r) ⟨add_q1, add_q2⟩ _ _ ⟨(by repeat (first | exact Tv | refine ⟨rfl, ?_⟩ | refine ⟨za (o := (F.un N0).obj b4) _ (un_r hN0.h4) rfl, ?_⟩ | refine ⟨za (o := (F.un N0).obj b5) _ (un_r hN0.h5) rfl, ?_⟩)), ⟨⟨(by repeat (first | exact Tv | refine ⟨rfl, ?_⟩ | refine ⟨za (o := (F.un N0).obj b4) _ (un_r hN0.h4) rfl, ?_⟩ | refine ⟨za (o := (F.un N0).obj b5) _ (un_r hN0.h5) rfl, ?_⟩)), ?_⟩, Tv⟩⟩, Tv⟩⟩, Tv⟩⟩, Tv⟩⟩⟩, ⟨⟨(by repeat (first | exact Tv | refine ⟨rfl, ?_⟩ | refine ⟨za (o := (F.un N0).obj b4) _ (un_r hN0.h4) rfl, ?_⟩ | refine ⟨za (o := (F.un N0).obj b5) _ (un_r hN0.h5) rfl, ?_⟩)), ⟨kf q.1 r hq.1 hr _ _ ⟨(by repeat (first | exact Tv | refine ⟨rfl, ?_⟩ | refine ⟨za (o := (F.un N0).obj b4) _ (un_r hN0.h4) rfl, ?_⟩ | refine ⟨za (o := (F.un N0).obj b5) _ (un_r hN0.h5) rfl, ?_⟩)), ⟨kf q.2 r hq.2 hr _ _ ⟨(by repeat (first | exact Tv | refine ⟨rfl, ?_⟩ | refine ⟨za (o := (F.un N0).obj b4) _ (un_r hN0.h4) rfl, ?_⟩ | refine ⟨za (o := (F.un N0).obj b5) _ (un_r hN0.h5) rfl, ?_⟩)), ⟨xp (fadd q.1 r, fadd q.2 r) ⟨add_q1, add_q2⟩ _ _ ⟨(by repeat (first | exact Tv | refine ⟨rfl, ?_⟩ | refine ⟨za (o := (F.un N0).obj b4) _ (un_r hN0.h4) rfl, ?_⟩ | refine ⟨za (o := (F.un N0).obj b5) _ (un_r hN0.h5) rfl, ?_⟩)), ⟨⟨(by repeat (first | exact Tv | refine ⟨rfl, ?_⟩ | refine ⟨za (o := (F.un N0).obj b4) _ (un_r hN0.h4) rfl, ?_⟩ | refine ⟨za (o := (F.un N0).obj b5) _ (un_r hN0.h5) rfl, ?_⟩)), ?_⟩, Tv⟩⟩, Tv⟩⟩, Tv⟩⟩, Tv⟩⟩, Tv⟩⟩
  all_goals exact ⟨(), rfl, ⟨Tq, Tq, Tq, Tq, Tq, Tv⟩, ⟨rfl, rfl, Tv⟩⟩
 rintro _ _ rfl
 have hab := zsh hq hr0 hr1
 have hA := zkd (p := (fsub q.1 r, fsub q.2 r)) ⟨jx _ _, jx _ _⟩
 have hB := zkd (p := (fadd q.1 r, fadd q.2 r)) ⟨zc0 _ _, zc0 _ _⟩
 have hrect : ∀ e ∈ l, near q e.2 r = true -> _ := fun e he hn => zi8 hq (hok e he) hr0 hr1 hn
 generalize zj (fsub q.1 r, fsub q.2 r) = A0 at *
 generalize zj (fadd q.1 r, fadd q.2 r) = B0 at *
 obtain ⟨ax, ay⟩ := A0
 obtain ⟨bx, by'⟩ := B0
 dsimp only at hab hA hB hrect ⊢
 refine AWp.meetA (σ := Store × Store × AV × List Int) ⟨fun _ => [(6, .av (ptr b6))], fun _ => [], fun s st' => st' = s.1.un s.2.1 /\ Disj s.1 s.2.1 /\ CellsOf s.1 p l /\ NearAt s.2.1 b3 b4 b5 b6 p q r s.2.2.1 s.2.2.2 /\ NearIn l q r (fun _ => True) s.2.2.2⟩ ?_ ?_
 ·obtain ⟨ma, mi, bs1, cl1, G, bs2, cl2, ha, hi⟩ := hc
  have hgl : (G.map entG).length <= l.length := by rw [List.length_map]; exact zhc hi
  have slots : ∀ b : Bool, LV.le (.av (bool b)) (.av (bool b)) := fun b => Tq
  refine AWp.seq (AWp.of_vc ze ?_)
  refine za (o := (F.un N0).obj b3) _ (un_r hN0.h3) ?_
  refine za (o := (F.un N0).obj p) _ (un_l hd0 ha.hp) ?_
  refine za (o := (F.un N0).obj mi) _ (un_l hd0 ha.hi) ?_
  refine ⟨⟨by omega, by omega⟩, ?_⟩
  refine AWp.meet (σ := Bool) ⟨fun b => [(3, .av (ptr b3)), (6, .av (ptr b6)), (7, .av (zdn b3 b4 b5 b6)), (8, .bx 8 0), (9, .bx 9 0), (77, .av (bool b))], fun _ => [(8, [int ax, int ay]), (9, [int bx, int by'])],
   fun b st' => st' = F.un N0⟩ ze ?_ ?_
  ·refine ⟨⟨by omega, by omega⟩, ?_⟩
   refine bcd (fun d1 => ?_) (fun d1 => ?_)
   ·exact ⟨true, rfl, ⟨Tq, Tq, Tq, Tq, Tq, Tq, Tv⟩, ⟨rfl, rfl, Tv⟩⟩
   refine ⟨⟨by omega, by omega⟩, ?_⟩
   refine bcd (fun d2 => ?_) (fun d2 => ?_)
   ·exact ⟨true, rfl, ⟨Tq, Tq, Tq, Tq, Tq, Tq, Tv⟩, ⟨rfl, rfl, Tv⟩⟩
   have m1 : (bx - ax + 1) * (by' - ay + 1) <= 1000000002 * 1000000002 := Int.mul_le_mul (by omega) (by omega) (by omega) (by decide)
   have m0 : 0 <= (bx - ax + 1) * (by' - ay + 1) := Int.mul_nonneg (by omega) (by omega)
   refine ⟨⟨by omega, by omega⟩, ?_⟩
   refine ⟨⟨by omega, by omega⟩, ?_⟩
   refine ⟨⟨by omega, by omega⟩, ?_⟩
   refine ⟨⟨by omega, by omega⟩, ?_⟩
   refine ⟨⟨by omega, by omega⟩, ?_⟩
   exact ⟨_, rfl, ⟨Tq, Tq, Tq, Tq, Tq, Tq, Tv⟩, ⟨rfl, rfl, Tv⟩⟩
  rintro b _ rfl
  refine AWp.of_vc ze ?_
  cases b with
  | true =>
   refine za (o := (F.un N0).obj b3) _ (un_r hN0.h3) ?_
   refine za (o := (F.un N0).obj p) _ (un_l hd0 ha.hp) ?_
   refine zf4 (un_l hd0 ha.ha) (fun hst => ?_)
   refine zh4 rfl (it := ti125) rfl rfl (un_l hd0 ha.ha) (fun bi hbi => ?_)
   have fbi := ka hbi
   have nbi : ¬ N0.has bi := fresh_iff.1 fbi.2
   rw [zbs nbi]
   refine AWp.loop (σ := List Nat × Store × AV × List Int) ⟨fun _ => [(6, .av (ptr b6)), (7, .av (zdn b3 b4 b5 b6)), (82, .av (ptr bi))], fun _ => [],
    fun s st' => st' = (F.setObj bi (.iter ma cl1 s.1 cl1)).un s.2.1 /\ Disj (F.setObj bi (.iter ma cl1 s.1 cl1)) s.2.1 /\ NearAt s.2.1 b3 b4 b5 b6 p q r s.2.2.1 s.2.2.2 /\ s.1.Nodup /\ (∀ t ∈ s.1, t ∈ bs1) ∧
     NearIn l q r (fun e => ∃ (i t : Nat), l[i]? = some e /\ bs1[i]? = some t /\ t ∈ s.1) s.2.2.2, fun s => bs1.length - s.1.length⟩ ze ?_ ?_
   ·exact ⟨([], N0, _, []), Tv, ⟨rfl, zj8 hd0 nbi, hN0, List.nodup_nil, (fun t ht => (by cases ht)), List.nodup_nil, fun id => ⟨(fun h => (by cases h)), fun ⟨e, _, _, _, i, t, _, _, h⟩ => (by cases h)⟩⟩, ⟨Tq, Tq, Tq, Tv⟩, Tv⟩
   rintro ⟨seen, N, v, acc⟩ st' ⟨rfl, hd, hN, hs1, hs2, hacc⟩
   dsimp only at hd hN hs1 hs2 hacc ⊢
   have hF1 : CellsAt (F.setObj bi (.iter ma cl1 seen cl1)) p ma mi l bs1 cl1 G bs2 cl2 := ha.fresh _ fbi.1
   refine zko rfl (un_l hd (zb _ _ _)) (un_l hd hF1.ha) (fun hall => ?_) (fun i e t he ht hnt => ?_)
   ·refine ⟨(F.setObj bi (.iter ma cl1 seen cl1), N, v, acc), ⟨rfl, hd, ⟨ma, mi, _, _, _, _, _, hF1, hi⟩, hN, ?_⟩, ⟨Tq, Tv⟩, Tv⟩
    refine hacc.congr fun e he _ => ⟨fun _ => trivial, fun _ => ?_⟩
    obtain ⟨i, hi'⟩ := List.mem_iff_getElem?.1 he
    have hlt : i < bs1.length := by
     have h1 := hst.len
     have h2 := (List.getElem?_eq_some_iff.1 hi').1
     rw [List.length_map] at h1
     omega
    exact ⟨i, bs1[i], hi', List.getElem?_eq_getElem hlt, hall _ (List.getElem_mem hlt)⟩
   ·obtain ⟨e0, he0, rfl⟩ : ∃ e0, l[i]? = some e0 /\ entA e0 = e := by
     rw [List.getElem?_map] at he
     cases hx : l[i]? with
     | none => rw [hx] at he; cases he
     | some e0 => rw [hx] at he; simp at he; exact ⟨e0, rfl, he⟩
    have hem := List.mem_of_getElem? he0
    obtain ⟨hd', nb⟩ := zhm (y := .iter ma cl1 (seen ++ [t]) cl1) hd
    have hF2 : CellsAt (F.setObj bi (.iter ma cl1 (seen ++ [t]) cl1)) p ma mi l bs1 cl1 G bs2 cl2 := ha.fresh _ fbi.1
    rw [zbs nb, zi]
    refine zh5 rfl (un_l hd' (zb _ _ _)) (un_l hd' hF2.ha) he ht ?_
    refine zdm hd' ⟨ma, mi, _, _, _, _, _, hF2, hi⟩ hN hq hr1 (zec hi.n1 hem) (hok _ hem) (by have := hacc.len; omega) _ (fun N' v' hdd hN' => ?_)
    refine ⟨(seen ++ [t], N', v', _), ?_, ⟨rfl, hdd, hN', ?_, ?_, ?_⟩, ⟨Tq, Tq, Tq, Tv⟩, Tv⟩
    ·have h1 : (seen ++ [t]).Nodup := by
      rw [List.nodup_append]
      exact ⟨hs1, by simp, fun a ha b hb => by simp at hb; subst hb; exact fun e => hnt (e ▸ ha)⟩
     have h2 := List.Nodup.length_le_of_subset (l₂ := bs1) h1 (fun x hx => by
      rcases List.mem_append.1 hx with hx | hx
      ·exact hs2 x hx
      ·simp at hx; subst hx; exact List.mem_of_getElem? ht)
     rw [List.length_append] at h2
     show bs1.length - (seen ++ [t]).length < bs1.length - seen.length
     rw [List.length_append]
     simp at h2 ⊢
     omega
    ·show (seen ++ [t]).Nodup
     rw [List.nodup_append]
     exact ⟨hs1, by simp, fun a ha b hb => by simp at hb; subst hb; exact fun e => hnt (e ▸ ha)⟩
    ·intro x hx
     rcases List.mem_append.1 hx with hx | hx
     ·exact hs2 x hx
     ·simp at hx; subst hx; exact List.mem_of_getElem? ht
    ·refine (hacc.step hi.n1 hem (fun hh => ?_)).congr fun e' he' _ => ⟨fun hh => ?_, fun hh => ?_⟩
     ·obtain ⟨i', t', h1, h2, h3⟩ := hh
      have := yp (f := fun e : Ent => e.1) hi.n1 h1 he0 rfl
      subst this
      rw [ht] at h2
      cases h2
      exact hnt h3
     ·rcases hh with ⟨i', t', h1, h2, h3⟩ | rfl
      ·exact ⟨i', t', h1, h2, List.mem_append_left _ h3⟩
      ·exact ⟨i, t, he0, ht, by simp⟩
     ·obtain ⟨i', t', h1, h2, h3⟩ := hh
      rcases List.mem_append.1 h3 with h3 | h3
      ·exact .inl ⟨i', t', h1, h2, h3⟩
      ·simp at h3
       subst h3
       right
       have hinc := hst.inc
       have : i' = i := by
        have hn : (bs1.map id).Nodup := by
         rw [List.map_id]
         exact hinc.imp fun h e => by omega
        exact yp (f := id) hn h2 ht rfl
       subst this
       rw [he0] at h1
       cases h1; rfl
  | false =>
   refine AWp.loop (σ := Int × Store × AV × List Int) ⟨fun s => [(3, .av (ptr b3)), (6, .av (ptr b6)), (7, .av (zdn b3 b4 b5 b6)), (8, .bx 8 0), (9, .bx 9 0), (12, .av (int s.1))], fun _ => [(8, [int ax, int ay]), (9, [int bx, int by'])],
    fun s st' => st' = F.un s.2.1 /\ Disj F s.2.1 /\ NearAt s.2.1 b3 b4 b5 b6 p q r s.2.2.1 s.2.2.2 /\ (ax <= s.1 /\ s.1 <= bx + 1) /\ NearIn l q r (fun e => (zj e.2).1 < s.1) s.2.2.2, fun s => (bx + 1 - s.1).toNat⟩ ze ?_ ?_
   ·refine ⟨(ax, N0, _, []), Tv, ⟨rfl, hd0, hN0, ⟨Int.le_refl _, by omega⟩, List.nodup_nil, fun id => ⟨(fun h => (by cases h)), fun ⟨e, he, _, hn, h⟩ => ?_⟩⟩, ⟨Tq, Tq, Tq, Tq, Tq, Tq, Tv⟩, ⟨rfl, rfl, Tv⟩⟩
    have := hrect e he hn
    dsimp only at h
    omega
   rintro ⟨x, N, v, acc⟩ st' ⟨rfl, hd, hN, hx, hacc⟩
   dsimp only at hd hN hx hacc ⊢
   refine bcd (fun x1 => ?_) (fun x1 => ?_)
   rotate_left
   ·refine ⟨(F, N, v, acc), ⟨rfl, hd, ⟨ma, mi, _, _, _, _, _, ha, hi⟩, hN, ?_⟩, ⟨Tq, Tv⟩, Tv⟩
    refine hacc.congr fun e he hn => ⟨fun _ => trivial, fun _ => ?_⟩
    have := hrect e he hn
    omega
   refine AWp.loop (σ := Int × Store × AV × List Int) ⟨fun s => [(3, .av (ptr b3)), (6, .av (ptr b6)), (7, .av (zdn b3 b4 b5 b6)), (8, .bx 8 0), (9, .bx 9 0), (12, .av (int x)), (13, .av (int s.1))], fun _ => [(8, [int ax, int ay]), (9, [int bx, int by'])],
    fun s st' => st' = F.un s.2.1 /\ Disj F s.2.1 /\ NearAt s.2.1 b3 b4 b5 b6 p q r s.2.2.1 s.2.2.2 /\ (ay <= s.1 /\ s.1 <= by' + 1) /\ NearIn l q r (fun e => (zj e.2).1 < x \/ ((zj e.2).1 = x /\ (zj e.2).2 < s.1)) s.2.2.2, fun s => (by' + 1 - s.1).toNat⟩ ze ?_ ?_
   ·refine ⟨(ay, N, v, acc), Tv, ⟨rfl, hd, hN, ⟨Int.le_refl _, by omega⟩, hacc.congr fun e he hn => ⟨.inl, fun h => h.elim id fun h => ?_⟩⟩, ⟨Tq, Tq, Tq, Tq, Tq, Tq, Tq, Tv⟩, ⟨rfl, rfl, Tv⟩⟩
    have := hrect e he hn
    dsimp only at h
    omega
   clear hN hacc hd
   rintro ⟨y, N, v, acc⟩ st' ⟨rfl, hd, hN, hy, hacc⟩
   dsimp only at hd hN hy hacc ⊢
   refine bcd (fun y1 => ?_) (fun y1 => ?_)
   rotate_left
   ·refine ⟨⟨by omega, by omega⟩, ?_⟩
    refine ⟨(x + 1, N, v, acc), ?_, ⟨rfl, hd, hN, by dsimp only; omega, hacc.congr fun e he hn => ?_⟩, ⟨Tq, Tq, Tq, Tq, Tq, Tq, Tv⟩, ⟨rfl, rfl, Tv⟩⟩
    ·show (bx + 1 - (x + 1)).toNat < (bx + 1 - x).toNat
     omega
    ·have := hrect e he hn
     dsimp only
     omega
   refine za (o := (F.un N).obj b3) _ (un_r hN.h3) ?_
   refine za (o := (F.un N).obj p) _ (un_l hd ha.hp) ?_
   refine ye rfl (it := ti126) (ie := ti42) (ik := ti130) rfl rfl rfl rfl (un_l hd ha.hi) rfl (qG x y) (fun e he => ?_) ?_
   ·obtain ⟨e, _, rfl⟩ := List.mem_map.1 he
    rfl
   rw [zj1 G (x, y), show jh ti42 = .s (.slice none 0 0) from rfl]
   cases hf : G.find? (zba (x, y)) with
   | none =>
    refine AWp.loop (σ := Unit) ⟨fun _ => [(3, .av (ptr b3)), (6, .av (ptr b6)), (7, .av (zdn b3 b4 b5 b6)), (8, .bx 8 0), (9, .bx 9 0), (12, .av (int x)), (13, .av (int y)), (114, .av (int 0)), (115, .av (int 0))], fun _ => [(8, [int ax, int ay]), (9, [int bx, int by'])],
     fun _ st' => st' = F.un N, fun _ => 0⟩ ze ?_ ?_
    ·exact ⟨(), Tv, rfl, ⟨Tq, Tq, Tq, Tq, Tq, Tq, Tq, Tq, Tq, Tv⟩, ⟨rfl, rfl, Tv⟩⟩
    rintro _ st' rfl
    ·refine ⟨⟨by omega, by omega⟩, ?_⟩
     refine ⟨(y + 1, N, v, acc), ?_, ⟨rfl, hd, hN, by dsimp only; omega, hacc.congr fun e he hn => ?_⟩, ⟨Tq, Tq, Tq, Tq, Tq, Tq, Tq, Tv⟩, ⟨rfl, rfl, Tv⟩⟩
     ·show (by' + 1 - (y + 1)).toNat < (by' + 1 - y).toNat
      omega
     ·have hne : zj e.2 ≠ (x, y) := fun hk => by
       obtain ⟨g, hg, hgk⟩ := hi.m2 e he
       exact List.find?_eq_none.1 hf g hg (atKey_iff.2 (by rw [hgk, hk]))
      have : ¬ ((zj e.2).1 = x /\ (zj e.2).2 = y) := fun ⟨h1, h2⟩ => hne (Prod.ext h1 h2)
      dsimp only
      omega
   | some g =>
    obtain ⟨hg, hgk⟩ := vg hf
    have hgk := atKey_iff.1 hgk
    obtain ⟨k1, k2, k3⟩ := ha.hg g hg
    have gs := (hi.s g hg).1
    have gl := zft hi g hg
    refine AWp.loop (σ := Nat × Store × AV × List Int) ⟨fun s => [(3, .av (ptr b3)), (6, .av (ptr b6)), (7, .av (zdn b3 b4 b5 b6)), (8, .bx 8 0), (9, .bx 9 0), (12, .av (int x)), (13, .av (int y)), (113, .av (.s (.slice (some ⟨g.b, 0, none⟩) g.ns.length g.cap))), (114, .av (int g.ns.length)), (115, .av (int (s.1 : Nat)))],
     fun _ => [(8, [int ax, int ay]), (9, [int bx, int by'])],
     fun s st' => st' = F.un s.2.1 /\ Disj F s.2.1 /\ NearAt s.2.1 b3 b4 b5 b6 p q r s.2.2.1 s.2.2.2 /\ s.1 <= g.ns.length /\ NearIn l q r (fun e => ((zj e.2).1 < x \/ ((zj e.2).1 = x /\ (zj e.2).2 < y)) \/ (zj e.2 = (x, y) /\ e.1 ∈ g.ns.take s.1)) s.2.2.2, fun s => g.ns.length - s.1⟩ ze ?_ ?_
    ·exact ⟨(0, N, v, acc), Tv, ⟨rfl, hd, hN, Nat.zero_le _, hacc.congr fun e he hn => ⟨.inl, fun h => h.elim id fun h => (by cases h.2)⟩⟩, ⟨Tq, Tq, Tq, Tq, Tq, Tq, Tq, Tq, Tq, Tq, Tv⟩, ⟨rfl, rfl, Tv⟩⟩
    clear hN hacc hd
    rintro ⟨idx, N, v, acc⟩ st' ⟨rfl, hd, hN, hidx, hacc⟩
    dsimp only at hd hN hidx hacc ⊢
    refine bcd (fun z1 => ?_) (fun z1 => ?_)
    rotate_left
    ·have hie : idx = g.ns.length := by omega
     subst hie
     refine ⟨⟨by omega, by omega⟩, ?_⟩
     refine ⟨(y + 1, N, v, acc), ?_, ⟨rfl, hd, hN, by dsimp only; omega, hacc.congr fun e he hn => ?_⟩, ⟨Tq, Tq, Tq, Tq, Tq, Tq, Tq, Tv⟩, ⟨rfl, rfl, Tv⟩⟩
     ·show (by' + 1 - (y + 1)).toNat < (by' + 1 - y).toNat
      omega
     ·rw [List.take_length]
      have h1 : zj e.2 = (x, y) ↔ ((zj e.2).1 = x /\ (zj e.2).2 = y) := ⟨fun h => by rw [h]; exact ⟨rfl, rfl⟩, fun ⟨h1, h2⟩ => Prod.ext h1 h2⟩
      have h2 : zj e.2 = (x, y) -> e.1 ∈ g.ns := fun h => (hi.m1 g hg e.1).2 ⟨e, he, rfl, by rw [h, hgk]⟩
      dsimp only
      constructor
      ·rintro (h | ⟨h, _⟩)
       ·omega
       ·have := h1.1 h; omega
      ·intro h
       by_cases h3 : zj e.2 = (x, y)
       ·exact .inr ⟨h3, h2 h3⟩
       ·have h4 : ¬ ((zj e.2).1 = x /\ (zj e.2).2 = y) := fun hh => h3 (h1.2 hh)
        left
        omega
    have hlt : idx < g.ns.length := by omega
    have hidm : g.ns[idx] ∈ g.ns := List.getElem_mem hlt
    obtain ⟨e, hem, heid, hek⟩ := (hi.m1 g hg g.ns[idx]).1 hidm
    refine ⟨idx, rfl, hlt, ?_⟩
    refine za (o := (F.un N).obj g.b) _ (un_l hd k1) ?_
    refine za (o := List.head? _) (int e.1) (by
     rw [List.head?_drop, show 0 + idx * ti3.size = idx from by show 0 + idx * 1 = idx; omega, List.getElem?_append_left (by simpa using hlt), List.getElem?_map, List.getElem?_eq_getElem hlt, heid]; rfl) ?_
    refine zdm hd ⟨ma, mi, _, _, _, _, _, ha, hi⟩ hN hq hr1 (zec hi.n1 hem) (hok _ hem) (by have := hacc.len; omega) _ (fun N' v' hdd hN' => ?_)
    refine ⟨⟨by omega, by omega⟩, ?_⟩
    refine ⟨(idx + 1, N', v', _), ?_, ⟨rfl, hdd, hN', hlt, ?_⟩, ⟨Tq, Tq, Tq, Tq, Tq, Tq, Tq, Tq, Tq, Tq, Tv⟩, ⟨rfl, rfl, Tv⟩⟩
    ·show g.ns.length - (idx + 1) < g.ns.length - idx
     omega
    ·have hkey : zj e.2 = (x, y) := by rw [hek, hgk]
     have hnot : e.1 ∉ g.ns.take idx := by
      rw [heid]
      intro hh
      obtain ⟨j, hj⟩ := List.mem_iff_getElem?.1 hh
      have hjlt : j < idx := by
       have := (List.getElem?_eq_some_iff.1 hj).1
       simp at this; omega
      rw [List.getElem?_take_of_lt hjlt] at hj
      have h5 := List.pairwise_iff_getElem.1 gs j idx (by omega) hlt hjlt
      rw [List.getElem?_eq_getElem (by omega)] at hj
      have hj' := Option.some.inj hj
      rw [hj'] at h5
      exact absurd h5 (Int.lt_irrefl _)
     refine (hacc.step hi.n1 hem (fun hh => ?_)).congr fun e' he' _ => ?_
     ·rcases hh with hh | ⟨_, hh⟩
      ·rw [hkey] at hh; dsimp only at hh; omega
      ·exact hnot hh
     ·dsimp only
      rw [List.take_succ_eq_append_getElem hlt, List.mem_append]
      constructor
      ·rintro ((h | ⟨h, h'⟩) | rfl)
       ·exact .inl h
       ·exact .inr ⟨h, .inl h'⟩
       ·exact .inr ⟨hkey, .inr (by simp [heid])⟩
      ·rintro (h | ⟨h, h' | h'⟩)
       ·exact .inl (.inl h)
       ·exact .inl (.inr ⟨h, h'⟩)
       ·right
        have : e'.1 = e.1 := by rw [heid]; simpa using h'
        exact zjm hi.n1 hem he' this
 ·rintro ⟨F', N, v, acc⟩ st' ⟨rfl, hd, hc', hN, hacc⟩
  dsimp only at hd hc' hN hacc ⊢
  refine AWp.of_vc ze ?_
  refine za (o := (F'.un N).obj b6) _ (un_r hN.h6) ?_
  have hms := zdw hacc.1
  have hnear : zet l q r (acc.mergeSort fun x y => decide (x <= y)) := ⟨hms.1, fun id => by
   rw [hms.2, hacc.2 id]
   constructor
   ·rintro ⟨e, h1, h2, h3, _⟩; exact ⟨e, h1, h2, h3⟩
   ·rintro ⟨e, h1, h2, h3⟩; exact ⟨e, h1, h2, h3, Tv⟩⟩
  have hal := hacc.len
  have hml : (acc.mergeSort fun x y => decide (x <= y)).length = acc.length := List.length_mergeSort acc
  rcases x6 hN.hv with ⟨rfl, rfl⟩ | ⟨b, cap, L, rfl, ho, h1, h2, h3⟩
  ·refine znv _ ?_
   refine za (o := (F'.un N).obj b6) _ (un_r hN.h6) ?_
   refine j7 (i := ti42) (v := .s (.slice none 0 0)) (b := b6) (o := 0) (l := [.s (.slice none 0 0)]) rfl rfl rfl (un_r hN.h6) (Nat.le_refl _) ?_
   refine za (o := Store.obj (Store.setObj _ b6 _) b6) _ (zb _ _ _) ?_
   refine ret ?_
   rw [zu]
   exact h F' _ _ _ hc' (xc hd hN.h6) (.inl ⟨rfl, by simp⟩) hnear
  ·refine zim (un_r ho) (by omega) _ ?_
   have hb6 : b6 ≠ b := Ne.symm (hN.nv b _ _ rfl).2.2.2
   have h6 : ((F'.un N).setObj b (.cells ((acc.mergeSort fun x y => decide (x <= y)).map aI ++ L))).obj b6 = some (.cells [.s (.slice (some ⟨b, 0, none⟩) acc.length cap)]) := by rw [zc hb6]; exact un_r hN.h6
   refine za (o := Store.obj (Store.setObj _ b _) b6) _ h6 ?_
   refine j7 (i := ti42) (v := .s (.slice (some ⟨b, 0, none⟩) acc.length cap)) (b := b6) (o := 0) (l := [.s (.slice (some ⟨b, 0, none⟩) acc.length cap)]) rfl rfl rfl h6 (Nat.le_refl _) ?_
   refine za (o := Store.obj (Store.setObj _ b6 _) b6) _ (zb _ _ _) ?_
   refine ret ?_
   rw [zu, zu]
   refine h F' _ _ _ hc' (xc (xc hd ho) (by rw [zc hb6]; exact hN.h6)) (.inr ⟨b, cap, L, ?_, ?_, ?_, ?_, h3⟩) hnear
   ·rw [hml]; rfl
   ·rw [zc (Ne.symm hb6)]; exact zb _ _ _
   ·omega
   ·omega
theorem zcw (l : List Int) (hl : l.length <= 1000000000000) (fn : FuncId) (cap : List AV) (q : Int -> Bool) (st : Store) (hf : ∀ x ∈ l, ∀ R : AV -> Store -> Prop, R (bool (q x)) st -> ACalls Tryz.prog fn ([int x] ++ cap) st R)
  (R : AV -> Store -> Prop) (h : R (int (idxI (l.findIdx? q))) st) : ACalls Tryz.prog 129 [lst 1 intC l, .clos fn cap] st R := by
 refine ACalls.of_body (c := cfg 19) ze Tryz.func129 (by rfl) (by rfl) (by rfl) (by rfl) ?_
 refine AWp.loop (σ := Nat) ⟨fun i => [(0, .av (lst 1 intC l)), (1, .av (.clos fn cap)), (7, .av (int (l.length : Nat))), (8, .av (int (i : Nat)))], fun _ => [],
  fun i st' => i <= l.length /\ st' = st /\ ∀ j, (hj : j < l.length) -> j < i -> q l[j] = false, fun i => l.length - i⟩ ze ?_ ?_
 ·refine ⟨0, Tv, ⟨Nat.zero_le _, rfl, fun j _ hj => by omega⟩, ⟨Tq, Tq, ?_, Tq, Tv⟩, Tv⟩
  rw [<- zk (f := intC) l]
  exact Tq
 rintro i st' ⟨hi, rfl, hall⟩
 refine bcd (fun h1 => ?_) (fun h1 => ?_)
 rotate_left
 ·have e : l.findIdx? q = none := by
   rw [List.findIdx?_eq_none_iff]
   intro x hx
   obtain ⟨j, hj, rfl⟩ := List.getElem_of_mem hx
   exact hall j hj (by omega)
  rw [e] at h
  exact ret h
 have hlt : i < l.length := by omega
 refine ⟨i, rfl, za _ (z6 hlt) ?_⟩
 refine hf l[i] (List.getElem_mem hlt) _ ?_
 refine zf (fun h2 => ?_) (fun h2 => ?_)
 ·have e : l.findIdx? q = some i := by
   rw [List.findIdx?_eq_some_iff_getElem]
   exact ⟨hlt, h2, fun j hj => by rw [hall j (by omega) hj]; decide⟩
  rw [e] at h
  exact ret h
 ·refine in64 (by omega) ?_
  refine ⟨i + 1, ?_, ⟨by omega, rfl, fun j hj hj2 => ?_⟩, ⟨Tq, Tq, Tq, Tq, Tv⟩, Tv⟩
  ·show l.length - (i + 1) < l.length - i
   omega
  ·by_cases e : j = i
   ·subst e; exact h2
   ·exact hall j hj (by omega)
theorem ww (l : List Int) (hl : l.length <= 1000000000000) (fn : FuncId) (cap : List AV) (q : Int -> Bool) (st : Store) (hf : ∀ x ∈ l, ∀ R : AV -> Store -> Prop, R (bool (q x)) st -> ACalls Tryz.prog fn ([int x] ++ cap) st R)
  (R : AV -> Store -> Prop) (h : R (bool (l.any q)) st) : ACalls Tryz.prog 108 [lst 1 intC l, .clos fn cap] st R := by
 refine ACalls.of_body (c := cfg 9) ze Tryz.func108 (by rfl) (by rfl) (by rfl) (by rfl) ?_
 refine zcw l hl fn cap q st hf _ ?_
 have e : decide ((0 : Int) <= idxI (l.findIdx? q)) = l.any q := by
  cases hx : l.findIdx? q with
  | none =>
   rw [List.findIdx?_eq_none_iff] at hx
   rw [show decide ((0 : Int) <= idxI none) = false from by decide]
   symm
   rw [List.any_eq_false]
   intro x hm
   rw [hx x hm]; decide
  | some i =>
   rw [List.findIdx?_eq_some_iff_getElem] at hx
   obtain ⟨hi, h1, _⟩ := hx
   rw [show decide ((0 : Int) <= idxI (some i)) = true from by simp [idxI]]
   symm
   rw [List.any_eq_true]
   exact ⟨l[i], List.getElem_mem hi, h1⟩
 rw [<- e] at h
 exact ret h
theorem zda (l : List Bld) (hl : l.length <= 1000000000000) (fn : FuncId) (cap : List AV) (q : Bld -> Bool) (st : Store) (hf : ∀ x ∈ l, ∀ R : AV -> Store -> Prop, R (bool (q x)) st -> ACalls Tryz.prog fn ([.agg (bldC x)] ++ cap) st R)
  (R : AV -> Store -> Prop) (h : R (int (idxI (l.findIdx? q))) st) : ACalls Tryz.prog 90 [lst 6 bldC l, .clos fn cap] st R := by
 refine ACalls.of_body (c := cfg 19) ze Tryz.func90 (by rfl) (by rfl) (by rfl) (by rfl) ?_
 refine AWp.loop (σ := Nat) ⟨fun i => [(0, .av (lst 6 bldC l)), (1, .av (.clos fn cap)), (7, .av (int (l.length : Nat))), (8, .av (int (i : Nat)))], fun _ => [],
  fun i st' => i <= l.length /\ st' = st /\ ∀ j, (hj : j < l.length) -> j < i -> q l[j] = false, fun i => l.length - i⟩ ze ?_ ?_
 ·refine ⟨0, Tv, ⟨Nat.zero_le _, rfl, fun j _ hj => by omega⟩, ⟨Tq, Tq, ?_, Tq, Tv⟩, Tv⟩
  rw [<- zk (f := bldC) l]
  exact Tq
 rintro i st' ⟨hi, rfl, hall⟩
 refine bcd (fun h1 => ?_) (fun h1 => ?_)
 rotate_left
 ·have e : l.findIdx? q = none := by
   rw [List.findIdx?_eq_none_iff]
   intro x hx
   obtain ⟨j, hj, rfl⟩ := List.getElem_of_mem hx
   exact hall j hj (by omega)
  rw [e] at h
  exact ret h
 have hlt : i < l.length := by omega
 refine ⟨i, rfl, za _ (z6 hlt) ?_⟩
 refine hf l[i] (List.getElem_mem hlt) _ ?_
 refine zf (fun h2 => ?_) (fun h2 => ?_)
 ·have e : l.findIdx? q = some i := by
   rw [List.findIdx?_eq_some_iff_getElem]
   exact ⟨hlt, h2, fun j hj => by rw [hall j (by omega) hj]; decide⟩
  rw [e] at h
  exact ret h
 ·refine in64 (by omega) ?_
  refine ⟨i + 1, ?_, ⟨by omega, rfl, fun j hj hj2 => ?_⟩, ⟨Tq, Tq, Tq, Tq, Tv⟩, Tv⟩
  ·show l.length - (i + 1) < l.length - i
   omega
  ·by_cases e : j = i
   ·subst e; exact h2
   ·exact hall j hj (by omega)
theorem wz (l : List Bld) (hl : l.length <= 1000000000000) (fn : FuncId) (cap : List AV) (q : Bld -> Bool) (st : Store) (hf : ∀ x ∈ l, ∀ R : AV -> Store -> Prop, R (bool (q x)) st -> ACalls Tryz.prog fn ([.agg (bldC x)] ++ cap) st R)
  (R : AV -> Store -> Prop) (h : R (bool (l.any q)) st) : ACalls Tryz.prog 64 [lst 6 bldC l, .clos fn cap] st R := by
 refine ACalls.of_body (c := cfg 9) ze Tryz.func64 (by rfl) (by rfl) (by rfl) (by rfl) ?_
 refine zda l hl fn cap q st hf _ ?_
 have e : decide ((0 : Int) <= idxI (l.findIdx? q)) = l.any q := by
  cases hx : l.findIdx? q with
  | none =>
   rw [List.findIdx?_eq_none_iff] at hx
   rw [show decide ((0 : Int) <= idxI none) = false from by decide]
   symm
   rw [List.any_eq_false]
   intro x hm
   rw [hx x hm]; decide
  | some i =>
   rw [List.findIdx?_eq_some_iff_getElem] at hx
   obtain ⟨hi, h1, _⟩ := hx
   rw [show decide ((0 : Int) <= idxI (some i)) = true from by simp [idxI]]
   symm
   rw [List.any_eq_true]
   exact ⟨l[i], List.getElem_mem hi, h1⟩
 rw [<- e] at h
 exact ret h
theorem zfp (g : Gnd) (p : Nat) (t : Nat) (ht : t < g.T.length) (st : Store) (hp : st.obj p = some (.cells (gndC g))) (R : AV -> Store -> Prop) (h : R (bool (decide ((g.T.getD t 0).toNat > 1))) st) :
  ACalls Tryz.prog 109 ([int (t : Nat)] ++ [ptr p]) st R := by
 have hget : g.T.getD t 0 = g.T[t] := by simp [ht]
 rw [hget] at h
 refine ACalls.of_body (c := cfg 10) ze Tryz.func109 (by rfl) (by rfl) (by rfl) (by rfl) ?_
 refine za _ hp ?_
 refine ⟨t, rfl, za _ (z6 ht) ?_⟩
 refine ret ?_
 have e : decide ((1 : Int) < (g.T[t].toNat : Int)) = decide (g.T[t].toNat > 1) := by
  rw [Bool.eq_iff_iff, decide_eq_true_iff, decide_eq_true_iff]; omega
 rw [<- e] at h
 exact h
theorem zhw (g : Gnd) (hg : gndP g) (b : Bld) (hb : bldP b /\ onP g b) (st : Store) (R : AV -> Store -> Prop) (h : ∀ z : Bool, (z = true ↔ zeb g b) -> R (bool z) st) :
  ACalls Tryz.prog 89 [.agg (gndC g), .agg (bldC b)] st R := by
 have hm := ym hg
 refine ACalls.of_body (c := cfg 11 [2] []) ze Tryz.func89 (by rfl) (by rfl) (by rfl) (by rfl) ?_
 intro p hp
 have ho : (st.setObj p (.cells (gndC g))).obj p = some (.cells (gndC g)) := zb _ _ _
 refine za _ ho ?_
 refine vn g hg b hb _ _ ?_
 have hl : (qu g.W b).length <= 1000000000000 := by
  unfold qu
  rw [ko]
  have hb' := hb.1
  unfold bldP at hb'
  have : b.h.toNat * b.w.toNat <= 4 * 4 := Nat.mul_le_mul (by omega) (by omega)
  omega
 refine ww (qu g.W b) hl _ _ (fun x => decide ((g.T.getD x.toNat 0).toNat > 1)) _ (fun x hx R h => ?_) _ ?_
 ·obtain ⟨n, rfl, hn, hh⟩ := (qc hg hb.1 hb.2 x).1 hx
  exact zfp g p n (by omega) _ ho R (by rw [Int.toNat_natCast] at h; exact h)
 refine wb (Tt) (xb hp.1) (h _ ?_)
 unfold zeb
 rw [Bool.not_eq_true', List.any_eq_false]
 constructor
 ·intro hh t ht hb2
  have := hh (t : Int) ((qc hg hb.1 hb.2 _).2 ⟨t, rfl, by omega, hb2⟩)
  rw [decide_eq_true_iff, Int.toNat_natCast] at this
  omega
 ·intro hh x hx
  obtain ⟨n, rfl, hn, hb2⟩ := (qc hg hb.1 hb.2 x).1 hx
  rw [decide_eq_true_iff, Int.toNat_natCast]
  have := hh n (by omega) hb2
  omega
/-- A slice of yes and no, all its own. -/
def blV (b n : Nat) : AV := .s (.slice (some ⟨b, 0, none⟩) n n)
theorem zb8 (g : Gnd) (hg : gndP g) (l : List Bld) (hl : l.length <= 1000000000000) (hb : ∀ b ∈ l, bldP b /\ onP g b) (st : Store) (R : AV -> Store -> Prop)
  (h : ∀ b, Fresh st b -> R (blV b g.T.length) (st.setObj b (.cells (bl g.T.length (covB g l))))) : ACalls Tryz.prog 29 [.agg (gndC g), lst 6 bldC l] st R := by
 have ha := ym hg
 have hT : ((rws u8C g.T).length : Int) = (g.T.length : Int) := by rw [zk]
 refine ACalls.of_body (c := cfg 34) ze Tryz.func29 (by rfl) (by rfl) (by rfl) (by rfl) ?_
 refine vl rfl (it := ti59) (ie := ti4) rfl rfl rfl rfl rfl (n := (rws u8C g.T).length) ?_ ?_ (fun b hf => ?_)
 ·rw [zk]; show 1 * _ <= _; omega
 ·rw [zk]; omega
 rw [zk, zkg]
 refine AWp.loop (σ := Nat) ⟨fun i => [(2, .bx 2 0), (5, .av (blV b g.T.length)), (14, .av (lst 6 bldC l)), (15, .av (int (l.length : Nat))), (16, .av (int (i : Nat)))], fun _ => [(2, gndC g)],
  fun i st' => i <= l.length /\ st' = st.setObj b (.cells (bl g.T.length (covB g (l.take i)))), fun i => l.length - i⟩ ze ?_ ?_
 ·refine ⟨0, Tv, ⟨Nat.zero_le _, rfl⟩, ⟨Tq, Tq, Tq, ?_, Tq, Tv⟩, ⟨rfl, Tv⟩⟩
  rw [<- zk (f := bldC) l]
  exact Tq
 rintro i st' ⟨hi, rfl⟩
 refine bcd (fun h1 => ?_) (fun h1 => ?_)
 rotate_left
 ·have : i = l.length := by omega
  subst this
  rw [List.take_length]
  exact ret (h b hf)
 have hlt : i < l.length := by omega
 have hbi := hb l[i] (List.getElem_mem hlt)
 refine ⟨i, rfl, za _ (z6 hlt) ?_⟩
 refine vn g hg l[i] hbi _ _ ?_
 have hcov := fun (t : Nat) (ht : t < g.T.length) => zei hg hlt hbi ht
 have hmem := qc hg hbi.1 hbi.2
 have h0 := zeg g l i (qu g.W l[i])
 have hts := zbv g.W hbi.1
 generalize qu g.W l[i] = ts at *
 refine AWp.loop (σ := Nat) ⟨fun k => [(2, .bx 2 0), (5, .av (blV b g.T.length)), (14, .av (lst 6 bldC l)), (15, .av (int (l.length : Nat))), (16, .av (int (i : Nat))), (22, .av (ints ts)), (23, .av (int (ts.length : Nat))), (24, .av (int (k : Nat)))], fun _ => [(2, gndC g)],
  fun k st' => k <= ts.length /\ st' = st.setObj b (.cells (bl g.T.length (covF g l i ts k))), fun k => ts.length - k⟩ ze ?_ ?_
 ·refine ⟨0, Tv, ⟨Nat.zero_le _, ?_⟩, ⟨Tq, Tq, Tq, Tq, Tq, Tq, ?_, Tq, Tv⟩, ⟨rfl, Tv⟩⟩
  ·rw [show covF g l i ts 0 = covB g (l.take i) from funext h0]
  ·rw [<- zk (f := intC) ts]
   exact Tq
 rintro k st' ⟨hk, rfl⟩
 refine bcd (fun h2 => ?_) (fun h2 => ?_)
 rotate_left
 ·have : k = ts.length := by omega
  subst this
  refine in64 (by omega) ?_
  refine ⟨i + 1, ?_, ⟨by omega, ?_⟩, ⟨Tq, Tq, Tq, Tq, Tq, Tv⟩, ⟨rfl, Tv⟩⟩
  ·show l.length - (i + 1) < l.length - i
   omega
  ·have : bl g.T.length (covF g l i ts ts.length) = bl g.T.length (covB g (l.take (i + 1))) := by
    unfold bl
    exact List.map_congr_left fun t ht => by rw [hcov t (List.mem_range.1 ht)]
   rw [this]
 have hklt : k < ts.length := by omega
 obtain ⟨n, hn, hn2, hn3⟩ := (hmem ts[k]).1 (List.getElem_mem hklt)
 have hnl : n < g.T.length := by omega
 obtain ⟨s1, s2⟩ := zeh (g := g) (l := l) (i := i) hklt hn
 refine ⟨k, rfl, za _ (z6 hklt) ?_⟩
 refine ⟨n, hn, hnl, ?_⟩
 refine zo (i := ti4) (v := bool true) (b := b) (o := 0 + n * 1) (l := bl g.T.length (covF g l i ts k)) (st2 := st.setObj b (.cells (bl g.T.length (covF g l i ts (k + 1))))) rfl rfl rfl (zb _ _ _) (by rw [j4]; omega) ?_ ?_
 ·rw [zi, show 0 + n * 1 = n by omega, <- s1, zgh hnl _ s2]
 refine in64 (by omega) ?_
 refine ⟨k + 1, ?_, ⟨by omega, rfl⟩, ⟨Tq, Tq, Tq, Tq, Tq, Tq, Tq, Tq, Tv⟩, ⟨rfl, Tv⟩⟩
 show ts.length - (k + 1) < ts.length - k
 omega
theorem zfi (n : Nat) (f : Nat -> Bool) : (rws zbq (blL n f)).flatten ++ [] = bl n f := by rw [List.append_nil, zsv]
def opV (g : Gnd) (l : List Bld) (c : Int) : AV := lst 1 zbq (blL g.T.length (jf g l c))
/-- Half done: the first tiles are asked for their zik as well. -/
def midB (g : Gnd) (l : List Bld) (c : Int) (i t : Nat) : Bool := if t < i then jf g l c t else covB g l t
theorem kr (g : Gnd) (hg : gndP g) (l : List Bld) (hl : l.length <= 1000000000000) (hb : ∀ b ∈ l, bldP b /\ onP g b) (c : Int) (st : Store) (R : AV -> Store -> Prop) (h : R (opV g l c) st) :
  ACalls Tryz.prog 98 [.agg (gndC g), lst 6 bldC l, int c] st R := by
 have ha := ym hg
 refine ACalls.of_awp (c := cfg 37) ze Tryz.func98 (by rfl) (by rfl) (by rfl) (by rfl) ?_
 refine AWp.seq (AWp.of_vc ze ?_)
 refine AWp.seq (AWp.of_vc ze ?_)
 refine zb8 g hg l hl hb _ _ (fun b hf => ?_)
 have step : ∀ i, i < g.T.length -> midB g l c (i + 1) i = jf g l c i /\ ∀ s, s ≠ i -> midB g l c (i + 1) s = midB g l c i s := fun i hi => by
  unfold midB
  refine ⟨if_pos (by omega), fun s hs => ?_⟩
  by_cases h1 : s < i
  ·rw [if_pos (by omega), if_pos h1]
  ·rw [if_neg (by omega), if_neg h1]
 refine AWp.meetA (σ := Unit) ⟨fun _ => [(7, .av (blV b g.T.length))], fun _ => [], fun _ st' => st' = st.setObj b (.cells (bl g.T.length (jf g l c)))⟩ ?_ ?_
 ·refine AWp.of_vc ze ?_
  refine AWp.loop (σ := Nat) ⟨fun i => [(2, .av (int c)), (3, .bx 3 0), (7, .av (blV b g.T.length)), (13, .av (blV b g.T.length)), (14, .av (int (g.T.length : Nat))), (15, .av (int (i : Nat)))], fun _ => [(3, gndC g)],
   fun i st' => i <= g.T.length /\ st' = st.setObj b (.cells (bl g.T.length (midB g l c i))), fun i => g.T.length - i⟩ ze ?_ ?_
  ·refine ⟨0, Tv, ⟨Nat.zero_le _, ?_⟩, ⟨Tq, Tq, Tq, Tq, Tq, Tq, Tv⟩, ⟨rfl, Tv⟩⟩
   rw [show midB g l c 0 = covB g l from funext fun t => if_neg (Nat.not_lt_zero t)]
  rintro i st' ⟨hi, rfl⟩
  refine bcd (fun h1 => ?_) (fun h1 => ?_)
  rotate_left
  ·have : i = g.T.length := by omega
   subst this
   refine ⟨(), ?_, ⟨Tq, Tv⟩, Tv⟩
   have : bl g.T.length (midB g l c g.T.length) = bl g.T.length (jf g l c) := by
    unfold bl midB
    exact List.map_congr_left fun t ht => by rw [if_pos (List.mem_range.1 ht)]
   rw [this]
  have hlt : i < g.T.length := by omega
  obtain ⟨s1, s2⟩ := step i hlt
  have ho : (st.setObj b (.cells (bl g.T.length (midB g l c i)))).obj b = some (.cells (bl g.T.length (midB g l c i))) := zb _ _ _
  have hmid : midB g l c i i = covB g l i := if_neg (Nat.lt_irrefl i)
  have hhead : ((bl g.T.length (midB g l c i)).drop (0 + i * 1)).head? = some (bool (covB g l i)) := by
   rw [List.head?_drop, show 0 + i * 1 = i by omega, ws hlt, hmid]
  refine ⟨i, rfl, hlt, ?_⟩
  refine za _ ho (za _ hhead ?_)
  have hti : g.T[i].toNat <= 5 := hg.2.2.2 _ (List.getElem_mem hlt)
  have hget : g.T.getD i 0 = g.T[i] := by simp [hlt]
  refine zf (fun c1 => ?_) (fun c1 => ?_)
  ·have c1 : covB g l i = false := by simpa using c1
   refine ⟨i, rfl, za _ (z6 hlt) ?_⟩
   refine zg2 c g.T[i] hti _ _ ?_
   have hz : decide (0 < zi2 c g.T[i].toNat) = jf g l c i := by
    unfold jf
    rw [c1, hget]; rfl
   refine ⟨i, rfl, hlt, ?_⟩
   refine zo (i := ti4) (v := bool (decide (0 < zi2 c g.T[i].toNat))) (b := b) (o := 0 + i * 1) (l := _) (st2 := st.setObj b (.cells (bl g.T.length (midB g l c (i + 1))))) rfl rfl rfl ho (by rw [j4]; omega) (by rw [zi, show 0 + i * 1 = i by omega, hz, <- s1, zgh hlt _ s2]) ?_
   refine in64 (by omega) ?_
   refine ⟨i + 1, ?_, ⟨by omega, rfl⟩, ⟨Tq, Tq, Tq, Tq, Tq, Tq, Tv⟩, ⟨rfl, Tv⟩⟩
   show g.T.length - (i + 1) < g.T.length - i
   omega
  ·have c1 : covB g l i = true := by simpa using c1
   have hz : false = jf g l c i := by
    unfold jf
    rw [c1]; rfl
   refine ⟨i, rfl, hlt, ?_⟩
   refine zo (i := ti4) (v := bool false) (b := b) (o := 0 + i * 1) (l := _) (st2 := st.setObj b (.cells (bl g.T.length (midB g l c (i + 1))))) rfl rfl rfl ho (by rw [j4]; omega) (by rw [zi, show 0 + i * 1 = i by omega, hz, <- s1, zgh hlt _ s2]) ?_
   refine in64 (by omega) ?_
   refine ⟨i + 1, ?_, ⟨by omega, rfl⟩, ⟨Tq, Tq, Tq, Tq, Tq, Tq, Tv⟩, ⟨rfl, Tv⟩⟩
   show g.T.length - (i + 1) < g.T.length - i
   omega
 ·rintro _ _ rfl
  refine AWp.freeze (d := 7) (b := b) (k := 1) (n := g.T.length) (cap := g.T.length) (rows := rws zbq (blL g.T.length (jf g l c))) (pad := []) rfl ?_ ?_ ?_ (Nat.le_refl _) ?_ ?_ ?_
  ·rw [zfi]; exact zb _ _ _
  ·exact hf.2
  ·rw [zk, zkh]
  ·intro row hr
   obtain ⟨x, _, rfl⟩ := List.mem_map.1 hr
   rfl
  ·intro row hr y hy
   obtain ⟨x, _, rfl⟩ := List.mem_map.1 hr
   simp [zbq] at hy
   exact ⟨_, hy, rfl⟩
  rw [za7 hf.1]
  refine AWp.of_vc ze ?_
  exact ret h
set_option maxHeartbeats 1000000 in
theorem zc9 (g : Gnd) (hg : gndP g) (l : List Bld) (hl : l.length <= 1000000000000) (st : Store) (R : AV -> Store -> Prop)
  (h : ∀ z : Bool, (z = true ↔ zhu g l) -> R (bool z) st) : ACalls Tryz.prog 63 [.agg (gndC g), lst 6 bldC l] st R := by
 have ha := ym hg
 have hT : ((rws u8C g.T).length : Int) = (g.T.length : Int) := by rw [zk]
 have hL : ((rws bldC l).length : Int) = (l.length : Int) := by rw [zk]
 have no : ¬ zhu g l -> R (bool false) st := fun hn => h false (by simp [hn])
 refine ACalls.of_body (c := cfg 60) ze Tryz.func63 (by rfl) (by rfl) (by rfl) (by rfl) ?_
 refine bcd (fun c1 => ret (no fun q => by have := q.1; omega)) (fun c1 => ?_)
 refine zep l hl _ _ (fun z hz => ?_)
 refine j5 ?_
 refine zf (fun c2 => ?_) (fun c2 => ret (no fun q => by have := hz.2 q.2.1; rw [this] at c2; cases c2))
 have hr := hz.1 c2
 refine vl rfl (it := ti59) (ie := ti4) rfl rfl rfl rfl rfl (n := (rws u8C g.T).length) ?_ ?_ (fun b hf => ?_)
 ·rw [zk]; show 1 * _ <= _; omega
 ·rw [zk]; omega
 rw [zk (f := u8C) g.T, zkg]
 have hhas : ∀ f : Nat -> Bool, (st.setObj b (.cells (bl g.T.length f))).Has st := fun f => xb hf.1
 refine AWp.loop (σ := Nat) ⟨fun i => [(2, .bx 2 0), (5, .av (blV b g.T.length)), (22, .av (lst 6 bldC l)), (23, .av (int (l.length : Nat))), (24, .av (int (i : Nat)))], fun _ => [(2, gndC g)],
  fun i st' => i <= l.length /\ st' = st.setObj b (.cells (bl g.T.length (covB g (l.take i)))) /\ zst g l i, fun i => l.length - i⟩ ze ?_ ?_
 ·refine ⟨0, Tv, ⟨Nat.zero_le _, rfl, fun j _ hj => by omega⟩, ⟨Tq, Tq, Tq, ?_, Tq, Tv⟩, ⟨rfl, Tv⟩⟩
  rw [<- zk (f := bldC) l]
  exact Tq
 rintro i st' ⟨hi, rfl, hup⟩
 refine bcd (fun h1 => ?_) (fun h1 => ?_)
 rotate_left
 ·have : i = l.length := by omega
  subst this
  have hall := zke hup
  exact wb (Tt) (hhas _) (h true (by simp; exact ⟨by omega, hr, hall.1, hall.2⟩))
 have hlt : i < l.length := by omega
 have nof : ¬ zhu g l -> ∃ r st', AV.le (bool false) r /\ (st.setObj b (.cells (bl g.T.length (covB g (l.take i))))).Has st' /\ R r st' := fun hn => wb (Tt) (hhas _) (no hn)
 refine ⟨i, rfl, za _ (z6 hlt) ?_⟩
 refine zhv l[i] _ _ (fun z1 hz1 => ?_)
 refine j5 ?_
 refine zf (fun c3 => ?_) (fun c3 => nof fun q => by have := hz1.2 (q.2.2.1 _ (List.getElem_mem hlt)).1; rw [this] at c3; cases c3)
 have hb1 := hz1.1 c3
 refine zou g l[i] hg hb1 _ _ (fun z2 hz2 => ?_)
 refine j5 ?_
 refine zf (fun c4 => ?_) (fun c4 => nof fun q => by have := hz2.2 (q.2.2.1 _ (List.getElem_mem hlt)).2.1; rw [this] at c4; cases c4)
 have hb2 := hz2.1 c4
 refine zhw g hg l[i] ⟨hb1, hb2⟩ _ _ (fun z3 hz3 => ?_)
 refine j5 ?_
 refine zf (fun c5 => ?_) (fun c5 => nof fun q => by have := hz3.2 (q.2.2.1 _ (List.getElem_mem hlt)).2.2; rw [this] at c5; cases c5)
 have hb3 := hz3.1 c5
 have hbi : bldP l[i] /\ onP g l[i] := ⟨hb1, hb2⟩
 refine vn g hg l[i] hbi _ _ ?_
 have hcov := fun (t : Nat) (ht : t < g.T.length) => zei hg hlt hbi ht
 have hmem := qc hg hbi.1 hbi.2
 have h0 := zeg g l i (qu g.W l[i])
 have hts := zbv g.W hbi.1
 have hcm := zoq hg hlt hbi hup
 have hso := zcm hg hbi
 generalize qu g.W l[i] = ts at *
 refine AWp.loop (σ := Nat) ⟨fun k => [(2, .bx 2 0), (5, .av (blV b g.T.length)), (22, .av (lst 6 bldC l)), (23, .av (int (l.length : Nat))), (24, .av (int (i : Nat))), (45, .av (ints ts)), (46, .av (int (ts.length : Nat))), (47, .av (int (k : Nat)))], fun _ => [(2, gndC g)],
  fun k st' => k <= ts.length /\ st' = st.setObj b (.cells (bl g.T.length (covF g l i ts k))) /\ ∀ m, (hm : m < ts.length) -> m < k -> covB g (l.take i) ts[m].toNat = false, fun k => ts.length - k⟩ ze ?_ ?_
 ·refine ⟨0, Tv, ⟨Nat.zero_le _, ?_, fun m _ hm => by omega⟩, ⟨Tq, Tq, Tq, Tq, Tq, Tq, ?_, Tq, Tv⟩, ⟨rfl, Tv⟩⟩
  ·rw [show covF g l i ts 0 = covB g (l.take i) from funext h0]
  ·rw [<- zk (f := intC) ts]
   exact Tq
 rintro k st' ⟨hk, rfl, hno⟩
 refine bcd (fun h2 => ?_) (fun h2 => ?_)
 rotate_left
 ·have : k = ts.length := by omega
  subst this
  refine in64 (by omega) ?_
  refine ⟨i + 1, ?_, ⟨by omega, ?_, fun j hj hji => ?_⟩, ⟨Tq, Tq, Tq, Tq, Tq, Tv⟩, ⟨rfl, Tv⟩⟩
  ·show l.length - (i + 1) < l.length - i
   omega
  ·have : bl g.T.length (covF g l i ts ts.length) = bl g.T.length (covB g (l.take (i + 1))) := by
    unfold bl
    exact List.map_congr_left fun t ht => by rw [hcov t (List.mem_range.1 ht)]
   rw [this]
  ·by_cases e : j = i
   ·subst e
    refine ⟨⟨hb1, hb2, hb3⟩, fun m hm hmt => ?_⟩
    obtain ⟨t, ht, hc⟩ := hcm.2 ⟨m, hm, hmt⟩
    obtain ⟨q, hq, rfl⟩ := List.getElem_of_mem ht
    rw [hno q hq hq] at hc
    cases hc
   ·exact hup j hj (by omega)
 have hklt : k < ts.length := by omega
 obtain ⟨n, hn, hn2, hn3⟩ := (hmem ts[k]).1 (List.getElem_mem hklt)
 have hnl : n < g.T.length := by omega
 obtain ⟨s1, s2⟩ := zeh (g := g) (l := l) (i := i) hklt hn
 have hnk : covF g l i ts k n = covB g (l.take i) n := by
  unfold covF
  have : (ts.take k).contains (n : Int) = false := by
   rw [<- hn]
   have := zdv hso hklt
   simpa using this
  rw [this, Bool.or_false]
 refine ⟨k, rfl, za _ (z6 hklt) ?_⟩
 have ho : (st.setObj b (.cells (bl g.T.length (covF g l i ts k)))).obj b = some (.cells (bl g.T.length (covF g l i ts k))) := zb _ _ _
 have hhead : ((bl g.T.length (covF g l i ts k)).drop (0 + n * 1)).head? = some (V.bool (covB g (l.take i) n)) := by
  rw [List.head?_drop, show 0 + n * 1 = n by omega, ws hnl, hnk]
 refine ⟨n, hn, hnl, ?_⟩
 refine za _ ho (za _ hhead ?_)
 refine zf (fun c6 => ?_) (fun c6 => ?_)
 ·refine wb (Tt) (hhas _) (no fun q => ?_)
  obtain ⟨m, hm, hmt⟩ := hcm.1 ⟨ts[k], List.getElem_mem hklt, by rw [hn, Int.toNat_natCast]; exact c6⟩
  exact q.2.2.2 i hlt m hm hmt
 refine ⟨n, hn, hnl, ?_⟩
 refine zo (i := ti4) (v := bool true) (b := b) (o := 0 + n * 1) (l := bl g.T.length (covF g l i ts k)) (st2 := st.setObj b (.cells (bl g.T.length (covF g l i ts (k + 1))))) rfl rfl rfl (zb _ _ _) (by rw [j4]; omega) ?_ ?_
 ·rw [zi, show 0 + n * 1 = n by omega, <- s1, zgh hnl _ s2]
 refine in64 (by omega) ?_
 refine ⟨k + 1, ?_, ⟨by omega, rfl, fun m hm hmk => ?_⟩, ⟨Tq, Tq, Tq, Tq, Tq, Tq, Tq, Tq, Tv⟩, ⟨rfl, Tv⟩⟩
 ·show ts.length - (k + 1) < ts.length - k
  omega
 ·by_cases e : m = k
  ·subst e
   rw [hn, Int.toNat_natCast]; exact c6
  ·exact hno m hm (by omega)
end Go.Proofs
namespace Go.Proofs
open Go Go.V
set_option maxRecDepth 4000
end Go.Proofs
namespace Go.Proofs
open Go Go.V
set_option maxRecDepth 4000
theorem zha (g : Gnd) (hg : gndP g) (t : Nat) (ht : (t : Int) < g.W * g.H) (x : Int) (hx : x = (t : Int)) (p : Vc) (hp : jd p.1 p.2) (r : Int) (hr : 0 < r /\ r <= 262144) (st : Store) (R : AV -> Store -> Prop) (h : R (V.bool (decide (hitP g t p r))) st) :
  ACalls Tryz.prog 97 [.agg (gndC g), int x, .agg (vecC p), int r] st R := by
 subst hx
 exact zjn g hg t ht p hp r hr st R h
set_option maxHeartbeats 1000000 in
theorem zjy (g : Gnd) (hg : gndP g) (l : List Bld) (c : Int) (p : Vc) (hpo : p.ok) (r : Int) (hr : 0 < r /\ r <= 262144) (st : Store) (R : AV -> Store -> Prop)
  (h : ∀ z : Bool, (z = true ↔ zd8 g l c p r) -> R (V.bool z) st) : ACalls Tryz.prog 71 [.agg (gndC g), opV g l c, .agg (vecC p), int r] st R := by
 have ha := ym hg
 have hg1 := hg.1
 have hg2 := hg.2.1
 have no : ¬ zd8 g l c p r -> R (V.bool false) st := fun hn => h false (by simp only [Bool.false_eq_true, false_iff]; exact hn)
 refine ACalls.of_body (c := cfg 112) ze Tryz.func71 (by rfl) (by rfl) (by rfl) (by rfl) ?_
 refine ADraw.of_sched ze (by rfl) (by rfl) zr4 (by rfl) ?_
 refine in64 (by omega) ?_
 refine in64 (by omega) ?_
 refine ⟨⟨(by repeat (first | exact Tv | refine ⟨rfl, ?_⟩ | refine ⟨optR (optR (optR (za _ (zb _ _ _) rfl))), ?_⟩)), ?_⟩, Tv⟩
 refine ⟨⟨Tv, ?_⟩, Tv⟩
 refine zho p r _ _ (fun z hz => ?_)
 refine j5 ?_
 refine zf (fun c0 => ?_) (fun c0 => ret (no fun q => by
  have := hz.2 ⟨⟨by omega, hr.2⟩, by unfold jd; have := q.1; omega⟩
  rw [this] at c0; cases c0))
 have hp := (hz.1 c0).2
 have hp' := hp
 unfold jd at hp'
 refine in64 (by omega) ?_
 refine bcd (fun c1 => ret (no fun q => by have := q.1; omega)) (fun c1 => ?_)
 refine in64 (by omega) ?_
 refine bcd (fun c2 => ret (no fun q => by have := q.1; omega)) (fun c2 => ?_)
 refine in64 (by omega) ?_
 refine bcd (fun c3 => ret (no fun q => by have := q.1; omega)) (fun c3 => ?_)
 refine in64 (by omega) ?_
 refine bcd (fun c4 => ret (no fun q => by have := q.1; omega)) (fun c4 => ?_)
 refine in64 (by omega) ?_
 refine ⟨by decide, ?_⟩
 have hy0 : (p.2 - r).tdiv 65536 = (p.2 - r) / 65536 := Int.tdiv_eq_ediv_of_nonneg (by omega)
 have hx0 : (p.1 - r).tdiv 65536 = (p.1 - r) / 65536 := Int.tdiv_eq_ediv_of_nonneg (by omega)
 have hy1 : (p.2 + r).tdiv 65536 = (p.2 + r) / 65536 := Int.tdiv_eq_ediv_of_nonneg (by omega)
 have hx1 : (p.1 + r).tdiv 65536 = (p.1 + r) / 65536 := Int.tdiv_eq_ediv_of_nonneg (by omega)
 refine in64 (by omega) ?_
 rw [hy0]
 refine AWp.loop (σ := Nat) ⟨fun k => [(1, .av (opV g l c)), (3, .av (int r)), (4, .bx 4 0), (6, .bx 6 0), (11, .av (int ((p.2 - r) / 65536 + (k : Nat))))], fun _ => [(4, gndC g), (6, vecC p)],
  fun k st' => st' = st /\ ((k : Int) <= g.H - (p.2 - r) / 65536 \/ k = 0) /\ vy g l c p r ((p.2 - r) / 65536 + (k : Nat)), fun k => (g.H - (p.2 - r) / 65536).toNat - k⟩ ze ?_ ?_
 ·refine ⟨0, Tv, ⟨rfl, .inr rfl, ?_⟩, ⟨Tq, Tq, Tq, Tq, ?_, Tv⟩, ⟨rfl, rfl, Tv⟩⟩
  ·rw [show (p.2 - r) / 65536 + ((0 : Nat) : Int) = (p.2 - r) / 65536 by omega]
   exact zfx hr.1 (by omega)
  ·rw [show (p.2 - r) / 65536 + ((0 : Nat) : Int) = (p.2 - r) / 65536 by omega]; exact Tq
 rintro k st' ⟨rfl, hk, hup⟩
 refine in64 (by omega) ?_
 refine ⟨by decide, ?_⟩
 refine in64 (by omega) ?_
 rw [hy1]
 have done : (¬ ((p.2 - r) / 65536 + (k : Int) <= (p.2 + r) / 65536) \/ ¬ ((p.2 - r) / 65536 + (k : Int) < g.H)) -> R (V.bool true) st' := fun hh =>
  h true (by simp only [true_iff]; exact ⟨by omega, zfy hg hr.1 (by omega) hh hup⟩)
 refine bcd (fun c5 => ?_) (fun c5 => ret (done (.inl c5)))
 refine bcd (fun c6 => ?_) (fun c6 => ret (done (.inr c6)))
 refine in64 (by omega) ?_
 refine ⟨by decide, ?_⟩
 refine in64 (by omega) ?_
 rw [hx0]
 have hyb : 0 <= (p.2 - r) / 65536 := by omega
 have hxb : 0 <= (p.1 - r) / 65536 := by omega
 refine AWp.loop (σ := Nat) ⟨fun m => [(1, .av (opV g l c)), (3, .av (int r)), (4, .bx 4 0), (6, .bx 6 0), (11, .av (int ((p.2 - r) / 65536 + (k : Nat)))), (12, .av (int ((p.1 - r) / 65536 + (m : Nat))))], fun _ => [(4, gndC g), (6, vecC p)],
  fun m st2 => st2 = st' /\ ((m : Int) <= g.W - (p.1 - r) / 65536 \/ m = 0) /\ vh g l c p r ((p.2 - r) / 65536 + (k : Nat)) ((p.1 - r) / 65536 + (m : Nat)), fun m => (g.W - (p.1 - r) / 65536).toNat - m⟩ ze ?_ ?_
 ·refine ⟨0, Tv, ⟨rfl, .inr rfl, ?_⟩, ⟨Tq, Tq, Tq, Tq, Tq, ?_, Tv⟩, ⟨rfl, rfl, Tv⟩⟩
  ·rw [show (p.1 - r) / 65536 + ((0 : Nat) : Int) = (p.1 - r) / 65536 by omega]
   exact zek hr.1 (by omega)
  ·rw [show (p.1 - r) / 65536 + ((0 : Nat) : Int) = (p.1 - r) / 65536 by omega]; exact Tq
 rintro m st2 ⟨rfl, hm, hrow⟩
 refine in64 (by omega) ?_
 refine ⟨by decide, ?_⟩
 refine in64 (by omega) ?_
 rw [hx1]
 have done2 : (¬ ((p.1 - r) / 65536 + (m : Int) <= (p.1 + r) / 65536) \/ ¬ ((p.1 - r) / 65536 + (m : Int) < g.W)) -> vy g l c p r ((p.2 - r) / 65536 + ((k + 1 : Nat) : Int)) := fun hh => by
  rw [za8]
  exact zel hg hr.1 (by omega) hh hup hrow
 have mu : (g.H - (p.2 - r) / 65536).toNat - (k + 1) < (g.H - (p.2 - r) / 65536).toNat - k := zo5 (Int.lt_sub_left_of_add_lt c6)
 have step2 : LV.le (vint .i64 ((p.2 - r) / 65536 + (k : Int) + 1)) (.av (int ((p.2 - r) / 65536 + ((k + 1 : Nat) : Int)))) := by
  rw [za8]; exact Tq
 refine bcd (fun c7 => ?_) (fun c7 => in64 (by omega) ⟨k + 1, mu, ⟨rfl, .inl (w9 c6), done2 (.inl c7)⟩, ⟨Tq, Tq, Tq, Tq, step2, Tv⟩, ⟨rfl, rfl, Tv⟩⟩)
 refine bcd (fun c8 => ?_) (fun c8 => in64 (by omega) ⟨k + 1, mu, ⟨rfl, .inl (w9 c6), done2 (.inr c8)⟩, ⟨Tq, Tq, Tq, Tq, step2, Tv⟩, ⟨rfl, rfl, Tv⟩⟩)
 obtain ⟨q1, q2, q3, q4⟩ := xr hg (x := (p.1 - r) / 65536 + (m : Int)) (y := (p.2 - r) / 65536 + (k : Int)) (by omega) (by omega)
 have q5 : 0 <= g.W * ((p.2 - r) / 65536 + (k : Int)) := Int.mul_nonneg (by omega) (by omega)
 have hstep := zc4 (l := l) (c := c) (p := p) (r := r) hg (x := (p.1 - r) / 65536 + (m : Int)) (y := (p.2 - r) / 65536 + (k : Int)) (by omega) (by omega) hrow
 refine in64 (by omega) ?_
 refine in64 (by omega) ?_
 obtain ⟨n, hn⟩ : ∃ n : Nat, (n : Int) = (p.1 - r) / 65536 + (m : Int) + g.W * ((p.2 - r) / 65536 + (k : Int)) := ⟨_, Int.toNat_of_nonneg q1⟩
 rw [<- hn, Int.toNat_natCast] at hstep
 have hnl : n < g.T.length := by omega
 have mu2 : (g.W - (p.1 - r) / 65536).toNat - (m + 1) < (g.W - (p.1 - r) / 65536).toNat - m := zo5 (Int.lt_sub_left_of_add_lt c8)
 have e2 : (p.1 - r) / 65536 + ((m + 1 : Nat) : Int) = (p.1 - r) / 65536 + (m : Int) + 1 := za8 _ _
 have step3 : LV.le (vint .i64 ((p.1 - r) / 65536 + (m : Int) + 1)) (.av (int ((p.1 - r) / 65536 + ((m + 1 : Nat) : Int)))) := by
  rw [e2]; exact Tq
 refine ⟨n, hn.symm, za _ (zsw hnl) ?_⟩
 refine j5 ?_
 refine zf (fun c9 => ?_) (fun c9 => ?_)
 ·refine in64 (by omega) ?_
  exact ⟨m + 1, mu2, ⟨rfl, .inl (w9 c8), by rw [e2]; exact hstep fun hh => by rw [c9] at hh; cases hh⟩, ⟨Tq, Tq, Tq, Tq, Tq, step3, Tv⟩, ⟨rfl, rfl, Tv⟩⟩
 refine zha g hg n (by omega) _ hn.symm p hp r hr _ _ ?_
 refine bcd (fun c10 => ?_) (fun c10 => ?_)
 ·exact ret (no fun q => q.2 n hnl c9 c10)
 ·refine in64 (by omega) ?_
  exact ⟨m + 1, mu2, ⟨rfl, .inl (w9 c8), by rw [e2]; exact hstep fun _ => c10⟩, ⟨Tq, Tq, Tq, Tq, Tq, step3, Tv⟩, ⟨rfl, rfl, Tv⟩⟩
theorem zb1 (x : Int) (st : Store) (R : AV -> Store -> Prop) (h : R (V.bool false) st) : ACalls Tryz.prog 126 [int x] st R := by
 refine ACalls.of_body (c := cfg 6) ze Tryz.func126 (by rfl) (by rfl) (by rfl) (by rfl) ?_
 refine ⟨_, st, Tt, Store.Has.refl st, ?_⟩
 have e : (x != x) = false := by simp
 rw [<- e] at h
 exact h
theorem zej (x y : Int) (st : Store) (R : AV -> Store -> Prop) (h : R (int (cmpZ x y)) st) : ACalls Tryz.prog 104 [int x, int y] st R := by
 refine ACalls.of_body (c := cfg 20) ze Tryz.func104 (by rfl) (by rfl) (by rfl) (by rfl) ?_
 refine zb1 _ _ _ ?_
 refine zb1 _ _ _ ?_
 unfold cmpZ at h
 refine zf (fun h1 => ⟨_, st, Tt, Store.Has.refl st, ?_⟩) (fun h1 => ?_)
 ·rw [if_pos (by simpa using h1)] at h
  exact h
 ·rw [if_neg (by simpa using h1)] at h
  refine zf (fun h2 => ⟨_, st, Tt, Store.Has.refl st, ?_⟩) (fun h2 => ⟨_, st, Tt, Store.Has.refl st, ?_⟩)
  ·rw [if_pos (by simpa using h2)] at h
   exact h
  ·rw [if_neg (by simpa using h2)] at h
   exact h
theorem zeq (u : Unt) (id : Int) (st : Store) (R : AV -> Store -> Prop) (h : R (int (cmpZ u.id id)) st) : ACalls Tryz.prog 103 [.agg (untC u), int id] st R := by
 refine ACalls.of_body (c := cfg 9) ze Tryz.func103 (by rfl) (by rfl) (by rfl) (by rfl) ?_
 exact zej u.id id _ _ (ret h)
/-- Where an ID stands, or would stand. -/
def isAt (l : List Unt) (id : Int) (i : Nat) : Prop := i <= l.length /\ (∀ j, (h : j < l.length) -> j < i -> l[j].id < id) /\ ∀ j, (h : j < l.length) -> i <= j -> id <= l[j].id
theorem zot (l : List Unt) (hl : l.length <= 1000000000000) (hr : xh l) (id : Int) (st : Store) (R : AV -> Store -> Prop)
  (h : ∀ i, isAt l id i -> ∀ z : Bool, (z = true ↔ ∃ hi : i < l.length, l[i].id = id) -> R (.tup [int (i : Nat), V.bool z]) st) : ACalls Tryz.prog 102 [lst 10 untC l, int id, .clos 103 []] st R := by
 refine ACalls.of_body (c := cfg 49) ze Tryz.func102 (by rfl) (by rfl) (by rfl) (by rfl) ?_
 refine AWp.loop (σ := Nat × Nat) ⟨fun s => [(0, .av (lst 10 untC l)), (1, .av (int id)), (2, .av (.clos 103 [])), (8, .av (int (l.length : Nat))), (9, .av (int (s.1 : Nat))), (10, .av (int (s.2 : Nat)))], fun _ => [],
  fun s st' => st' = st /\ s.1 <= s.2 /\ s.2 <= l.length /\ (∀ j, (h : j < l.length) -> j < s.1 -> l[j].id < id) /\ ∀ j, (h : j < l.length) -> s.2 <= j -> id <= l[j].id, fun s => s.2 - s.1⟩ ze ?_ ?_
 ·refine ⟨(0, l.length), Tv, ⟨rfl, Nat.zero_le _, Nat.le_refl _, fun j _ hj => by omega, fun j hj hj2 => by omega⟩, ⟨Tq, Tq, Tq, ?_, Tq, ?_, Tv⟩, Tv⟩
  ·rw [<- zk (f := untC) l]; exact Tq
  ·rw [<- zk (f := untC) l]; exact Tq
 rintro ⟨i, j⟩ st' ⟨rfl, hij, hj, hlo, hhi⟩
 dsimp only at hij hj hlo hhi ⊢
 refine bcd (fun h1 => ?_) (fun h1 => ?_)
 rotate_left
 ·have e : i = j := by omega
  subst e
  have hat : isAt l id i := ⟨hj, hlo, hhi⟩
  refine bcd (fun h2 => ?_) (fun h2 => ?_)
  ·have hlt : i < l.length := by omega
   refine ⟨i, rfl, za _ (z6 hlt) ?_⟩
   refine zeq l[i] id _ _ ?_
   refine ret (h i hat _ ?_)
   have := hhi i hlt (Nat.le_refl _)
   unfold cmpZ
   rw [if_neg (by omega)]
   by_cases e : l[i].id = id
   ·rw [if_neg (by omega)]; simp [hlt, e]
   ·rw [if_pos (by omega)]; simp [e]
  ·exact ret (h i hat _ (by simp; omega))
 refine in64 (by omega) ?_
 refine ⟨by decide, ?_⟩
 have hmid : (IntKind.u64.wrap ((i : Int) + (j : Int))).fdiv (2 ^ (min (1 : Int).toNat IntKind.u64.bits)) = (((i + j) / 2 : Nat) : Int) := by
  have e1 : IntKind.u64.wrap ((i : Int) + (j : Int)) = ((i + j : Nat) : Int) := by
   simp [IntKind.wrap, IntKind.bits, IntKind.signed]; omega
  have e2 : (2 : Int) ^ (min (1 : Int).toNat IntKind.u64.bits) = 2 := rfl
  have e3 : (((i + j : Nat) : Int)).fdiv 2 = (((i + j) / 2 : Nat) : Int) := by
   rw [Int.fdiv_eq_ediv_of_nonneg _ (by decide)]; rfl
  rw [e1, e2, e3]
 have hk1 : (i + j) / 2 < j := by omega
 have hk2 : i <= (i + j) / 2 := by omega
 have hkl : (i + j) / 2 < l.length := by omega
 have hmono : ∀ a b, (ha : a < l.length) -> (hb : b < l.length) -> a <= b -> l[a].id <= l[b].id := by
  intro a b ha hb hab
  induction b with
  | zero =>
   have : a = 0 := by omega
   subst this; exact Int.le_refl _
  | succ b ih =>
   by_cases e : a = b + 1
   ·subst e; exact Int.le_refl _
   ·have h2 := ih (by omega) (by omega)
    have h3 := hr (b + 1) hb (by omega)
    simp only [Nat.add_sub_cancel] at h3
    omega
 refine ⟨by rw [hmid]; exact ⟨by omega, by omega⟩, ?_⟩
 refine ⟨(i + j) / 2, hmid, za _ (z6 hkl) ?_⟩
 refine zeq l[(i + j) / 2] id _ _ ?_
 have hc : cmpZ l[(i + j) / 2].id id < 0 ↔ l[(i + j) / 2].id < id := by
  unfold cmpZ; split
  ·omega
  ·split <;> omega
 refine bcd (fun h2 => ?_) (fun h2 => ?_)
 ·have h2 := hc.1 h2
  refine in64 (by rw [hmid]; omega) ?_
  refine ⟨((i + j) / 2 + 1, j), ?_, ⟨rfl, by dsimp only; omega, hj, fun a ha ha2 => ?_, hhi⟩, ⟨Tq, Tq, Tq, Tq, ?_, Tq, Tv⟩, Tv⟩
  ·show j - ((i + j) / 2 + 1) < j - i
   omega
  ·have := hmono a ((i + j) / 2) ha hkl (by dsimp only at ha2; omega)
   omega
  ·dsimp only
   exact (congrArg (fun n : Int => LV.le (vint .i64 (n + 1)) (.av (int (((i + j) / 2 + 1 : Nat) : Int)))) hmid).mpr (Tq)
 ·have h2 : ¬ l[(i + j) / 2].id < id := fun hh => h2 (hc.2 hh)
  refine ⟨(i, (i + j) / 2), ?_, ⟨rfl, hk2, by dsimp only; omega, hlo, fun a ha ha2 => ?_⟩, ⟨Tq, Tq, Tq, Tq, Tq, ?_, Tv⟩, Tv⟩
  ·show (i + j) / 2 - i < j - i
   omega
  ·have := hmono ((i + j) / 2) a hkl ha (by dsimp only at ha2; omega)
   omega
  ·dsimp only
   exact (congrArg (fun n : Int => LV.le (vint .i64 n) (.av (int (((i + j) / 2 : Nat) : Int)))) hmid).mpr (Tq)
theorem zkj (l : List Unt) (hl : l.length <= 1000000000000) (hr : xh l) (id : Int) (st : Store) (R : AV -> Store -> Prop)
  (h : ∀ i, isAt l id i -> ∀ z : Bool, (z = true ↔ ∃ hi : i < l.length, l[i].id = id) -> R (.tup [int (i : Nat), V.bool z]) st) : ACalls Tryz.prog 75 [lst 10 untC l, int id] st R := by
 refine ACalls.of_body (c := cfg 11) ze Tryz.func75 (by rfl) (by rfl) (by rfl) (by rfl) ?_
 exact zot l hl hr id _ _ fun i hi z hz => ret (h i hi z hz)
theorem zt8 {F S : Store} {p : Nat} {l : List Ent} (hc : CellsOf F p l) (hd : Disj F S) (hl : l.length <= 1000000000) (hok : ∀ e ∈ l, e.2.ok) (id : Int) (pos : Vc) (hpos : pos.ok) (R : AV -> Store -> Prop)
  (h : ∀ F', CellsOf F' p (yc l id ++ [(id, pos)]) -> Disj F' S -> R (.tup []) (F'.un S)) : ACalls Tryz.prog 69 [ptr p, int id, .agg (vecC pos)] (F.un S) R :=
 ACalls.frame (R := fun r a' => r = .tup [] /\ CellsOf a' p (yc l id ++ [(id, pos)])) hd (zc6 hc hl hok id pos hpos _ fun a' ha' => ⟨rfl, ha'⟩) fun r a' ⟨h1, h2⟩ hd' => h1 ▸ h a' h2 hd'
theorem zty {F S : Store} {p : Nat} {l : List Ent} (hc : CellsOf F p l) (hd : Disj F S) (hl : l.length <= 1000000000) (hok : ∀ e ∈ l, e.2.ok) {q : Vc} (hq : q.ok) {r : Int} (hr : yu r) (R : AV -> Store -> Prop)
  (h : ∀ F' N v ns, CellsOf F' p l -> Disj F' N -> Disj F' S -> Disj N S -> Ints N v ns -> zet l q r ns -> R v ((F'.un N).un S)) : ACalls Tryz.prog 99 [ptr p, .agg (vecC q), int r] (F.un S) R :=
 ACalls.frame (R := fun v a' => ∃ F' N ns, a' = F'.un N /\ CellsOf F' p l /\ Disj F' N /\ Ints N v ns /\ zet l q r ns) hd (zbp hc hl hok hq hr _ fun F' N v ns h1 h2 h3 h4 => ⟨F', N, ns, rfl, h1, h2, h3, h4⟩)
  fun v a' ⟨F', N, ns, h1, h2, h3, h4, h5⟩ hd' => by subst h1; exact h F' N v ns h2 h3 (disj_un.1 hd').1 (disj_un.1 hd').2 h4 h5
def stC (w : Wld) (o0 o1 o2 : AV) (p : Nat) : List AV := wldC w ++ [o0, o1, o2, ptr p]
def stS (s : Nat) (w : Wld) (o0 o1 o2 : AV) (p : Nat) : Store := Store.empty.setObj s (.cells (stC w o0 o1 o2 p))
def opOK (w : Wld) (c : Int) (o : AV) : Prop := o = .s (.slice none 0 0) \/ o = opV w.G w.B c
/-- A stand: who stands in its cells. -/
structure StandAt (F : Store) (s p : Nat) (w : Wld) (L : List Ent) (o0 o1 o2 : AV) : Prop where
 hc : CellsOf F p L
 hd : Disj F (stS s w o0 o1 o2 p)
 h0 : opOK w 0 o0
 h1 : opOK w 1 o1
 h2 : opOK w 2 o2
theorem x3 (s : Nat) (w : Wld) (o0 o1 o2 : AV) (p : Nat) : (stS s w o0 o1 o2 p).obj s = some (.cells (stC w o0 o1 o2 p)) := zb _ _ _
theorem stS_has {s : Nat} {w : Wld} {o0 o1 o2 : AV} {p i : Nat} : (stS s w o0 o1 o2 p).has i ↔ i = s := by
 unfold Store.has stS
 constructor
 ·rintro (h | h)
  ·apply Decidable.byContradiction
   intro hn
   rw [zc hn] at h
   exact h rfl
  ·exact absurd rfl h
 ·rintro rfl
  exact .inl (by rw [zb]; simp)
theorem zc3 {F : Store} {s : Nat} {w : Wld} {o0 o1 o2 q0 q1 q2 : AV} {p : Nat} (h : Disj F (stS s w o0 o1 o2 p)) : Disj F (stS s w q0 q1 q2 p) := fun i h1 h2 => h i h1 (stS_has.2 (stS_has.1 h2))
theorem ziv {l : List Unt} (hr : xh l) {a b : Nat} (hab : a < b) (hb : b < l.length) : (l[a]'(by omega)).id < l[b].id := by
 induction b with
 | zero => omega
 | succ b ih =>
  have h3 := hr (b + 1) hb (by omega)
  simp only [Nat.add_sub_cancel] at h3
  by_cases e : a = b
  ·subst e; exact h3
  ·have := ih (by omega) (by omega)
   omega
theorem zi5 (w : Wld) (hU : w.U.length <= 1000000) (hn : ∀ u ∈ w.U, u.pos.ok) (R : AV -> Store -> Prop)
  (h : ∀ F s p L o0 o1 o2, StandAt F s p w L o0 o1 o2 -> L.length <= w.U.length -> (xh w.U -> ∀ e, e ∈ L ↔ ∃ u ∈ w.U, u.inn = 0 /\ e = (u.id, u.pos)) -> R (ptr s) (F.un (stS s w o0 o1 o2 p))) : ACalls Tryz.prog 46 [.agg (wldC w)] Store.empty R := by
 refine ACalls.of_body (c := cfg 31 [9] []) ze Tryz.func46 (by rfl) (by rfl) (by rfl) (by rfl) ?_
 refine ADraw.of_sched ze (by rfl) (by rfl) zsc (by rfl) ?_
 refine ⟨zc8 _ (fun F p hc => ⟨(by repeat (first | exact Tv | refine ⟨rfl, ?_⟩ | refine ⟨optR (optR (optR (za _ (zb _ _ _) rfl))), ?_⟩)), ?_⟩), Tv⟩
 refine ⟨fun s hs => ⟨Tv, ?_⟩, Tv⟩
 refine ⟨⟨Tv, ?_⟩, Tv⟩
 have e0 : F.setObj s (.cells (stC w (.s (.slice none 0 0)) (.s (.slice none 0 0)) (.s (.slice none 0 0)) p)) = F.un (stS s w (.s (.slice none 0 0)) (.s (.slice none 0 0)) (.s (.slice none 0 0)) p) := by
  exact zu F Store.empty s _
 have h0 : StandAt F s p w [] (.s (.slice none 0 0)) (.s (.slice none 0 0)) (.s (.slice none 0 0)) := ⟨hc, fun i h1 h2 => by
  have := stS_has.1 h2
  subst this
  exact (fresh_iff.1 hs) h1, .inl rfl, .inl rfl, .inl rfl⟩
 refine AWp.loop (σ := Nat × Store × List Ent) ⟨fun q => [(3, .av (ptr s)), (11, .av (lst 10 untC w.U)), (12, .av (int (w.U.length : Nat))), (13, .av (int (q.1 : Nat)))], fun _ => [],
  fun q st' => st' = q.2.1.un (stS s w (.s (.slice none 0 0)) (.s (.slice none 0 0)) (.s (.slice none 0 0)) p) /\ StandAt q.2.1 s p w q.2.2 (.s (.slice none 0 0)) (.s (.slice none 0 0)) (.s (.slice none 0 0)) /\ q.1 <= w.U.length /\ q.2.2.length <= q.1 /\ (∀ e ∈ q.2.2, e.2.ok) /\ (xh w.U -> ∀ e, e ∈ q.2.2 ↔ ∃ u ∈ w.U.take q.1, u.inn = 0 /\ e = (u.id, u.pos)), fun q => w.U.length - q.1⟩ ze ?_ ?_
 ·refine ⟨(0, F, []), Tv, ⟨e0, h0, Nat.zero_le _, Nat.le_refl _, fun e he => (by cases he), fun _ e => (by simp)⟩, ⟨Tq, Tq, ?_, Tq, Tv⟩, Tv⟩
  rw [<- zk (f := untC) w.U]; exact Tq
 rintro ⟨i, F1, L⟩ st' ⟨rfl, hS, hi, hL, hok, hmem⟩
 dsimp only at hS hi hL hok hmem ⊢
 refine bcd (fun h1 => ?_) (fun h1 => ?_)
 rotate_left
 ·have : i = w.U.length := by omega
  subst this
  rw [List.take_length] at hmem
  exact ret (h F1 s p L _ _ _ hS hL hmem)
 have hlt : i < w.U.length := by omega
 refine ⟨i, rfl, za _ (z6 hlt) ?_⟩
 have hn2 := hn w.U[i] (List.getElem_mem hlt)
 refine bceq (fun c1 => ?_) (fun c1 => ?_)
 ·refine ADraw.of_sched ze (by rfl) (by rfl) zsb (by rfl) ?_
  refine za (o := (F1.un (stS s w _ _ _ p)).obj s) _ (un_r (x3 s w _ _ _ p)) ?_
  refine ⟨zt8 hS.hc hS.hd (by omega) hok w.U[i].id w.U[i].pos hn2 _ (fun F2 h2 h3 => ⟨Tv, ?_⟩), Tv⟩
  have hlen : (yc L w.U[i].id ++ [(w.U[i].id, w.U[i].pos)]).length <= i + 1 := by
   rw [List.length_append]
   have : (yc L w.U[i].id).length <= L.length := List.length_filter_le _ _
   simp only [List.length_singleton]; omega
  refine in64 (by omega) ?_
  refine ⟨(i + 1, F2, _), ?_, ⟨rfl, ⟨h2, h3, .inl rfl, .inl rfl, .inl rfl⟩, by dsimp only; omega, hlen, fun e he => ?_, fun hr e => ?_⟩, ⟨Tq, Tq, Tq, Tq, Tv⟩, Tv⟩
  ·show w.U.length - (i + 1) < w.U.length - i
   omega
  ·rcases List.mem_append.1 he with he | he
   ·exact hok e (mem_dropId.1 he).1
   ·simp at he; subst he; exact hn2
  ·dsimp only
   rw [List.take_succ_eq_append_getElem hlt, List.mem_append, mem_dropId, hmem hr e]
   constructor
   ·rintro (⟨⟨u, hu, h4⟩, _⟩ | he)
    ·exact ⟨u, List.mem_append.2 (.inl hu), h4⟩
    ·simp at he
     exact ⟨w.U[i], List.mem_append.2 (.inr (by simp)), c1, he⟩
   ·rintro ⟨u, hu, h4, h5⟩
    rcases List.mem_append.1 hu with hu | hu
    ·refine .inl ⟨⟨u, hu, h4, h5⟩, ?_⟩
     obtain ⟨j, hj, rfl⟩ := List.getElem_of_mem hu
     rw [List.length_take] at hj
     rw [List.getElem_take] at h5
     have := ziv hr (a := j) (b := i) (by omega) hlt
     subst h5
     show w.U[j].id ≠ w.U[i].id
     omega
    ·simp at hu
     subst hu
     exact .inr (by simp [h5])
 ·refine in64 (by omega) ?_
  refine ⟨(i + 1, F1, L), ?_, ⟨rfl, hS, by dsimp only; omega, by dsimp only; omega, hok, fun hr e => ?_⟩, ⟨Tq, Tq, Tq, Tq, Tv⟩, Tv⟩
  ·show w.U.length - (i + 1) < w.U.length - i
   omega
  ·dsimp only
   rw [hmem hr e, List.take_succ_eq_append_getElem hlt]
   constructor
   ·rintro ⟨u, hu, h3⟩; exact ⟨u, List.mem_append.2 (.inl hu), h3⟩
   ·rintro ⟨u, hu, h3, h4⟩
    rcases List.mem_append.1 hu with hu | hu
    ·exact ⟨u, hu, h3, h4⟩
    ·simp at hu
     subst hu
     exact absurd h3 c1
theorem zby {g : Gnd} (hg : gndP g) (l : List Bld) (c : Int) : ∃ x y, opV g l c = .lst 1 (x :: y) none := by
 have ha := ym hg
 unfold opV lst
 cases h : rws zbq (blL g.T.length (jf g l c)) with
 | nil =>
  have := zk (f := zbq) (blL g.T.length (jf g l c))
  rw [h, zkh] at this
  simp at this
  omega
 | cons x y => exact ⟨x, y, rfl⟩
theorem zc7 {v : AV} (h : ∃ x y, v = .lst 1 (x :: y) none) : cellsOf v = some [v] /\ v.one = true := by
 obtain ⟨x, y, rfl⟩ := h
 exact ⟨rfl, rfl⟩
theorem ze6 {F : Store} {s p : Nat} {w : Wld} {L : List Ent} {o0 o1 o2 : AV} (hS : StandAt F s p w L o0 o1 o2) (hg : gndP w.G) (hB : w.B.length <= 1000000000000) (hb : ∀ b ∈ w.B, bldP b /\ onP w.G b) (c : Int) (hc : c = 0 \/ c = 1 \/ c = 2) (R : AV -> Store -> Prop)
  (h : ∀ q0 q1 q2, StandAt F s p w L q0 q1 q2 -> R (opV w.G w.B c) (F.un (stS s w q0 q1 q2 p))) : ACalls Tryz.prog 72 [ptr s, int c] (F.un (stS s w o0 o1 o2 p)) R := by
 have ho := un_r (a := F) (x3 s w o0 o1 o2 p)
 obtain ⟨x0, y0, hne0⟩ := zby hg w.B 0
 obtain ⟨x1, y1, hne1⟩ := zby hg w.B 1
 obtain ⟨x2, y2, hne2⟩ := zby hg w.B 2
 rcases hc with rfl | rfl | rfl
 ·rcases hS.h0 with e | e
  ·subst e
   refine ACalls.of_body (c := cfg 35) ze Tryz.func72 (by rfl) (by rfl) (by rfl) (by rfl) ?_
   refine ⟨0, rfl, by decide, ?_⟩
   refine za (o := (F.un (stS s w _ _ _ p)).obj s) _ ho ?_
   refine ADraw.of_sched ze (by rfl) (by rfl) zfc (by rfl) ?_
   refine za (o := (F.un (stS s w _ _ _ p)).obj s) _ ho ?_
   refine za (o := (F.un (stS s w _ _ _ p)).obj s) _ ho ?_
   refine ⟨kr w.G hg w.B hB hb 0 _ _ ⟨Tv, ?_⟩, Tv⟩
   refine ⟨0, rfl, by decide, ?_⟩
   have ho2 := un_r (a := F) (x3 s w (opV w.G w.B 0) o1 o2 p)
   have hc2 := zc7 (zby hg w.B 0)
   refine ⟨?_, Tv⟩
   refine za _ rfl (y8 rfl (qj (v := opV w.G w.B 0) rfl rfl rfl rfl ?_))
   refine zo (i := ti59) (v := opV w.G w.B 0) (b := s) (o := 0 + 8 + 0 * ti59.size) (l := stC w _ o1 o2 p) (st2 := F.un (stS s w (opV w.G w.B 0) o1 o2 p)) hc2.1 hc2.2 rfl ho (show 8 + 1 <= 12 by decide) ?_ ?_
   ·rw [zu]
    unfold stS
    rw [zi]
    rfl
   refine ⟨Tv, ?_⟩
   refine ⟨0, rfl, by decide, ?_⟩
   refine za (o := (F.un (stS s w _ _ _ p)).obj s) _ ho2 ?_
   exact ret (h _ _ _ ⟨hS.hc, zc3 hS.hd, .inr rfl, hS.h1, hS.h2⟩)
  ·rw [hne0] at e
   subst e
   refine ACalls.of_body (c := cfg 35) ze Tryz.func72 (by rfl) (by rfl) (by rfl) (by rfl) ?_
   refine ⟨0, rfl, by decide, ?_⟩
   refine za (o := (F.un (stS s w _ _ _ p)).obj s) _ ho ?_
   refine fun bb hbb => ?_
   have hbf : bb = false := by
    cases bb with
    | true => cases hbb rfl
    | false => rfl
   subst hbf
   refine ⟨0, rfl, by decide, ?_⟩
   refine za (o := (F.un (stS s w _ _ _ p)).obj s) _ ho ?_
   refine ret ?_
   have := h _ _ _ hS
   rw [hne0] at this
   exact this
 ·rcases hS.h1 with e | e
  ·subst e
   refine ACalls.of_body (c := cfg 35) ze Tryz.func72 (by rfl) (by rfl) (by rfl) (by rfl) ?_
   refine ⟨1, rfl, by decide, ?_⟩
   refine za (o := (F.un (stS s w _ _ _ p)).obj s) _ ho ?_
   refine ADraw.of_sched ze (by rfl) (by rfl) zfc (by rfl) ?_
   refine za (o := (F.un (stS s w _ _ _ p)).obj s) _ ho ?_
   refine za (o := (F.un (stS s w _ _ _ p)).obj s) _ ho ?_
   refine ⟨kr w.G hg w.B hB hb 1 _ _ ⟨Tv, ?_⟩, Tv⟩
   refine ⟨1, rfl, by decide, ?_⟩
   have ho2 := un_r (a := F) (x3 s w o0 (opV w.G w.B 1) o2 p)
   have hc2 := zc7 (zby hg w.B 1)
   refine ⟨?_, Tv⟩
   refine za _ rfl (y8 rfl (qj (v := opV w.G w.B 1) rfl rfl rfl rfl ?_))
   refine zo (i := ti59) (v := opV w.G w.B 1) (b := s) (o := 0 + 8 + 1 * ti59.size) (l := stC w o0 _ o2 p) (st2 := F.un (stS s w o0 (opV w.G w.B 1) o2 p)) hc2.1 hc2.2 rfl ho (show 9 + 1 <= 12 by decide) ?_ ?_
   ·rw [zu]
    unfold stS
    rw [zi]
    rfl
   refine ⟨Tv, ?_⟩
   refine ⟨1, rfl, by decide, ?_⟩
   refine za (o := (F.un (stS s w _ _ _ p)).obj s) _ ho2 ?_
   exact ret (h _ _ _ ⟨hS.hc, zc3 hS.hd, hS.h0, .inr rfl, hS.h2⟩)
  ·rw [hne1] at e
   subst e
   refine ACalls.of_body (c := cfg 35) ze Tryz.func72 (by rfl) (by rfl) (by rfl) (by rfl) ?_
   refine ⟨1, rfl, by decide, ?_⟩
   refine za (o := (F.un (stS s w _ _ _ p)).obj s) _ ho ?_
   refine fun bb hbb => ?_
   have hbf : bb = false := by
    cases bb with
    | true => cases hbb rfl
    | false => rfl
   subst hbf
   refine ⟨1, rfl, by decide, ?_⟩
   refine za (o := (F.un (stS s w _ _ _ p)).obj s) _ ho ?_
   refine ret ?_
   have := h _ _ _ hS
   rw [hne1] at this
   exact this
 ·rcases hS.h2 with e | e
  ·subst e
   refine ACalls.of_body (c := cfg 35) ze Tryz.func72 (by rfl) (by rfl) (by rfl) (by rfl) ?_
   refine ⟨2, rfl, by decide, ?_⟩
   refine za (o := (F.un (stS s w _ _ _ p)).obj s) _ ho ?_
   refine ADraw.of_sched ze (by rfl) (by rfl) zfc (by rfl) ?_
   refine za (o := (F.un (stS s w _ _ _ p)).obj s) _ ho ?_
   refine za (o := (F.un (stS s w _ _ _ p)).obj s) _ ho ?_
   refine ⟨kr w.G hg w.B hB hb 2 _ _ ⟨Tv, ?_⟩, Tv⟩
   refine ⟨2, rfl, by decide, ?_⟩
   have ho2 := un_r (a := F) (x3 s w o0 o1 (opV w.G w.B 2) p)
   have hc2 := zc7 (zby hg w.B 2)
   refine ⟨?_, Tv⟩
   refine za _ rfl (y8 rfl (qj (v := opV w.G w.B 2) rfl rfl rfl rfl ?_))
   refine zo (i := ti59) (v := opV w.G w.B 2) (b := s) (o := 0 + 8 + 2 * ti59.size) (l := stC w o0 o1 _ p) (st2 := F.un (stS s w o0 o1 (opV w.G w.B 2) p)) hc2.1 hc2.2 rfl ho (show 10 + 1 <= 12 by decide) ?_ ?_
   ·rw [zu]
    unfold stS
    rw [zi]
    rfl
   refine ⟨Tv, ?_⟩
   refine ⟨2, rfl, by decide, ?_⟩
   refine za (o := (F.un (stS s w _ _ _ p)).obj s) _ ho2 ?_
   exact ret (h _ _ _ ⟨hS.hc, zc3 hS.hd, hS.h0, hS.h1, .inr rfl⟩)
  ·rw [hne2] at e
   subst e
   refine ACalls.of_body (c := cfg 35) ze Tryz.func72 (by rfl) (by rfl) (by rfl) (by rfl) ?_
   refine ⟨2, rfl, by decide, ?_⟩
   refine za (o := (F.un (stS s w _ _ _ p)).obj s) _ ho ?_
   refine fun bb hbb => ?_
   have hbf : bb = false := by
    cases bb with
    | true => cases hbb rfl
    | false => rfl
   subst hbf
   refine ⟨2, rfl, by decide, ?_⟩
   refine za (o := (F.un (stS s w _ _ _ p)).obj s) _ ho ?_
   refine ret ?_
   have := h _ _ _ hS
   rw [hne2] at this
   exact this
theorem zgx {F : Store} {s p : Nat} {w : Wld} {L : List Ent} {o0 o1 o2 : AV} (hS : StandAt F s p w L o0 o1 o2) (hr : xh w.U) (hU : w.U.length <= 1000000) (hn : ∀ u ∈ w.U, u.pos.ok) (hLl : L.length <= w.U.length) (hL : zco w L) (q : Vc) (hq : q.ok) (r : Int) (hrr : 0 < r /\ r <= 262144) (R : AV -> Store -> Prop)
  (h : ∀ F' us, StandAt F' s p w L o0 o1 o2 -> zsj w q (r + 81920) us -> us.length <= 1000000 -> R (lst 10 untC us) (F'.un (stS s w o0 o1 o2 p))) : ACalls Tryz.prog 73 [ptr s, .agg (vecC q), int r] (F.un (stS s w o0 o1 o2 p)) R := by
 have ho := un_r (a := F) (x3 s w o0 o1 o2 p)
 refine ACalls.of_body (c := cfg 47) ze Tryz.func73 (by rfl) (by rfl) (by rfl) (by rfl) ?_
 refine ADraw.of_sched ze (by rfl) (by rfl) zr3 (by rfl) ?_
 refine za (o := (F.un (stS s w _ _ _ p)).obj s) _ ho ?_
 refine in64 (by omega) ?_
 refine ⟨zty hS.hc hS.hd (by omega) (zg4 hL hn) hq (r := r + 81920) ⟨by omega, by omega⟩ _ (fun F' N v ns g1 g2 g3 g4 g5 g6 => ⟨Tv, ?_⟩), Tv⟩
 have hS' : StandAt F' s p w L o0 o1 o2 := ⟨g1, g3, hS.h0, hS.h1, hS.h2⟩
 have ho' : ((F'.un N).un (stS s w o0 o1 o2 p)).obj s = some (.cells (stC w o0 o1 o2 p)) := un_r (x3 s w o0 o1 o2 p)
 have g4' : Disj (F'.un N) (stS s w o0 o1 o2 p) := disj_un.2 ⟨g3, g4⟩
 have hv : ∃ oa cap, v = .s (.slice oa ns.length cap) /\ ∀ i, i < ns.length -> ∃ b J, oa = some ⟨b, 0, none⟩ /\ ((F'.un N).un (stS s w o0 o1 o2 p)).obj b = some (.cells (ns.map aI ++ J)) := by
  rcases x6 g5 with ⟨rfl, rfl⟩ | ⟨b, cap, J, rfl, hob, _⟩
  ·exact ⟨none, 0, rfl, fun i hi => absurd hi (Nat.not_lt_zero i)⟩
  ·exact ⟨_, cap, rfl, fun i _ => ⟨b, J, rfl, un_l g4' (un_r hob)⟩⟩
 obtain ⟨oa, cap, rfl, hget⟩ := hv
 have hnl : ns.length <= w.U.length := by
  have := List.Nodup.length_le_of_subset (l₂ := L.map (·.1)) (g6.1.imp fun h => by omega) (fun id hid => by
   obtain ⟨e, he, h2, _⟩ := (g6.2 id).1 hid
   exact List.mem_map.2 ⟨e, he, h2⟩)
  rw [List.length_map] at this
  omega
 have hfin : ∀ us : List Unt, us.map (·.id) = ns -> (∀ u ∈ us, u ∈ w.U /\ u.inn = 0) -> R (lst 10 untC us) (F'.un (stS s w o0 o1 o2 p)) := fun us e1 e2 =>
  h F' us hS' (zoe hr hL g6 e1 e2) (by
   have := congrArg List.length e1
   rw [List.length_map] at this
   omega)
 have hback := zjp (S := stS s w o0 o1 o2 p) g2
 generalize (F'.un N).un (stS s w o0 o1 o2 p) = st1 at *
 refine AWp.loop (σ := Nat × AV × List Unt) ⟨fun x => [(0, .av (ptr s)), (6, .av x.2.1), (18, .av (.s (.slice oa ns.length cap))), (19, .av (int (ns.length : Nat))), (20, .av (int (x.1 : Nat)))], fun _ => [],
  fun x st' => x.1 <= ns.length /\ App 10 st1 x.2.1 (rws untC x.2.2) st' /\ x.2.2.map (·.id) = ns.take x.1 /\ ∀ u ∈ x.2.2, u ∈ w.U /\ u.inn = 0, fun x => ns.length - x.1⟩ ze ?_ ?_
 ·exact ⟨(0, _, []), Tv, ⟨Nat.zero_le _, App.start 10 st1, rfl, fun u hu => (by cases hu)⟩, ⟨Tq, Tq, Tq, Tq, Tq, Tv⟩, Tv⟩
 rintro ⟨i, v2, us⟩ st' ⟨hi, ha, hus, hin⟩
 dsimp only at hi ha hus hin ⊢
 refine bcd (fun h1 => ?_) (fun h1 => ?_)
 rotate_left
 ·have : i = ns.length := by omega
  subst this
  rw [List.take_length] at hus
  exact ⟨_, _, AV.le_trans ha.le (Tt), ha.has.trans hback, hfin us hus hin⟩
 have hlt : i < ns.length := by omega
 obtain ⟨b, J, rfl, hob⟩ := hget i hlt
 have hob' : st'.obj b = some (.cells (ns.map aI ++ J)) := by rw [ha.obj]; exact hob
 have hos : st'.obj s = some (.cells (stC w o0 o1 o2 p)) := by rw [ha.obj]; exact ho'
 refine ⟨i, rfl, hlt, ?_⟩
 refine za (o := st'.obj b) _ hob' ?_
 refine za (o := List.head? _) (int ns[i]) (by
  rw [List.head?_drop, show 0 + i * ti3.size = i from by show 0 + i * 1 = i; omega, List.getElem?_append_left (by simpa using hlt), List.getElem?_map, List.getElem?_eq_getElem hlt]; rfl) ?_
 refine za (o := st'.obj s) _ hos ?_
 refine zkj w.U (by omega) hr ns[i] _ _ (fun k hk z hz => ?_)
 obtain ⟨e, he, hid, _⟩ := (g6.2 ns[i]).1 (List.getElem_mem hlt)
 obtain ⟨u, hu, hu0, rfl⟩ := (hL e).1 he
 have hfound : ∃ hk2 : k < w.U.length, w.U[k].id = ns[i] := by
  obtain ⟨j, hj, rfl⟩ := List.getElem_of_mem hu
  have h5 : j >= k := Decidable.byContradiction fun hn2 => by
   have := hk.2.1 j hj (by omega)
   have h6 : (w.U[j]).id = ns[i] := hid
   omega
  have h7 : k < w.U.length := by omega
  refine ⟨h7, ?_⟩
  have h8 := hk.2.2 k h7 (Nat.le_refl _)
  have h6 : (w.U[j]).id = ns[i] := hid
  by_cases e : k = j
  ·subst e; exact h6
  ·have := x4 hr (show k < j by omega) hj
   omega
 obtain ⟨hk2, hk3⟩ := hfound
 refine za (o := st'.obj s) _ hos ?_
 refine ⟨k, rfl, za _ (z6 hk2) ?_⟩
 refine ⟨by decide, ?_⟩
 have hul : us.length = i := by
  have := congrArg List.length hus
  rw [List.length_map, List.length_take] at this
  omega
 refine ja (ie := ti47) (rows' := [untC w.U[k]]) ha ?_ ?_ ⟨?_, ?_⟩ (fun v3 st3 ha3 => ?_)
 ·rfl
 ·rfl
 ·simp only [zk, List.length_singleton, ti47]; omega
 ·simp only [zk, List.length_singleton]; omega
 refine in64 (by omega) ?_
 have huk : w.U[k] = u := xw hr (List.getElem_mem hk2) hu (by rw [hk3]; exact hid.symm)
 refine ⟨(i + 1, v3, us ++ [w.U[k]]), ?_, ⟨by dsimp only; omega, ?_, ?_, fun u2 hu2 => ?_⟩, ⟨Tq, Tq, Tq, Tq, Tq, Tv⟩, Tv⟩
 ·show ns.length - (i + 1) < ns.length - i
  omega
 ·dsimp only
  unfold rws at ha3 ⊢
  rw [List.map_append]
  exact ha3
 ·dsimp only
  rw [List.map_append, hus, List.take_succ_eq_append_getElem hlt]
  simp [hk3]
 ·rcases List.mem_append.1 hu2 with h9 | h9
  ·exact hin u2 h9
  ·simp at h9
   subst h9
   rw [huk]
   exact ⟨hu, hu0⟩
theorem zfa {F : Store} {s p : Nat} {w : Wld} {L : List Ent} {o0 o1 o2 : AV} (hS : StandAt F s p w L o0 o1 o2) (hg : gndP w.G) (hB : w.B.length <= 1000000000000) (hb : ∀ b ∈ w.B, bldP b /\ onP w.G b) (hr : xh w.U) (hU : w.U.length <= 1000000) (hn : ∀ u ∈ w.U, u.pos.ok) (hLl : L.length <= w.U.length) (hL : zco w L)
  (id k : Int) (q : Vc) (hq : q.ok) (R : AV -> Store -> Prop)
  (h : ∀ z F' q0 q1 q2, (z = true ↔ xn w id k q) -> StandAt F' s p w L q0 q1 q2 -> R (V.bool z) (F'.un (stS s w q0 q1 q2 p))) : ACalls Tryz.prog 47 [ptr s, int id, int k, .agg (vecC q)] (F.un (stS s w o0 o1 o2 p)) R := by
 have ho := un_r (a := F) (x3 s w o0 o1 o2 p)
 have hk := zjh k
 have hc := ztr k
 refine ACalls.of_body (c := cfg 56) ze Tryz.func47 (by rfl) (by rfl) (by rfl) (by rfl) ?_
 refine ji k _ _ ?_
 refine ADraw.of_sched ze (by rfl) (by rfl) zsa (by rfl) ?_
 refine za (o := (F.un (stS s w _ _ _ p)).obj s) _ ho ?_
 refine ⟨ze6 hS hg hB hb (kCls k) hc _ (fun a0 a1 a2 hS1 => ⟨?_, ?_⟩), Tv⟩
 ·have ho1 := un_r (a := F) (x3 s w a0 a1 a2 p)
  repeat (first | exact Tv | refine ⟨rfl, ?_⟩ | refine ⟨za (o := (F.un (stS s w a0 a1 a2 p)).obj s) _ ho1 rfl, ?_⟩)
 refine ⟨zjy w.G hg w.B (kCls k) q hq (kRad k) ⟨hk.1, by omega⟩ _ _ (fun z hz => ⟨Tv, ?_⟩), Tv⟩
 refine j5 ?_
 refine zf (fun c1 => ?_) (fun c1 => ret (h false _ _ _ _ (by simp only [Bool.false_eq_true, false_iff]; exact fun hh => by have := hz.2 hh.1; rw [this] at c1; cases c1) hS1))
 have hfree := hz.1 c1
 refine zgx hS1 hr hU hn hLl hL q hq (kRad k) ⟨hk.1, by omega⟩ _ (fun F' us hS2 hus hul => ?_)
 have hci := zkb (id := id) hfree hus
 have no : ¬ xn w id k q -> R (V.bool false) (F'.un (stS s w a0 a1 a2 p)) := fun hh => h false _ _ _ _ (by simp only [Bool.false_eq_true, false_iff]; exact hh) hS2
 refine AWp.loop (σ := Nat) ⟨fun i => [(1, .av (int id)), (7, .bx 7 0), (9, .bx 9 0), (32, .av (lst 10 untC us)), (33, .av (int (us.length : Nat))), (34, .av (int (i : Nat)))], fun _ => [(7, vecC q), (9, zsn k)],
  fun i st' => st' = F'.un (stS s w a0 a1 a2 p) /\ i <= us.length /\ ∀ j, (hj : j < us.length) -> j < i -> us[j].id ≠ id -> zbb q (kRad k) us[j].pos (kRad us[j].kind) = true, fun i => us.length - i⟩ ze ?_ ?_
 ·refine ⟨0, Tv, ⟨rfl, Nat.zero_le _, fun j _ hj => by omega⟩, ⟨Tq, Tq, Tq, Tq, ?_, Tq, Tv⟩, ⟨rfl, rfl, Tv⟩⟩
  rw [<- zk (f := untC) us]; exact Tq
 rintro i st' ⟨rfl, hi, hall⟩
 refine bcd (fun h1 => ?_) (fun h1 => ?_)
 rotate_left
 ·refine ret (h true _ _ _ _ (by
   simp only [true_iff]
   refine hci.2 fun u hu hne => ?_
   obtain ⟨j, hj, rfl⟩ := List.getElem_of_mem hu
   exact hall j hj (by omega) hne) hS2)
 have hlt : i < us.length := by omega
 have hui := (hus us[i]).1 (List.getElem_mem hlt)
 have next : (us[i].id ≠ id -> zbb q (kRad k) us[i].pos (kRad us[i].kind) = true) -> ∀ j, (hj : j < us.length) -> j < i + 1 -> us[j].id ≠ id -> zbb q (kRad k) us[j].pos (kRad us[j].kind) = true := fun hh j hj hji => by
  by_cases e : j = i
  ·subst e; exact hh
  ·exact hall j hj (by omega)
 refine ⟨i, rfl, za _ (z6 hlt) ?_⟩
 refine ADraw.of_sched ze (by rfl) (by rfl) zr9 (by rfl) ?_
 refine bcne (fun c2 => ?_) (fun c2 => ?_)
 ·refine ⟨ji us[i].kind _ _ ⟨(by repeat (first | exact Tv | refine ⟨rfl, ?_⟩ | refine ⟨optR (optR (optR (za _ (zb _ _ _) rfl))), ?_⟩)), ?_⟩, Tv⟩
  have hk2 := zjh us[i].kind
  refine ⟨zhz q (kRad k) us[i].pos (kRad us[i].kind) hq (hn _ hui.1.1) ⟨hk.1, by omega⟩ ⟨hk2.1, by omega⟩ _ _ ⟨Tv, ?_⟩, Tv⟩
  refine j5 ?_
  refine zf (fun c3 => ?_) (fun c3 => ?_)
  ·refine in64 (by omega) ?_
   refine ⟨i + 1, ?_, ⟨rfl, by omega, next fun _ => c3⟩, ⟨Tq, Tq, Tq, Tq, Tq, Tq, Tv⟩, ⟨rfl, rfl, Tv⟩⟩
   show us.length - (i + 1) < us.length - i
   omega
  ·refine ret (no fun hh => ?_)
   have := hci.1 hh us[i] (List.getElem_mem hlt) c2
   rw [this] at c3; cases c3
 ·refine ⟨⟨(by repeat (first | exact Tv | refine ⟨rfl, ?_⟩ | refine ⟨optR (optR (optR (za _ (zb _ _ _) rfl))), ?_⟩)), ?_⟩, Tv⟩
  refine ⟨⟨Tv, ?_⟩, Tv⟩
  refine in64 (by omega) ?_
  refine ⟨i + 1, ?_, ⟨rfl, by omega, next fun hne => absurd c2 hne⟩, ⟨Tq, Tq, Tq, Tq, Tq, Tq, Tv⟩, ⟨rfl, rfl, Tv⟩⟩
  show us.length - (i + 1) < us.length - i
  omega
theorem isT' {R : AV -> Store -> Prop} {b : Bool} {st : Store} (h : R (V.bool b) st) (hb : b = true) : R (V.bool true) st := by rw [hb] at h; exact h
theorem zd9 (w : Wld) (b : Bld) (p : Nat) (st : Store) (hp : st.obj p = some (.cells (wldC w))) (R : AV -> Store -> Prop) (h : R (V.bool (decide (b.owner > w.players \/ b.id >= w.next))) st) :
  ACalls Tryz.prog 65 ([.agg (bldC b)] ++ [ptr p]) st R := by
 refine ACalls.of_body (c := cfg 16) ze Tryz.func65 (by rfl) (by rfl) (by rfl) (by rfl) ?_
 refine za _ hp ?_
 refine bcd (fun c1 => ret (isT' h (decide_eq_true (.inl c1)))) (fun c1 => ?_)
 refine za _ hp ?_
 refine ret ?_
 have e : decide (b.owner > w.players \/ b.id >= w.next) = decide (b.id >= w.next) := by
  rw [Bool.eq_iff_iff, decide_eq_true_iff, decide_eq_true_iff]; omega
 rw [e] at h
 exact h
set_option maxRecDepth 10000 in
theorem zhi (w : Wld) (hw : w.fits) (st : Store) (R : AV -> Store -> Prop) (h : ∀ z : Bool, (z = true ↔ zjo w) -> R (V.bool z) st) : ACalls Tryz.prog 44 [.agg (wldC w)] st R := by
 obtain ⟨hw1, hw2, hw3⟩ := hw
 refine ACalls.of_body (c := cfg 54 [1] []) ze Tryz.func44 (by rfl) (by rfl) (by rfl) (by rfl) ?_
 intro p hp
 have ho : (st.setObj p (.cells (wldC w))).obj p = some (.cells (wldC w)) := zb _ _ _
 have nof : ¬ zjo w -> ∃ r st', AV.le (V.bool false) r /\ (st.setObj p (.cells (wldC w))).Has st' /\ R r st' := fun hn => wb (Tt) (xb hp.1) (h false (by simp only [Bool.false_eq_true, false_iff]; exact hn))
 refine za _ ho ?_
 refine bcd (fun c1 => nof fun q => by have := q.1; omega) (fun c1 => ?_)
 refine za _ ho ?_
 refine bcd (fun c2 => nof fun q => by have := q.1; omega) (fun c2 => ?_)
 refine za _ ho ?_
 refine bcd (fun c3 => nof fun q => by have := q.1; omega) (fun c3 => ?_)
 refine za _ ho ?_
 refine bcd (fun c4 => nof fun q => by have := q.1; omega) (fun c4 => ?_)
 refine za _ ho ?_
 refine bcd (fun c5 => nof fun q => by have := q.1; omega) (fun c5 => ?_)
 refine za _ ho ?_
 refine bcd (fun c6 => nof fun q => by have := q.1; omega) (fun c6 => ?_)
 refine za _ ho ?_
 refine zbk w.G hw1 _ _ (fun z hz => ?_)
 refine j5 ?_
 refine zf (fun c7 => ?_) (fun c7 => nof fun q => by have := hz.2 q.2.1.1; rw [this] at c7; cases c7)
 have hg := hz.1 c7
 refine za _ ho ?_
 refine za _ ho ?_
 refine zc9 w.G hg w.B hw2 _ _ (fun z hz => ?_)
 refine j5 ?_
 refine zf (fun c8 => ?_) (fun c8 => nof fun q => by have := hz.2 q.2.1.2.1; rw [this] at c8; cases c8)
 have hb := hz.1 c8
 refine za _ ho ?_
 have hUl : ((rws untC w.U).length : Int) = (w.U.length : Int) := by rw [zk]
 refine bcd (fun c9 => nof fun q => by have := q.2.1.2.2; omega) (fun c9 => ?_)
 refine za _ ho ?_
 refine wz w.B hw2 _ _ (fun b => decide (b.owner > w.players \/ b.id >= w.next)) _ (fun b hb R h => zd9 w b p _ ho R h) _ ?_
 refine wb (Tt) (xb hp.1) (h _ ?_)
 rw [Bool.not_eq_true', List.any_eq_false]
 constructor
 ·intro hh
  refine ⟨by omega, ⟨hg, hb, by omega⟩, fun b hb2 => ?_⟩
  have := hh b hb2
  rw [decide_eq_true_iff] at this
  omega
 ·intro hh b hb2
  have := hh.2.2 b hb2
  rw [decide_eq_true_iff]
  omega
end Go.Proofs
