/- The ground on which laws of thronglaw31 are proved: contracts of functions and plain lemmas; no condition beyond the row's own. -/
import Derived.Test.YtlidamnkhidljaaGreatKI
import Derived.Test.YtlidamnkhidljaaGreatKN
import Derived.Test.YtlidamnkhidljaaGreatKH
set_option linter.unusedSimpArgs false
set_option linter.unusedVariables false
namespace Go.Proofs
open Go Go.V
set_option maxRecDepth 4000
theorem zif (l : List Int) (hl : l.length <= 1000000000000) (n : Int) (st : Store) (R : AV -> Store -> Prop) (h : ∀ z : Int, (z < 0 ↔ ¬ n ∈ l) -> R (int z) st) : ACalls Tryz.prog 16 [ints l, int n] st R := by
 refine ACalls.of_body (c := cfg 19) zd Tryz.func16 (by rfl) (by rfl) (by rfl) (by rfl) ?_
 refine AWp.loop (σ := Nat) ⟨fun i => [(0, .av (ints l)), (1, .av (int n)), (5, .av (int (i : Nat)))], fun _ => [], fun i st' => st' = st /\ i <= l.length /\ ∀ j (hj : j < i) (hl : j < l.length), n ≠ l[j], fun i => l.length - i⟩ zd ?_ ?_
 ·exact ⟨0, Tv, ⟨rfl, Nat.zero_le _, fun j hj => (by omega)⟩, ⟨Tq, Tq, Tq, Tv⟩, Tv⟩
 rintro i st' ⟨rfl, hi, hno⟩
 refine ze (fun h1 => ?_) (fun h1 => ?_)
 ·have hlt : i < l.length := ql h1
  refine ⟨i, rfl, za _ (zg hlt) ?_⟩
  refine bceq (fun h2 => ?_) (fun h2 => ?_)
  ·refine ret (h _ ⟨fun hh => (by omega), fun hh => absurd ?_ hh⟩)
   have h2 : l[i] = n := h2
   exact h2 ▸ List.getElem_mem hlt
  ·refine ⟨⟨by omega, by omega⟩, ?_⟩
   refine ⟨i + 1, ?_, ⟨rfl, hlt, fun j hj hl => ?_⟩, ⟨Tq, Tq, Tq, Tv⟩, Tv⟩
   ·show l.length - (i + 1) < l.length - i
    omega
   ·by_cases hji : j = i
    ·subst hji; exact fun e => h2 e.symm
    ·exact hno j (by omega) hl
 ·have hge : i = l.length := xq h1 hi
  subst hge
  refine ret (h (-1) ⟨fun _ hm => ?_, fun _ => by decide⟩)
  obtain ⟨j, hj, e⟩ := List.getElem_of_mem hm
  exact hno j hj hj e.symm
theorem zl4 (n : Nat) (p : Nat -> Bool) : cntN n p <= n := by
 unfold cntN
 have := List.countP_le_length (p := p) (l := List.range n)
 simpa using this
theorem zvf {w : Wld} (hm : mayP w) {u : Unt} (hu : u ∈ w.U) : (0 <= u.pos.1 /\ u.pos.1 < w.G.W * 65536) /\ (0 <= u.pos.2 /\ u.pos.2 < w.G.H * 65536) := by
 obtain ⟨i, hi, rfl⟩ := List.getElem_of_mem hu
 by_cases h0 : w.U[i].inn = 0
 ·exact zhm hm hi h0
 ·obtain ⟨x, _, _, _, _, _, hp, _⟩ := hm.2.2 _ hu h0
  have hg := (mayF hm).hg
  have := hg.1
  have := hg.2.1
  rw [hp]
  refine ⟨⟨by decide, ?_⟩, ⟨by decide, ?_⟩⟩
  ·show (0 : Int) < _; omega
  ·show (0 : Int) < _; omega
set_option maxHeartbeats 8000000 in
set_option maxRecDepth 20000 in
theorem zb9 (l : List Wld) (hl : l.length <= 140737488355328) (hn : ∀ w ∈ l, ∀ u ∈ w.U, u.pos.ok) (st : Store) (R : AV -> Store -> Prop) (h : R (V.bool true) st) : ACalls Tryz.prog 4 [wsC l] st R := by
 refine ACalls.of_body (c := cfg 183) zd Tryz.func4 (by rfl) (by rfl) (by rfl) (by rfl) ?_
 refine AWp.loop (σ := Nat) ⟨fun i => [(0, .av (wsC l)), (3, .av (int (i : Nat)))], fun _ => [], fun i st' => st'.Has st /\ i <= l.length, fun i => l.length - i⟩ zd ?_ ?_
 ·exact ⟨0, Tv, ⟨Store.Has.refl _, Nat.zero_le _⟩, ⟨Tq, Tq, Tv⟩, Tv⟩
 rintro i st' ⟨hst, hi⟩
 have fin : ∀ {st2 : Store}, st2.Has st -> ∃ r st', AV.le (V.bool true) r /\ st2.Has st' /\ R r st' := fun h2 => ⟨_, st, Tt, h2, h⟩
 refine ze (fun h1 => ?_) (fun h1 => zab _ _ (fin hst))
 have hlt : i < l.length := ql h1
 refine bcd (fun h2 => ?_) (fun h2 => zab _ _ (fin hst))
 have next : ∀ {st2 : Store}, st2.Has st -> ∀ {A : Fr}, LV.le (A.t 0) (.av (wsC l)) -> LV.le (A.t 3) (.av (int ((i : Nat) + 1))) -> LoopHead.at (σ := Nat) ⟨fun i => [(0, .av (wsC l)), (3, .av (int (i : Nat)))], fun _ => [], fun i st' => st'.Has st /\ i <= l.length, fun i => l.length - i⟩ A st2 fun s' => l.length - s' < l.length - i := fun hs A k0 k3 =>
  ⟨i + 1, (show l.length - (i + 1) < l.length - i by omega), ⟨hs, hlt⟩, ⟨k0, k3, Tv⟩, Tv⟩
 refine ⟨i, rfl, za _ (zg hlt) ?_⟩
 have hp := hn _ (List.getElem_mem hlt)
 generalize l[i] = w at *
 refine zbw w _ _ (fun z hz => ?_)
 refine ze (fun c1 => ?_) (fun c1 => ?_)
 ·refine in64 (by omega) ?_
  exact next hst (Tq) (Tq)
 have hng : ¬ zhs w := fun hh => by rw [hz.2 hh] at c1; cases c1
 unfold zhs at hng
 have hfit : w.fits := ⟨by unfold Gnd.fits; omega, by omega, by omega⟩
 refine zkj w hfit hp _ _ (fun y hy => ?_)
 refine y5 (ze (fun c2 => ?_) (fun c2 => ?_))
 rotate_left
 ·refine in64 (by omega) ?_
  exact next hst (Tq) (Tq)
 have hm := hy.1 c2
 refine zfh w hfit hp _ _ (fun hno => absurd hm hno) (fun _ => ?_)
 refine zc0 _ _ _ ?_
 have fm := mayF hm
 have hT := fm.hT
 have hUU := fm.hU
 have hBB := fm.hB
 obtain ⟨⟨hW1, hW2⟩, ⟨hH1, hH2⟩, hTT, _⟩ := fm.hg
 obtain ⟨Wn, hWn⟩ : ∃ n : Nat, w.G.W = (n : Int) := ⟨w.G.W.toNat, by omega⟩
 obtain ⟨Hn, hHn⟩ : ∃ n : Nat, w.G.H = (n : Int) := ⟨w.G.H.toNat, by omega⟩
 have hTn : w.G.T.length = Hn * Wn := by
  rw [hWn, hHn] at hTT
  have : (w.G.T.length : Int) = ((Wn * Hn : Nat) : Int) := by rw [hTT]; simp
  rw [Nat.mul_comm]
  omega
 have hll : (z8 w).length = Hn := by unfold z8; simp [hHn]
 have hlen : ((rws jk (z8 w)).length : Int) = w.G.H := by rw [zi, hll, hHn]
 refine bcne (fun c => absurd hlen c) (fun _ => ?_)
 refine AWp.loop (σ := Nat × AV × List Int) ⟨fun k => [(0, .av (wsC l)), (3, .av (int (i : Nat))), (4, .bx 4 0), (5, .av (lst 1 jk (z8 w))), (7, .av k.2.1), (8, .av (int (k.1 : Nat)))], fun _ => [(4, wldC w)],
  fun k S => k.1 <= w.U.length /\ App 1 st' k.2.1 (rws intC k.2.2) S /\ TL w k.1 k.2.2 /\ k.2.2.length <= k.1, fun k => w.U.length - k.1⟩ zd ?_ ?_
 ·refine ⟨(0, _, []), Tv, ⟨Nat.zero_le _, App.start 1 st', ⟨List.nodup_nil, fun x => ⟨fun hx => (by cases hx), fun ⟨j, hj, h1, _⟩ => (by dsimp only at h1; omega)⟩⟩, Nat.le_refl _⟩, ⟨Tq, Tq, Tq, Tq, Tq, Tq, Tv⟩, ⟨rfl, Tv⟩⟩
 rintro ⟨k, v, T⟩ S ⟨hk0, hv, hTL, hTk⟩
 dsimp only at hk0 hv hTL hTk ⊢
 refine ze (fun d1 => ?_) (fun d1 => ?_)
 ·have hk : k < w.U.length := ql d1
  refine ADraw.of_sched zd (by rfl) (by rfl) zuk (by rfl) ?_
  refine ⟨k, rfl, za _ (zg hk) ?_⟩
  refine ⟨zp8 w.G fm.hg w.U[k].pos (zvf hm (List.getElem_mem hk)) _ _ ⟨Tv, ⟨⟨Tv, ?_⟩, Tv⟩⟩, Tv⟩
  refine ⟨k, rfl, za _ (zg hk) ?_⟩
  refine bceq (fun d2 => ?_) (fun d2 => ?_)
  rotate_left
  ·refine in64 (by omega) ?_
   exact ⟨(k + 1, v, T), (show w.U.length - (k + 1) < w.U.length - k by omega), ⟨hk, hv, zmn hTL hk (fun h0 => absurd h0 d2), by dsimp only; omega⟩, ⟨Tq, Tq, Tq, Tq, Tq, Tq, Tv⟩, ⟨rfl, Tv⟩⟩
  refine ACalls.le (ys := [ints T, int (yl w.G w.U[k].pos : Nat)]) ⟨hv.le, Tt, Tv⟩ (zif T (by omega) _ _ _ (fun z hz => ?_))
  refine bcd (fun d3 => ?_) (fun d3 => ?_)
  rotate_left
  ·refine in64 (by omega) ?_
   have hmem : ((yl w.G w.U[k].pos : Nat) : Int) ∈ T := Classical.byContradiction fun hh => d3 (hz.2 hh)
   exact ⟨(k + 1, v, T), (show w.U.length - (k + 1) < w.U.length - k by omega), ⟨hk, hv, zmn hTL hk (fun _ => hmem), by dsimp only; omega⟩, ⟨Tq, Tq, Tq, Tq, Tq, Tq, Tv⟩, ⟨rfl, Tv⟩⟩
  refine ⟨by decide, ?_⟩
  refine qu (ie := ti3) (rows' := [intC (yl w.G w.U[k].pos : Nat)]) hv rfl rfl ⟨?_, ?_⟩ (fun v2 st2 ha2 => ?_)
  ·rw [zi]; show (T.length + 1) * 8 <= _; omega
  ·rw [zi]; show T.length + 1 <= _; omega
  refine in64 (by omega) ?_
  refine ⟨(k + 1, v2, T ++ [((yl w.G w.U[k].pos : Nat) : Int)]), (show w.U.length - (k + 1) < w.U.length - k by omega), ⟨hk, ?_, zwc hTL hk d2 (hz.1 d3), by dsimp only; rw [List.length_append]; simp; omega⟩, ⟨Tq, Tq, Tq, Tq, Tq, Tq, Tv⟩, ⟨rfl, Tv⟩⟩
  rw [<- zkg]
  exact ha2
 have hkU : k = w.U.length := xq d1 hk0
 subst hkU
 have hS : S.Has st := hv.has.trans hst
 have hvl := hv.le
 have hcl := zu0 hm hTL
 have hcw := zmq hm
 clear hv hTL hst d1 hk0
 refine AWp.loop (σ := Nat × Int × Int) ⟨fun y => [(0, .av (wsC l)), (3, .av (int (i : Nat))), (4, .bx 4 0), (5, .av (lst 1 jk (z8 w))), (7, .av (ints T)), (10, .av (int y.2.1)), (11, .av (int y.2.2)), (12, .av (int (y.1 : Nat)))], fun _ => [(4, wldC w)],
  fun y S' => S' = S /\ y.1 <= Hn /\ y.2.1 = (cntN (y.1 * Wn) (fun m => x3 (y4 w 0 m)) : Nat) /\ y.2.2 = (cntN (y.1 * Wn) (fun m => decide (y4 w 0 m = 35)) : Nat), fun y => Hn - y.1⟩ zd ?_ ?_
 ·exact ⟨(0, 0, 0), Tv, ⟨rfl, Nat.zero_le _, by simp [cntN], by simp [cntN]⟩, ⟨Tq, Tq, Tq, Tq, LV.le_av hvl, Tq, Tq, Tq, Tv⟩, ⟨rfl, Tv⟩⟩
 clear hvl
 rintro ⟨y, La, Wa⟩ S' ⟨rfl, hyH, hLa, hWa⟩
 dsimp only at hyH hLa hWa ⊢
 refine ze (fun d1 => ?_) (fun d1 => ?_)
 ·have hyl : y < (z8 w).length := ql d1
  have hy2 : y < Hn := by omega
  have hyW : y * Wn + Wn <= Hn * Wn := by
   have := Nat.mul_le_mul_right Wn (show y + 1 <= Hn from hy2)
   rw [Nat.add_mul] at this
   omega
  have hly : (z8 w)[y] = zav (rowI w y) := by simp [z8]
  have hrl : (rowI w y).length = Wn := by unfold rowI; simp [hWn]
  have hsz : (((z8 w)[y]).size : Int) = w.G.W := by rw [hly, zh7, hrl, hWn]
  refine ADraw.of_sched zd (by rfl) (by rfl) zuj (by rfl) ?_
  refine ⟨y, rfl, za _ (zg hyl) ?_⟩
  refine bcne (fun c => absurd hsz c) (fun _ => ?_)
  refine AWp.loop (σ := Nat × Int × Int) ⟨fun x => [(0, .av (wsC l)), (3, .av (int (i : Nat))), (4, .bx 4 0), (5, .av (lst 1 jk (z8 w))), (7, .av (ints T)), (10, .av (int x.2.1)), (11, .av (int x.2.2)), (12, .av (int (y : Nat))), (13, .av (int (x.1 : Nat)))], fun _ => [(4, wldC w)],
   fun x S2 => S2 = S' /\ x.1 <= Wn /\ x.2.1 = (cntN (y * Wn + x.1) (fun m => x3 (y4 w 0 m)) : Nat) /\ x.2.2 = (cntN (y * Wn + x.1) (fun m => decide (y4 w 0 m = 35)) : Nat), fun x => Wn - x.1⟩ zd ?_ ?_
  ·exact ⟨(0, La, Wa), Tv, ⟨rfl, Nat.zero_le _, hLa, hWa⟩, ⟨Tq, Tq, Tq, Tq, Tq, Tq, Tq, Tq, Tq, Tv⟩, ⟨rfl, Tv⟩⟩
  clear hLa hWa
  rintro ⟨x, Lb, Wb⟩ S2 ⟨rfl, hxW, hLb, hWb⟩
  dsimp only at hxW hLb hWb ⊢
  refine ⟨y, rfl, za _ (zg hyl) ?_⟩
  refine bcd (fun d2 => ?_) (fun d2 => ?_)
  rotate_left
  ·have hxe : x = Wn := by rw [hsz, hWn] at d2; omega
   subst hxe
   refine in64 (by omega) ?_
   refine ⟨(y + 1, Lb, Wb), (show Hn - (y + 1) < Hn - y by omega), ⟨rfl, hy2, ?_, ?_⟩, ⟨Tq, Tq, Tq, Tq, Tq, Tq, Tq, Tq, Tv⟩, ⟨rfl, Tv⟩⟩
   ·dsimp only; rw [hLb, Nat.add_mul, Nat.one_mul]
   ·dsimp only; rw [hWb, Nat.add_mul, Nat.one_mul]
  have hx2 : x < Wn := by rw [hsz, hWn] at d2; omega
  have hxr : x < (rowI w y).length := by omega
  have hdr : (rowI w y)[x] = y4 w 0 (y * Wn + x) := by simp [rowI, hWn]
  have hdl := za9 hm (t := y * Wn + x) (by omega)
  obtain ⟨b, hb, hbv⟩ := zj7 hxr (by rw [hdr]; exact hdl.2.2)
  rw [hdr] at hbv
  rw [<- hly] at hb
  have kL : ∀ q : Bool, x3 ((b.toNat : Nat) : Int) = q -> (cntN (y * Wn + (x + 1)) (fun m => x3 (y4 w 0 m)) : Nat) = cntN (y * Wn + x) (fun m => x3 (y4 w 0 m)) + if q then 1 else 0 := fun q hq => by
   rw [<- Nat.add_assoc, yr, <- hbv, hq]
  have kW : ∀ q : Bool, decide (((b.toNat : Nat) : Int) = 35) = q -> (cntN (y * Wn + (x + 1)) (fun m => decide (y4 w 0 m = 35)) : Nat) = cntN (y * Wn + x) (fun m => decide (y4 w 0 m = 35)) + if q then 1 else 0 := fun q hq => by
   rw [<- Nat.add_assoc, yr, <- hbv, hq]
  refine ⟨y, rfl, za _ (zg hyl) ?_⟩
  refine ⟨x, rfl, za b hb ?_⟩
  have bL := zl4 (y * Wn + x) (fun m => x3 (y4 w 0 m))
  have bW := zl4 (y * Wn + x) (fun m => decide (y4 w 0 m = 35))
  refine bceq (fun e0 => ?_) (fun e0 => ?_)
  ·have e0 : ((b.toNat : Nat) : Int) = 115 := e0
   have hq : x3 ((b.toNat : Nat) : Int) = true := by rw [e0]; rfl
   have hw5 : decide (((b.toNat : Nat) : Int) = 35) = false := by rw [e0]; rfl
   refine in64 (by omega) ?_
   refine bceq (fun e9 => ?_) (fun e9 => ?_)
   ·exfalso; have e9 : ((b.toNat : Nat) : Int) = 35 := e9; omega
   refine in64 (by omega) ?_
   exact ⟨(x + 1, Lb + 1, Wb), (show Wn - (x + 1) < Wn - x by omega), ⟨rfl, hx2, by dsimp only; rw [kL true hq, hLb]; simp, by dsimp only; rw [kW false hw5, hWb]; simp⟩, ⟨Tq, Tq, Tq, Tq, Tq, Tq, Tq, Tq, Tq, Tv⟩, ⟨rfl, Tv⟩⟩
  refine bceq (fun e1 => ?_) (fun e1 => ?_)
  ·have e1 : ((b.toNat : Nat) : Int) = 119 := e1
   have hq : x3 ((b.toNat : Nat) : Int) = true := by rw [e1]; rfl
   have hw5 : decide (((b.toNat : Nat) : Int) = 35) = false := by rw [e1]; rfl
   refine in64 (by omega) ?_
   refine bceq (fun e9 => ?_) (fun e9 => ?_)
   ·exfalso; have e9 : ((b.toNat : Nat) : Int) = 35 := e9; omega
   refine in64 (by omega) ?_
   exact ⟨(x + 1, Lb + 1, Wb), (show Wn - (x + 1) < Wn - x by omega), ⟨rfl, hx2, by dsimp only; rw [kL true hq, hLb]; simp, by dsimp only; rw [kW false hw5, hWb]; simp⟩, ⟨Tq, Tq, Tq, Tq, Tq, Tq, Tq, Tq, Tq, Tv⟩, ⟨rfl, Tv⟩⟩
  refine bceq (fun e2 => ?_) (fun e2 => ?_)
  ·have e2 : ((b.toNat : Nat) : Int) = 103 := e2
   have hq : x3 ((b.toNat : Nat) : Int) = true := by rw [e2]; rfl
   have hw5 : decide (((b.toNat : Nat) : Int) = 35) = false := by rw [e2]; rfl
   refine in64 (by omega) ?_
   refine bceq (fun e9 => ?_) (fun e9 => ?_)
   ·exfalso; have e9 : ((b.toNat : Nat) : Int) = 35 := e9; omega
   refine in64 (by omega) ?_
   exact ⟨(x + 1, Lb + 1, Wb), (show Wn - (x + 1) < Wn - x by omega), ⟨rfl, hx2, by dsimp only; rw [kL true hq, hLb]; simp, by dsimp only; rw [kW false hw5, hWb]; simp⟩, ⟨Tq, Tq, Tq, Tq, Tq, Tq, Tq, Tq, Tq, Tv⟩, ⟨rfl, Tv⟩⟩
  refine bceq (fun e3 => ?_) (fun e3 => ?_)
  ·have e3 : ((b.toNat : Nat) : Int) = 99 := e3
   have hq : x3 ((b.toNat : Nat) : Int) = true := by rw [e3]; rfl
   have hw5 : decide (((b.toNat : Nat) : Int) = 35) = false := by rw [e3]; rfl
   refine in64 (by omega) ?_
   refine bceq (fun e9 => ?_) (fun e9 => ?_)
   ·exfalso; have e9 : ((b.toNat : Nat) : Int) = 35 := e9; omega
   refine in64 (by omega) ?_
   exact ⟨(x + 1, Lb + 1, Wb), (show Wn - (x + 1) < Wn - x by omega), ⟨rfl, hx2, by dsimp only; rw [kL true hq, hLb]; simp, by dsimp only; rw [kW false hw5, hWb]; simp⟩, ⟨Tq, Tq, Tq, Tq, Tq, Tq, Tq, Tq, Tq, Tv⟩, ⟨rfl, Tv⟩⟩
  refine bceq (fun e4 => ?_) (fun e4 => ?_)
  ·have e4 : ((b.toNat : Nat) : Int) = 83 := e4
   have hq : x3 ((b.toNat : Nat) : Int) = true := by rw [e4]; rfl
   have hw5 : decide (((b.toNat : Nat) : Int) = 35) = false := by rw [e4]; rfl
   refine in64 (by omega) ?_
   refine bceq (fun e9 => ?_) (fun e9 => ?_)
   ·exfalso; have e9 : ((b.toNat : Nat) : Int) = 35 := e9; omega
   refine in64 (by omega) ?_
   exact ⟨(x + 1, Lb + 1, Wb), (show Wn - (x + 1) < Wn - x by omega), ⟨rfl, hx2, by dsimp only; rw [kL true hq, hLb]; simp, by dsimp only; rw [kW false hw5, hWb]; simp⟩, ⟨Tq, Tq, Tq, Tq, Tq, Tq, Tq, Tq, Tq, Tv⟩, ⟨rfl, Tv⟩⟩
  refine bceq (fun e5 => ?_) (fun e5 => ?_)
  ·have e5 : ((b.toNat : Nat) : Int) = 87 := e5
   have hq : x3 ((b.toNat : Nat) : Int) = true := by rw [e5]; rfl
   have hw5 : decide (((b.toNat : Nat) : Int) = 35) = false := by rw [e5]; rfl
   refine in64 (by omega) ?_
   refine bceq (fun e9 => ?_) (fun e9 => ?_)
   ·exfalso; have e9 : ((b.toNat : Nat) : Int) = 35 := e9; omega
   refine in64 (by omega) ?_
   exact ⟨(x + 1, Lb + 1, Wb), (show Wn - (x + 1) < Wn - x by omega), ⟨rfl, hx2, by dsimp only; rw [kL true hq, hLb]; simp, by dsimp only; rw [kW false hw5, hWb]; simp⟩, ⟨Tq, Tq, Tq, Tq, Tq, Tq, Tq, Tq, Tq, Tv⟩, ⟨rfl, Tv⟩⟩
  refine bceq (fun e6 => ?_) (fun e6 => ?_)
  ·have e6 : ((b.toNat : Nat) : Int) = 71 := e6
   have hq : x3 ((b.toNat : Nat) : Int) = true := by rw [e6]; rfl
   have hw5 : decide (((b.toNat : Nat) : Int) = 35) = false := by rw [e6]; rfl
   refine in64 (by omega) ?_
   refine bceq (fun e9 => ?_) (fun e9 => ?_)
   ·exfalso; have e9 : ((b.toNat : Nat) : Int) = 35 := e9; omega
   refine in64 (by omega) ?_
   exact ⟨(x + 1, Lb + 1, Wb), (show Wn - (x + 1) < Wn - x by omega), ⟨rfl, hx2, by dsimp only; rw [kL true hq, hLb]; simp, by dsimp only; rw [kW false hw5, hWb]; simp⟩, ⟨Tq, Tq, Tq, Tq, Tq, Tq, Tq, Tq, Tq, Tv⟩, ⟨rfl, Tv⟩⟩
  refine bceq (fun e7 => ?_) (fun e7 => ?_)
  ·have e7 : ((b.toNat : Nat) : Int) = 67 := e7
   have hq : x3 ((b.toNat : Nat) : Int) = true := by rw [e7]; rfl
   have hw5 : decide (((b.toNat : Nat) : Int) = 35) = false := by rw [e7]; rfl
   refine in64 (by omega) ?_
   refine bceq (fun e9 => ?_) (fun e9 => ?_)
   ·exfalso; have e9 : ((b.toNat : Nat) : Int) = 35 := e9; omega
   refine in64 (by omega) ?_
   exact ⟨(x + 1, Lb + 1, Wb), (show Wn - (x + 1) < Wn - x by omega), ⟨rfl, hx2, by dsimp only; rw [kL true hq, hLb]; simp, by dsimp only; rw [kW false hw5, hWb]; simp⟩, ⟨Tq, Tq, Tq, Tq, Tq, Tq, Tq, Tq, Tq, Tv⟩, ⟨rfl, Tv⟩⟩
  have hq : x3 ((b.toNat : Nat) : Int) = false := by
   unfold x3
   rw [beq_false_of_ne e0, beq_false_of_ne e1, beq_false_of_ne e2, beq_false_of_ne e3, beq_false_of_ne e4, beq_false_of_ne e5, beq_false_of_ne e6, beq_false_of_ne e7]
   rfl
  refine bceq (fun e9 => ?_) (fun e9 => ?_)
  ·have hw5 : decide (((b.toNat : Nat) : Int) = 35) = true := decide_eq_true e9
   refine in64 (by omega) ?_
   refine in64 (by omega) ?_
   exact ⟨(x + 1, Lb, Wb + 1), (show Wn - (x + 1) < Wn - x by omega), ⟨rfl, hx2, by dsimp only; rw [kL false hq, hLb]; simp, by dsimp only; rw [kW true hw5, hWb]; simp⟩, ⟨Tq, Tq, Tq, Tq, Tq, Tq, Tq, Tq, Tq, Tv⟩, ⟨rfl, Tv⟩⟩
  ·have hw5 : decide (((b.toNat : Nat) : Int) = 35) = false := decide_eq_false e9
   refine in64 (by omega) ?_
   exact ⟨(x + 1, Lb, Wb), (show Wn - (x + 1) < Wn - x by omega), ⟨rfl, hx2, by dsimp only; rw [kL false hq, hLb]; simp, by dsimp only; rw [kW false hw5, hWb]; simp⟩, ⟨Tq, Tq, Tq, Tq, Tq, Tq, Tq, Tq, Tq, Tv⟩, ⟨rfl, Tv⟩⟩
 have hyH2 : y = Hn := by have := xq d1 (by omega); omega
 subst hyH2
 rw [<- hTn] at hLa hWa
 rw [hcl] at hLa
 rw [hcw] at hWa
 have hwb : ∀ m, m <= w.B.length -> 0 <= whI (w.B.take m) /\ whI (w.B.take m) <= 16 * m := by
  intro m
  induction m with
  | zero => intro _; simp [whI]
  | succ m ih =>
   intro hm2
   have h3 := ih (by omega)
   have hlt3 : m < w.B.length := by omega
   rw [List.take_succ_eq_append_getElem hlt3, zhc]
   obtain ⟨_, _, hw3, hh3⟩ := (fm.hb _ (List.getElem_mem hlt3)).1
   have h4 := Int.mul_le_mul hw3.2 hh3.2 (by omega) (by decide)
   have h5 := Int.mul_nonneg (show 0 <= w.B[m].w by omega) (show 0 <= w.B[m].h by omega)
   omega
 refine AWp.loop (σ := Nat × Int) ⟨fun k => [(0, .av (wsC l)), (3, .av (int (i : Nat))), (4, .bx 4 0), (7, .av (ints T)), (10, .av (int La)), (11, .av (int k.2)), (15, .av (int (k.1 : Nat)))], fun _ => [(4, wldC w)],
  fun k S2 => S2 = S' /\ k.1 <= w.B.length /\ k.2 = Wa - whI (w.B.take k.1), fun k => w.B.length - k.1⟩ zd ?_ ?_
 ·exact ⟨(0, Wa), Tv, ⟨rfl, Nat.zero_le _, by simp [whI]⟩, ⟨Tq, Tq, Tq, Tq, Tq, Tq, Tq, Tv⟩, ⟨rfl, Tv⟩⟩
 rintro ⟨k, Wk⟩ S2 ⟨rfl, hkB, hWk⟩
 dsimp only at hkB hWk ⊢
 have hwall := hwb w.B.length (Nat.le_refl _)
 rw [List.take_length] at hwall
 refine ze (fun g1 => ?_) (fun g1 => ?_)
 ·have hk : k < w.B.length := ql g1
  have h3 := hwb k (by omega)
  obtain ⟨_, _, hw3, hh3⟩ := (fm.hb _ (List.getElem_mem hk)).1
  have h4 := Int.mul_le_mul hw3.2 hh3.2 (by omega) (by decide)
  have h5 := Int.mul_nonneg (show 0 <= w.B[k].w by omega) (show 0 <= w.B[k].h by omega)
  have h6 : whI (w.B.take (k + 1)) = whI (w.B.take k) + w.B[k].w * w.B[k].h := by rw [List.take_succ_eq_append_getElem hk, zhc]
  refine ADraw.of_sched zd (by rfl) (by rfl) zui (by rfl) ?_
  refine ⟨k, rfl, za _ (zg hk) ?_⟩
  refine ⟨k, rfl, za _ (zg hk) ?_⟩
  refine in64 (by omega) ?_
  refine in64 (by omega) ?_
  refine ⟨⟨Tv, ?_⟩, Tv⟩
  refine in64 (by omega) ?_
  exact ⟨(k + 1, _), (show w.B.length - (k + 1) < w.B.length - k by omega), ⟨rfl, hk, by dsimp only; omega⟩, ⟨Tq, Tq, Tq, Tq, Tq, Tq, Tq, Tv⟩, ⟨rfl, Tv⟩⟩
 have hkB2 : k = w.B.length := xq g1 hkB
 subst hkB2
 rw [List.take_length] at hWk
 have hLT : La = ((rws intC T).length : Int) := by rw [zi, hLa]
 have hW0 : Wk = 0 := by omega
 refine bcne (fun g2 => absurd hLT g2) (fun _ => ?_)
 refine bcne (fun g3 => absurd hW0 g3) (fun _ => ?_)
 refine in64 (by omega) ?_
 exact next hS (Tq) (Tq)
end Go.Proofs
