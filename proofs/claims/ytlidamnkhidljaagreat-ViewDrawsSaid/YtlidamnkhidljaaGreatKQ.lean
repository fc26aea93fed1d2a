/- The ground on which laws of thronglaw31 are proved: contracts of functions and plain lemmas; no condition beyond the row's own. -/
import Derived.Test.YtlidamnkhidljaaGreatKP
import Derived.Test.YtlidamnkhidljaaGreatKI
import Derived.Test.YtlidamnkhidljaaGreatKH
set_option linter.unusedSimpArgs false
set_option linter.unusedVariables false
namespace Go.Proofs
open Go Go.V
set_option maxRecDepth 4000
theorem zb0 (w : Wld) (hf : w.fits) (hn : ∀ u ∈ w.U, u.pos.ok) (st : Store) (R : AV -> Store -> Prop) (hno : ¬ mayP w -> R (.tup [nil, int 1]) st) (hok : mayP w -> R (.tup [lst 1 qv (z8 w), int 0]) st) : ACalls Tryz.prog 10 [.agg (wldC w)] st R :=
 zux (zqm w hf hn) st R fun r h => by
  rcases h with ⟨h1, rfl⟩ | ⟨h1, rfl⟩
  ·exact hno h1
  ·exact hok h1
theorem zuz {k : Int} (h : x7 k) : ∃ (m : Nat) (b : UInt8), k = m /\ (⟨#[115, 119, 103, 99]⟩ : ByteArray)[m]? = some b /\ ((b.toNat : Nat) : Int) = kindL.getD k.toNat 0 /\ IntKind.u8.wrap (IntKind.u8.wrap (((b.toNat : Nat) : Int) - 97) + 65) = kindL.getD k.toNat 0 - 32 := by
 have hk4 : k = 0 \/ k = 1 \/ k = 2 \/ k = 3 := by unfold x7 at h; omega
 rcases hk4 with rfl | rfl | rfl | rfl
 ·exact ⟨0, 115, rfl, rfl, rfl, by decide⟩
 ·exact ⟨1, 119, rfl, rfl, rfl, by decide⟩
 ·exact ⟨2, 103, rfl, rfl, rfl, by decide⟩
 ·exact ⟨3, 99, rfl, rfl, rfl, by decide⟩
set_option maxHeartbeats 4000000 in
set_option maxRecDepth 20000 in
theorem zkt (w : Wld) (hm : mayP w) : ACalls Tryz.prog 8 [.agg (wldC w)] Store.empty fun r _ => r = lst 1 qv (z8 w) := by
 have fm := mayF hm
 have hT := fm.hT
 have hUU := fm.hU
 have ha := zz fm.hg
 have hTl : ((rws u8C w.G.T).length : Int) = (w.G.T.length : Int) := by rw [zh]
 refine ACalls.of_awp (c := cfg 100) zc Tryz.func8 (by rfl) (by rfl) (by rfl) (by rfl) ?_
 refine AWp.seq (AWp.of_vc zc ?_)
 refine AWp.seq (AWp.of_vc zc ?_)
 refine v6 w.G fm.hg w.B (by have := fm.hB; omega) fm.hb _ _ (fun bc hfc => ?_)
 have tc : (Store.empty.setObj bc (.cells (bl w.G.T.length (covB w.G w.B)))).obj bc = _ := zb _ _ _
 generalize Store.empty.setObj bc (.cells (bl w.G.T.length (covB w.G w.B))) = S at *
 refine AWp.seq (AWp.of_vc zc ?_)
 refine km rfl (it := ti24) (ie := ti5) rfl rfl rfl rfl rfl (n := w.G.T.length) ?_ ?_ (fun bb hfb => ?_)
 ·show 1 * _ <= _; omega
 ·omega
 rw [zj6, zhl w]
 have nbc : bb ≠ bc := Ne.symm (fne hfb tc)
 have sc : (S.setObj bb (.cells (ul w.G.T.length (yd w 0)))).obj bc = _ := (ze (Ne.symm nbc)).trans tc
 have sb : (S.setObj bb (.cells (ul w.G.T.length (yd w 0)))).obj bb = _ := zb _ _ _
 clear tc hfb hfc
 generalize S.setObj bb (.cells (ul w.G.T.length (yd w 0))) = S1 at *
 refine AWp.seq (AWp.seq (AWp.of_vc zc ?_))
 refine AWp.of_vc zc ?_
 refine AWp.loop (σ := Nat) ⟨fun t => [(1, .bx 1 0), (3, .av (blV bc w.G.T.length)), (4, .av (.s (.slice (some ⟨bb, 0, none⟩) w.G.T.length w.G.T.length))), (5, .av (int (t : Nat)))], fun _ => [(1, wldC w)],
  fun t S' => t <= w.G.T.length /\ S'.obj bc = some (.cells (bl w.G.T.length (covB w.G w.B))) /\ S'.obj bb = some (.cells (ul w.G.T.length (yd w t))), fun t => w.G.T.length - t⟩ zc ?_ ?_
 ·exact ⟨0, Tv, ⟨Nat.zero_le _, sc, sb⟩, ⟨Tq, Tq, Tq, Tq, Tv⟩, ⟨rfl, Tv⟩⟩
 clear sc sb
 rintro t S' ⟨hi, tc, tb⟩
 refine bcd (fun h1 => ?_) (fun h1 => ?_)
 ·have hlt : t < w.G.T.length := by omega
  obtain ⟨ch, hc, hcv⟩ := zj9 (m := (w.G.T[t]).toNat) (by have := fm.hg.2.2.2 _ (List.getElem_mem hlt); omega)
  have htS : zdk w t = if covB w.G w.B t then 35 else ((ch.toNat : Nat) : Int) := by
   unfold zdk
   rw [hcv, List.getD_eq_getElem?_getD (l := w.G.T), List.getElem?_eq_getElem hlt]
   rfl
  have hbh := zmf (f := covB w.G w.B) hlt
  refine ⟨t, rfl, za _ (zg hlt) ?_⟩
  refine ⟨(w.G.T[t]).toNat, rfl, za ch hc ?_⟩
  refine ⟨t, rfl, hlt, ?_⟩
  refine zm (i := ti5) (v := .s (.int .u8 ((ch.toNat : Nat) : Int))) (b := bb) (o := 0 + t * 1) (l := ul w.G.T.length (yd w t)) (st2 := S'.setObj bb (.cells (ul w.G.T.length (updN (yd w t) t ((ch.toNat : Nat) : Int))))) rfl rfl rfl tb (by rw [vp]; omega) (by rw [show 0 + t * 1 = t by omega, zcq hlt]) ?_
  have sc : (S'.setObj bb (.cells (ul w.G.T.length (updN (yd w t) t ((ch.toNat : Nat) : Int))))).obj bc = _ := (ze (Ne.symm nbc)).trans tc
  have sb : (S'.setObj bb (.cells (ul w.G.T.length (updN (yd w t) t ((ch.toNat : Nat) : Int))))).obj bb = _ := zb _ _ _
  clear tc tb
  generalize S'.setObj bb (.cells (ul w.G.T.length (updN (yd w t) t ((ch.toNat : Nat) : Int)))) = S5 at *
  refine ⟨t, rfl, hlt, ?_⟩
  refine za (o := S5.obj bc) _ sc ?_
  refine za _ hbh ?_
  refine zd (fun d1 => ?_) (fun d1 => ?_)
  ·rw [if_pos d1] at htS
   refine ⟨t, rfl, hlt, ?_⟩
   refine zm (i := ti5) (v := .s (.int .u8 35)) (b := bb) (o := 0 + t * 1) (l := ul w.G.T.length (updN (yd w t) t ((ch.toNat : Nat) : Int))) (st2 := S5.setObj bb (.cells (ul w.G.T.length (yd w (t + 1))))) rfl rfl rfl sb (by rw [vp]; omega) (by rw [show 0 + t * 1 = t by omega, zcq hlt, zco, jf, htS]) ?_
   refine in64 (by omega) ?_
   exact ⟨t + 1, (show w.G.T.length - (t + 1) < w.G.T.length - t by omega), ⟨hlt, (ze (Ne.symm nbc)).trans sc, zb _ _ _⟩, ⟨Tq, Tq, Tq, Tq, Tv⟩, ⟨rfl, Tv⟩⟩
  ·rw [if_neg (by rw [d1]; decide)] at htS
   refine in64 (by omega) ?_
   exact ⟨t + 1, (show w.G.T.length - (t + 1) < w.G.T.length - t by omega), ⟨hlt, sc, by rw [jf, htS]; exact sb⟩, ⟨Tq, Tq, Tq, Tq, Tv⟩, ⟨rfl, Tv⟩⟩
 have : t = w.G.T.length := by omega
 subst this
 rw [zhm, <- zfn w] at tb
 clear tc h1 hi nbc
 refine AWp.seq (AWp.seq (AWp.of_vc zc ?_))
 refine in64 (by rw [zh]; have := fm.hU; omega) ?_
 refine AWp.of_vc zc ?_
 refine AWp.loop (σ := Nat × Int) ⟨fun k => [(1, .bx 1 0), (4, .av (.s (.slice (some ⟨bb, 0, none⟩) w.G.T.length w.G.T.length))), (6, .av (int k.2))], fun _ => [(1, wldC w)],
  fun k S' => k.1 <= w.U.length /\ k.2 = (k.1 : Int) - 1 /\ S'.obj bb = some (.cells (ul w.G.T.length (k0 w k.1))), fun k => k.1⟩ zc ?_ ?_
 ·exact ⟨(w.U.length, _), Tv, ⟨Nat.le_refl _, by rw [zh], tb⟩, ⟨Tq, Tq, Tq, Tv⟩, ⟨rfl, Tv⟩⟩
 clear tb
 rintro ⟨k1, j⟩ S2 ⟨hi, hj, tb⟩
 dsimp only at hi hj tb ⊢
 subst hj
 refine bcd (fun c1 => ?_) (fun c1 => ?_)
 ·obtain ⟨k, rfl⟩ : ∃ k, k1 = k + 1 := ⟨k1 - 1, by omega⟩
  have hk : k < w.U.length := by omega
  have hdr := zhz hk
  have hjk : (((k + 1 : Nat) : Int) - 1) - 1 = (k : Int) - 1 := by omega
  refine ⟨k, by omega, za _ (zg hk) ?_⟩
  refine bcne (fun d1 => ?_) (fun d1 => ?_)
  ·have d1 : ¬ w.U[k].inn = 0 := d1
   rw [if_neg d1] at hdr
   refine in64 (by omega) ?_
   rw [hjk]
   exact ⟨(k, _), (show k < k + 1 by omega), ⟨by dsimp only; omega, rfl, by dsimp only; rw [hdr]; exact tb⟩, ⟨Tq, Tq, Tq, Tv⟩, ⟨rfl, Tv⟩⟩
  have d1 : w.U[k].inn = 0 := d1
  rw [if_pos d1] at hdr
  have hown := zq6 hm hk d1
  obtain ⟨m, ch, hkm, hch, hcv, hcw⟩ := zuz (fm.hk _ (List.getElem_mem hk))
  refine ⟨m, hkm, za ch hch ?_⟩
  have hsg : zen w.U[k] = if w.U[k].goal = -1 then ((ch.toNat : Nat) : Int) else IntKind.u8.wrap (IntKind.u8.wrap (((ch.toNat : Nat) : Int) - 97) + 65) := by
   unfold zen
   rw [hcv, <- hcv, hcw, hcv]
  refine bcne (fun d2 => ?_) (fun d2 => ?_)
  all_goals
   first | rw [if_neg d2] at hsg | rw [if_pos d2] at hsg
   rw [hsg] at hdr
   refine zp8 w.G fm.hg w.U[k].pos (zk0 hm hk d1) _ _ ?_
   refine ⟨qk w.G w.U[k].pos, rfl, hown, ?_⟩
   refine zm (i := ti5) (b := bb) (o := 0 + qk w.G w.U[k].pos * 1) (l := ul w.G.T.length (k0 w (k + 1))) (st2 := S2.setObj bb (.cells (ul w.G.T.length (k0 w k)))) rfl rfl rfl tb (by rw [vp]; omega) (by rw [show 0 + qk w.G w.U[k].pos * 1 = qk w.G w.U[k].pos by omega, zcq hown, hdr]) ?_
   refine in64 (by omega) ?_
   rw [hjk]
   exact ⟨(k, _), (show k < k + 1 by omega), ⟨by dsimp only; omega, rfl, zb _ _ _⟩, ⟨Tq, Tq, Tq, Tv⟩, ⟨rfl, Tv⟩⟩
 have : k1 = 0 := by omega
 subst this
 clear c1 hi
 obtain ⟨⟨hW1, hW2⟩, ⟨hH1, hH2⟩, hTT, _⟩ := fm.hg
 obtain ⟨Wn, hWn⟩ : ∃ n : Nat, w.G.W = (n : Int) := ⟨w.G.W.toNat, by omega⟩
 obtain ⟨Hn, hHn⟩ : ∃ n : Nat, w.G.H = (n : Int) := ⟨w.G.H.toNat, by omega⟩
 have hTn : w.G.T.length = Hn * Wn := by
  rw [hWn, hHn] at hTT
  have : (w.G.T.length : Int) = ((Wn * Hn : Nat) : Int) := by rw [hTT]; simp
  rw [Nat.mul_comm]
  omega
 have hll : (z8 w).length = Hn := by unfold z8; simp [hHn]
 refine AWp.seq (AWp.of_vc zc ?_)
 refine AWp.seq (AWp.seq (AWp.of_vc zc ?_))
 refine AWp.of_vc zc ?_
 refine AWp.loop (σ := Nat × AV) ⟨fun k => [(1, .bx 1 0), (4, .av (.s (.slice (some ⟨bb, 0, none⟩) w.G.T.length w.G.T.length))), (9, .av k.2), (10, .av (int (k.1 : Nat)))], fun _ => [(1, wldC w)],
  fun k S' => k.1 <= Hn /\ App 1 S2 k.2 (rws qv ((z8 w).take k.1)) S', fun k => Hn - k.1⟩ zc ?_ ?_
 ·exact ⟨(0, _), Tv, ⟨Nat.zero_le _, App.start 1 S2⟩, ⟨Tq, Tq, Tq, Tq, Tv⟩, ⟨rfl, Tv⟩⟩
 rintro ⟨k, v⟩ S3 ⟨hi, hv⟩
 dsimp only at hi hv ⊢
 have tb := hv.has.obj _ _ tb
 refine bcd (fun c1 => ?_) (fun c1 => ?_)
 rotate_left
 ·have : k = Hn := by omega
  subst this
  rw [<- hll, List.take_length] at hv
  refine AWp.of_vc zc ?_
  exact ⟨_, _, hv.le, Store.Has.refl _, rfl⟩
 have hk : k < Hn := by omega
 have hkW : k * Wn + Wn <= w.G.T.length := by
  have := Nat.mul_le_mul_right Wn (show k + 1 <= Hn from hk)
  rw [Nat.add_mul] at this
  omega
 have e1 : (k : Int) * w.G.W = ((k * Wn : Nat) : Int) := by rw [hWn]; simp
 have e2 : ((k : Int) + 1) * w.G.W = ((k * Wn + Wn : Nat) : Int) := by rw [hWn, Int.add_mul, Int.one_mul]; simp
 refine in64 (by rw [e1]; omega) ?_
 refine in64 (by omega) ?_
 refine in64 (by rw [e2]; omega) ?_
 rw [e1, e2]
 refine ⟨k * Wn, k * Wn + Wn, rfl, rfl, by omega, hkW, .inl ⟨by omega, ?_⟩⟩
 rw [show k * Wn + Wn - k * Wn = Wn by omega]
 have hrow : ((ul w.G.T.length (k0 w 0)).drop (0 + k * Wn * 1)).take Wn = kk (rowI w k) := by
  rw [zq3 hkW]
  unfold rowI
  rw [hWn, Int.toNat_natCast]
 refine zh3 rfl (is := ti24) (ie := ti5) (it := ti9) rfl rfl rfl rfl rfl rfl rfl tb (by unfold rowI; simp [hWn]) hrow ?_
 refine ⟨by decide, ?_⟩
 have hkl : k < (z8 w).length := by omega
 have hlk : (z8 w)[k] = zdl (rowI w k) := by simp [z8]
 have hrl : (rws qv ((z8 w).take k)).length = k := by rw [zh, List.length_take]; omega
 refine yq (ie := ti9) (rows' := [qv (zdl (rowI w k))]) hv rfl rfl ⟨?_, ?_⟩ (fun v2 st2 ha2 => ?_)
 ·rw [hrl]; show (k + 1) * 16 <= _; omega
 ·rw [hrl]; show k + 1 <= _; omega
 refine in64 (by omega) ?_
 refine ⟨(k + 1, v2), (show Hn - (k + 1) < Hn - k by omega), ⟨hk, ?_⟩, ⟨Tq, Tq, Tq, Tq, Tv⟩, ⟨rfl, Tv⟩⟩
 rw [<- vw hkl, hlk]
 exact ha2
theorem zis (w : Wld) (hm : mayP w) (st : Store) (R : AV -> Store -> Prop) (h : R (lst 1 qv (z8 w)) st) : ACalls Tryz.prog 8 [.agg (wldC w)] st R :=
 zux (zkt w hm) st R fun r e => e ▸ h
theorem wo (e : Int) (st : Store) (R : AV -> Store -> Prop) (h : R (int e) st) : ACalls Tryz.prog 11 [int e] st R := by
 refine ACalls.of_body (c := cfg 4) zc Tryz.func11 (by rfl) (by rfl) (by rfl) (by rfl) ?_
 exact ret h
theorem zpn (s : ByteArray) : (s == s) = true := by
 rw [zka]
 simp
theorem k9 (l : List ByteArray) (hl : l.length <= 1000000) (st : Store) (R : AV -> Store -> Prop) (h : R (V.bool true) st) : ACalls Tryz.prog 12 [lst 1 qv l, lst 1 qv l] st R := by
 refine ACalls.of_body (c := cfg 26) zc Tryz.func12 (by rfl) (by rfl) (by rfl) (by rfl) ?_
 refine bcne (fun c => absurd rfl c) (fun _ => ?_)
 refine AWp.loop (σ := Nat) ⟨fun i => [(0, .av (lst 1 qv l)), (1, .av (lst 1 qv l)), (5, .av (int (i : Nat)))], fun _ => [], fun i st' => st' = st /\ i <= l.length, fun i => l.length - i⟩ zc ?_ ?_
 ·exact ⟨0, Tv, ⟨rfl, Nat.zero_le _⟩, ⟨Tq, Tq, Tq, Tv⟩, Tv⟩
 rintro i st' ⟨rfl, hi⟩
 refine zd (fun h1 => ?_) (fun h1 => ret h)
 have hlt : i < l.length := y6 h1
 refine ADraw.of_sched zc (by rfl) (by rfl) zuq (by rfl) ?_
 refine ⟨i, rfl, za _ (zg hlt) ?_⟩
 refine ⟨i, rfl, za _ (zg hlt) ?_⟩
 refine y4 (zd (fun _ => ?_) (fun e => absurd (zpn l[i]) (by rw [e]; decide)))
 refine in64 (by omega) ?_
 exact ⟨i + 1, (show l.length - (i + 1) < l.length - i by omega), ⟨rfl, hlt⟩, ⟨Tq, Tq, Tq, Tv⟩, Tv⟩
def vW0 : Wld := ⟨0, 1, 1, ⟨1, 1, [0]⟩, [], []⟩
theorem zrb : mayP vW0 := by decide +kernel
theorem zj4 : z8 vW0 = [⟨#[46]⟩] := by decide +kernel
theorem w9 (st : Store) (R : AV -> Store -> Prop) (h : R (V.bool true) st) : ACalls Tryz.prog 14 [] st R := by
 refine ACalls.of_body (c := cfg 24) zc Tryz.func14 (by rfl) (by rfl) (by rfl) (by rfl) ?_
 refine ⟨by decide, ?_⟩
 refine ACalls.le (ys := [.agg (wldC vW0)]) ⟨?_, Tv⟩ (zb0 vW0 ⟨by unfold Gnd.fits; decide, by decide, by decide⟩ (fun u hu => by cases hu) _ _ (fun hno => absurd zrb hno) (fun _ => ?_))
 ·exact AV.le_aggL ⟨Tt, Tt, Tt, Tt, Tt, Tt, AV.le_nil 6, AV.le_nil 10, Tv⟩
 rw [zj4]
 refine wo _ _ _ ?_
 refine ⟨0, rfl, za _ rfl ?_⟩
 exact ret h
set_option maxHeartbeats 4000000 in
set_option maxRecDepth 20000 in
theorem zdg (l : List Wld) (hl : l.length <= 140737488355328) (hn : ∀ w ∈ l, ∀ u ∈ w.U, u.pos.ok) (st : Store) (R : AV -> Store -> Prop) (h : R (V.bool true) st) : ACalls Tryz.prog 3 [wsC l] st R := by
 refine ACalls.of_body (c := cfg 64) zc Tryz.func3 (by rfl) (by rfl) (by rfl) (by rfl) ?_
 refine AWp.loop (σ := Nat) ⟨fun i => [(0, .av (wsC l)), (3, .av (int (i : Nat)))], fun _ => [], fun i st' => st' = st /\ i <= l.length, fun i => l.length - i⟩ zc ?_ ?_
 ·exact ⟨0, Tv, ⟨rfl, Nat.zero_le _⟩, ⟨Tq, Tq, Tv⟩, Tv⟩
 rintro i st' ⟨rfl, hi⟩
 refine zd (fun h1 => ?_) (fun h1 => w9 _ _ (ret h))
 have hlt : i < l.length := y6 h1
 refine bcd (fun h2 => ?_) (fun h2 => w9 _ _ (ret h))
 refine ⟨i, rfl, za _ (zg hlt) ?_⟩
 refine zbu l[i] _ _ (fun z hz => ?_)
 refine zd (fun c1 => ret h) (fun c1 => ?_)
 have hng : ¬ zhy l[i] := fun hh => by rw [hz.2 hh] at c1; cases c1
 unfold zhy at hng
 have hfit : l[i].fits := ⟨by unfold Gnd.fits; omega, by omega, by omega⟩
 have hp := hn _ (List.getElem_mem hlt)
 refine ⟨i, rfl, za _ (zg hlt) ?_⟩
 refine zkm l[i] hfit hp _ _ (fun y hy => ?_)
 refine zd (fun c2 => ?_) (fun c2 => ?_)
 ·have hm := hy.1 c2
  refine ⟨i, rfl, za _ (zg hlt) ?_⟩
  refine zis l[i] hm _ _ ?_
  refine ⟨i, rfl, za _ (zg hlt) ?_⟩
  refine va l[i] hfit _ _ ?_
  refine zb0 l[i] hfit hp _ _ (fun hno => absurd hm hno) (fun _ => ?_)
  have hll : (z8 l[i]).length <= 1000000 := by
   unfold z8
   have := (mayF hm).hg.2.1
   simp
   omega
  refine ADraw.of_sched zc (by rfl) (by rfl) zkj (by rfl) ?_
  refine ⟨wo _ _ _ ⟨Tv, ?_⟩, Tv⟩
  refine ⟨k9 (z8 l[i]) hll _ _ ⟨Tv, ?_⟩, Tv⟩
  refine ⟨i, rfl, za _ (zg hlt) ?_⟩
  refine ⟨zap l[i] hfit _ _ ⟨Tv, ?_⟩, Tv⟩
  refine in64 (by omega) ?_
  exact ⟨i + 1, (show l.length - (i + 1) < l.length - i by omega), ⟨rfl, hlt⟩, ⟨Tq, Tq, Tv⟩, Tv⟩
 ·have hno : ¬ mayP l[i] := fun hh => by rw [hy.2 hh] at c2; cases c2
  refine ⟨i, rfl, za _ (zg hlt) ?_⟩
  refine va l[i] hfit _ _ ?_
  refine zb0 l[i] hfit hp _ _ (fun _ => ?_) (fun hm => absurd hm hno)
  refine ADraw.of_sched zc (by rfl) (by rfl) zkj (by rfl) ?_
  refine ⟨wo _ _ _ ⟨Tv, ?_⟩, Tv⟩
  refine ⟨ACalls.le (ys := [lst 1 qv [], lst 1 qv []]) ⟨AV.le_nil 1, AV.le_nil 1, Tv⟩ (k9 [] (by decide) _ _ ⟨Tv, ?_⟩), Tv⟩
  refine ⟨i, rfl, za _ (zg hlt) ?_⟩
  refine ⟨zap l[i] hfit _ _ ⟨Tv, ?_⟩, Tv⟩
  refine in64 (by omega) ?_
  exact ⟨i + 1, (show l.length - (i + 1) < l.length - i by omega), ⟨rfl, hlt⟩, ⟨Tq, Tq, Tv⟩, Tv⟩
end Go.Proofs
