/- The ground on which laws of thronglaw31 are proved: contracts of functions and plain lemmas; no condition beyond the row's own. -/
import Derived.Test.YtlidamnkhidljaaGreatKF
import Derived.Test.YtlidamnkhidljaaGreatKM
import Derived.Test.YtlidamnkhidljaaGreatKI
import Derived.Test.YtlidamnkhidljaaGreatKK
import Derived.Test.YtlidamnkhidljaaGreatKH
set_option linter.unusedSimpArgs false
set_option linter.unusedVariables false
namespace Go.Proofs
open Go Go.V
set_option maxRecDepth 4000
def cntO (cs : List (Int × Int)) (bs : List Nat) (clk : Nat) : AObj := .map (cs.map (entI int)) bs clk
def cntV (m : Nat) : AV := .s (.map (some m))
set_option maxHeartbeats 1000000 in
theorem zff (w : Wld) (hU : w.U.length <= 1000000) (hr : xh w.U) (st : Store) (R : AV -> Store -> Prop) (h : ∀ z : Bool, (z = true ↔ ∀ u ∈ w.U, u.inn ≠ 0 -> zbj w u) -> R (V.bool z) st) : ACalls Tryz.prog 48 [.agg (wldC w)] st R := by
 refine ACalls.of_body (c := cfg 85) ze Tryz.func48 (by rfl) (by rfl) (by rfl) (by rfl) ?_
 refine xo rfl (fun m hm => ?_)
 have hhas : ∀ x, (st.setObj m x).Has st := fun x => xb hm.1
 have nof : ∀ x, ¬ (∀ u ∈ w.U, u.inn ≠ 0 -> zbj w u) -> ∃ r st', AV.le (V.bool false) r /\ (st.setObj m x).Has st' /\ R r st' := fun x hn => wb (Tt) (hhas x) (h false (by simp only [Bool.false_eq_true, false_iff]; exact hn))
 refine AWp.loop (σ := Nat × List (Int × Int) × List Nat × Nat) ⟨fun x => [(1, .bx 1 0), (3, .av (cntV m)), (11, .av (lst 10 untC w.U)), (12, .av (int (w.U.length : Nat))), (13, .av (int (x.1 : Nat)))], fun _ => [(1, wldC w)],
  fun x st' => x.1 <= w.U.length /\ st' = st.setObj m (cntO x.2.1 x.2.2.1 x.2.2.2) /\ (∀ id, id ≠ 0 -> (getI x.2.1 id).getD 0 = ((inOf (w.U.take x.1) id).length : Int)) /\ ziw w x.1, fun x => w.U.length - x.1⟩ ze ?_ ?_
 ·refine ⟨(0, [], [], 0), Tv, ⟨Nat.zero_le _, rfl, fun id _ => rfl, fun j _ hj => by omega, fun x _ _ => (zjg _).1⟩, ⟨Tq, Tq, Tq, ?_, Tq, Tv⟩, ⟨rfl, Tv⟩⟩
  rw [<- zk (f := untC) w.U]; exact Tq
 rintro ⟨i, cs, bs, clk⟩ st' ⟨hi, rfl, hcnt, hup⟩
 dsimp only at hi hcnt hup ⊢
 refine bcd (fun h1 => ?_) (fun h1 => ?_)
 rotate_left
 ·have : i = w.U.length := by omega
  subst this
  exact wb (Tt) (hhas _) (h true (by simp only [true_iff]; exact zg0 hup))
 have hlt : i < w.U.length := by omega
 have hui := List.getElem_mem hlt
 refine ⟨i, rfl, za _ (z6 hlt) ?_⟩
 refine bceq (fun c1 => ?_) (fun c1 => ?_)
 ·refine in64 (by omega) ?_
  refine ⟨(i + 1, cs, bs, clk), ?_, ⟨by dsimp only; omega, rfl, fun id hid => ?_, fun j hj hji hne => ?_, fun x hx hx0 => ?_⟩, ⟨Tq, Tq, Tq, Tq, Tq, Tv⟩, ⟨rfl, Tv⟩⟩
  ·show w.U.length - (i + 1) < w.U.length - i
   omega
  ·dsimp only
   rw [hcnt id hid, ju hlt, if_neg (by rw [c1]; omega)]; omega
  ·by_cases e : j = i
   ·subst e; exact absurd c1 hne
   ·exact hup.1 j hj (by dsimp only at hji; omega) hne
  ·dsimp only
   rw [ju hlt, if_neg (by rw [c1]; omega)]
   have := hup.2 x hx hx0
   omega
 refine zkj w.U (by omega) hr w.U[i].inn _ _ (fun k hk z hz => ?_)
 have nou : ∀ x, ¬ zbj w w.U[i] -> ∃ r st', AV.le (V.bool false) r /\ (st.setObj m x).Has st' /\ R r st' := fun x hn => nof x fun hh => hn (hh _ hui c1)
 have found : zbj w w.U[i] -> z = true := fun ⟨x, hx, e, _⟩ => by
  obtain ⟨j, hj, rfl⟩ := List.getElem_of_mem hx
  refine hz.2 ?_
  have h5 : j >= k := Decidable.byContradiction fun hn2 => by
   have := hk.2.1 j hj (by omega)
   omega
  have h7 : k < w.U.length := by omega
  refine ⟨h7, ?_⟩
  have h8 := hk.2.2 k h7 (Nat.le_refl _)
  by_cases e2 : k = j
  ·subst e2; exact e
  ·have := x4 hr (show k < j by omega) hj
   omega
 refine j5 ?_
 refine zf (fun c2 => ?_) (fun c2 => nou _ fun hh => by rw [found hh] at c2; cases c2)
 obtain ⟨hkl, hkid⟩ := hz.1 c2
 have uniq : zbj w w.U[i] -> (w.U[k].inn = 0 /\ w.U[k].owner = w.U[i].owner) /\ ((inOf w.U w.U[i].inn).length : Int) <= kg w.U[k].kind := fun ⟨x, hx, e, e2, e3, _⟩ => by
  have := xw hr hx (List.getElem_mem hkl) (by rw [e, hkid])
  subst this
  exact ⟨e2, e3⟩
 refine ji w.U[i].kind _ _ ?_
 refine bcd (fun c3 => nou _ fun ⟨x, _, _, _, _, e, _⟩ => by omega) (fun c3 => ?_)
 have hroom : kg w.U[i].kind = 0 := by have := zjg w.U[i].kind; omega
 refine j5 ?_
 refine zf (fun c4 => ?_) (fun c4 => nou _ fun ⟨x, _, _, _, _, _, e, _⟩ => by rw [e] at c4; cases c4)
 have hpos : w.U[i].pos = (0, 0) := by
  have : (w.U[i].pos.1 == 0 && (w.U[i].pos.2 == 0 && true)) = true := c4
  simp at this
  exact Prod.ext this.1 this.2
 refine bcne (fun c5 => nou _ fun ⟨x, _, _, _, _, _, _, e, _⟩ => c5 e) (fun c5 => ?_)
 refine bcne (fun c6 => nou _ fun ⟨x, _, _, _, _, _, _, _, e⟩ => c6 e) (fun c6 => ?_)
 refine ⟨k, rfl, za _ (z6 hkl) ?_⟩
 have hmo : (st.setObj m (cntO cs bs clk)).obj m = some (cntO cs bs clk) := zb _ _ _
 refine ye rfl (it := ti109) (ie := ti3) (ik := ti3) rfl rfl rfl rfl hmo rfl (qA w.U[k].id) (fun e he => ?_) ?_
 ·obtain ⟨e, _, rfl⟩ := List.mem_map.1 he
  rfl
 rw [zav]
 have hz0 : w.U[k].id ≠ 0 := by rw [hkid]; exact c1
 have hcv : (Option.map int (getI cs w.U[k].id)).getD (jh ti3) = int ((inOf (w.U.take i) w.U[k].id).length : Int) := by
  rw [<- hcnt _ hz0]
  cases getI cs w.U[k].id <;> rfl
 rw [hcv]
 have hcl : (inOf (w.U.take i) w.U[k].id).length <= 1000000 := by
  have h1 := zjl (l := w.U) i w.U[k].id
  have h2 : (inOf w.U w.U[k].id).length <= w.U.length := by unfold inOf; rw [List.length_map]; exact List.length_filter_le _ _
  omega
 refine in64 (by omega) ?_
 refine qa (.inl rfl) rfl (it := ti109) (ik := ti3) rfl rfl rfl (es := cs.map (entI int)) (bs := bs) (clk := clk) (k := int w.U[k].id) (v := int (((inOf (w.U.take i) w.U[k].id).length : Int) + 1)) hmo rfl rfl (qA w.U[k].id) (fun e he => ?_) (fun e1 he hq => ?_) ?_
 ·obtain ⟨e, _, rfl⟩ := List.mem_map.1 he
  rfl
 ·obtain ⟨g1, _, rfl⟩ := List.mem_map.1 he
  have : w.U[k].id = g1.1 := by simpa [qA, entI, int] using hq
  show int g1.1 = _
  rw [this]
 obtain ⟨bs', clk', hput⟩ := zau int cs bs clk w.U[k].id (((inOf (w.U.take i) w.U[k].id).length : Int) + 1)
 have hput : qp (cs.map (entI int)) bs clk (qA w.U[k].id) (int w.U[k].id) (int (((inOf (w.U.take i) w.U[k].id).length : Int) + 1)) = cntO (putI cs w.U[k].id (((inOf (w.U.take i) w.U[k].id).length : Int) + 1)) bs' clk' := hput
 rw [hput, zi]
 have hmo2 : (st.setObj m (cntO (putI cs w.U[k].id (((inOf (w.U.take i) w.U[k].id).length : Int) + 1)) bs' clk')).obj m = some (cntO (putI cs w.U[k].id (((inOf (w.U.take i) w.U[k].id).length : Int) + 1)) bs' clk') := zb _ _ _
 have hlook : vd false (jh ti3) (((putI cs w.U[k].id (((inOf (w.U.take i) w.U[k].id).length : Int) + 1)).map (entI int)).find? (qA w.U[k].id)) = int (((inOf (w.U.take i) w.U[k].id).length : Int) + 1) := by
  rw [zav, zac, if_pos rfl]; rfl
 have hsucc := ju hlt w.U[k].id
 rw [if_pos hkid.symm] at hsucc
 have hcnt2 : ∀ id, id ≠ 0 -> (getI (putI cs w.U[k].id (((inOf (w.U.take i) w.U[k].id).length : Int) + 1)) id).getD 0 = ((inOf (w.U.take (i + 1)) id).length : Int) := fun id hid => by
  rw [zac]
  by_cases e : id = w.U[k].id
  ·rw [if_pos e, e, hsucc]; rfl
  ·rw [if_neg e, hcnt id hid, ju hlt, if_neg (by rw [<- hkid]; exact Ne.symm e)]; omega
 generalize putI cs w.U[k].id (((inOf (w.U.take i) w.U[k].id).length : Int) + 1) = cs2 at *
 have over : kg w.U[k].kind < ((inOf (w.U.take i) w.U[k].id).length : Int) + 1 -> ¬ zbj w w.U[i] := fun hh hp => by
  have h2 := (uniq hp).2
  have h3 := zjl (l := w.U) (i + 1) w.U[k].id
  rw [<- hkid] at h2
  omega
 have good : w.U[k].inn = 0 -> w.U[k].owner = w.U[i].owner -> ((inOf (w.U.take i) w.U[k].id).length : Int) + 1 <= kg w.U[k].kind -> ziw w (i + 1) := fun e1 e2 e3 => by
  refine ⟨fun j hj hji hne => ?_, fun x hx hx0 => ?_⟩
  ·by_cases e : j = i
   ·subst e
    exact ⟨w.U[k], List.getElem_mem hkl, hkid, ⟨e1, e2⟩, hroom, hpos, c5, c6⟩
   ·exact hup.1 j hj (by omega) hne
  ·by_cases e : x.id = w.U[k].id
   ·have := xw hr hx (List.getElem_mem hkl) e
    subst this
    omega
   ·rw [ju hlt, if_neg (by rw [<- hkid]; exact Ne.symm e)]
    have := hup.2 x hx hx0
    omega
 refine ADraw.of_sched ze (by rfl) (by rfl) znz (by rfl) ?_
 refine bcne (fun c7 => ?_) (fun c7 => ?_)
 ·refine ⟨⟨(by repeat (first | exact Tv | refine ⟨rfl, ?_⟩ | refine ⟨optR (optR (optR (za _ (zb _ _ _) rfl))), ?_⟩)), ⟨⟨(by repeat (first | exact Tv | refine ⟨rfl, ?_⟩ | refine ⟨optR (optR (optR (za _ (zb _ _ _) rfl))), ?_⟩)), nou _ (fun hh => c7 (uniq hh).1.1)⟩, Tv⟩⟩, ⟨⟨(by repeat (first | exact Tv | refine ⟨rfl, ?_⟩ | refine ⟨optR (optR (optR (za _ (zb _ _ _) rfl))), ?_⟩)), ⟨⟨(by repeat (first | exact Tv | refine ⟨rfl, ?_⟩ | refine ⟨optR (optR (optR (za _ (zb _ _ _) rfl))), ?_⟩)), nou _ (fun hh => c7 (uniq hh).1.1)⟩, Tv⟩⟩, Tv⟩⟩
 refine bcne (fun c8 => ?_) (fun c8 => ?_)
 ·refine ⟨⟨(by repeat (first | exact Tv | refine ⟨rfl, ?_⟩ | refine ⟨optR (optR (optR (za _ (zb _ _ _) rfl))), ?_⟩)), ⟨⟨(by repeat (first | exact Tv | refine ⟨rfl, ?_⟩ | refine ⟨optR (optR (optR (za _ (zb _ _ _) rfl))), ?_⟩)), nou _ (fun hh => c8 (uniq hh).1.2)⟩, Tv⟩⟩, ⟨⟨(by repeat (first | exact Tv | refine ⟨rfl, ?_⟩ | refine ⟨optR (optR (optR (za _ (zb _ _ _) rfl))), ?_⟩)), ⟨⟨(by repeat (first | exact Tv | refine ⟨rfl, ?_⟩ | refine ⟨optR (optR (optR (za _ (zb _ _ _) rfl))), ?_⟩)), nou _ (fun hh => c8 (uniq hh).1.2)⟩, Tv⟩⟩, Tv⟩⟩
 refine ⟨?_, ?_, Tv⟩
 ·refine ye rfl (it := ti109) (ie := ti3) (ik := ti3) rfl rfl rfl rfl hmo2 rfl (qA w.U[k].id) (fun e he => by obtain ⟨e, _, rfl⟩ := List.mem_map.1 he; rfl) ?_
  rw [hlook]
  refine ⟨(by repeat (first | exact Tv | refine ⟨rfl, ?_⟩ | refine ⟨optR (optR (optR (za _ (zb _ _ _) rfl))), ?_⟩)), ?_⟩
  refine ⟨ji w.U[k].kind _ _ ⟨(by repeat (first | exact Tv | refine ⟨rfl, ?_⟩ | refine ⟨optR (optR (optR (za _ (zb _ _ _) rfl))), ?_⟩)), ?_⟩, Tv⟩
  refine bcd (fun c9 => nou _ (over (by omega))) (fun c9 => ?_)
  refine in64 (by omega) ?_
  refine ⟨(i + 1, cs2, bs', clk'), ?_, ⟨by dsimp only; omega, rfl, hcnt2, good c7 c8 (by omega)⟩, ⟨Tq, Tq, Tq, Tq, Tq, Tv⟩, ⟨rfl, Tv⟩⟩
  show w.U.length - (i + 1) < w.U.length - i
  omega
 ·refine ji w.U[k].kind _ _ ⟨(by repeat (first | exact Tv | refine ⟨rfl, ?_⟩ | refine ⟨optR (optR (optR (za _ (zb _ _ _) rfl))), ?_⟩)), ?_⟩
  refine ⟨?_, Tv⟩
  refine ye rfl (it := ti109) (ie := ti3) (ik := ti3) rfl rfl rfl rfl hmo2 rfl (qA w.U[k].id) (fun e he => by obtain ⟨e, _, rfl⟩ := List.mem_map.1 he; rfl) ?_
  rw [hlook]
  refine ⟨(by repeat (first | exact Tv | refine ⟨rfl, ?_⟩ | refine ⟨optR (optR (optR (za _ (zb _ _ _) rfl))), ?_⟩)), ?_⟩
  refine bcd (fun c9 => nou _ (over (by omega))) (fun c9 => ?_)
  refine in64 (by omega) ?_
  refine ⟨(i + 1, cs2, bs', clk'), ?_, ⟨by dsimp only; omega, rfl, hcnt2, good c7 c8 (by omega)⟩, ⟨Tq, Tq, Tq, Tq, Tq, Tv⟩, ⟨rfl, Tv⟩⟩
  show w.U.length - (i + 1) < w.U.length - i
  omega
def tkO (cs : List (Int × Bool)) (bs : List Nat) (clk : Nat) : AObj := .map (cs.map (entI V.bool)) bs clk
set_option maxHeartbeats 1000000 in
theorem zsk (w : Wld) (hw : w.fits) (hn : ∀ u ∈ w.U, u.pos.ok) : ACalls Tryz.prog 28 [.agg (wldC w)] Store.empty fun r _ => ∃ z, r = V.bool z /\ (z = true ↔ mayP w) := by
 have no : ¬ mayP w -> ∃ z, V.bool false = V.bool z /\ (z = true ↔ mayP w) := fun hn => ⟨false, rfl, by simp only [Bool.false_eq_true, false_iff]; exact hn⟩
 refine ACalls.of_awp (c := cfg 87) ze Tryz.func28 (by rfl) (by rfl) (by rfl) (by rfl) ?_
 refine AWp.seq (AWp.of_vc ze ?_)
 refine AWp.seq (AWp.of_vc ze ?_)
 refine zhi w hw _ _ (fun z hz => ?_)
 refine j5 ?_
 refine zf (fun c1 => ?_) (fun c1 => ret (no fun q => by have := hz.2 q.1.1; rw [this] at c1; cases c1))
 have hh := hz.1 c1
 have hg := hh.2.1.1
 have hbl := hh.2.1.2.1
 have hBl : w.B.length <= 256 := hbl.1
 have hU : w.U.length <= 4096 := hh.2.1.2.2
 have hbb : ∀ b ∈ w.B, bldP b /\ onP w.G b := fun b hb => ⟨(hbl.2.2.1 b hb).1, (hbl.2.2.1 b hb).2.1⟩
 refine AWp.seq (AWp.of_vc ze ?_)
 refine xo rfl (fun m hm => ?_)
 refine AWp.meetA (σ := List (Int × Bool) × List Nat × Nat) ⟨fun _ => [(1, .bx 1 0), (3, .av (cntV m))], fun _ => [(1, wldC w)], fun x st' => st' = Store.empty.setObj m (tkO x.1 x.2.1 x.2.2) /\ ∀ id, (getI x.1 id).getD false = true ↔ ∃ b ∈ w.B, b.id = id⟩ ?_ ?_
 ·refine AWp.of_vc ze ?_
  refine AWp.loop (σ := Nat × List (Int × Bool) × List Nat × Nat) ⟨fun x => [(1, .bx 1 0), (3, .av (cntV m)), (16, .av (lst 6 bldC w.B)), (17, .av (int (w.B.length : Nat))), (18, .av (int (x.1 : Nat)))], fun _ => [(1, wldC w)],
   fun x st' => x.1 <= w.B.length /\ st' = Store.empty.setObj m (tkO x.2.1 x.2.2.1 x.2.2.2) /\ ∀ id, (getI x.2.1 id).getD false = true ↔ ∃ b ∈ w.B.take x.1, b.id = id, fun x => w.B.length - x.1⟩ ze ?_ ?_
  ·refine ⟨(0, [], [], 0), Tv, ⟨Nat.zero_le _, rfl, fun id => ⟨fun h => (by cases h), fun ⟨b, hb, _⟩ => (by simp at hb)⟩⟩, ⟨Tq, Tq, Tq, ?_, Tq, Tv⟩, ⟨rfl, Tv⟩⟩
   rw [<- zk (f := bldC) w.B]; exact Tq
  rintro ⟨i, cs, bs, clk⟩ st' ⟨hi, rfl, htk⟩
  dsimp only at hi htk ⊢
  refine bcd (fun h1 => ?_) (fun h1 => ?_)
  rotate_left
  ·have : i = w.B.length := by omega
   subst this
   rw [List.take_length] at htk
   exact ⟨(cs, bs, clk), ⟨rfl, htk⟩, ⟨Tq, Tq, Tv⟩, ⟨rfl, Tv⟩⟩
  have hlt : i < w.B.length := by omega
  refine ⟨i, rfl, za _ (z6 hlt) ?_⟩
  have hmo : (Store.empty.setObj m (tkO cs bs clk)).obj m = some (tkO cs bs clk) := zb _ _ _
  refine qa (.inl rfl) rfl (it := ti81) (ik := ti3) rfl rfl rfl (es := cs.map (entI V.bool)) (bs := bs) (clk := clk) (k := int w.B[i].id) (v := V.bool true) hmo rfl rfl (qA w.B[i].id) (fun e he => ?_) (fun e1 he hq => ?_) ?_
  ·obtain ⟨e, _, rfl⟩ := List.mem_map.1 he
   rfl
  ·obtain ⟨g1, _, rfl⟩ := List.mem_map.1 he
   have : w.B[i].id = g1.1 := by simpa [qA, entI, int] using hq
   show int g1.1 = _
   rw [this]
  obtain ⟨bs', clk', hput⟩ := zau V.bool cs bs clk w.B[i].id true
  have hput : qp (cs.map (entI V.bool)) bs clk (qA w.B[i].id) (int w.B[i].id) (V.bool true) = tkO (putI cs w.B[i].id true) bs' clk' := hput
  rw [hput, zi]
  refine in64 (by omega) ?_
  refine ⟨(i + 1, putI cs w.B[i].id true, bs', clk'), ?_, ⟨by dsimp only; omega, rfl, fun id => ?_⟩, ⟨Tq, Tq, Tq, Tq, Tq, Tv⟩, ⟨rfl, Tv⟩⟩
  ·show w.B.length - (i + 1) < w.B.length - i
   omega
  ·dsimp only
   rw [zac, List.take_succ_eq_append_getElem hlt]
   by_cases e : id = w.B[i].id
   ·rw [if_pos e]
    exact ⟨fun _ => ⟨w.B[i], List.mem_append.2 (.inr (List.mem_singleton.2 rfl)), e.symm⟩, fun _ => rfl⟩
   ·rw [if_neg e, htk id]
    constructor
    ·rintro ⟨b, hb, h3⟩; exact ⟨b, List.mem_append.2 (.inl hb), h3⟩
    ·rintro ⟨b, hb, h3⟩
     rcases List.mem_append.1 hb with hb | hb
     ·exact ⟨b, hb, h3⟩
     ·simp at hb; subst hb; exact absurd h3.symm e
 rintro ⟨cs, bs, clk⟩ st' ⟨rfl, htk⟩
 dsimp only at htk ⊢
 have hmo : (Store.empty.setObj m (tkO cs bs clk)).obj m = some (tkO cs bs clk) := zb _ _ _
 have hhas : (Store.empty.setObj m (tkO cs bs clk)).Has Store.empty := xb rfl
 refine AWp.meetA (σ := Unit) ⟨fun _ => [(1, .bx 1 0)], fun _ => [(1, wldC w)], fun _ st' => st' = Store.empty.setObj m (tkO cs bs clk) /\ ze0 w w.U.length⟩ ?_ ?_
 ·refine AWp.of_vc ze ?_
  refine AWp.loop (σ := Nat) ⟨fun i => [(1, .bx 1 0), (3, .av (cntV m)), (27, .av (lst 10 untC w.U)), (28, .av (int (w.U.length : Nat))), (29, .av (int (i : Nat)))], fun _ => [(1, wldC w)],
   fun i st' => i <= w.U.length /\ st' = Store.empty.setObj m (tkO cs bs clk) /\ ze0 w i, fun i => w.U.length - i⟩ ze ?_ ?_
  ·refine ⟨0, Tv, ⟨Nat.zero_le _, rfl, fun j _ hj => by omega⟩, ⟨Tq, Tq, Tq, ?_, Tq, Tv⟩, ⟨rfl, Tv⟩⟩
   rw [<- zk (f := untC) w.U]; exact Tq
  rintro i st' ⟨hi, rfl, hup⟩
  refine bcd (fun h1 => ?_) (fun h1 => ?_)
  rotate_left
  ·have : i = w.U.length := by omega
   subst this
   exact ⟨(), ⟨rfl, hup⟩, ⟨Tq, Tv⟩, ⟨rfl, Tv⟩⟩
  have hlt : i < w.U.length := by omega
  have nou : ¬ ((untP w w.U[i] /\ ∀ b ∈ w.B, b.id ≠ w.U[i].id) /\ (0 < i -> (w.U[i - 1]'(by omega)).id < w.U[i].id)) -> ∃ z, V.bool false = V.bool z /\ (z = true ↔ mayP w) := fun hq => no fun q => hq (zky q.1.2 (i + 1) i hlt (by omega))
  refine ⟨i, rfl, za _ (z6 hlt) ?_⟩
  refine ADraw.of_sched ze (by rfl) (by rfl) zn0 (by rfl) ?_
  refine ⟨zh3 w w.U[i] hg _ _ (fun z hz => ⟨Tv, ?_⟩), Tv⟩
  refine j5 ?_
  refine zf (fun c2 => ?_) (fun c2 => ⟨⟨Tv, ret (nou fun q => by have := hz.2 q.1.1; rw [this] at c2; cases c2)⟩, Tv⟩)
  have hunt := hz.1 c2
  refine ⟨ye rfl (it := ti81) (ie := ti4) (ik := ti3) rfl rfl rfl rfl hmo rfl (qA w.U[i].id) (fun e he => by obtain ⟨e, _, rfl⟩ := List.mem_map.1 he; rfl) ?_, Tv⟩
  rw [zav]
  have hcv : (Option.map V.bool (getI cs w.U[i].id)).getD (jh ti4) = V.bool ((getI cs w.U[i].id).getD false) := by
   cases getI cs w.U[i].id <;> rfl
  rw [hcv]
  have htki := htk w.U[i].id
  generalize (getI cs w.U[i].id).getD false = tk at htki
  refine ⟨Tv, ?_⟩
  refine zf (fun c3 => ret (nou fun q => by obtain ⟨b, hb, e⟩ := htki.1 c3; exact q.1.2 b hb e)) (fun c3 => ?_)
  have hnb : ∀ b ∈ w.B, b.id ≠ w.U[i].id := fun b hb e => by have := htki.2 ⟨b, hb, e⟩; rw [this] at c3; cases c3
  have next : (0 < i -> (w.U[i - 1]'(by omega)).id < w.U[i].id) -> ze0 w (i + 1) := fun hq j hj hji => by
   by_cases e : j = i
   ·subst e; exact ⟨⟨hunt, hnb⟩, hq⟩
   ·exact hup j hj (by omega)
  have fin : ze0 w (i + 1) -> yu ((i : Int) + 1) /\ (i + 1 <= w.U.length /\ Store.empty.setObj m (tkO cs bs clk) = Store.empty.setObj m (tkO cs bs clk) /\ ze0 w (i + 1)) := fun hq => ⟨⟨by omega, by omega⟩, by omega, rfl, hq⟩
  refine bcd (fun c4 => ?_) (fun c4 => ?_)
  ·have hi0 : 0 < i := by omega
   refine in64 (by omega) ?_
   refine ⟨i - 1, by omega, za _ (z6 (show i - 1 < w.U.length by omega)) ?_⟩
   refine bcd (fun c5 => ret (nou fun q => by have := q.2 hi0; omega)) (fun c5 => ?_)
   obtain ⟨f1, f2⟩ := fin (next fun _ => by omega)
   refine ⟨f1, ?_⟩
   refine ⟨i + 1, ?_, f2, ⟨Tq, Tq, Tq, Tq, Tq, Tv⟩, ⟨rfl, Tv⟩⟩
   show w.U.length - (i + 1) < w.U.length - i
   omega
  ·obtain ⟨f1, f2⟩ := fin (next fun h0 => absurd h0 (by omega))
   refine ⟨f1, ?_⟩
   refine ⟨i + 1, ?_, f2, ⟨Tq, Tq, Tq, Tq, Tq, Tv⟩, ⟨rfl, Tv⟩⟩
   show w.U.length - (i + 1) < w.U.length - i
   omega
 rintro _ _ ⟨rfl, hall⟩
 have hok := zif hall
 refine AWp.leS hhas.toLe ?_
 refine AWp.seq (AWp.of_vc ze ?_)
 refine zi5 w (by omega) hn _ (fun F s p L o0 o1 o2 hS hLl hL => ?_)
 have hLm := hL hok.1
 refine AWp.meetA (σ := Unit) ⟨fun _ => [(1, .bx 1 0)], fun _ => [(1, wldC w)], fun _ st' => ∀ u ∈ w.U, u.inn = 0 -> xn w u.id u.kind u.pos⟩ ?_ ?_
 ·refine AWp.of_vc ze ?_
  refine AWp.loop (σ := Nat × Store × AV × AV × AV) ⟨fun x => [(1, .bx 1 0), (8, .av (ptr s)), (64, .av (lst 10 untC w.U)), (65, .av (int (w.U.length : Nat))), (66, .av (int (x.1 : Nat)))], fun _ => [(1, wldC w)],
   fun x st' => x.1 <= w.U.length /\ st' = x.2.1.un (stS s w x.2.2.1 x.2.2.2.1 x.2.2.2.2 p) /\ StandAt x.2.1 s p w L x.2.2.1 x.2.2.2.1 x.2.2.2.2 /\ ∀ j, (hj : j < w.U.length) -> j < x.1 -> w.U[j].inn = 0 -> xn w w.U[j].id w.U[j].kind w.U[j].pos, fun x => w.U.length - x.1⟩ ze ?_ ?_
  ·refine ⟨(0, F, o0, o1, o2), Tv, ⟨Nat.zero_le _, rfl, hS, fun j _ hj => by omega⟩, ⟨Tq, Tq, Tq, ?_, Tq, Tv⟩, ⟨rfl, Tv⟩⟩
   rw [<- zk (f := untC) w.U]; exact Tq
  rintro ⟨i, F1, a0, a1, a2⟩ st' ⟨hi, rfl, hS1, hcl⟩
  dsimp only at hi hS1 hcl ⊢
  refine bcd (fun h1 => ?_) (fun h1 => ?_)
  rotate_left
  ·have : i = w.U.length := by omega
   subst this
   refine ⟨(), fun u hu h0 => ?_, ⟨Tq, Tv⟩, ⟨rfl, Tv⟩⟩
   obtain ⟨j, hj, rfl⟩ := List.getElem_of_mem hu
   exact hcl j hj hj h0
  have hlt : i < w.U.length := by omega
  have hui := List.getElem_mem hlt
  have next : (w.U[i].inn = 0 -> xn w w.U[i].id w.U[i].kind w.U[i].pos) -> ∀ j, (hj : j < w.U.length) -> j < i + 1 -> w.U[j].inn = 0 -> xn w w.U[j].id w.U[j].kind w.U[j].pos := fun hq j hj hji => by
   by_cases e : j = i
   ·subst e; exact hq
   ·exact hcl j hj (by omega)
  refine ⟨i, rfl, za _ (z6 hlt) ?_⟩
  refine bceq (fun c2 => ?_) (fun c2 => ?_)
  ·refine zfa hS1 hg (by omega) hbb hok.1 (by omega) hn hLl hLm w.U[i].id w.U[i].kind w.U[i].pos (hn _ hui) _ (fun z F2 b0 b1 b2 hz hS2 => ?_)
   refine j5 ?_
   refine zf (fun c3 => ?_) (fun c3 => ret (no fun q => by have := hz.2 (q.2.1 _ hui c2); rw [this] at c3; cases c3))
   refine in64 (by omega) ?_
   refine ⟨(i + 1, F2, b0, b1, b2), ?_, ⟨by dsimp only; omega, rfl, hS2, next fun _ => hz.1 c3⟩, ⟨Tq, Tq, Tq, Tq, Tq, Tv⟩, ⟨rfl, Tv⟩⟩
   show w.U.length - (i + 1) < w.U.length - i
   omega
  ·refine in64 (by omega) ?_
   refine ⟨(i + 1, F1, a0, a1, a2), ?_, ⟨by dsimp only; omega, rfl, hS1, next fun h0 => absurd h0 c2⟩, ⟨Tq, Tq, Tq, Tq, Tq, Tv⟩, ⟨rfl, Tv⟩⟩
   show w.U.length - (i + 1) < w.U.length - i
   omega
 rintro _ st' hclear
 refine AWp.of_vc ze ?_
 refine zff w (by omega) hok.1 _ _ (fun z hz => ?_)
 refine ret ⟨z, rfl, ?_⟩
 rw [hz]
 exact ⟨fun hq => ⟨⟨hh, hok⟩, hclear, hq⟩, fun hq => hq.2.2⟩
/-- What tells one thing, in no store, tells it in any. -/
theorem zsl {f : FuncId} {xs : List AV} {Q : AV -> Prop} (key : ACalls Tryz.prog f xs Store.empty fun r _ => Q r) (st : Store) (R : AV -> Store -> Prop) (h : ∀ r, Q r -> R r st) : ACalls Tryz.prog f xs st R := by
 rw [<- zom st]
 refine ACalls.post (ACalls.frame (R' := fun r st' => Q r /\ ∃ a', st' = a'.un st) (fun b hb => ?_) key fun r a' h1 _ => ⟨h1, a', rfl⟩) (Store.Le.refl _) fun r st' ⟨h1, a', h2⟩ => ⟨r, st, Tt, h2 ▸ zpd, ?_⟩
 ·exact (hb.elim (fun h => h rfl) (fun h => h rfl) : False).elim
 ·exact h r h1
theorem zof (w : Wld) (hw : w.fits) (hn : ∀ u ∈ w.U, u.pos.ok) (st : Store) (R : AV -> Store -> Prop) (h : ∀ z : Bool, (z = true ↔ mayP w) -> R (V.bool z) st) : ACalls Tryz.prog 28 [.agg (wldC w)] st R :=
 zsl (zsk w hw hn) st R fun r ⟨z, e, hz⟩ => e ▸ h z hz
end Go.Proofs
namespace Go.Proofs
open Go Go.V
set_option maxRecDepth 4000
end Go.Proofs
namespace Go.Proofs
open Go Go.V
set_option maxRecDepth 4000
theorem ks (g : Gnd) (hg : gndP g) (t : Nat) (ht : t < g.T.length) (tI : Int) (htI : tI = (t : Int)) (st : Store) (R : AV -> Store -> Prop) (h : R (.agg (vecC (cenV g t))) st) : ACalls Tryz.prog 17 [.agg (gndC g), int tI] st R := by
 subst htI
 have ha := ym hg
 have htb := zdj hg (t := t) (by omega)
 have hq := trem (t := t) hg.1.1
 have hq2 := tquo (t := t) hg.1.1
 have hg1 := hg.1
 have hg2 := hg.2.1
 unfold cenV tx ty at h
 rw [<- hq, <- hq2] at h
 refine ACalls.of_body (c := cfg 18) ze Tryz.func17 (by rfl) (by rfl) (by rfl) (by rfl) ?_
 refine ADraw.of_sched ze (by rfl) (by rfl) zsd (by rfl) ?_
 refine ⟨by omega, ?_⟩
 refine in64 (by omega) ?_
 refine in64 (by omega) ?_
 refine ⟨by omega, ?_⟩
 refine in64 (by omega) ?_
 refine in64 (by omega) ?_
 refine in64 (by omega) ?_
 refine ⟨⟨(by repeat (first | exact Tv | refine ⟨rfl, ?_⟩ | refine ⟨optR (optR (optR (za _ (zb _ _ _) rfl))), ?_⟩)), ?_⟩, Tv⟩
 exact ret h
theorem zgw (g : Gnd) (hg : gndP g) (p : Vc) (h0 : (0 <= p.1 /\ p.1 < g.W * 65536) /\ (0 <= p.2 /\ p.2 < g.H * 65536)) (st : Store) (R : AV -> Store -> Prop) (h : R (int (xt g p : Nat)) st) : ACalls Tryz.prog 32 [.agg (gndC g), .agg (vecC p)] st R := by
 have hs := hg.1
 have hs2 := hg.2.1
 obtain ⟨e1, e2, _⟩ := zdl hg h0
 have ha := ym hg
 refine ACalls.of_body (c := cfg 39) ze Tryz.func32 (by rfl) (by rfl) (by rfl) (by rfl) ?_
 refine bcd (fun c1 => absurd c1 (by omega)) (fun c1 => ?_)
 refine in64 (by omega) ?_
 refine bcd (fun c1 => absurd c1 (by omega)) (fun c1 => ?_)
 refine bcd (fun c1 => absurd c1 (by omega)) (fun c1 => ?_)
 refine in64 (by omega) ?_
 refine bcd (fun c1 => absurd c1 (by omega)) (fun c1 => ?_)
 have q1 : p.1.tdiv 65536 = p.1 / 65536 := Int.tdiv_eq_ediv_of_nonneg (by omega)
 have q2 : p.2.tdiv 65536 = p.2 / 65536 := Int.tdiv_eq_ediv_of_nonneg (by omega)
 have hx : 0 <= p.1 / 65536 /\ p.1 / 65536 <= 128 := by omega
 have hy : 0 <= p.2 / 65536 /\ p.2 / 65536 <= 128 := by omega
 have hm : 0 <= g.W * (p.2 / 65536) /\ g.W * (p.2 / 65536) <= 128 * 128 := ⟨Int.mul_nonneg (by omega) hy.1, Int.mul_le_mul hs.2 hy.2 hy.1 (by decide)⟩
 refine ⟨by decide, ?_⟩
 refine in64 (by rw [q1]; omega) ?_
 refine ⟨by decide, ?_⟩
 refine in64 (by rw [q2]; omega) ?_
 refine in64 (by rw [q2]; omega) ?_
 refine in64 (by rw [q1, q2]; omega) ?_
 rw [q1, q2, <- e1]
 exact ret h
theorem j3 {S : Store} {p b : Nat} (h : p ≠ b) : (S.delObj b).obj p = S.obj p := by
 show (bif Nat.beq p b then none else S.obj p) = _
 rw [nbeq h]
 rfl
theorem zsm {a c b : AV} (h : AV.le a c) : AV.le (.tup [a, b]) (.tup [c, b]) := by
 intro w T v hv
 cases hv with
 | tup _ cs hl hc =>
  refine .tup _ cs hl fun i x y hx hy => ?_
  match i, hx with
  | 0, hx => cases hx; exact h w T y (hc 0 _ _ rfl hy)
  | 1, hx => cases hx; exact hc 1 _ _ rfl hy
  | i + 2, hx => cases hx
theorem fne {S : Store} {p b : Nat} {x : AObj} (hf : Fresh S b) (h : S.obj p = some x) : p ≠ b := fun e => by subst e; rw [hf.1] at h; cases h
theorem zgt {α : Type} (d : Nat -> α) (u : Nat) (x y : α) : updN (updN d u x) u y = updN d u y := funext fun t => by
 unfold updN
 split <;> rfl
theorem zir (u : Unt) (hk : zcu u.kind) (st : Store) (R : AV -> Store -> Prop) (h : R (.s (.int .u8 (zgv u))) st) : ACalls Tryz.prog 31 [.agg (untC u)] st R := by
 obtain ⟨id, owner, kind, pos, goal, next, stuck, inn, state⟩ := u
 unfold zgv at h
 dsimp only at h hk
 refine ACalls.of_body (c := cfg 13) ze Tryz.func31 (by rfl) (by rfl) (by rfl) (by rfl) ?_
 have hk4 : kind = 0 \/ kind = 1 \/ kind = 2 \/ kind = 3 := by unfold zcu at hk; omega
 rcases hk4 with rfl | rfl | rfl | rfl
 ·refine ⟨0, rfl, za (x := 115) rfl ?_⟩
  refine bcne (fun d1 => ?_) (fun d1 => ?_)
  ·rw [if_neg d1] at h
   exact ret h
  ·rw [if_pos d1] at h
   exact ret h
 ·refine ⟨1, rfl, za (x := 119) rfl ?_⟩
  refine bcne (fun d1 => ?_) (fun d1 => ?_)
  ·rw [if_neg d1] at h
   exact ret h
  ·rw [if_pos d1] at h
   exact ret h
 ·refine ⟨2, rfl, za (x := 103) rfl ?_⟩
  refine bcne (fun d1 => ?_) (fun d1 => ?_)
  ·rw [if_neg d1] at h
   exact ret h
  ·rw [if_pos d1] at h
   exact ret h
 ·refine ⟨3, rfl, za (x := 99) rfl ?_⟩
  refine bcne (fun d1 => ?_) (fun d1 => ?_)
  ·rw [if_neg d1] at h
   exact ret h
  ·rw [if_pos d1] at h
   exact ret h
def zn3 : V.Sched := (sv [0, 1, 2, 3, 4, 6] (.e 5 [0, 6] (.e 7 [0] (sv [8] (.e 9 [] .done .stop)) .stop) .stop))
set_option maxHeartbeats 4000000 in
set_option maxRecDepth 20000 in
theorem zee (w : Wld) (hf : w.fits) (hn : ∀ u ∈ w.U, u.pos.ok) : ACalls Tryz.prog 10 [.agg (wldC w)] Store.empty fun r S => (¬ mayP w /\ r = .tup [nil, int 1]) \/ (mayP w /\ ∃ b, r = .tup [.lst 1 (rws qy (yf w)) (some b), int 0] /\ S.tok b = some ((rws qy (yf w)).length * 1)) := by
 refine ACalls.of_awp (c := cfg 75 [1,2,4] []) ze Tryz.func10 (by rfl) (by rfl) (by rfl) (by rfl) ?_
 refine AWp.seq (AWp.of_vc ze ?_)
 intro p1 f1 p2 f2
 have n12 : p2 ≠ p1 := fun e => by subst e; have := f2.1; rw [zb] at this; cases this
 have o1 : ((Store.empty.setObj p1 (.cells (wldC w))).setObj p2 (.cells [.s (.slice none 0 0)])).obj p1 = some (.cells (wldC w)) := (zc (Ne.symm n12)).trans (zb _ _ _)
 have o2 : ((Store.empty.setObj p1 (.cells (wldC w))).setObj p2 (.cells [.s (.slice none 0 0)])).obj p2 = some (.cells [.s (.slice none 0 0)]) := zb _ _ _
 generalize (Store.empty.setObj p1 (.cells (wldC w))).setObj p2 (.cells [.s (.slice none 0 0)]) = S at *
 refine AWp.seq (AWp.seq (AWp.of_vc ze ?_))
 refine za (o := S.obj p1) _ o1 ?_
 refine zof w hf hn _ _ (fun z hz => ?_)
 refine (AWp.cond (!z) rfl (j5 (zf (fun c1 => ?_) (fun c1 => ?_))))
 rotate_left
 ·have hno : ¬ mayP w := fun hh => by have := hz.2 hh; rw [this] at c1; cases c1
  refine AWp.of_vc ze ?_
  refine zo (i := ti31) (v := .s (.slice none 0 0)) (b := p2) (o := 0) (l := [.s (.slice none 0 0)]) (st2 := S.setObj p2 (.cells [.s (.slice none 0 0)])) rfl rfl rfl o2 (by decide) rfl ?_
  refine za (o := (S.setObj p2 (.cells [.s (.slice none 0 0)])).obj p2) _ (zb _ _ _) ?_
  exact ret (.inl ⟨hno, rfl⟩)
 have hm := hz.1 c1
 have fm := mayF hm
 have hT := fm.hT
 have ha := ym fm.hg
 have hTl : ((rws u8C w.G.T).length : Int) = (w.G.T.length : Int) := by rw [zk]
 refine AWp.of_vc ze ?_
 refine AWp.seq (AWp.of_vc ze ?_)
 refine za (o := S.obj p1) _ o1 ?_
 refine vl rfl (it := ti24) (ie := ti5) rfl rfl rfl rfl rfl (n := (rws u8C w.G.T).length) ?_ ?_ (fun bb hfb => ?_)
 ·rw [zk]; show 1 * _ <= _; omega
 ·rw [zk]; omega
 rw [zk, zih, zk1 w]
 have m1 : p1 ≠ bb := fun e => by subst e; rw [hfb.1] at o1; cases o1
 have m2 : p2 ≠ bb := fun e => by subst e; rw [hfb.1] at o2; cases o2
 have q1 : (S.setObj bb (.cells (ul w.G.T.length (y4 w 0)))).obj p1 = _ := (zc m1).trans o1
 have q2 : (S.setObj bb (.cells (ul w.G.T.length (y4 w 0)))).obj p2 = _ := (zc m2).trans o2
 have qb : (S.setObj bb (.cells (ul w.G.T.length (y4 w 0)))).obj bb = _ := zb _ _ _
 clear o1 o2 hfb
 generalize S.setObj bb (.cells (ul w.G.T.length (y4 w 0))) = S1 at *
 intro p4 f4
 have n41 : p1 ≠ p4 := fun e => by subst e; rw [f4.1] at q1; cases q1
 have n42 : p2 ≠ p4 := fun e => by subst e; rw [f4.1] at q2; cases q2
 have n4b : bb ≠ p4 := fun e => by subst e; rw [f4.1] at qb; cases qb
 refine zo (i := ti24) (v := .s (.slice (some ⟨bb, 0, none⟩) w.G.T.length w.G.T.length)) (b := p4) (o := 0) (l := [.s (.slice none 0 0)]) (st2 := S1.setObj p4 (.cells [.s (.slice (some ⟨bb, 0, none⟩) w.G.T.length w.G.T.length)])) rfl rfl rfl (zb _ _ _) (by decide) (by rw [zi]; rfl) ?_
 have r1 : (S1.setObj p4 (.cells [.s (.slice (some ⟨bb, 0, none⟩) w.G.T.length w.G.T.length)])).obj p1 = _ := (zc n41).trans q1
 have r2 : (S1.setObj p4 (.cells [.s (.slice (some ⟨bb, 0, none⟩) w.G.T.length w.G.T.length)])).obj p2 = _ := (zc n42).trans q2
 have rb : (S1.setObj p4 (.cells [.s (.slice (some ⟨bb, 0, none⟩) w.G.T.length w.G.T.length)])).obj bb = _ := (zc n4b).trans qb
 have r4 : (S1.setObj p4 (.cells [.s (.slice (some ⟨bb, 0, none⟩) w.G.T.length w.G.T.length)])).obj p4 = _ := zb _ _ _
 clear q1 q2 qb f4
 generalize S1.setObj p4 (.cells [.s (.slice (some ⟨bb, 0, none⟩) w.G.T.length w.G.T.length)]) = S2 at *
 refine AWp.seq (AWp.of_vc ze ?_)
 refine za (o := S2.obj p1) _ r1 ?_
 refine za (o := S2.obj p1) _ r1 ?_
 refine zb8 w.G fm.hg w.B (by have := fm.hB; omega) fm.hb _ _ (fun bc hfc => ?_)
 have t1 : (S2.setObj bc (.cells (bl w.G.T.length (covB w.G w.B)))).obj p1 = _ := (zc (fne hfc r1)).trans r1
 have t2 : (S2.setObj bc (.cells (bl w.G.T.length (covB w.G w.B)))).obj p2 = _ := (zc (fne hfc r2)).trans r2
 have t4 : (S2.setObj bc (.cells (bl w.G.T.length (covB w.G w.B)))).obj p4 = _ := (zc (fne hfc r4)).trans r4
 have tb : (S2.setObj bc (.cells (bl w.G.T.length (covB w.G w.B)))).obj bb = _ := (zc (fne hfc rb)).trans rb
 have tc : (S2.setObj bc (.cells (bl w.G.T.length (covB w.G w.B)))).obj bc = _ := zb _ _ _
 have nbc : bb ≠ bc := fne hfc rb
 clear r1 r2 r4 rb hfc
 generalize S2.setObj bc (.cells (bl w.G.T.length (covB w.G w.B))) = S3 at *
 refine AWp.seq (AWp.seq (AWp.of_vc ze ?_))
 refine za (o := S3.obj p1) _ t1 ?_
 refine AWp.of_vc ze ?_
 refine AWp.loop (σ := Nat) ⟨fun t => [(1, .av (ptr p1)), (2, .av (ptr p2)), (3, .av (int 0)), (4, .av (ptr p4)), (5, .av (blV bc w.G.T.length)), (26, .av (byts w.G.T)), (27, .av (int (w.G.T.length : Nat))), (28, .av (int (t : Nat)))], fun _ => [],
  fun t S' => t <= w.G.T.length /\ (S'.obj p1 = some (.cells (wldC w)) /\ S'.obj p2 = some (.cells [.s (.slice none 0 0)]) /\ S'.obj p4 = some (.cells [.s (.slice (some ⟨bb, 0, none⟩) w.G.T.length w.G.T.length)])) /\ S'.obj bc = some (.cells (bl w.G.T.length (covB w.G w.B))) /\ S'.obj bb = some (.cells (ul w.G.T.length (y4 w t))), fun t => w.G.T.length - t⟩ ze ?_ ?_
 ·refine ⟨0, Tv, ⟨Nat.zero_le _, ⟨t1, t2, t4⟩, tc, tb⟩, ⟨Tq, Tq, Tq, Tq, Tq, Tq, ?_, Tq, Tv⟩, Tv⟩
  rw [<- hTl]
  exact Tq
 clear t1 t2 t4 tc tb
 rintro t S' ⟨hi, ⟨t1, t2, t4⟩, tc, tb⟩
 refine bcd (fun h1 => ?_) (fun h1 => ?_)
 ·have hlt : t < w.G.T.length := by omega
  obtain ⟨ch, hc, hcv⟩ := zru (m := (w.G.T[t]).toNat) (by have := fm.hg.2.2.2 _ (List.getElem_mem hlt); omega)
  have htS : ze3 w t = if covB w.G w.B t then 35 else ((ch.toNat : Nat) : Int) := by
   unfold ze3
   rw [hcv, List.getD_eq_getElem?_getD (l := w.G.T), List.getElem?_eq_getElem hlt]
   rfl
  have hbh := zsu (f := covB w.G w.B) hlt
  refine ⟨t, rfl, za _ (z6 hlt) ?_⟩
  refine ADraw.of_sched ze (by rfl) (by rfl) zsf (by rfl) ?_
  refine za (o := S'.obj p4) _ t4 ?_
  refine ⟨(w.G.T[t]).toNat, rfl, za ch hc ?_⟩
  refine ⟨t, rfl, hlt, ?_⟩
  refine ⟨?_, Tv⟩
  refine za _ rfl (y8 rfl (qj (v := .s (.int .u8 ((ch.toNat : Nat) : Int))) rfl rfl rfl rfl ?_))
  refine zo (i := ti5) (v := .s (.int .u8 ((ch.toNat : Nat) : Int))) (b := bb) (o := 0 + t * 1) (l := ul w.G.T.length (y4 w t)) (st2 := S'.setObj bb (.cells (ul w.G.T.length (updN (y4 w t) t ((ch.toNat : Nat) : Int))))) rfl rfl rfl tb (by rw [zak]; omega) (by rw [show 0 + t * 1 = t by omega, zf7 hlt]) ?_
  refine ⟨Tv, ?_⟩
  have s1 : (S'.setObj bb (.cells (ul w.G.T.length (updN (y4 w t) t ((ch.toNat : Nat) : Int))))).obj p1 = _ := (zc m1).trans t1
  have s2 : (S'.setObj bb (.cells (ul w.G.T.length (updN (y4 w t) t ((ch.toNat : Nat) : Int))))).obj p2 = _ := (zc m2).trans t2
  have s4 : (S'.setObj bb (.cells (ul w.G.T.length (updN (y4 w t) t ((ch.toNat : Nat) : Int))))).obj p4 = _ := (zc (Ne.symm n4b)).trans t4
  have sc : (S'.setObj bb (.cells (ul w.G.T.length (updN (y4 w t) t ((ch.toNat : Nat) : Int))))).obj bc = _ := (zc (Ne.symm nbc)).trans tc
  have sb : (S'.setObj bb (.cells (ul w.G.T.length (updN (y4 w t) t ((ch.toNat : Nat) : Int))))).obj bb = _ := zb _ _ _
  clear t1 t2 t4 tc tb
  generalize S'.setObj bb (.cells (ul w.G.T.length (updN (y4 w t) t ((ch.toNat : Nat) : Int)))) = S5 at *
  refine ⟨t, rfl, hlt, ?_⟩
  refine za (o := S5.obj bc) _ sc ?_
  refine za _ hbh ?_
  refine zf (fun d1 => ?_) (fun d1 => ?_)
  ·rw [if_pos d1] at htS
   refine za (o := S5.obj p4) _ s4 ?_
   refine ⟨t, rfl, hlt, ?_⟩
   refine zo (i := ti5) (v := .s (.int .u8 35)) (b := bb) (o := 0 + t * 1) (l := ul w.G.T.length (updN (y4 w t) t ((ch.toNat : Nat) : Int))) (st2 := S5.setObj bb (.cells (ul w.G.T.length (y4 w (t + 1))))) rfl rfl rfl sb (by rw [zak]; omega) (by rw [show 0 + t * 1 = t by omega, zf7 hlt, zgt, zap, htS]) ?_
   refine in64 (by omega) ?_
   exact ⟨t + 1, (show w.G.T.length - (t + 1) < w.G.T.length - t by omega), ⟨hlt, ⟨(zc m1).trans s1, (zc m2).trans s2, (zc (Ne.symm n4b)).trans s4⟩, (zc (Ne.symm nbc)).trans sc, zb _ _ _⟩, ⟨Tq, Tq, Tq, Tq, Tq, Tq, Tq, Tq, Tv⟩, Tv⟩
  ·rw [if_neg (by rw [d1]; decide)] at htS
   refine in64 (by omega) ?_
   exact ⟨t + 1, (show w.G.T.length - (t + 1) < w.G.T.length - t by omega), ⟨hlt, ⟨s1, s2, s4⟩, sc, by rw [zap, htS]; exact sb⟩, ⟨Tq, Tq, Tq, Tq, Tq, Tq, Tq, Tq, Tv⟩, Tv⟩
 have : t = w.G.T.length := by omega
 subst this
 rw [zk2, <- zj7 w] at tb
 clear tc h1 hi nbc
 refine AWp.seq (AWp.seq (AWp.of_vc ze ?_))
 refine za (o := S'.obj p1) _ t1 ?_
 refine zdb (lst 10 untC w.U) w.U rfl _ _ (fun pb hfb => ?_)
 have s1 : (S'.setObj pb (.cells [lst 10 untC w.U])).obj p1 = _ := (zc (fne hfb t1)).trans t1
 have s2 : (S'.setObj pb (.cells [lst 10 untC w.U])).obj p2 = _ := (zc (fne hfb t2)).trans t2
 have s4 : (S'.setObj pb (.cells [lst 10 untC w.U])).obj p4 = _ := (zc (fne hfb t4)).trans t4
 have sb : (S'.setObj pb (.cells [lst 10 untC w.U])).obj bb = _ := (zc (fne hfb tb)).trans tb
 have sp : (S'.setObj pb (.cells [lst 10 untC w.U])).obj pb = _ := zb _ _ _
 have k1 := fne hfb t1
 have k2 := fne hfb t2
 have k4 := fne hfb t4
 have kb := fne hfb tb
 clear t1 t2 t4 tb hfb
 generalize S'.setObj pb (.cells [lst 10 untC w.U]) = S6 at *
 refine AWp.block (AWp.rangeFunc rfl rfl Tryz.func50 (by rfl) (by rfl) [(1, ptr p1), (4, ptr p4)] (fun p hp => ?_) (fun q hq => ?_) (by decide) (by decide) (fun l X Y hfl hround => ?_))
 ·simp only [List.mem_cons, List.not_mem_nil, or_false] at hp
  rcases hp with rfl | rfl <;> rfl
 ·simp only [List.mem_cons, List.not_mem_nil, or_false] at hq
  rcases hq with rfl | rfl <;> simp
 have l1 := fne hfl s1
 have l2 := fne hfl s2
 have l4 := fne hfl s4
 have lb := fne hfl sb
 have lp := fne hfl sp
 refine zki w.U (by have := fm.hU; omega) pb l (fun k S => S.obj l = some X /\ (S.obj p1 = some (.cells (wldC w)) /\ S.obj p2 = some (.cells [.s (.slice none 0 0)]) /\ S.obj p4 = some (.cells [.s (.slice (some ⟨bb, 0, none⟩) w.G.T.length w.G.T.length)])) /\ S.obj pb = some (.cells [lst 10 untC w.U]) /\ S.obj bb = some (.cells (ul w.G.T.length (wx w k)))) (fun k S h => h.2.2.1) ?_ _ ?_ _ ?_
 ·rintro k S hk ⟨hX, ⟨a1, a2, a4⟩, ap, ab⟩
  refine hround S _ _ hX rfl ?_
  refine AWp.of_vc ze ?_
  refine ⟨rfl, hX, AWp.of_vc ze ?_⟩
  have c1 : (S.setObj l Y).obj p1 = _ := (zc l1).trans a1
  have c2 : (S.setObj l Y).obj p2 = _ := (zc l2).trans a2
  have c4 : (S.setObj l Y).obj p4 = _ := (zc l4).trans a4
  have cp : (S.setObj l Y).obj pb = _ := (zc lp).trans ap
  have cb : (S.setObj l Y).obj bb = _ := (zc lb).trans ab
  have cY : (S.setObj l Y).obj l = _ := zb _ _ _
  clear a1 a2 a4 ap ab hX hround
  generalize S.setObj l Y = S7 at *
  have hdr := zop hk
  refine bceq (fun d1 => ?_) (fun d1 => ?_)
  ·have d1 : w.U[k].inn = 0 := d1
   rw [if_pos d1] at hdr
   have hown := ztm hm hk d1
   refine ADraw.of_sched ze (by rfl) (by rfl) zn3 (by rfl) ?_
   refine za (o := S7.obj p4) _ c4 ?_
   refine za (o := S7.obj p1) _ c1 ?_
   refine ⟨zgw w.G fm.hg w.U[k].pos (zi6 hm hk d1) _ _ ⟨⟨za (o := S7.obj p4) _ c4 rfl, rfl, Tv⟩, ?_⟩, Tv⟩
   refine ⟨zir w.U[k] (fm.hk _ (List.getElem_mem hk)) _ _ ⟨⟨za (o := S7.obj p4) _ c4 rfl, Tv⟩, ?_⟩, Tv⟩
   refine ⟨xt w.G w.U[k].pos, rfl, hown, ?_⟩
   refine ⟨?_, Tv⟩
   refine za _ rfl (y8 rfl (qj (v := .s (.int .u8 (zgv w.U[k]))) rfl rfl rfl rfl ?_))
   refine zo (i := ti5) (v := .s (.int .u8 (zgv w.U[k]))) (b := bb) (o := 0 + xt w.G w.U[k].pos * 1) (l := ul w.G.T.length (wx w (k + 1))) (st2 := S7.setObj bb (.cells (ul w.G.T.length (wx w k)))) rfl rfl rfl cb (by rw [zak]; omega) (by rw [show 0 + xt w.G w.U[k].pos * 1 = xt w.G w.U[k].pos by omega, zf7 hown, hdr]) ?_
   refine ⟨Tv, ?_⟩
   exact ⟨rfl, (zc (Ne.symm lb)).trans cY, rfl, zb _ _ _, ⟨(zc l1).trans ((zc m1).trans c1), (zc l2).trans ((zc m2).trans c2), (zc l4).trans ((zc (Ne.symm n4b)).trans c4)⟩, (zc lp).trans ((zc (Ne.symm kb)).trans cp), (zc lb).trans (zb _ _ _)⟩
  ·have d1 : ¬ w.U[k].inn = 0 := d1
   rw [if_neg d1] at hdr
   exact ⟨rfl, cY, rfl, zb _ _ _, ⟨(zc l1).trans c1, (zc l2).trans c2, (zc l4).trans c4⟩, (zc lp).trans cp, (zc lb).trans (by rw [hdr]; exact cb)⟩
 ·exact ⟨zb _ _ _, ⟨(zc l1).trans s1, (zc l2).trans s2, (zc l4).trans s4⟩, (zc lp).trans sp, (zc lb).trans sb⟩
 rintro S ⟨hX, ⟨a1, a2, a4⟩, ap, ab⟩
 refine ⟨hX, ?_⟩
 have e1 : (S.delObj l).obj p1 = _ := (j3 l1).trans a1
 have e2 : (S.delObj l).obj p2 = _ := (j3 l2).trans a2
 have e4 : (S.delObj l).obj p4 = _ := (j3 l4).trans a4
 have eb : (S.delObj l).obj bb = _ := (j3 lb).trans ab
 clear a1 a2 a4 ap ab hX hround hfl l1 l2 l4 lb lp k1 k2 k4 kb s1 s2 s4 sb sp
 generalize S.delObj l = S8 at *
 clear S
 obtain ⟨⟨hW1, hW2⟩, ⟨hH1, hH2⟩, hTT, _⟩ := fm.hg
 obtain ⟨Wn, hWn⟩ : ∃ n : Nat, w.G.W = (n : Int) := ⟨w.G.W.toNat, by omega⟩
 obtain ⟨Hn, hHn⟩ : ∃ n : Nat, w.G.H = (n : Int) := ⟨w.G.H.toNat, by omega⟩
 have hTn : w.G.T.length = Hn * Wn := by
  rw [hWn, hHn] at hTT
  have : (w.G.T.length : Int) = ((Wn * Hn : Nat) : Int) := by rw [hTT]; simp
  rw [Nat.mul_comm]
  omega
 have hWi : (wldC w).drop 3 = int (Wn : Nat) :: (wldC w).drop 4 := by rw [<- hWn]; rfl
 refine AWp.seq (AWp.seq (AWp.of_vc ze ?_))
 refine za (o := S8.obj p4) _ e4 ?_
 refine za (o := S8.obj p1) _ e1 ?_
 refine zhr (.slice (some ⟨bb, 0, none⟩) w.G.T.length w.G.T.length) ⟨_, _, _, rfl⟩ Wn (by omega) w.G.W hWn _ _ (fun pc pq hfc hfq => ?_)
 have c2 : (S8.setObj pc (.cells [.s (.slice (some ⟨bb, 0, none⟩) w.G.T.length w.G.T.length)])).obj p2 = _ := (zc (fne hfc e2)).trans e2
 have cb : (S8.setObj pc (.cells [.s (.slice (some ⟨bb, 0, none⟩) w.G.T.length w.G.T.length)])).obj bb = _ := (zc (fne hfc eb)).trans eb
 have cc : (S8.setObj pc (.cells [.s (.slice (some ⟨bb, 0, none⟩) w.G.T.length w.G.T.length)])).obj pc = _ := zb _ _ _
 have h2c := fne hfc e2
 have h2q := fne hfq c2
 clear e1 e2 e4 eb hfc
 generalize S8.setObj pc (.cells [.s (.slice (some ⟨bb, 0, none⟩) w.G.T.length w.G.T.length)]) = S9 at *
 have d2 : (S9.setObj pq (.cells [int (Wn : Nat)])).obj p2 = _ := (zc h2q).trans c2
 have db : (S9.setObj pq (.cells [int (Wn : Nat)])).obj bb = _ := (zc (fne hfq cb)).trans cb
 have dc : (S9.setObj pq (.cells [int (Wn : Nat)])).obj pc = _ := (zc (fne hfq cc)).trans cc
 have dq : (S9.setObj pq (.cells [int (Wn : Nat)])).obj pq = _ := zb _ _ _
 clear c2 cb cc hfq
 generalize S9.setObj pq (.cells [int (Wn : Nat)]) = S10 at *
 rw [hTn] at dc
 refine AWp.block (AWp.rangeFunc rfl rfl Tryz.func51 (by rfl) (by rfl) [(2, ptr p2)] (fun p hp => ?_) (fun q hq => ?_) (by decide) (by decide) (fun l X Y hfl hround => ?_))
 ·simp only [List.mem_cons, List.not_mem_nil, or_false] at hp
  rcases hp with rfl
  rfl
 ·simp only [List.mem_cons, List.not_mem_nil, or_false] at hq
  rcases hq with rfl
  simp
 have l2 := fne hfl d2
 have lb := fne hfl db
 have lc := fne hfl dc
 have lq := fne hfl dq
 refine zfz Wn Hn bb (by omega) (by omega) pc pq l (fun k S => S.obj l = some X /\ (S.obj pc = some (.cells [.s (.slice (some ⟨bb, 0, none⟩) (Hn * Wn) (Hn * Wn))]) /\ S.obj pq = some (.cells [int (Wn : Nat)])) /\ S.obj bb = some (.cells (ul w.G.T.length (wx w 0))) /\ ∃ v, S.obj p2 = some (.cells [v]) /\ zs3 S v (rws qy ((yf w).take k))) (fun k S h => h.2.1) ?_ _ ?_ _ ?_
 ·rintro k S hk ⟨hX, ⟨ac, aq⟩, ab, v, av, hv⟩
  refine hround S _ _ hX rfl ?_
  refine AWp.of_vc ze ?_
  refine ⟨rfl, hX, AWp.of_vc ze ?_⟩
  have g2 : (S.setObj l Y).obj p2 = _ := (zc l2).trans av
  have gb : (S.setObj l Y).obj bb = _ := (zc lb).trans ab
  have gc : (S.setObj l Y).obj pc = _ := (zc lc).trans ac
  have gq : (S.setObj l Y).obj pq = _ := (zc lq).trans aq
  have gY : (S.setObj l Y).obj l = _ := zb _ _ _
  have gv : zs3 (S.setObj l Y) v (rws qy ((yf w).take k)) := by
   rcases hv with h | ⟨h1, b, h2, h3, h4⟩
   ·exact .inl h
   ·have hbl : b ≠ l := fun e => by subst e; rw [hX] at h3; cases h3
    exact .inr ⟨h1, b, h2, (zc hbl).trans h3, h4⟩
  clear av ab ac aq hX hv hround
  generalize S.setObj l Y = S7 at *
  refine za (o := S7.obj p2) _ g2 ?_
  have hkW : k * Wn + Wn <= w.G.T.length := by
   have := Nat.mul_le_mul_right Wn (show k + 1 <= Hn from hk)
   rw [Nat.add_mul] at this
   omega
  have hrow : ((ul w.G.T.length (wx w 0)).drop (0 + k * Wn * 1)).take Wn = kw (rowI w k) := by
   rw [zs7 hkW]
   unfold rowI
   rw [hWn, Int.toNat_natCast]
  refine zoz rfl (is := ti24) (ie := ti5) (it := ti9) rfl rfl rfl rfl rfl rfl rfl gb (by unfold rowI; simp [hWn]) hrow ?_
  refine ⟨by decide, ?_⟩
  have hll : (yf w).length = Hn := by unfold yf; simp [hHn]
  have hkl : k < (yf w).length := by omega
  have hlk : (yf w)[k] = ze5 (rowI w k) := by simp [yf]
  have hrl : (rws qy ((yf w).take k)).length = k := by rw [zk, List.length_take]; omega
  refine zjq (ie := ti9) (rows' := [qy (ze5 (rowI w k))]) gv rfl rfl rfl (by simp) ⟨?_, ?_⟩ (fun b st2 ho hb ht => ?_)
  ·rw [hrl]; show (k + 1) * 16 <= _; omega
  ·rw [hrl]; show k + 1 <= _; omega
  have hs : rws qy ((yf w).take k) ++ [qy (ze5 (rowI w k))] = rws qy ((yf w).take (k + 1)) := by rw [<- hlk]; exact zn5 hkl
  have nb2 : b ≠ p2 := fun e => by subst e; rw [ho, g2] at hb; cases hb
  have nbl : b ≠ l := fun e => by subst e; rw [ho, gY] at hb; cases hb
  have j2 := (ho p2).trans g2
  have jb := (ho bb).trans gb
  have jc := (ho pc).trans gc
  have jq := (ho pq).trans gq
  have jl := (ho l).trans gY
  rw [hs] at ht ⊢
  clear ho gv g2 gb gc gq gY
  have nb : bb ≠ p2 := Ne.symm m2
  have nc : pc ≠ p2 := Ne.symm h2c
  have nq : pq ≠ p2 := Ne.symm h2q
  refine zo (i := ti31) (v := .lst 1 (rws qy ((yf w).take (k + 1))) (some b)) (b := p2) (o := 0) (l := [v]) (st2 := st2.setObj p2 (.cells [.lst 1 (rws qy ((yf w).take (k + 1))) (some b)])) rfl rfl rfl j2 (Nat.le_refl 1) rfl ?_
  refine ⟨rfl, (zc (Ne.symm l2)).trans jl, rfl, zb _ _ _, ⟨(zc lc).trans ((zc nc).trans jc), (zc lq).trans ((zc nq).trans jq)⟩, (zc lb).trans ((zc nb).trans jb), _, (zc l2).trans (zb _ _ _), .inr ⟨?_, b, rfl, (zc nbl).trans ((zc nb2).trans hb), ht⟩⟩
  rw [<- hs]
  simp
 ·exact ⟨zb _ _ _, ⟨(zc lc).trans dc, (zc lq).trans dq⟩, (zc lb).trans db, _, (zc l2).trans d2, .inl ⟨rfl, rfl⟩⟩
 rintro S ⟨hX, ⟨ac, aq⟩, ab, v, av, hv⟩
 refine ⟨hX, ?_⟩
 have f2 : (S.delObj l).obj p2 = _ := (j3 l2).trans av
 have hfull : (yf w).take Hn = yf w := List.take_of_length_le (by unfold yf; simp; omega)
 rw [hfull] at hv
 refine AWp.of_vc ze ?_
 rcases hv with ⟨_, e⟩ | ⟨_, b, rfl, _, htk⟩
 ·have hll : (yf w).length = Hn := by unfold yf; simp [hHn]
  have := congrArg List.length e
  rw [zk, hll, List.length_nil] at this
  omega
 refine za (o := (S.delObj l).obj p2) _ f2 ?_
 refine zo (i := ti31) (v := .lst 1 (rws qy (yf w)) (some b)) (b := p2) (o := 0) (l := [.lst 1 (rws qy (yf w)) (some b)]) (st2 := (S.delObj l).setObj p2 (.cells [.lst 1 (rws qy (yf w)) (some b)])) rfl rfl rfl f2 (Nat.le_refl 1) rfl ?_
 refine za (o := ((S.delObj l).setObj p2 (.cells [.lst 1 (rws qy (yf w)) (some b)])).obj p2) _ (zb _ _ _) ?_
 exact ⟨_, _, Tt, Store.Has.refl _, .inr ⟨hm, b, rfl, htk⟩⟩
theorem zon (w : Wld) (hf : w.fits) (hn : ∀ u ∈ w.U, u.pos.ok) : ACalls Tryz.prog 10 [.agg (wldC w)] Store.empty fun r _ => (¬ mayP w /\ r = .tup [nil, int 1]) \/ (mayP w /\ r = .tup [lst 1 qy (yf w), int 0]) := by
 refine ACalls.post (zee w hf hn) (Store.Le.refl _) fun r S h => ?_
 rcases h with ⟨h1, rfl⟩ | ⟨h1, b, rfl, _⟩
 ·exact ⟨_, S, Tt, Store.Le.refl _, .inl ⟨h1, rfl⟩⟩
 ·exact ⟨_, S, zsm (AV.le_tok _ _ _), Store.Le.refl _, .inr ⟨h1, rfl⟩⟩
theorem zj6 (w : Wld) (hf : w.fits) (hn : ∀ u ∈ w.U, u.pos.ok) (st : Store) (R : AV -> Store -> Prop) (hno : ¬ mayP w -> R (.tup [nil, int 1]) st) (hok : mayP w -> R (.tup [lst 1 qy (yf w), int 0]) st) : ACalls Tryz.prog 10 [.agg (wldC w)] st R :=
 zsl (zon w hf hn) st R fun r h => by
  rcases h with ⟨h1, rfl⟩ | ⟨h1, rfl⟩
  ·exact hno h1
  ·exact hok h1
theorem vp (e : Int) (st : Store) (R : AV -> Store -> Prop) (h : R (int e) st) : ACalls Tryz.prog 11 [int e] st R := by
 refine ACalls.of_body (c := cfg 4) ze Tryz.func11 (by rfl) (by rfl) (by rfl) (by rfl) ?_
 exact ret h
theorem znt (s : ByteArray) : (s == s) = true := by
 rw [zil]
 simp
theorem kk (l : List ByteArray) (hl : l.length <= 1000000) (st : Store) (R : AV -> Store -> Prop) (h : R (V.bool true) st) : ACalls Tryz.prog 12 [lst 1 qy l, lst 1 qy l] st R := by
 refine ACalls.of_body (c := cfg 26) ze Tryz.func12 (by rfl) (by rfl) (by rfl) (by rfl) ?_
 refine bcne (fun c => absurd rfl c) (fun _ => ?_)
 refine AWp.loop (σ := Nat) ⟨fun i => [(0, .av (lst 1 qy l)), (1, .av (lst 1 qy l)), (5, .av (int (i : Nat)))], fun _ => [], fun i st' => st' = st /\ i <= l.length, fun i => l.length - i⟩ ze ?_ ?_
 ·exact ⟨0, Tv, ⟨rfl, Nat.zero_le _⟩, ⟨Tq, Tq, Tq, Tv⟩, Tv⟩
 rintro i st' ⟨rfl, hi⟩
 refine zf (fun h1 => ?_) (fun h1 => ret h)
 have hlt : i < l.length := zjc h1
 refine ADraw.of_sched ze (by rfl) (by rfl) zse (by rfl) ?_
 refine ⟨i, rfl, za _ (z6 hlt) ?_⟩
 refine ⟨i, rfl, za _ (z6 hlt) ?_⟩
 refine j5 (zf (fun _ => ?_) (fun e => absurd (znt l[i]) (by rw [e]; decide)))
 refine in64 (by omega) ?_
 exact ⟨i + 1, (show l.length - (i + 1) < l.length - i by omega), ⟨rfl, hlt⟩, ⟨Tq, Tq, Tq, Tv⟩, Tv⟩
def vW0 : Wld := ⟨0, 1, 1, ⟨1, 1, [0]⟩, [], []⟩
theorem zpc : mayP vW0 := by decide +kernel
theorem zid : yf vW0 = [⟨#[46]⟩] := by decide +kernel
theorem zdg (st : Store) (R : AV -> Store -> Prop) (h : R (V.bool true) st) : ACalls Tryz.prog 14 [] st R := by
 refine ACalls.of_body (c := cfg 24) ze Tryz.func14 (by rfl) (by rfl) (by rfl) (by rfl) ?_
 refine ⟨by decide, ?_⟩
 refine ACalls.le (ys := [.agg (wldC vW0)]) ⟨?_, Tv⟩ (zj6 vW0 ⟨by unfold Gnd.fits; decide, by decide, by decide⟩ (fun u hu => by cases hu) _ _ (fun hno => absurd zpc hno) (fun _ => ?_))
 ·exact AV.le_aggL ⟨Tt, Tt, Tt, Tt, Tt, Tt, AV.le_nil 6, AV.le_nil 10, Tv⟩
 rw [zid]
 refine vp _ _ _ ?_
 refine ⟨0, rfl, za _ rfl ?_⟩
 exact ret h
theorem zs1 {w : Wld} (hm : mayP w) {u : Unt} (hu : u ∈ w.U) : (0 <= u.pos.1 /\ u.pos.1 < w.G.W * 65536) /\ (0 <= u.pos.2 /\ u.pos.2 < w.G.H * 65536) := by
 obtain ⟨i, hi, rfl⟩ := List.getElem_of_mem hu
 by_cases h0 : w.U[i].inn = 0
 ·exact zi6 hm hi h0
 ·obtain ⟨x, _, _, _, _, _, hp, _⟩ := hm.2.2 _ hu h0
  have hg := (mayF hm).hg
  have := hg.1
  have := hg.2.1
  rw [hp]
  refine ⟨⟨by decide, ?_⟩, ⟨by decide, ?_⟩⟩
  ·show (0 : Int) < _; omega
  ·show (0 : Int) < _; omega
/-- A call that only looks at what is there, and hands back a list of its own. -/
theorem zsi {P : Program} {f : FuncId} {xs ys : List AV} {g : Store} {rows : List (List AV)} {y : AV} {n : Nat} {R : AV -> Store -> Prop}
  (hb : ∀ Oth M w vs, StoreOK g Oth M w -> Reads w (fun b o => M b o \/ Oth b o) xs vs -> Reads w (fun b o => (M b o \/ Oth b o) /\ g.obj b = none) ys vs)
  (h : ACalls P f ys Store.empty fun r S => ∃ b, r = .tup [.lst 1 rows (some b), y] /\ S.tok b = some n) (hall : ∀ row ∈ rows, ∀ x ∈ row, ∃ v, x = AV.s v) (hy : flat y) (hR : R (.tup [.lst 1 rows none, y]) g) : ACalls P f xs g R := by
 refine ⟨fun Oth M w vs sto hr => ?_⟩
 let O1 : Nat -> Nat -> Prop := fun b o => (M b o \/ Oth b o) /\ g.obj b = none
 have sto0 : StoreOK Store.empty O1 (fun _ _ => False) w :=
  { obj := fun b x hx => (by cases hx), tok := fun b x hx => (by cases hx), mlt := fun _ _ h => h.elim, olt := fun b o h => Or.elim h.1 (sto.mlt b o) (sto.olt b o), dis := fun _ _ _ h => h }
 have h1 := h.out O1 (fun _ _ => False) w vs sto0 (by
  have e : (fun (b o : Nat) => False \/ O1 b o) = O1 := by funext b o; simp
  rw [e]; exact hb Oth M w vs.toList sto hr)
 have key : ∀ v w', zl Store.empty (fun r S => ∃ b, r = .tup [.lst 1 rows (some b), y] /\ S.tok b = some n) O1 (fun _ _ => False) w v w' -> zl g R Oth M w v w' := by
  rintro v w' ⟨r, a', M2, ⟨b, rfl, htk⟩, hv, hsto, hchg⟩
  have hg : Grow w w' := ⟨hchg.size, fun b hb => hchg.blk b hb fun _ h => h, hchg.tape, hchg.os, hchg.output⟩
  refine ⟨_, g, M, hR, ?_, sto.grow hg, hg.chg M⟩
  obtain ⟨c1, e1, fr1, k1, k2, k3, k4⟩ := hsto.tok b n htk
  have hbw : w.heap.size <= b := by
   rcases Nat.lt_or_ge b w.heap.size with hlt | hge
   ·exact (hchg.sub b n (k4 n (Nat.le_refl _)) hlt).elim
   ·exact hge
  have hno : ∀ o, ¬ (M b o \/ Oth b o) := fun o ho => by
   rcases ho with ho | ho
   ·have := sto.mlt b o ho; omega
   ·have := sto.olt b o ho; omega
  cases hv with
  | tup _ cs hl hc =>
   refine .tup _ cs hl fun i x z hx hz => ?_
   match i, hx with
   | 0, hx =>
    cases hx
    have h0 := hc 0 _ z rfl hz
    cases h0 with
    | lst _ _ b2 off cap _ c hcap hk htok hcc hc1 hcx =>
     obtain ⟨rfl, rfl, _, _⟩ := htok b rfl
     exact .lst rows none b 0 cap 1 c hcap hk (fun _ h => by cases h) (fun i row j x hi hj => ⟨(hcc i row j x hi hj).1, hno _⟩) hc1 (fun i row j x hi hj => by
      have h2 := hcx i row j x hi hj
      obtain ⟨u, rfl⟩ := hall row (List.mem_of_getElem? hi) x (List.mem_of_getElem? hj)
      exact zo7 u _ _ _ _ _ h2)
   | 1, hx => cases hx; exact hy _ _ _ _ _ (hc 1 _ z rfl hz)
   | i + 2, hx => cases hx
 generalize (callFunc f vs).run P w = res at h1
 cases res with
 | ok n w' =>
  cases n with
  | enter f' args => exact Calls.mono h1 fun e w'' ⟨v, he, hv⟩ => ⟨v, he, key _ _ hv⟩
  | value v => exact key _ _ h1
  | _ => exact h1
 | _ => exact h1
theorem zb6 {S : Store} {w : Wld} {v : AV} (hv : RowsQ 10 untC S v w.U) (hm : mayP w) (hn : ∀ u ∈ w.U, u.pos.ok) (R : AV -> Store -> Prop) (h : R (.tup [lst 1 qy (yf w), int 0]) S) : ACalls Tryz.prog 10 [.agg (wldV w v)] S R :=
 zsi (ys := [.agg (wldC w)]) (n := (rws qy (yf w)).length * 1) (fun Oth M W vs sto hr => by
  obtain ⟨h1, h2⟩ := hr
  match vs, h1, h2 with
  | [x], _, h2 => exact Reads.cons (zex hv sto (h2 0 _ x rfl rfl)) Reads.nil) ((zee w (mayF hm).fits hn).imp fun r S2 hr => by
   rcases hr with ⟨hno, _⟩ | ⟨_, b, e, ht⟩
   ·exact absurd hm hno
   ·exact ⟨b, e, ht⟩) (fun row hrow x hx => by
   obtain ⟨y, _, rfl⟩ := List.mem_map.1 hrow
   simp [qy] at hx
   exact ⟨_, hx⟩) (zo7 _) h
theorem zo0 {l : List Unt} (h : mayP (vsW l)) : ∀ u ∈ l, u.pos.ok := fun u hu => by
 have h1 := zs1 h (u := u) hu
 have e1 : (vsW l).G.W = 6 := rfl
 have e2 : (vsW l).G.H = 4 := rfl
 rw [e1, e2] at h1
 exact ⟨⟨by omega, by omega⟩, ⟨by omega, by omega⟩⟩
theorem zku (t : Nat) (h : t < 6) : vsT (t + 1) = updN (vsT t) t (t : Int) := funext fun i => by
 unfold vsT updN
 by_cases e : i = t
 ·subst e; rw [if_pos rfl, if_pos (by omega)]
 ·rw [if_neg e]
  by_cases h2 : i < t /\ i < 6
  ·rw [if_pos (by omega)]; exact (if_pos h2).symm
  ·rw [if_neg (by omega)]; exact (if_neg h2).symm
theorem zkt : ul 24 (fun _ => 0) = ul 24 (vsT 0) := zcl fun t _ => by unfold vsT; rw [if_neg (by omega)]
set_option maxHeartbeats 4000000 in
set_option maxRecDepth 20000 in
theorem zci (l : List Wld) : ACalls Tryz.prog 5 [wsC l] Store.empty fun r _ => r = V.bool true := by
 refine ACalls.of_awp (c := cfg 94) ze Tryz.func5 (by rfl) (by rfl) (by rfl) (by rfl) ?_
 refine AWp.seq (AWp.of_vc ze ?_)
 refine AWp.seq (AWp.of_vc ze ?_)
 refine vl rfl (it := ti24) (ie := ti5) rfl rfl rfl rfl rfl (n := 24) (by decide) (by decide) (fun bt hft => ?_)
 rw [zih, zkt]
 refine AWp.seq (AWp.seq (AWp.of_vc ze ?_))
 refine AWp.of_vc ze ?_
 refine AWp.loop (σ := Nat) ⟨fun t => [(0, .av (wsC l)), (3, .bx 3 0), (4, .av (int (t : Nat)))], fun _ => [(3, [int 6, int 4, .s (.slice (some ⟨bt, 0, none⟩) 24 24)])],
  fun t S => t <= 6 /\ S = Store.empty.setObj bt (.cells (ul 24 (vsT t))), fun t => 6 - t⟩ ze ?_ ?_
 ·exact ⟨0, Tv, ⟨by omega, rfl⟩, ⟨Tq, Tq, Tq, Tv⟩, ⟨rfl, Tv⟩⟩
 rintro t S ⟨ht, rfl⟩
 refine bcd (fun c1 => ?_) (fun c1 => ?_)
 ·have ht6 : t < 6 := by omega
  have hw : IntKind.u8.wrap (t : Int) = (t : Int) := by
   have : t = 0 \/ t = 1 \/ t = 2 \/ t = 3 \/ t = 4 \/ t = 5 := by omega
   rcases this with rfl | rfl | rfl | rfl | rfl | rfl <;> rfl
  refine ⟨t, rfl, by omega, ?_⟩
  refine zo (i := ti5) (v := .s (.int .u8 (IntKind.u8.wrap (t : Int)))) (b := bt) (o := 0 + t * 1) (l := ul 24 (vsT t)) (st2 := Store.empty.setObj bt (.cells (ul 24 (vsT (t + 1))))) rfl rfl rfl (zb _ _ _) (by rw [zak]; omega) (by rw [show 0 + t * 1 = t by omega, zf7 (by omega), hw, <- zku t ht6, zi]) ?_
  refine in64 (by omega) ?_
  exact ⟨t + 1, (show 6 - (t + 1) < 6 - t by omega), ⟨by omega, rfl⟩, ⟨Tq, Tq, Tq, Tv⟩, ⟨rfl, Tv⟩⟩
 have : t = 6 := by omega
 subst this
 clear c1 ht
 refine AWp.freezeBx (d := 3) (j := 2) (b := bt) (n := 24) (cap := 24) (k := 1) (rows := rws u8C vsG.T) (pad := []) rfl rfl (by rw [zb, zpb, List.append_nil]) hft.2 rfl (Nat.le_refl _) ?_ ?_ ?_
 ·intro row hr
  obtain ⟨x, _, rfl⟩ := List.mem_map.1 hr
  rfl
 ·intro row hr y hy
  obtain ⟨x, _, rfl⟩ := List.mem_map.1 hr
  simp [u8C, u8] at hy
  exact ⟨_, hy, rfl⟩
 rw [za7 hft.1]
 refine AWp.seq (AWp.of_vc ze ?_)
 refine ⟨by decide, ?_⟩
 refine AWp.seq (AWp.seq (AWp.of_vc ze ?_))
 refine AWp.of_vc ze ?_
 refine AWp.loop (σ := Nat × AV) ⟨fun k => [(0, .av (wsC l)), (3, .bx 3 0), (5, .bx 5 0), (6, .av (int (k.1 : Nat)))], fun k => [(3, gndC vsG), (5, wldV (vsW []) k.2)],
  fun k S => k.1 <= 4 /\ RowsO 10 untC S k.2 (vsL k.1), fun k => 4 - k.1⟩ ze ?_ ?_
 ·exact ⟨(0, _), Tv, ⟨by omega, .inl ⟨rfl, rfl⟩⟩, ⟨Tq, Tq, Tq, Tq, Tv⟩, ⟨rfl, rfl, Tv⟩⟩
 rintro ⟨k, v⟩ S ⟨hk, hv⟩
 dsimp only at hk hv ⊢
 refine bcd (fun c1 => ?_) (fun c1 => ?_)
 ·have hk4 : k = 0 \/ k = 1 \/ k = 2 \/ k = 3 := by omega
  rcases hk4 with rfl | rfl | rfl | rfl
  ·refine ⟨by decide, ?_⟩
   refine ⟨0, rfl, za _ rfl ?_⟩
   refine ADraw.of_sched ze (by rfl) (by rfl) zfd (by rfl) ?_
   refine in64 (by decide) ?_
   refine ⟨ks vsG vs_g 18 (by decide) _ rfl _ _ ⟨⟨rfl, Tv⟩, ?_⟩, Tv⟩
   refine ⟨by decide, ?_⟩
   refine ⟨zf2 (ie := ti47) rfl (fun _ => rfl) (by decide) hv (vsU 0 18) rfl (by decide) (fun b cap L q1 q2 q3 q4 => ⟨Tv, ?_⟩), Tv⟩
   refine ⟨⟨Tv, ?_⟩, Tv⟩
   refine in64 (by decide) ?_
   have q5 : RowsO 10 untC (S.setObj b (.cells ((rws untC (vsL 0 ++ [vsU 0 18])).flatten ++ L))) (.s (.slice (some ⟨b, 0, none⟩) (vsL 0 ++ [vsU 0 18]).length cap)) (vsL 0 ++ [vsU 0 18]) := .inr ⟨b, cap, L, rfl, zb _ _ _, q2, q3, q4⟩
   exact ⟨(1, _), (show 4 - 1 < 4 - 0 by decide), ⟨(show 1 <= 4 by decide), q5⟩, ⟨Tq, Tq, Tq, Tq, Tv⟩, ⟨rfl, rfl, Tv⟩⟩
  ·refine ⟨by decide, ?_⟩
   refine ⟨1, rfl, za _ rfl ?_⟩
   refine ADraw.of_sched ze (by rfl) (by rfl) zfd (by rfl) ?_
   refine in64 (by decide) ?_
   refine ⟨ks vsG vs_g 20 (by decide) _ rfl _ _ ⟨⟨rfl, Tv⟩, ?_⟩, Tv⟩
   refine ⟨by decide, ?_⟩
   refine ⟨zf2 (ie := ti47) rfl (fun _ => rfl) (by decide) hv (vsU 1 20) rfl (by decide) (fun b cap L q1 q2 q3 q4 => ⟨Tv, ?_⟩), Tv⟩
   refine ⟨⟨Tv, ?_⟩, Tv⟩
   refine in64 (by decide) ?_
   have q5 : RowsO 10 untC (S.setObj b (.cells ((rws untC (vsL 1 ++ [vsU 1 20])).flatten ++ L))) (.s (.slice (some ⟨b, 0, none⟩) (vsL 1 ++ [vsU 1 20]).length cap)) (vsL 1 ++ [vsU 1 20]) := .inr ⟨b, cap, L, rfl, zb _ _ _, q2, q3, q4⟩
   exact ⟨(2, _), (show 4 - 2 < 4 - 1 by decide), ⟨(show 2 <= 4 by decide), q5⟩, ⟨Tq, Tq, Tq, Tq, Tv⟩, ⟨rfl, rfl, Tv⟩⟩
  ·refine ⟨by decide, ?_⟩
   refine ⟨2, rfl, za _ rfl ?_⟩
   refine in64 (by decide) ?_
   exact ⟨(3, v), (show 1 < 2 by decide), ⟨(show 3 <= 4 by decide), hv⟩, ⟨Tq, Tq, Tq, Tq, Tv⟩, ⟨rfl, rfl, Tv⟩⟩
  ·refine ⟨by decide, ?_⟩
   refine ⟨3, rfl, za _ rfl ?_⟩
   refine ADraw.of_sched ze (by rfl) (by rfl) zfd (by rfl) ?_
   refine in64 (by decide) ?_
   refine ⟨ks vsG vs_g 15 (by decide) _ rfl _ _ ⟨⟨rfl, Tv⟩, ?_⟩, Tv⟩
   refine ⟨by decide, ?_⟩
   refine ⟨zf2 (ie := ti47) rfl (fun _ => rfl) (by decide) hv (vsU 3 15) rfl (by decide) (fun b cap L q1 q2 q3 q4 => ⟨Tv, ?_⟩), Tv⟩
   refine ⟨⟨Tv, ?_⟩, Tv⟩
   refine in64 (by decide) ?_
   have q5 : RowsO 10 untC (S.setObj b (.cells ((rws untC (vsL 3 ++ [vsU 3 15])).flatten ++ L))) (.s (.slice (some ⟨b, 0, none⟩) (vsL 3 ++ [vsU 3 15]).length cap)) (vsL 3 ++ [vsU 3 15]) := .inr ⟨b, cap, L, rfl, zb _ _ _, q2, q3, q4⟩
   exact ⟨(4, _), (show 4 - 4 < 4 - 3 by decide), ⟨(show 4 <= 4 by decide), q5⟩, ⟨Tq, Tq, Tq, Tq, Tv⟩, ⟨rfl, rfl, Tv⟩⟩
 have : k = 4 := by omega
 subst this
 clear c1 hk
 rcases hv with ⟨_, e⟩ | ⟨b, cap, L, rfl, ho, q2, q3, q4⟩
 ·cases e
 have hm := vs_may.1
 have hvQ : RowsQ 10 untC S (.s (.slice (some ⟨b, 0, none⟩) 3 cap)) (vsW (vsL 4)).U := RowsO.q (.inr ⟨b, cap, L, rfl, ho, q2, q3, q4⟩)
 refine AWp.seq (AWp.of_vc ze ?_)
 refine zb6 (w := vsW (vsL 4)) hvQ hm (zo0 hm) _ ?_
 rw [vs_lines.1]
 refine AWp.seq (AWp.of_vc ze ?_)
 refine ADraw.of_sched ze (by rfl) (by rfl) zr7 (by rfl) ?_
 refine ⟨0, rfl, (show 0 < 3 by decide), ?_⟩
 have hl1 : ((rws untC (vsL 4)).flatten ++ L).length = 30 + L.length := by rw [List.length_append]; rfl
 have hl2 : ((rws untC [{ vsU 0 18 with goal := 0 }, vsU 1 20, vsU 3 15]).flatten ++ L).length = 30 + L.length := by rw [List.length_append]; rfl
 refine ⟨?_, Tv⟩
 refine za _ rfl (y8 rfl (qj (v := int 0) rfl rfl rfl rfl ?_))
 refine zo (i := ti3) (v := int 0) (b := b) (o := 0 + 0 * 10 + 5) (l := (rws untC (vsL 4)).flatten ++ L) (st2 := S.setObj b (.cells ((rws untC [{ vsU 0 18 with goal := 0 }, vsU 1 20, vsU 3 15]).flatten ++ L))) rfl rfl rfl ho (by rw [hl1]; omega) rfl ?_
 refine ⟨⟨rfl, Tv⟩, ?_⟩
 refine ⟨0, rfl, (show 0 < 3 by decide), ?_⟩
 refine ⟨?_, Tv⟩
 refine za _ rfl (y8 rfl (qj (v := int 1) rfl rfl rfl rfl ?_))
 refine zo (i := ti3) (v := int 1) (b := b) (o := 0 + 0 * 10 + 9) (l := (rws untC [{ vsU 0 18 with goal := 0 }, vsU 1 20, vsU 3 15]).flatten ++ L) (st2 := S.setObj b (.cells ((rws untC vsM).flatten ++ L))) rfl rfl rfl (zb _ _ _) (by rw [hl2]; omega) (by rw [zi]; rfl) ?_
 refine ⟨Tv, ?_⟩
 have hm2 := vs_may.2
 have hvM : RowsQ 10 untC (S.setObj b (.cells ((rws untC vsM).flatten ++ L))) (.s (.slice (some ⟨b, 0, none⟩) 3 cap)) (vsW vsM).U := RowsO.q (.inr ⟨b, cap, L, rfl, zb _ _ _, q2, q3, q4⟩)
 refine AWp.seq (AWp.of_vc ze ?_)
 refine zb6 (w := vsW vsM) hvM hm2 (zo0 hm2) _ ?_
 rw [vs_lines.2]
 refine AWp.of_vc ze ?_
 refine vp _ _ _ ?_
 refine vp _ _ _ ?_
 refine ⟨by decide, ?_⟩
 refine kk vsA (by decide) _ _ ?_
 refine ⟨by decide, ?_⟩
 refine kk vsZ (by decide) _ _ ?_
 refine zdg _ _ ?_
 exact ret rfl
theorem zch (l : List Wld) (st : Store) (R : AV -> Store -> Prop) (h : R (V.bool true) st) : ACalls Tryz.prog 5 [wsC l] st R :=
 zsl (zci l) st R fun r e => e ▸ h
end Go.Proofs
