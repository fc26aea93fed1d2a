/- The ground on which laws of thronglaw31 are proved: contracts of functions and plain lemmas; no condition beyond the row's own. -/
import Derived.Laws.BytesString
import Derived.RangeFuncRecord
import Derived.Test.YtlidamnkhidljaaGreatKE
import Derived.Test.YtlidamnkhidljaaGreatKF
import Derived.Test.YtlidamnkhidljaaGreatKD
set_option linter.unusedSimpArgs false
set_option linter.unusedVariables false
namespace Go.V
def onG (g : Gnd) (x y : Int) : Prop := (0 <= x /\ x < g.W) /\ (0 <= y /\ y < g.H)
instance (g : Gnd) (x y : Int) : Decidable (onG g x y) := inferInstanceAs (Decidable (_ /\ _))
def tl (g : Gnd) (x y : Int) : Nat := (x + g.W * y).toNat
end Go.V
namespace Go.V
/-- How far by rows and columns. -/
def absM (i j : Int) : Int := max (max i (-i)) (max j (-j))
/-- A tile at just this way from a place, by steps of k. -/
def zt3 (g : Gnd) (x y k d : Int) (t : Nat) : Bool := decide (absM ((t : Int) % g.W - x) ((t : Int) / g.W - y) = d /\ ((t : Int) % g.W - x).tmod k = 0 /\ ((t : Int) / g.W - y).tmod k = 0)
def zt2 (g : Gnd) (x y k d : Int) : List Nat := (List.range g.T.length).filter (zt3 g x y k d)
/-- Places about a goal: all that are less than d away, by ways. -/
def zt0 (g : Gnd) (f : Nat -> Bool) (x y k d : Int) : List Nat := (zt2 g x y k d).filter f
def zio (g : Gnd) (f : Nat -> Bool) (x y k : Int) : Nat -> List Nat
 | 0 => []
 | d + 1 => zio g f x y k d ++ zt0 g f x y k d
/-- Places about a goal. -/
def ztj (g : Gnd) (f : Nat -> Bool) (size goal : Int) (n : Nat) : List Nat := (zio g f (goal % g.W) (goal / g.W) (2 * size + 1) (g.W + g.H + 1).toNat).take n
end Go.V
namespace Go.V
theorem zsu {n : Nat} {f : Nat -> Bool} {t : Nat} (h : t < n) : ((bl n f).drop (0 + t * 1)).head? = some (bool (f t)) := by
 rw [List.head?_drop, show 0 + t * 1 = t by omega, ws h]
def setI (f : Nat -> Int) (t : Nat) (v : Int) : Nat -> Int := fun s => if s = t then v else f s
/-- What a place reads as: nothing is there, or its number. -/
def gv (g : Gnd) (f : Nat -> Int) (x y : Int) : Int := if onG g x y then f (tl g x y) else 0
def sqB (g : Gnd) (f : Nat -> Bool) (s : Nat) (x y : Int) : Bool := (List.range (2 * s + 1)).all fun a => (List.range (2 * s + 1)).all fun b => decide (onG g (x - s + a) (y - s + b)) && f (tl g (x - s + a) (y - s + b))
/-- Is a tile good for a size? -/
def zt7 (g : Gnd) (l : List Bld) (c s : Int) (t : Nat) : Bool := sqB g (jf g l c) s.toNat ((t : Int) % g.W) ((t : Int) / g.W)
end Go.V
namespace Go.V
end Go.V
namespace Go.V
def updN {α : Type} (d : Nat -> α) (u : Nat) (x : α) : Nat -> α := fun j => if j = u then x else d j
end Go.V
namespace Go.V
end Go.V
namespace Go.V
/-- A slice over an object: its elements, and how much room. -/
def RowsO {α : Type} (k : Nat) (f : α -> List AV) (st : Store) (v : AV) (l : List α) : Prop :=
 (v = .s (.slice none 0 0) /\ l = []) \/ ∃ b cap L, v = .s (.slice (some ⟨b, 0, none⟩) l.length cap) /\ st.obj b = some (.cells ((rws f l).flatten ++ L)) /\ l.length <= cap /\ cap * k <= l.length * k + L.length /\ cap <= 9223372036854775807
section
variable {α : Type} {f : α -> List AV} {k : Nat}
theorem jn (hf : ∀ x, (f x).length = k) (l : List α) : (rws f l).flatten.length = l.length * k := by
 induction l with
 | nil => simp [rws]
 | cons a l ih =>
  show (f a ++ (rws f l).flatten).length = (l.length + 1) * k
  rw [List.length_append, hf, ih, Nat.succ_mul]; omega
theorem jo (a b : List α) : (rws f (a ++ b)).flatten = (rws f a).flatten ++ (rws f b).flatten := by
 rw [<- zsg, List.flatten_append]
theorem zdr {l : List α} {i : Nat} (hi : i < l.length) : (rws f l).flatten = (rws f (l.take i)).flatten ++ (f l[i] ++ (rws f (l.drop (i + 1))).flatten) := by
 have e : l = l.take i ++ (l[i] :: l.drop (i + 1)) := by
  rw [<- List.drop_eq_getElem_cons hi, List.take_append_drop]
 have e2 : (rws f (l[i] :: l.drop (i + 1))).flatten = f l[i] ++ (rws f (l.drop (i + 1))).flatten := rfl
 rw [<- e2, <- jo, <- e]
theorem ze9 {X Y ys : List AV} {j : Nat} (h : j + ys.length <= X.length) : zt (X ++ Y) j ys = zt X j ys ++ Y := by
 unfold zt
 rw [List.take_append_of_le_length (by omega), List.drop_append_of_le_length (by omega)]
 simp only [List.append_assoc]
/-- One cell of an element is stored. -/
theorem ze8 (hf : ∀ x, (f x).length = k) {l : List α} {i j : Nat} (hi : i < l.length) {x' : α} {ys L : List AV} (hj : j + ys.length <= k) (hx : f x' = zt (f l[i]) j ys) :
  zt ((rws f l).flatten ++ L) (i * k + j) ys = (rws f (l.set i x')).flatten ++ L := by
 have h1 : (rws f (l.take i)).flatten.length = i * k := by rw [jn hf, List.length_take, Nat.min_eq_left (by omega)]
 have hi2 : i < (l.set i x').length := by rw [List.length_set]; exact hi
 rw [zdr hi, zdr hi2, List.append_assoc, List.append_assoc, <- h1, zaq]
 have e1 : (l.set i x').take i = l.take i := by rw [List.take_set_of_le (Nat.le_refl i)]
 have e2 : (l.set i x').drop (i + 1) = l.drop (i + 1) := by rw [List.drop_set_of_lt (by omega)]
 rw [e1, e2, List.getElem_set_self, hx]
 have h3 := hf l[i]
 rw [List.append_assoc, ze9 (by omega)]
 simp only [List.append_assoc]
theorem RowsO.un {a g : Store} {v : AV} {l : List α} (h : RowsO k f g v l) : RowsO k f (a.un g) v l := by
 rcases h with h | ⟨b1, cap, L, h1, h2, h3⟩
 ·exact .inl h
 ·exact .inr ⟨b1, cap, L, h1, un_r h2, h3⟩
/-- Where an element stands, and what is left when one cell of it is stored. -/
theorem RowsO.at {st : Store} {v : AV} {l : List α} (h : RowsO k f st v l) {i : Nat} (hi : i < l.length) :
  ∃ b cap L, v = .s (.slice (some ⟨b, 0, none⟩) l.length cap) /\ st.obj b = some (.cells ((rws f l).flatten ++ L)) /\ l.length <= cap /\ cap * k <= l.length * k + L.length /\ cap <= 9223372036854775807 := by
 rcases h with ⟨_, rfl⟩ | h
 ·exact absurd hi (Nat.not_lt_zero i)
 ·exact h
theorem RowsO.borrow {st : Store} {v : AV} {l : List α} (hf : ∀ x, (f x).length = k) (hs : ∀ x, ∀ y ∈ f x, ∃ u, y = AV.s u /\ zv u = true) (hv : RowsO k f st v l) {Oth M : Nat -> Nat -> Prop} {w : World} (sto : StoreOK st Oth M w) {x : Value} (hx : VRel w (fun b o => M b o \/ Oth b o) v x) :
  VRel w (fun b o => (M b o \/ Oth b o) /\ st.obj b = none) (lst k f l) x := by
 rcases hv with ⟨rfl, rfl⟩ | ⟨b, cap, L, rfl, ho, h1, h2, h3⟩
 ·cases hx
  exact AV.le_nil k _ _ _ (.s _)
 ·cases hx
  exact zcc (sto.obj b _ ho).1 (fun o hT => by rw [ho] at hT; exact absurd hT.2 (by simp)) (zk l) h1
   (fun row hr => by obtain ⟨n, _, rfl⟩ := List.mem_map.1 hr; exact hf n) (fun row hr y hy => by
    obtain ⟨n, _, rfl⟩ := List.mem_map.1 hr
    exact hs n y hy)
/-- An append of one element to elements over an object. -/
theorem zf2 {P : Program} {c : Cfg} {e : TypeId} {ie : TI} (hie : c.I e = some ie) (hf : ∀ x, (f x).length = ie.size) (hby : ie.bytes <= 1000) {st : Store} {v : AV} {l : List α} (hv : RowsO ie.size f st v l) (x : α) {src : AV} (hsrc : yy ie.size (.av src) = some [f x]) (hlen : l.length <= 1000000000) {K : AV -> Store -> Prop}
  (h : ∀ b cap L, (Fresh st b \/ ∃ c0, v = .s (.slice (some ⟨b, 0, none⟩) l.length c0)) -> (l ++ [x]).length <= cap -> cap * ie.size <= (l ++ [x]).length * ie.size + L.length -> cap <= 9223372036854775807 ->
   K (.s (.slice (some ⟨b, 0, none⟩) (l ++ [x]).length cap)) (st.setObj b (.cells ((rws f (l ++ [x])).flatten ++ L)))) : appendK P c st e (.av v) (.av src) K := by
 refine ⟨.inr ⟨v, _, rfl, rfl, ?_⟩⟩
 have hl : (l ++ [x]).length = l.length + 1 := by simp
 have hfl := jn hf l
 have hmul : (l.length + 1) * ie.bytes <= 1000000001 * 1000 := Nat.mul_le_mul (by omega) hby
 have happ : (rws f (l ++ [x])).flatten = (rws f l).flatten ++ f x := by
  rw [jo]
  show _ ++ (f x ++ []) = _
  rw [List.append_nil]
 rcases hv with ⟨rfl, rfl⟩ | ⟨b, cap, L, rfl, ho, h1, h2, h3⟩
 ·refine zgk hie hsrc ⟨by simp at hmul ⊢; omega, by simp⟩ (by simp) (fun b' cap' hb hc hc2 => ?_)
  have := h b' cap' (List.replicate ((cap' - [f x].length) * ie.size) .any) (.inl hb) (by simpa using hc) (by
   simp only [List.length_replicate, List.nil_append, List.length_singleton, <- Nat.add_mul]
   exact Nat.mul_le_mul_right _ (by omega)) hc2
  exact this
 ·refine zgj hie (cap := cap) ho (by rw [List.length_append, hfl]; exact h2) h1 hsrc ⟨by simp; omega, by simp; omega⟩ (fun hc => ?_) (fun hc b' cap' hb hc1 hc2 => ?_)
  ·have hc : l.length + 1 <= cap := hc
   have hcm : (l.length + 1) * ie.size <= cap * ie.size := Nat.mul_le_mul_right _ hc
   rw [Nat.succ_mul] at hcm
   have e1 : zt ((rws f l).flatten ++ L) (l.length * ie.size) [f x].flatten = (rws f (l ++ [x])).flatten ++ L.drop ie.size := by
    rw [xg hfl, happ]
    simp [hf x]
   have := h b cap (L.drop ie.size) (.inr ⟨cap, rfl⟩) (by omega) (by rw [hl, Nat.succ_mul, List.length_drop]; omega) h3
   rw [hl, <- e1] at this
   exact this
  ·have hc1 : l.length + 1 <= cap' := hc1
   have e1 : ((rws f l).flatten ++ L).take (l.length * ie.size) ++ [f x].flatten ++ List.replicate ((cap' - (l.length + 1)) * ie.size) .any = (rws f (l ++ [x])).flatten ++ List.replicate ((cap' - (l.length + 1)) * ie.size) .any := by
    rw [List.take_append_of_le_length (by omega), List.take_of_length_le (by omega), happ]
    simp
   have := h b' cap' (List.replicate ((cap' - (l.length + 1)) * ie.size) .any) (.inl hb) (by omega) (by
    rw [hl, List.length_replicate, <- Nat.add_mul]
    exact Nat.mul_le_mul_right _ (by omega)) hc2
   rw [hl, <- e1] at this
   exact this
end
theorem zkz (u : Unt) : (untC u).length = 10 := rfl
theorem zs5 (u : Unt) : ∀ y ∈ untC u, ∃ x, y = AV.s x /\ zv x = true := by
 intro y hy
 simp [untC] at hy
 rcases hy with rfl | rfl | rfl | rfl | rfl | rfl | rfl | rfl | rfl | rfl <;> exact ⟨_, rfl, rfl⟩
/-- A world whose units stand in an object. -/
def wldV (w : Wld) (v : AV) : List AV := [int w.tick, int w.players, int w.next, int w.G.W, int w.G.H, byts w.G.T, lst 6 bldC w.B, v]
end Go.V
namespace Go.V
end Go.V
namespace Go.V
theorem zt4 (k : Int) : 24576 <= kRad k /\ kRad k <= 81920 := by unfold kRad; split <;> (try split) <;> omega
/-- Where a disc stands that is free. -/
theorem ztv {g : Gnd} (hg : gndP g) {l : List Bld} {c : Int} {p : Vc} {k : Int} (h : zd8 g l c p (kRad k)) : (24576 <= p.1 /\ p.1 + 24576 <= g.W * 65536) /\ (24576 <= p.2 /\ p.2 + 24576 <= g.H * 65536) /\ (p.1 <= 8388608 /\ p.2 <= 8388608) := by
 have h1 := h.1
 have h2 := zt4 k
 obtain ⟨⟨_, h3⟩, ⟨_, h4⟩, _⟩ := hg
 omega
def xt (g : Gnd) (p : Vc) : Nat := (p.1 / 65536 + g.W * (p.2 / 65536)).toNat
theorem zdl {g : Gnd} (hg : gndP g) {p : Vc} (h : (0 <= p.1 /\ p.1 < g.W * 65536) /\ (0 <= p.2 /\ p.2 < g.H * 65536)) :
  ((xt g p : Nat) : Int) = p.1 / 65536 + g.W * (p.2 / 65536) /\ xt g p < g.T.length /\ ((xt g p : Nat) : Int) % g.W = p.1 / 65536 /\ ((xt g p : Nat) : Int) / g.W = p.2 / 65536 := by
 have hs := xr hg (x := p.1 / 65536) (y := p.2 / 65536) (by omega) (by omega)
 have ha := ym hg
 unfold xt
 generalize p.1 / 65536 = x at *
 generalize p.2 / 65536 = y at *
 have e : ((x + g.W * y).toNat : Int) = x + g.W * y := by omega
 rw [e]
 exact ⟨rfl, by omega, hs.2.2.1, hs.2.2.2⟩
end Go.V
namespace Go.V
end Go.V
namespace Go.V
def itC (x : Int × Int) : List AV := [int x.1, int x.2]
theorem zfk (x : Int × Int) : (itC x).length = 2 := rfl
structure QAt (F : Store) (p b cap : Nat) (l : List (Int × Int)) (L : List AV) : Prop where
 hp : F.obj p = some (.cells [.s (.slice (some ⟨b, 0, none⟩) l.length cap)])
 hb : F.obj b = some (.cells ((rws itC l).flatten ++ L))
 ne : b ≠ p
 h1 : l.length <= cap
 h2 : cap * 2 <= l.length * 2 + L.length
 h3 : cap <= 9223372036854775807
def QOf (F : Store) (p : Nat) (l : List (Int × Int)) : Prop := (F.obj p = some (.cells [.s (.slice none 0 0)]) /\ l = []) \/ ∃ b cap L, QAt F p b cap l L
theorem QOf.rows {F : Store} {p : Nat} {l : List (Int × Int)} (h : QOf F p l) : ∃ v, F.obj p = some (.cells [v]) /\ RowsO 2 itC F v l /\ ∀ b c0, v = .s (.slice (some ⟨b, 0, none⟩) l.length c0) -> b ≠ p := by
 rcases h with ⟨h, rfl⟩ | ⟨b, cap, L, h⟩
 ·exact ⟨_, h, .inl ⟨rfl, rfl⟩, fun b c0 e => by simp at e⟩
 ·refine ⟨_, h.hp, .inr ⟨b, cap, L, rfl, h.hb, h.h1, h.h2, h.h3⟩, fun b' c0 e => ?_⟩
  simp only [AV.s.injEq, Value.slice.injEq, Option.some.injEq, Addr.mk.injEq] at e
  exact e.1.1 ▸ h.ne
theorem QOf.pos {F : Store} {p : Nat} {l : List (Int × Int)} (h : QOf F p l) (hl : 0 < l.length) : ∃ b cap L, QAt F p b cap l L := by
 rcases h with ⟨h, rfl⟩ | h
 ·exact absurd hl (Nat.lt_irrefl 0)
 ·exact h
/-- One element is written. -/
theorem zji {l : List (Int × Int)} {i : Nat} (hi : i < l.length) (x : Int × Int) (L : List AV) : zt ((rws itC l).flatten ++ L) (0 + i * 2) (itC x) = (rws itC (l.set i x)).flatten ++ L := by
 have := ze8 (f := itC) (k := 2) zfk hi (j := 0) (x' := x) (ys := itC x) (L := L) (by show 0 + 2 <= 2; omega) (by
  unfold zt
  rw [zfk]
  rfl)
 rw [Nat.add_zero] at this
 rw [Nat.zero_add]
 exact this
theorem QAt.set {F : Store} {p b cap : Nat} {l : List (Int × Int)} {L : List AV} (h : QAt F p b cap l L) {i : Nat} (hi : i < l.length) (x : Int × Int) : QAt (F.setObj b (.cells (zt ((rws itC l).flatten ++ L) (0 + i * 2) (itC x)))) p b cap (l.set i x) L := by
 rw [zji hi]
 exact ⟨by rw [zc (Ne.symm h.ne), List.length_set]; exact h.hp, zb _ _ _, h.ne, by rw [List.length_set]; exact h.h1, by rw [List.length_set]; exact h.h2, h.h3⟩
/-- The last one is cut off. -/
theorem QAt.cut {F : Store} {p b cap : Nat} {l : List (Int × Int)} {L : List AV} (h : QAt F p b cap l L) {n : Nat} (hn : n <= l.length) : QAt (F.setObj p (.cells [.s (.slice (some ⟨b, 0, none⟩) n cap)])) p b cap (l.take n) ((rws itC (l.drop n)).flatten ++ L) := by
 have e : (rws itC (l.take n)).flatten ++ ((rws itC (l.drop n)).flatten ++ L) = (rws itC l).flatten ++ L := by
  rw [<- List.append_assoc, <- jo, List.take_append_drop]
 have hl : (l.take n).length = n := by rw [List.length_take]; omega
 refine ⟨by rw [zb, hl], by rw [zc h.ne, e]; exact h.hb, h.ne, by rw [hl]; have := h.h1; omega, ?_, h.h3⟩
 have := h.h2
 rw [hl, List.length_append, jn zfk, List.length_drop]
 omega
end Go.V
namespace Go.V
end Go.V
namespace Go.V
end Go.V
namespace Go.V
end Go.V
namespace Go.V
section
variable {g : Gnd} {ok : Nat -> Bool} {c : Int} {n goal : Nat} {d : Nat -> Int} {dn : Nat -> Bool} {q : List (Int × Int)} {cur : Int}
end
section
variable {S : Store} {b b2 n : Nat}
end
end Go.V
namespace Go.V
def kw (l : List Int) : List AV := l.map fun n => .s (.int .u8 n)
def ze5 (l : List Int) : ByteArray := l.foldl (fun r n => r.push (UInt8.ofNat n.toNat)) ByteArray.empty
section
variable {P : Program} {c : Cfg} {st : Store}
theorem zoz {o : Oper} {s t e : TypeId} {x : Operand} (ho : o.op = .convert s t x) {is ie it : TI} (his : c.I s = some is) (hty : is.ty = .slice e) (hie : c.I e = some ie) (hu8 : ie.ty = .int .u8) (h1 : ie.size = 1) (hit : c.I t = some it) (hstr : it.ty = .str)
    {b off n cap : Nat} {l : List AV} {ns : List Int} (hb : st.obj b = some (.cells l)) (hn : ns.length = n) (hl : (l.drop off).take n = kw ns) {R : AV -> Store -> Prop} (h : R (.s (.string (ze5 ns))) st) :
    AEff P c o [.s (.slice (some ⟨b, off, none⟩) n cap)] st R := by
  refine ⟨fun Oth M w ρ hI sto hr => ?_⟩
  have hops : o.op.operands = #[x] := by rw [ho]; simp [Op.operands]
  rw [hops] at hr
  have hr : Reads w (fun b o => M b o \/ Oth b o) [.s (.slice (some ⟨b, off, none⟩) n cap)] [ρ x] := by simpa using hr
  have e1 := VRel.eq_s (hr.2 0 _ (ρ x) rfl rfl)
  have hts := zr (hI _ _ his) hty
  have hte := zal (hI _ _ hie) hu8
  have htt := zf8 (hI _ _ hit) hstr
  obtain ⟨⟨cs, e0, fr, hb0, huf, hlen, hrel⟩, hM⟩ := sto.obj b _ hb
  have hat : ∀ (i : Nat), i < n -> l[off + i]? = (ns[i]?).map fun m => AV.s (.int .u8 m) := fun i hi => by
    have h3 : ((l.drop off).take n)[i]? = (kw ns)[i]? := by rw [hl]
    rw [List.getElem?_take, if_pos hi, List.getElem?_drop] at h3
    rw [h3]
    unfold kw
    rw [List.getElem?_map]
  have hload : (loadCells ⟨b, off, none⟩ n).run P w = .ok (ns.map (Value.int .u8)).toArray w := by
    have := z7 (P := P) ⟨b, off, none⟩ w (fun i => .int .u8 (ns.getD i 0)) n 0 #[] (fun p hp0 hp => by
      have hp : p < n := by omega
      have h3 := hat p hp
      have hpn : p < ns.length := by omega
      rw [List.getElem?_eq_getElem hpn] at h3
      have hlt : off + p < cs.size := by
        have := (List.getElem?_eq_some_iff.1 h3).1
        omega
      have h4 := hrel (off + p) _ cs[off + p] h3 (by simp [hlt])
      have h5 := VRel.eq_s h4
      show w.cell? _ = _
      simp only [World.cell?, hb0, qf]
      simp [hlt, h5, hpn])
    have hmap : ((List.range' 0 n).map fun i => Value.int .u8 (ns.getD i 0)) = ns.map (Value.int .u8) := by
      apply List.ext_getElem
      · simp [hn]
      · intro i h1 h2
        simp at h1 h2
        simp [h2]
    rw [hmap] at this
    simpa [loadCells] using this
  have hrun : (execOp ρ o).run P w = .ok (.value (.string (ze5 ns))) w := by
    have h2 := run_convert_bytes_string w s t e (some ⟨b, off, none⟩) n cap hts hte htt
    have h3 := run_bytesToString w ⟨b, off, none⟩ n cap ns hload
    simp [execOp, ho, e1, h2, h3, ze5]
  rw [hrun]
  exact ⟨_, st, M, h, .s _, sto, Chg.refl _ _⟩
end
end Go.V
namespace Go.V
/-- Bytes in memory. -/
def ul (n : Nat) (f : Nat -> Int) : List AV := (List.range n).map fun t => AV.s (.int .u8 (f t))
theorem zak (n : Nat) (f : Nat -> Int) : (ul n f).length = n := by simp [ul]
theorem zbt {n : Nat} {f : Nat -> Int} {t : Nat} (h : t < n) : (ul n f)[t]? = some (AV.s (.int .u8 (f t))) := by simp [ul, h]
theorem zih (n : Nat) : List.replicate n (AV.s (.int .u8 0)) = ul n fun _ => 0 := by
 unfold ul
 rw [List.map_const', List.length_range]
theorem zf7 {n : Nat} {f : Nat -> Int} {t : Nat} (h : t < n) (v : Int) : zt (ul n f) t [AV.s (.int .u8 v)] = ul n (updN f t v) := by
 apply List.ext_getElem?
 intro i
 unfold zt
 rw [List.append_assoc, List.getElem?_append]
 have hl : (List.take t (ul n f)).length = t := by rw [List.length_take, zak]; omega
 rw [hl]
 by_cases h1 : i < t
 ·rw [if_pos h1, List.getElem?_take, if_pos h1, zbt (by omega), zbt (by omega)]
  unfold updN
  rw [if_neg (by omega)]
 ·rw [if_neg h1]
  by_cases h2 : i = t
  ·subst h2
   rw [Nat.sub_self, zbt h]
   unfold updN
   rw [if_pos rfl]
   rfl
  ·obtain ⟨j, rfl⟩ : ∃ j, i = t + 1 + j := ⟨i - (t + 1), by omega⟩
   rw [show t + 1 + j - t = j + 1 by omega, List.singleton_append, List.getElem?_cons_succ, List.getElem?_drop]
   show (ul n f)[t + 1 + j]? = _
   by_cases h3 : t + 1 + j < n
   ·rw [zbt h3, zbt h3]
    unfold updN
    rw [if_neg (by omega)]
   ·rw [List.getElem?_eq_none (by rw [zak]; omega), List.getElem?_eq_none (by rw [zak]; omega)]
def terrL : List Int := [46, 61, 102, 109, 126, 94]
def kindL : List Int := [115, 119, 103, 99]
/-- A tile's sign, where nobody is. -/
def ze3 (w : Wld) (t : Nat) : Int := if covB w.G w.B t then 35 else terrL.getD (w.G.T.getD t 0).toNat 0
/-- A unit's sign. -/
def zgv (u : Unt) : Int := if u.goal = -1 then kindL.getD u.kind.toNat 0 else kindL.getD u.kind.toNat 0 - 32
/-- The signs behind the units from the k-th on (they are drawn backwards). -/
def wx (w : Wld) (k : Nat) : Nat -> Int := (w.U.drop k).foldr (fun u d => if u.inn = 0 then updN d (xt w.G u.pos) (zgv u) else d) (ze3 w)
theorem zj7 (w : Wld) : wx w w.U.length = ze3 w := by
 unfold wx
 rw [List.drop_length]
 rfl
theorem zop {w : Wld} {k : Nat} (hk : k < w.U.length) : wx w k = if w.U[k].inn = 0 then updN (wx w (k + 1)) (xt w.G w.U[k].pos) (zgv w.U[k]) else wx w (k + 1) := by
 unfold wx
 rw [List.drop_eq_getElem_cons hk, List.foldr_cons]
/-- A line. -/
def rowI (w : Wld) (k : Nat) : List Int := (List.range w.G.W.toNat).map fun x => wx w 0 (k * w.G.W.toNat + x)
def qy (b : ByteArray) : List AV := [.s (.string b)]
def yf (w : Wld) : List ByteArray := (List.range w.G.H.toNat).map fun k => ze5 (rowI w k)
def y4 (w : Wld) (t : Nat) : Nat -> Int := fun i => if i < t then ze3 w i else 0
theorem zap (w : Wld) (t : Nat) : y4 w (t + 1) = updN (y4 w t) t (ze3 w t) := funext fun i => by
 unfold y4 updN
 by_cases h : i = t
 ·subst h; rw [if_pos (by omega), if_pos rfl]
 ·rw [if_neg h]
  by_cases h2 : i < t
  ·rw [if_pos (by omega)]; exact (if_pos h2).symm
  ·rw [if_neg (by omega)]; exact (if_neg h2).symm
theorem zcl {n : Nat} {f g : Nat -> Int} (h : ∀ t, t < n -> f t = g t) : ul n f = ul n g := List.map_congr_left fun t ht => by rw [h t (List.mem_range.1 ht)]
theorem zk2 (w : Wld) (n : Nat) : ul n (y4 w n) = ul n (ze3 w) := zcl fun t ht => if_pos ht
theorem zk1 (w : Wld) (n : Nat) : ul n (fun _ => 0) = ul n (y4 w 0) := zcl fun t _ => by unfold y4; rw [if_neg (by omega)]
theorem zs7 {n W k : Nat} {f : Nat -> Int} (h : k * W + W <= n) : ((ul n f).drop (0 + k * W * 1)).take W = kw ((List.range W).map fun x => f (k * W + x)) := by
 apply List.ext_getElem?
 intro i
 rw [List.getElem?_take]
 by_cases hi : i < W
 ·rw [if_pos hi, List.getElem?_drop, zbt (by omega)]
  unfold kw
  simp [hi]
 ·rw [if_neg hi, List.getElem?_eq_none]
  simp [kw]
  omega
theorem zru {m : Nat} (h : m < 6) : ∃ b : UInt8, (⟨#[46, 61, 102, 109, 126, 94]⟩ : ByteArray)[m]? = some b /\ ((b.toNat : Nat) : Int) = terrL.getD m 0 := by
 match m, h with
 | 0, _ => exact ⟨46, rfl, rfl⟩
 | 1, _ => exact ⟨61, rfl, rfl⟩
 | 2, _ => exact ⟨102, rfl, rfl⟩
 | 3, _ => exact ⟨109, rfl, rfl⟩
 | 4, _ => exact ⟨126, rfl, rfl⟩
 | 5, _ => exact ⟨94, rfl, rfl⟩
end Go.V
namespace Go.V
/-- What a call has made and hands back is plain from then on. -/
theorem ACalls.frozen {P : Program} {f : FuncId} {xs : List AV} {Q : AV -> Store -> Prop} {R : AV -> Prop} (h : ACalls P f xs Store.empty Q)
  (hQ : ∀ r S, Q r S -> ∃ r2, R r2 /\ ∀ (Oth M : Nat -> Nat -> Prop) (w : World) (v : Value), StoreOK S Oth M w -> VRel w (fun b o => M b o \/ Oth b o) r v -> VRel w (fun b o => (M b o \/ Oth b o) /\ S.obj b = none) r2 v) :
  ACalls P f xs Store.empty fun r _ => R r := by
 refine ⟨fun Oth M w vs sto hr => ?_⟩
 have h1 := h.out Oth M w vs sto hr
 have key : ∀ v w', zl Store.empty Q Oth M w v w' -> zl Store.empty (fun r _ => R r) Oth M w v w' := by
  rintro v w' ⟨r, S, M', hq, hv, hs, hc⟩
  obtain ⟨r2, hr2, hk⟩ := hQ r S hq
  refine ⟨r2, Store.empty, fun b o => M' b o /\ S.obj b = none, hr2, (hk Oth M' w' v hs hv).mono fun b o hT => ?_, ?_, ?_⟩
  ·rcases hT with ⟨h1, h2⟩ | h1
   ·exact ⟨.inl h1, h2⟩
   ·refine ⟨.inr h1, ?_⟩
    cases hb : S.obj b with
    | none => rfl
    | some y => exact absurd ((hs.obj b y hb).2 o) (hs.dis b o h1)
  ·exact { obj := fun b x hx => (by cases hx), tok := fun b x hx => (by cases hx), mlt := fun b o hm => hs.mlt b o hm.1, olt := hs.olt, dis := fun b o ho hm => hs.dis b o ho hm.1 }
  ·exact { size := hc.size, keep := hc.keep, blk := hc.blk, shp := hc.shp, sub := fun b o hm hb => hc.sub b o hm.1 hb, tape := hc.tape, os := hc.os, output := hc.output }
 generalize (callFunc f vs).run P w = res at h1
 cases res with
 | ok n w' =>
  cases n with
  | enter g args => exact Calls.mono h1 fun e w'' ⟨v, he, hv⟩ => ⟨v, he, key _ _ hv⟩
  | value v => exact key _ _ h1
  | _ => exact h1
 | _ => exact h1
end Go.V
namespace Go.V
end Go.V
namespace Go.V
def znu (a : Option Addr) : Prop := ∀ x, a = some x -> x.spot = none
section
variable {P : Program} {c : Cfg} {st : Store}
end
/-- As RowsO; an empty one may lie anywhere. -/
def RowsQ {α : Type} (k : Nat) (f : α -> List AV) (st : Store) (v : AV) (l : List α) : Prop :=
 RowsO k f st v l \/ ∃ a, znu a /\ v = .s (.slice a 0 0) /\ l = []
section
variable {α : Type} {f : α -> List AV} {k : Nat}
theorem RowsO.q {st : Store} {v : AV} {l : List α} (h : RowsO k f st v l) : RowsQ k f st v l := .inl h
theorem RowsQ.un {a g : Store} {v : AV} {l : List α} (h : RowsQ k f g v l) : RowsQ k f (a.un g) v l := h.imp (·.un) id
theorem RowsQ.form {st : Store} {v : AV} {l : List α} (h : RowsQ k f st v l) : ∃ oa cap, v = .s (.slice oa l.length cap) /\ ∀ i, i < l.length -> ∃ b L, oa = some ⟨b, 0, none⟩ /\ st.obj b = some (.cells ((rws f l).flatten ++ L)) := by
 rcases h with (⟨rfl, rfl⟩ | ⟨b, cap, L, rfl, ho, _⟩) | ⟨a, _, rfl, rfl⟩
 ·exact ⟨none, 0, rfl, fun i hi => absurd hi (Nat.not_lt_zero i)⟩
 ·exact ⟨_, cap, rfl, fun i _ => ⟨b, L, rfl, ho⟩⟩
 ·exact ⟨a, 0, rfl, fun i hi => absurd hi (Nat.not_lt_zero i)⟩
theorem RowsQ.borrow {st : Store} {v : AV} {l : List α} (hf : ∀ x, (f x).length = k) (hs : ∀ x, ∀ y ∈ f x, ∃ u, y = AV.s u /\ zv u = true) (hv : RowsQ k f st v l) {Oth M : Nat -> Nat -> Prop} {w : World} (sto : StoreOK st Oth M w) {x : Value} (hx : VRel w (fun b o => M b o \/ Oth b o) v x) :
  VRel w (fun b o => (M b o \/ Oth b o) /\ st.obj b = none) (lst k f l) x := by
 rcases hv with hv | ⟨a, ha, rfl, rfl⟩
 ·exact hv.borrow hf hs sto hx
 ·cases hx
  exact .nil k a
/-- Its block, if it has any elements. -/
theorem RowsQ.sub {S S2 : Store} {v : AV} {l : List α} (h : RowsQ k f S v l) (hk : ∀ b n c, v = .s (.slice (some ⟨b, 0, none⟩) n c) -> S2.obj b = S.obj b) : RowsQ k f S2 v l := by
 rcases h with (h | ⟨b, cap, L, rfl, ho, h2⟩) | h
 ·exact .inl (.inl h)
 ·exact .inl (.inr ⟨b, cap, L, rfl, by rw [hk b _ _ rfl]; exact ho, h2⟩)
 ·exact .inr h
end
end Go.V
namespace Go.V
theorem zex {st : Store} {w : Wld} {v : AV} (hv : RowsQ 10 untC st v w.U) {Oth M : Nat -> Nat -> Prop} {W : World} (sto : StoreOK st Oth M W) {x : Value} (hx : VRel W (fun b o => M b o \/ Oth b o) (.agg (wldV w v)) x) :
  VRel W (fun b o => (M b o \/ Oth b o) /\ st.obj b = none) (.agg (wldC w)) x := by
 cases hx with
 | agg _ c hl hc =>
  refine .agg _ c hl fun i x y hx hy => ?_
  match i with
  | 0 => simp only [wldC, List.getElem?_cons_zero, Option.some.injEq] at hx; subst hx; exact y7 (hc 0 _ y rfl hy)
  | 1 => simp only [wldC, List.getElem?_cons_succ, List.getElem?_cons_zero, Option.some.injEq] at hx; subst hx; exact y7 (hc 1 _ y rfl hy)
  | 2 => simp only [wldC, List.getElem?_cons_succ, List.getElem?_cons_zero, Option.some.injEq] at hx; subst hx; exact y7 (hc 2 _ y rfl hy)
  | 3 => simp only [wldC, List.getElem?_cons_succ, List.getElem?_cons_zero, Option.some.injEq] at hx; subst hx; exact y7 (hc 3 _ y rfl hy)
  | 4 => simp only [wldC, List.getElem?_cons_succ, List.getElem?_cons_zero, Option.some.injEq] at hx; subst hx; exact y7 (hc 4 _ y rfl hy)
  | 5 => simp only [wldC, List.getElem?_cons_succ, List.getElem?_cons_zero, Option.some.injEq] at hx; subst hx; exact y7 (hc 5 _ y rfl hy)
  | 6 => simp only [wldC, List.getElem?_cons_succ, List.getElem?_cons_zero, Option.some.injEq] at hx; subst hx; exact y7 (hc 6 _ y rfl hy)
  | 7 => simp only [wldC, List.getElem?_cons_succ, List.getElem?_cons_zero, Option.some.injEq] at hx; subst hx; exact hv.borrow zkz zs5 sto (hc 7 _ y rfl hy)
  | i + 8 => simp [wldC] at hx
/-- A slice with room that lies not in a block. -/
def offB (v : AV) (p : Nat) : Prop := ∀ b n c, v = .s (.slice (some ⟨b, 0, none⟩) n c) -> 0 < c -> b ≠ p
theorem RowsQ.set {α : Type} {f : α -> List AV} {k : Nat} {S : Store} {v : AV} {l : List α} (h : RowsQ k f S v l) {p : Nat} (hp : offB v p) (x : AObj) : RowsQ k f (S.setObj p x) v l := by
 rcases h with (h | ⟨b, cap, L, rfl, ho, h2, h3⟩) | h
 ·exact .inl (.inl h)
 ·by_cases hc : 0 < cap
  ·exact .inl (.inr ⟨b, cap, L, rfl, by rw [zc (hp b _ _ rfl hc)]; exact ho, h2, h3⟩)
  ·have h0 : cap = 0 := by omega
   subst h0
   have hl : l = [] := List.eq_nil_of_length_eq_zero (by omega)
   subst hl
   exact .inr ⟨_, fun x hx => by cases hx; rfl, rfl, rfl⟩
 ·exact .inr h
/-- What a unit more makes of a world. -/
def spU (w : Wld) (c : Cmd) : Unt := ⟨w.next, c.P, c.N, (c.X, c.Y), -1, -1, 0, 0, 0⟩
def spW (w : Wld) (c : Cmd) : Wld := { w with U := w.U ++ [spU w c], next := w.next + 1 }
def zsr (w : Wld) : Prop := 4096 <= w.U.length \/ 1099511627776 <= w.next
open Classical in
noncomputable def spE (w : Wld) (c : Cmd) : Int := if zsr w then 4 else if xn w 0 c.N (c.X, c.Y) then 0 else 5
end Go.V
namespace Go.V
end Go.V
namespace Go.V
end Go.V
namespace Go.V
/-- The first thing that is not right of several ones. -/
def allE (f : Int -> Int) : List Int -> Int
 | [] => 0
 | a :: l => if f a = 0 then allE f l else f a
def zol (l : List Unt) (id : Int) : Option Nat := l.findIdx? fun u => decide (u.id = id)
def unt0 : Unt := ⟨0, 0, 0, (0, 0), 0, 0, 0, 0, 0⟩
/-- The unit of an ID. -/
def uAt (w : Wld) (id : Int) : Unt := match zol w.U id with | none => unt0 | some i => w.U.getD i unt0
/-- What a player is told who asks for a unit. -/
def askE (w : Wld) (P id : Int) : Int := match zol w.U id with | none => 3 | some i => if (w.U.getD i unt0).owner = P then (if (w.U.getD i unt0).inn = 0 then 0 else 9) else 6
def rstU (u : Unt) : Unt := { u with goal := -1, next := -1, stuck := 0, state := 0 }
/-- Some units are changed. -/
def setU (l : List Int) (g : Unt -> Unt) (U : List Unt) : List Unt := U.map fun u => if u.id ∈ l then g u else u
/-- Units that are stopped. -/
def stW (w : Wld) (c : Cmd) : Wld := { w with U := setU c.U rstU w.U }
def stE (w : Wld) (c : Cmd) : Int := allE (askE w c.P) c.U
end Go.V
namespace Go.V
section
variable {P : Program} {c : Cfg} {st : Store}
/-- What an append's source reads as. -/
structure SrcOK (P : Program) (st : Store) (k m : Nat) (x : AV) (xs : List AV) : Prop where
  out : ∀ (Oth M : Nat -> Nat -> Prop) (w : World) (xv : Value), StoreOK st Oth M w -> VRel w (fun b o => M b o \/ Oth b o) x xv ->
    (Builtin.lenOf xv).run P w = .ok m w /\ ∃ new : Array Value, Reads w (fun b o => M b o \/ Oth b o) xs new.toList /\ (∀ v ∈ new.toList, zv v = true) /\ new.size = m * k /\ ∀ w', w'.heap = w.heap -> (Builtin.firstCells k m xv).run P w' = .ok new w'
/-- A slice over an object, anywhere in it. -/
theorem SrcOK.obj {k m o b cp : Nat} {l : List AV} (ho : st.obj b = some (.cells l)) (hl : o + m * k <= l.length) (h1 : ∀ y ∈ (l.drop o).take (m * k), y.one = true) : SrcOK P st k m (.s (.slice (some ⟨b, o, none⟩) m cp)) ((l.drop o).take (m * k)) := by
  refine ⟨fun Oth M w xv sto hxv => ?_⟩
  have hxv := VRel.eq_s hxv
  subst hxv
  obtain ⟨cs, e, fr, hb, _, hlen, hrel⟩ := (sto.obj b _ ho).1
  have hreads : Reads w (fun b o => M b o \/ Oth b o) ((l.drop o).take (m * k)) ((List.range' 0 (m * k)).map fun i => cs.getD (o + i) undef) := by
    refine ⟨by simp; omega, fun i x y hx hy => ?_⟩
    have hi : i < m * k := by
      have := (List.getElem?_eq_some_iff.1 hx).1
      simp at this; omega
    rw [List.getElem?_take_of_lt hi, List.getElem?_drop] at hx
    simp [hi] at hy
    subst hy
    refine hrel (o + i) x _ hx ?_
    rw [Array.getElem?_eq_getElem (by omega)]
    simp [show o + i < cs.size by omega]
  refine ⟨by simp [Builtin.lenOf], ((List.range' 0 (m * k)).map fun i => cs.getD (o + i) undef).toArray, by simpa using hreads, by simpa using zbz hreads h1, by simp, fun w' hw => ?_⟩
  have := z7 (P := P) ⟨b, o, none⟩ w' (fun i => cs.getD (o + i) undef) (m * k) 0 #[] (fun p hp0 hp => by
    rw [qf, za0 hw]
    simp only [World.cell?, hb]
    have : o + p < cs.size := by omega
    simp [this])
  simp only [Builtin.firstCells, loadCells]
  simpa using this
end
section
variable {P : Program} {c : Cfg} {st : Store}
/-- A slice with three bounds. -/
theorem zf5 {o : Oper} {t e : TypeId} {x lo hi mx : Operand} (ho : o.op = .slice t x (some lo) (some hi) (some mx)) {it ie : TI} (hit : c.I t = some it) (hty : it.ty = .slice e) (hie : c.I e = some ie)
    {b off len cap i j m : Nat} {k k' k'' : IntKind} (h1 : i <= j) (h2 : j <= m) (h3 : m <= cap) (h4 : i < m) {R : AV -> Store -> Prop} (h : R (.s (.slice (some ⟨b, off + i * ie.size, none⟩) (j - i) (m - i))) st) :
    AEff P c o [.s (.slice (some ⟨b, off, none⟩) len cap), .s (.int k (i : Int)), .s (.int k' (j : Int)), .s (.int k'' (m : Int))] st R := by
  refine ⟨fun Oth M w ρ hI sto hr => ?_⟩
  have hops : o.op.operands = #[x, lo, hi, mx] := by rw [ho]; simp [Op.operands]
  rw [hops] at hr
  have hr : Reads w (fun b o => M b o \/ Oth b o) [.s (.slice (some ⟨b, off, none⟩) len cap), .s (.int k (i : Int)), .s (.int k' (j : Int)), .s (.int k'' (m : Int))] [ρ x, ρ lo, ρ hi, ρ mx] := by simpa using hr
  have e1 := VRel.eq_s (hr.2 0 _ (ρ x) rfl rfl)
  have e2 := VRel.eq_s (hr.2 1 _ (ρ lo) rfl rfl)
  have e3 := VRel.eq_s (hr.2 2 _ (ρ hi) rfl rfl)
  have e4 := VRel.eq_s (hr.2 3 _ (ρ mx) rfl rfl)
  have ht := zr (hI _ _ hit) hty
  have hie := hI _ _ hie
  have hm : ¬ m = i := by omega
  have hund := zh (P := P) ht
  have hrun : (execOp ρ o).run P w = .ok (.value (.slice (some ⟨b, off + i * ie.size, none⟩) (j - i) (m - i))) w := by
    simp [execOp, ho, e1, e2, e3, e4, Instr.sliceAt, Instr.slice, hund, Instr.sliceBounds, Instr.sliceBound, asIntOf, h1, h2, h3, zm hie, hm, qf]
  rw [hrun]
  exact ⟨_, st, M, h, .s _, sto, Chg.refl _ _⟩
end
end Go.V
namespace Go.V
section
variable {α : Type} {f : α -> List AV} {k : Nat}
end
instance (a b : Bld) : Decidable (zcq a b) := inferInstanceAs (Decidable (_ /\ _))
/-- The building that is to come. -/
def bdB (w : Wld) (c : Cmd) : Bld := ⟨w.next, c.P, c.T.tmod w.G.W, c.T.tdiv w.G.W, c.W, c.H⟩
open Classical in
noncomputable def putE (g : Gnd) (l : List Bld) (b : Bld) : Int := if ¬ onP g b then 3 else if ∃ x ∈ l, zcq x b then 12 else if ¬ zeb g b then 5 else if 256 <= l.length then 4 else 0
def ztp (w : Wld) (b : Bld) : Prop := ∃ t : Nat, ((t : Int) < w.G.W * w.G.H /\ hasP w.G b t) /\ ∃ u ∈ w.U, u.inn = 0 /\ hitP w.G t u.pos (kRad u.kind)
open Classical in
noncomputable def bdE (w : Wld) (c : Cmd) : Int := if ¬ (0 <= c.T /\ c.T < w.G.W * w.G.H) then 3 else if 1099511627776 <= w.next then 4 else if putE w.G w.B (bdB w c) = 0 then (if ztp w (bdB w c) then 5 else 0) else putE w.G w.B (bdB w c)
def bdW (w : Wld) (c : Cmd) : Wld := { w with B := w.B ++ [bdB w c], next := w.next + 1 }
def bld0 : Bld := ⟨0, 0, 0, 0, 0, 0⟩
def ztw (l : List Bld) (id : Int) : Option Nat := l.findIdx? fun b => decide (b.id = id)
/-- A building less. -/
def drE (w : Wld) (c : Cmd) : Int := match ztw w.B c.N with | none => 3 | some i => if (w.B.getD i bld0).owner = c.P then 0 else 6
def drW (w : Wld) (c : Cmd) : Wld := match ztw w.B c.N with | none => w | some i => { w with B := w.B.eraseIdx i }
end Go.V
namespace Go.V
end Go.V
namespace Go.V
/-- Farther than 2? -/
def farP (p q : Vc) : Prop := 17180131329 <= sqr (vsub p q)
instance (p q : Vc) : Decidable (farP p q) := inferInstanceAs (Decidable (_ <= _))
/-- Loading. -/
def carE (w : Wld) (P N : Int) : Int := if askE w P N = 0 then (if kg (uAt w N).kind = 0 then 7 else 0) else askE w P N
def zt5 (x u : Unt) : Int := if 0 < kg u.kind then 7 else if farP u.pos x.pos then 8 else 0
def ldA (w : Wld) (P N id : Int) : Int := if askE w P id = 0 then zt5 (uAt w N) (uAt w id) else askE w P id
def ldE (w : Wld) (c : Cmd) : Int := if carE w c.P c.N = 0 then (if allE (ldA w c.P c.N) c.U = 0 then (if kg (uAt w c.N).kind < ((inOf w.U c.N).length : Int) + (c.U.length : Int) then 4 else 0) else allE (ldA w c.P c.N) c.U) else carE w c.P c.N
def ldU (n : Int) (u : Unt) : Unt := { u with pos := (0, 0), goal := -1, next := -1, stuck := 0, inn := n, state := 0 }
def ldW (w : Wld) (c : Cmd) : Wld := { w with U := setU c.U (ldU c.N) w.U }
end Go.V
namespace Go.V
def cenV (g : Gnd) (t : Nat) : Vc := (tx g t + 32768, ty g t + 32768)
/-- Good places for a kind about a tile. -/
def zo3 (w : Wld) (k tile : Int) (n : Nat) : List Nat := ztj w.G (zt7 w.G w.B (kCls k) (zog k)) (zog k) tile n
open Classical in
/-- Where a unit comes out. -/
noncomputable def outF (w : Wld) (u : Unt) (tile : Int) : Option Nat := (zo3 w u.kind tile 64).find? fun t => decide (xn w u.id u.kind (cenV w.G t))
def unlU (u : Unt) (p : Vc) : Unt := { u with pos := p, inn := 0 }
/-- One behind the other comes out. -/
noncomputable def unl (tile : Int) : List Int -> Wld -> Option Wld
 | [], w => some w
 | id :: l, w => match zol w.U id with
  | none => none
  | some i => match outF w (w.U.getD i unt0) tile with
   | none => none
   | some t => unl tile l { w with U := w.U.set i (unlU (w.U.getD i unt0) (cenV w.G t)) }
open Classical in
noncomputable def ulE (w : Wld) (c : Cmd) : Int :=
 if carE w c.P c.N = 0 then
  (if 0 <= c.T /\ c.T < w.G.W * w.G.H then
   (if farP (cenV w.G c.T.toNat) (uAt w c.N).pos then 8 else (match unl c.T (inOf w.U c.N) w with | none => 5 | some _ => 0))
  else 3)
 else carE w c.P c.N
noncomputable def ulW (w : Wld) (c : Cmd) : Wld := (unl c.T (inOf w.U c.N) w).getD w
end Go.V
namespace Go.V
def mvG (g : Int) (u : Unt) : Unt := { u with goal := g, next := -1, stuck := 0, state := 1 }
def zto (w : Wld) (c : Cmd) (k : Nat) (kd : Int) : Int := match (zo3 w kd c.T c.U.length)[k]? with | some t => (t : Int) | none => c.T
def mvL (w : Wld) (c : Cmd) : Nat -> List Unt
 | 0 => w.U
 | k + 1 => match zol w.U (c.U.getD k 0) with
  | some i => (mvL w c k).set i (mvG (zto w c k (w.U.getD i unt0).kind) (w.U.getD i unt0))
  | none => mvL w c k
def mvE (w : Wld) (c : Cmd) : Int := if 0 <= c.T /\ c.T < w.G.W * w.G.H then allE (askE w c.P) c.U else 3
def mvW (w : Wld) (c : Cmd) : Wld := { w with U := mvL w c c.U.length }
end Go.V
namespace Go.V
noncomputable def aE (w : Wld) (c : Cmd) : Int := if c.K = 1 then spE w c else if c.K = 2 then mvE w c else if c.K = 3 then stE w c else if c.K = 4 then bdE w c else if c.K = 5 then drE w c else if c.K = 6 then ldE w c else ulE w c
noncomputable def aW (w : Wld) (c : Cmd) : Wld := if c.K = 1 then spW w c else if c.K = 2 then mvW w c else if c.K = 3 then stW w c else if c.K = 4 then bdW w c else if c.K = 5 then drW w c else if c.K = 6 then ldW w c else ulW w c
theorem a1 {w : Wld} {c : Cmd} (h : c.K = 1) : aE w c = spE w c /\ aW w c = spW w c := by unfold aE aW; rw [h]; exact ⟨rfl, rfl⟩
theorem a2 {w : Wld} {c : Cmd} (h : c.K = 2) : aE w c = mvE w c /\ aW w c = mvW w c := by unfold aE aW; rw [h]; exact ⟨rfl, rfl⟩
theorem a3 {w : Wld} {c : Cmd} (h : c.K = 3) : aE w c = stE w c /\ aW w c = stW w c := by unfold aE aW; rw [h]; exact ⟨rfl, rfl⟩
theorem a4 {w : Wld} {c : Cmd} (h : c.K = 4) : aE w c = bdE w c /\ aW w c = bdW w c := by unfold aE aW; rw [h]; exact ⟨rfl, rfl⟩
theorem a5 {w : Wld} {c : Cmd} (h : c.K = 5) : aE w c = drE w c /\ aW w c = drW w c := by unfold aE aW; rw [h]; exact ⟨rfl, rfl⟩
theorem a6 {w : Wld} {c : Cmd} (h : c.K = 6) : aE w c = ldE w c /\ aW w c = ldW w c := by unfold aE aW; rw [h]; exact ⟨rfl, rfl⟩
theorem a7 {w : Wld} {c : Cmd} (h : c.K = 7) : aE w c = ulE w c /\ aW w c = ulW w c := by unfold aE aW; rw [h]; exact ⟨rfl, rfl⟩
end Go.V
namespace Go.V
instance (g : Gnd) (t : Nat) (p : Vc) (r : Int) : Decidable (hitP g t p r) := by unfold hitP; infer_instance
instance (g : Gnd) (b : Bld) : Decidable (zeb g b) := by unfold zeb; infer_instance
instance (g : Gnd) (b : Bld) : Decidable (onP g b) := by unfold onP; infer_instance
instance (b : Bld) : Decidable (bldP b) := by unfold bldP; infer_instance
instance (a b : Bld) : Decidable (zcq a b) := by unfold zcq; infer_instance
instance (l : List Bld) : Decidable (zf9 l) := by unfold zf9; infer_instance
instance (l : List Bld) : Decidable (zgl l) := by unfold zgl; infer_instance
instance (g : Gnd) : Decidable (gndP g) := by unfold gndP; infer_instance
instance (g : Gnd) (l : List Bld) : Decidable (zhu g l) := by unfold zhu; infer_instance
instance (g : Gnd) (l : List Bld) (c : Int) (p : Vc) (r : Int) : Decidable (zd8 g l c p r) := by unfold zd8; infer_instance
instance (w : Wld) (id k : Int) (p : Vc) : Decidable (xn w id k p) := by unfold xn; infer_instance
instance (k : Int) : Decidable (zcu k) := by unfold zcu; infer_instance
instance (g : Gnd) (t : Int) : Decidable (ze4 g t) := by unfold ze4; infer_instance
instance (w : Wld) (u : Unt) : Decidable (untP w u) := by unfold untP; infer_instance
instance (w : Wld) : Decidable (zjo w) := by unfold zjo; infer_instance
instance (l : List Unt) : Decidable (xh l) := by unfold xh; infer_instance
instance (w : Wld) : Decidable (zaj w) := by unfold zaj; infer_instance
instance (w : Wld) (u : Unt) : Decidable (zbj w u) := by unfold zbj; infer_instance
instance (w : Wld) : Decidable (mayP w) := by unfold mayP; infer_instance
instance (x y : Int) : Decidable (jd x y) := by unfold jd; infer_instance
instance (w : Wld) : Decidable (zsr w) := by unfold zsr; infer_instance
end Go.V
namespace Go.V
instance (w : Wld) (id k : Int) (p : Vc) : Decidable (xn w id k p) := by unfold xn zd8; infer_instance
end Go.V
namespace Go.V
end Go.V
namespace Go.V
theorem zi6 {w : Wld} (hm : mayP w) {i : Nat} (hi : i < w.U.length) (h0 : w.U[i].inn = 0) : (0 <= w.U[i].pos.1 /\ w.U[i].pos.1 < w.G.W * 65536) /\ (0 <= w.U[i].pos.2 /\ w.U[i].pos.2 < w.G.H * 65536) := by
 have := ztv hm.1.1.2.1.1 (hm.2.1 _ (List.getElem_mem hi) h0).1
 have := this.1
 have := this.2
 omega
theorem ztm {w : Wld} (hm : mayP w) {i : Nat} (hi : i < w.U.length) (h0 : w.U[i].inn = 0) : xt w.G w.U[i].pos < w.G.T.length := (zdl hm.1.1.2.1.1 (zi6 hm hi h0)).2.1
end Go.V
namespace Go.V
structure MayF (w : Wld) : Prop where
 hg : gndP w.G
 hB : w.B.length <= 256
 hU : w.U.length <= 4096
 hT : w.G.T.length <= 16384
 hb : ∀ b ∈ w.B, bldP b /\ onP w.G b
 hk : ∀ u ∈ w.U, zcu u.kind
 hr : xh w.U
 hn1 : 1 <= w.next
 hn2 : w.next <= 1099511627776
theorem mayF {w : Wld} (h : mayP w) : MayF w := by
 obtain ⟨⟨hh, hok⟩, _⟩ := h
 have hbl := hh.2.1.2.1
 have ha := ym hh.2.1.1
 exact ⟨hh.2.1.1, hbl.1, hh.2.1.2.2, by omega, fun b hb => ⟨(hbl.2.2.1 b hb).1, (hbl.2.2.1 b hb).2.1⟩, fun u hu => (hok.2 u hu).1.1.2.2, hok.1, hh.1.2.2.1, hh.1.2.2.2⟩
theorem MayF.fits {w : Wld} (h : MayF w) : w.fits := ⟨by unfold Gnd.fits; have := h.hT; omega, by have := h.hB; omega, by have := h.hU; omega⟩
end Go.V
namespace Go.V
end Go.V
namespace Go.V
def vsT (t : Nat) : Nat -> Int := fun i => if i < t /\ i < 6 then (i : Int) else 0
def vsG : Gnd := ⟨6, 4, [0, 1, 2, 3, 4, 5, 0, 0, 0, 0, 0, 0, 0, 0, 0, 0, 0, 0, 0, 0, 0, 0, 0, 0]⟩
def vsB : List Bld := [⟨8, 1, 4, 2, 2, 2⟩]
def vsU (k : Nat) (t : Nat) : Unt := ⟨1 + k, 1, k, cenV vsG t, -1, -1, 0, 0, 0⟩
def vsL : Nat -> List Unt
 | 0 => []
 | 1 => [vsU 0 18]
 | 2 => [vsU 0 18, vsU 1 20]
 | 3 => [vsU 0 18, vsU 1 20]
 | _ => [vsU 0 18, vsU 1 20, vsU 3 15]
def vsW (l : List Unt) : Wld := ⟨0, 1, 9, vsG, vsB, l⟩
def vsM : List Unt := [{ vsU 0 18 with goal := 0, state := 1 }, vsU 1 20, vsU 3 15]
theorem vs_may : mayP (vsW (vsL 4)) /\ mayP (vsW vsM) := by decide +kernel
theorem vs_g : gndP vsG := by decide +kernel
def vsA : List ByteArray := [⟨#[46, 61, 102, 109, 126, 94]⟩, ⟨#[46, 46, 46, 46, 46, 46]⟩, ⟨#[46, 46, 46, 99, 35, 35]⟩, ⟨#[115, 46, 119, 46, 35, 35]⟩]
def vsZ : List ByteArray := [⟨#[46, 61, 102, 109, 126, 94]⟩, ⟨#[46, 46, 46, 46, 46, 46]⟩, ⟨#[46, 46, 46, 99, 35, 35]⟩, ⟨#[83, 46, 119, 46, 35, 35]⟩]
theorem vs_lines : yf (vsW (vsL 4)) = vsA /\ yf (vsW vsM) = vsZ := by decide +kernel
theorem zpb : ul 24 (vsT 6) = (rws u8C vsG.T).flatten := by rfl
end Go.V
namespace Go.V
/-- An object that is done with is a plain list in a box. -/
theorem AWp.freezeBx {P : Program} {c : Cfg} {code : Code} {Q : Exit -> Fr -> Store -> Prop} {A : Fr} {st : Store} {d j b n cap k : Nat} {l : List AV} {rows : List (List AV)} {pad : List AV}
    (hA : A.bx d = some l) (hl : l[j]? = some (.s (.slice (some ⟨b, 0, none⟩) n cap))) (ho : st.obj b = some (.cells (rows.flatten ++ pad))) (ht : st.tok b = none) (hn : rows.length = n) (hcap : n <= cap)
    (hk : ∀ row ∈ rows, row.length = k) (hall : ∀ row ∈ rows, ∀ x ∈ row, ∃ v, x = AV.s v /\ zv v = true)
    (h : AWp P c code Q (A.setBx d (l.set j (.lst k rows none))) (st.delObj b)) : AWp P c code Q A st := by
  refine ⟨fun Oth M a w ⟨β, sim⟩ => ?_⟩
  have hs : ∀ b' o, ((M b' o /\ b' ≠ b) \/ Oth b' o) -> (M b' o \/ Oth b' o) := fun _ _ h => h.imp (·.1) id
  have hbd : β d ≠ b := sim.sep d b (fun e => by rw [hA] at e; cases e) (.inl (by rw [ho]; simp))
  obtain ⟨hcell, hM⟩ := sim.sto.obj b _ ho
  have sim' : SimB c.n Oth β (A.setBx d (l.set j (.lst k rows none))) (st.delObj b) (fun b' o => M b' o /\ b' ≠ b) a w := by
    refine { tsz := sim.tsz, dfr := sim.dfr.sub fun _ _ h => h.1, tm := fun i => ?_, bx := fun q l' hq => ?_, inj := fun q q' h1 h2 => ?_, sep := fun q b' hq hb' => ?_, sto := ?_ }
    · have h1 := sim.tm i
      show LRel w _ β (A.t i) _
      generalize A.t i = x at h1
      cases x with
      | any => trivial
      | und => exact h1
      | av x => exact VRel.mono hs h1
      | bx k off => exact h1
    · have hq2 : (bif Nat.beq q d then some (l.set j (.lst k rows none)) else A.bx q) = some l' := hq
      clear hq
      cases hb : Nat.beq q d with
      | true =>
        rw [hb] at hq2
        have hqd := (z8 _ _).1 hb
        subst hqd
        have hq3 : l.set j (.lst k rows none) = l' := Option.some.inj hq2
        subst hq3
        obtain ⟨⟨cs, e, fr, h1, h2, h3, h4⟩, h5⟩ := sim.bx q l hA
        refine ⟨⟨cs, e, fr, h1, h2, by rw [List.length_set]; exact h3, fun i x y hx hy => ?_⟩, fun o => ⟨h5 o, hbd⟩⟩
        rw [List.getElem?_set] at hx
        by_cases e9 : j = i
        · subst e9
          rw [if_pos rfl] at hx
          have hjl := (List.getElem?_eq_some_iff.1 hl).1
          rw [if_pos hjl] at hx
          have hx := Option.some.inj hx
          subst hx
          have h6 := h4 j _ y hl hy
          cases h6
          exact zcc hcell (fun o hT => hT.elim (fun q => q.2 rfl) (fun q => sim.sto.dis _ _ q (hM o))) hn hcap hk hall
        · rw [if_neg e9] at hx
          exact (h4 i x y hx hy).mono hs
      | false =>
        rw [hb] at hq2
        have hqb : β q ≠ b := sim.sep q b (fun e => by rw [show A.bx q = some l' from hq2] at e; cases e) (.inl (by rw [ho]; simp))
        obtain ⟨⟨cs, e, fr, h1, h2, h3, h4⟩, h5⟩ := sim.bx q l' hq2
        exact ⟨⟨cs, e, fr, h1, h2, h3, fun i x y hx hy => (h4 i x y hx hy).mono hs⟩, fun o => ⟨h5 o, hqb⟩⟩
    · refine sim.inj q q' (fun e => ?_) (fun e => ?_)
      · refine h1 ?_
        show (bif Nat.beq q d then some (l.set j (.lst k rows none)) else A.bx q) = none
        cases hb : Nat.beq q d with
        | true =>
          have := (z8 _ _).1 hb
          subst this
          rw [hA] at e; cases e
        | false => exact e
      · refine h2 ?_
        show (bif Nat.beq q' d then some (l.set j (.lst k rows none)) else A.bx q') = none
        cases hb : Nat.beq q' d with
        | true =>
          have := (z8 _ _).1 hb
          subst this
          rw [hA] at e; cases e
        | false => exact e
    · refine sim.sep q b' (fun e => ?_) ?_
      · refine hq ?_
        show (bif Nat.beq q d then some (l.set j (.lst k rows none)) else A.bx q) = none
        cases hb : Nat.beq q d with
        | true =>
          have := (z8 _ _).1 hb
          subst this
          rw [hA] at e; cases e
        | false => exact e
      · rcases hb' with hb' | hb'
        · cases hx : (st.delObj b).obj b' with
          | none => exact absurd hx hb'
          | some y => exact .inl (by rw [(yk hx).2]; simp)
        · exact .inr hb'
    · exact { obj := fun b' y hy => ⟨(sim.sto.obj b' y (yk hy).2).1.mono hs, fun o => ⟨(sim.sto.obj b' y (yk hy).2).2 o, (yk hy).1⟩⟩
              tok := fun b' top htk => by
                obtain ⟨c, e, fr, h1, h2, h3, h4⟩ := sim.sto.tok b' top htk
                exact ⟨c, e, fr, h1, h2, h3, fun o ho => ⟨h4 o ho, fun e => by subst e; rw [show st.tok b' = some top from htk] at ht; cases ht⟩⟩
              mlt := fun b' o hm => sim.sto.mlt b' o hm.1, olt := sim.sto.olt, dis := fun b' o ho hm => sim.sto.dis b' o ho hm.1 }
  refine Code.wpF_mono ?_ (h.out Oth _ a w ⟨β, sim'⟩)
  rintro e a' w' ⟨A', st', M', h1, h2, h3⟩
  exact ⟨A', st', M', h1, h2, { size := h3.size, keep := fun b' o hb hm => h3.keep b' o hb fun h => hm h.1, blk := fun b' hb hm => h3.blk b' hb fun o h => hm o h.1, shp := h3.shp, sub := fun b' o hm hb => (h3.sub b' o hm hb).1, tape := h3.tape, os := h3.os, output := h3.output }⟩
end Go.V
namespace Go.V
section
variable {P : Program} {c : Cfg}
theorem we {w : World} {b : Nat} {o o' : Obj} (h : w.heap[b]? = some o) (h1 : va o = true) (T : Nat -> Nat -> Prop) : Keeps w T (w.putObj b o') T where
  cell k i v hc _ := by
    by_cases e : k = b
    · subst e
      simp only [World.cell?, h] at hc
      cases o <;> simp_all [va]
    · rw [ya (World.putObj_heap_other e)]; exact hc
  out _ _ _ _ hT := hT
  shp k c' e' fr hw := by
    by_cases e : k = b
    · subst e
      rw [h] at hw
      cases hw
      cases h1
    · exact ⟨c', fr, by rw [World.putObj_heap_other e]; exact hw, rfl⟩
theorem vz {M : Nat -> Nat -> Prop} {w : World} {b : Nat} {o o' : Obj} (h : w.heap[b]? = some o) (h1 : va o = true) (hM : ∀ i, M b i) : Chg M w M (w.putObj b o') where
  size := by simp
  keep k i _ hm := ya (World.putObj_heap_other fun e => hm (by rw [e]; exact hM i)) i
  blk k _ hm := World.putObj_heap_other fun e => hm 0 (by rw [e]; exact hM 0)
  shp := (we h h1 (fun _ _ => False)).shp
  sub _ _ hm _ := hm
  tape := rfl
  os := rfl
  output := rfl
/-- A ghost turns. -/
theorem SimB.putGhost {n : Nat} {Oth M : Nat -> Nat -> Prop} {β : Nat -> Nat} {A : Fr} {st : Store} {a : Act} {w : World} (s : SimB n Oth β A st M a w) {b : Nat} {o o' : Obj} {gh : List (AV × Value)} (hb : st.obj b = some (.ghost o gh)) (h' : va o' = true) :
    SimB n Oth β A (st.setObj b (.ghost o' gh)) M a (w.putObj b o') := by
  obtain ⟨⟨⟨hw, hc⟩, hg⟩, hM⟩ := s.sto.obj b _ hb
  have hk := fun T => we (o' := o') hw hc T
  have hne : ∀ k, st.obj k ≠ none \/ True -> k ≠ b -> (w.putObj b o').heap[k]? = w.heap[k]? := fun k _ e => World.putObj_heap_other e
  exact
    { tsz := s.tsz
      dfr := s.dfr.step fun D _ _ h2 => ⟨World.putObj_heap_other fun e => (h2 0).1 (e ▸ hM 0), fun o => (h2 o).1⟩
      tm := fun i => (s.tm i).keep (hk _)
      bx := fun k l hl => ⟨(s.bx k l hl).1.same (hk _) (World.putObj_heap_other (s.sep k b (by rw [hl]; simp) (.inl (by rw [hb]; simp)))), (s.bx k l hl).2⟩
      inj := s.inj
      sep := fun k b' hk' hb' => s.sep k b' hk' (by
        by_cases e : b' = b
        · subst e; exact .inl (by rw [hb]; simp)
        · simpa [Store.setObj, nbeq e] using hb')
      sto :=
        { obj := fun k x hx => by
            by_cases e : k = b
            · subst e
              simp only [Store.setObj, Nat.beq_refl, cond_true, Option.some.injEq] at hx
              subst hx
              exact ⟨⟨⟨World.putObj_heap_same (zn hw), h'⟩, fun p hp => (hg p hp).keep (hk _)⟩, hM⟩
            · simp only [Store.setObj, nbeq e, cond_false] at hx
              exact ⟨ObjRel.same (s.sto.obj k x hx).1 (hk _) (World.putObj_heap_other e), (s.sto.obj k x hx).2⟩
          tok := fun k top ht => by
            obtain ⟨c1, e1, fr1, h1, h2⟩ := s.sto.tok k top ht
            exact ⟨c1, e1, fr1, by rw [World.putObj_heap_other fun e => by subst e; rw [hw] at h1; cases h1; cases hc]; exact h1, h2⟩
          mlt := fun k i hm => by simpa using s.sto.mlt k i hm
          olt := fun k i hm => by simpa using s.sto.olt k i hm
          dis := s.sto.dis } }
/-- An object that nobody asks for any more. -/
theorem SimB.drop {n : Nat} {Oth M : Nat -> Nat -> Prop} {β : Nat -> Nat} {A : Fr} {st : Store} {a : Act} {w : World} (s : SimB n Oth β A st M a w) (b : Nat) : SimB n Oth β A (st.delObj b) M a w where
  tsz := s.tsz
  dfr := s.dfr
  tm := s.tm
  bx := s.bx
  inj := s.inj
  sep k b' hk hb := s.sep k b' hk (hb.imp (fun h => by
    cases hx : (st.delObj b).obj b' with
    | none => exact absurd hx h
    | some y => rw [(yk hx).2]; simp) id)
  sto := s.sto.weaken ⟨fun k x h => (yk h).2, fun k x h => h⟩
/-- A round's slots: the loop's variables, and what was there when the loop began. -/
def vo (ps : List Tmp) (args : List AV) (gh : List (Nat × AV)) : Fr := mkFr (ps.zip (args.map LV.av) ++ gh.map fun p => (p.1, LV.av p.2)) []
def yg (fn : FuncId) (tmps : Array Value) (ps : Array Tmp) (assign body : Code) (D : Nat) (s : LoopState) : Loop := { state := s, pending := none, fn, tmps, params := ps, assign, body, defers := D }
theorem zbn (ps : List (Tmp × Value)) : ∀ t : Array Value, (ps.foldl (fun t p => t.setIfInBounds p.1 p.2) t).size = t.size := by
  induction ps with
  | nil => intro t; rfl
  | cons p ps ih => intro t; rw [List.foldl_cons, ih]; simp
theorem zea {i : Nat} : ∀ (ps : List (Tmp × Value)) (t : Array Value), (∀ p ∈ ps, p.1 ≠ i) -> (ps.foldl (fun t p => t.setIfInBounds p.1 p.2) t).getD i undef = t.getD i undef := by
  intro ps
  induction ps with
  | nil => intro t _; rfl
  | cons p ps ih =>
    intro t h
    rw [List.foldl_cons, ih _ fun q hq => h q (List.mem_cons_of_mem _ hq)]
    have := h p List.mem_cons_self
    rw [Array.getD_eq_getD_getElem?, Array.getD_eq_getD_getElem?, Array.getElem?_setIfInBounds_ne this]
theorem zg7 {i : Nat} : ∀ (l : List (Nat × LV)), (∀ q ∈ l, q.1 ≠ i) -> zaw l i = .any := by
  intro l
  induction l with
  | nil => intro _; rfl
  | cons p l ih =>
    intro h
    obtain ⟨j, x⟩ := p
    have : j ≠ i := h _ List.mem_cons_self
    simp only [zaw, nbeq (Ne.symm this), cond_false]
    exact ih fun q hq => h q (List.mem_cons_of_mem _ hq)
theorem zn9 {w : World} {T : Nat -> Nat -> Prop} {β : Nat -> Nat} {gh : List (Nat × AV)} {tmps : Array Value} (hg : ∀ p ∈ gh, VRel w T p.2 (tmps.getD p.1 undef)) :
    ∀ (ps : List Tmp) (args : List AV) (vs : List Value) (t : Array Value), (∀ q ∈ gh, q.1 ∉ ps) -> ps.Nodup -> (∀ p ∈ ps, p < t.size) -> Reads w T args vs -> args.length = ps.length -> (∀ i, i ∉ ps -> LRel w T β (zaw (gh.map fun p => (p.1, LV.av p.2)) i) (t.getD i undef)) ->
      ∀ i, LRel w T β (zaw (ps.zip (args.map LV.av) ++ gh.map fun p => (p.1, LV.av p.2)) i) (((ps.zip vs).foldl (fun t p => t.setIfInBounds p.1 p.2) t).getD i undef) := by
  intro ps
  induction ps with
  | nil => intro args vs t _ _ _ _ _ h i; exact h i (by simp)
  | cons p ps ih =>
    intro args vs t hdis hnd hlt hr hl h i
    obtain ⟨hl1, hr1⟩ := hr
    match args, vs, hl1, hl with
    | x :: args, v :: vs, hl1, hl =>
      have hp := (List.nodup_cons.1 hnd).1
      rw [List.zip_cons_cons, List.foldl_cons, List.map_cons, List.zip_cons_cons, List.cons_append]
      simp only [zaw]
      by_cases hi : i = p
      · subst hi
        simp only [Nat.beq_refl, cond_true]
        rw [zea _ _ fun q hq e => hp (by rw [<- e]; exact (List.of_mem_zip (a := q.1) (b := q.2) hq).1)]
        have := hlt i List.mem_cons_self
        rw [Array.getD_eq_getD_getElem?, Array.getElem?_setIfInBounds_self_of_lt this]
        exact hr1 0 x v rfl rfl
      · simp only [nbeq hi, cond_false]
        refine ih args vs (t.setIfInBounds p v) (fun q hq hm => hdis q hq (List.mem_cons_of_mem _ hm)) (List.nodup_cons.1 hnd).2 (fun q hq => by rw [Array.size_setIfInBounds]; exact hlt q (List.mem_cons_of_mem _ hq)) ⟨by simpa using hl1, fun j y z hy hz => hr1 (j + 1) y z hy hz⟩ (by simpa using hl) (fun j hj => ?_) i
        by_cases hjp : j = p
        · subst hjp
          rw [zg7 _ fun q hq => ?_]
          · trivial
          · obtain ⟨q', hq', rfl⟩ := List.mem_map.1 hq
            intro e
            exact hdis q' hq' (by rw [show q'.1 = j from e]; exact List.mem_cons_self)
        · rw [Array.getD_eq_getD_getElem?, Array.getElem?_setIfInBounds_ne (Ne.symm hjp), <- Array.getD_eq_getD_getElem?]
          exact h j (by simp [hjp, hj])
/-- **One round**: its body, walked in the round's frame. -/
theorem AYield.of_body {l : Nat} {fn : FuncId} {tmps : Array Value} {ps : Array Tmp} {assign body : Code} {D : Nat} {gh : List (Nat × AV)} {pairs : List (AV × Value)} (hpairs : pairs = gh.map fun p => (p.2, tmps.getD p.1 undef)) (hsz : tmps.size = c.n)
    (hdis : ∀ q ∈ gh, q.1 ∉ ps.toList) (hnd : ps.toList.Nodup) (hlt : ∀ p ∈ ps.toList, p < c.n) {S : Store} {args : List AV} {R : AV -> Store -> Prop}
    (hS : S.obj l = some (.ghost (.loop (yg fn tmps ps assign body D .ready)) pairs)) (hl : args.length = ps.size)
    (h : AWp P { c with round := some l } assign (fun e A S1 => e = .normal /\ S1.obj l = some (.ghost (.loop (yg fn tmps ps assign body D .ready)) pairs) ∧
      AWp P { c with round := some l } body (fun e _ S2 => e = .normal /\ S2.obj l = some (.ghost (.loop (yg fn tmps ps assign body D .busy)) pairs) ∧
        R (.s (.bool true)) (S2.setObj l (.ghost (.loop (yg fn tmps ps assign body D .ready)) pairs))) A (S1.setObj l (.ghost (.loop (yg fn tmps ps assign body D .busy)) pairs))) (vo ps.toList args gh) S) : AYield P l args S R := by
  refine ⟨fun Oth M w vs sto hr => ?_⟩
  obtain ⟨⟨⟨hw, hc⟩, hg⟩, hM⟩ := sto.obj l _ hS
  have hvs : vs.size = ps.size := by
    have := hr.1
    rw [hl] at this
    simpa using this.symm
  refine ⟨_, _, _, _, run_yield hw hvs, roundIn_of_wpIn trivial ?_⟩
  have hzip : (ps.zip vs).foldl (fun t (p, v) => t.setIfInBounds p v) tmps = (ps.toList.zip vs.toList).foldl (fun t p => t.setIfInBounds p.1 p.2) tmps := by
    rw [<- Array.foldl_toList, Array.toList_zip]
  have sim : SimB c.n Oth (fun _ => 0) (vo ps.toList args gh) S M { tmps := (ps.zip vs).foldl (fun t (p, v) => t.setIfInBounds p v) tmps, defers := [] } w :=
    { tsz := by
        show Array.size _ = _
        rw [hzip, zbn]; exact hsz
      dfr := Marks.nil
      tm := fun i => by
        show LRel w _ _ (zaw _ i) (Array.getD _ i undef)
        rw [hzip]
        have hgv : ∀ p ∈ gh, VRel w (fun b o => M b o \/ Oth b o) p.2 (tmps.getD p.1 undef) := fun p hp => hg (p.2, tmps.getD p.1 undef) (by rw [hpairs]; exact List.mem_map.2 ⟨p, hp, rfl⟩)
        refine zn9 hgv ps.toList args vs.toList tmps hdis hnd (fun p hp => by rw [hsz]; exact hlt p hp) hr (by simpa using hl) (fun j _ => ?_) i
        clear hg hpairs h hdis
        induction gh with
        | nil => trivial
        | cons p gh ih =>
          rw [List.map_cons]
          simp only [zaw]
          by_cases hj : j = p.1
          · subst hj
            simp only [Nat.beq_refl, cond_true]
            exact hgv p List.mem_cons_self
          · simp only [nbeq hj, cond_false]
            exact ih fun q hq => hgv q (List.mem_cons_of_mem _ hq)
      bx := fun k l hk => by simp [vo, mkFr, zax] at hk
      inj := fun k k' hk => by simp [vo, mkFr, zax] at hk
      sep := fun k b hk => by simp [vo, mkFr, zax] at hk
      sto := sto }
  refine Code.wpF_mono ?_ (h.out Oth M _ w ⟨_, sim⟩)
  rintro e a1 w1 ⟨A1, S1, M1, ⟨rfl, hS1, hbody⟩, ⟨β1, sim1⟩, hc1⟩
  obtain ⟨⟨⟨hw1, _⟩, _⟩, hM1⟩ := sim1.sto.obj l _ hS1
  refine ⟨_, run_beginRound hw1 rfl, ?_⟩
  have sim2 := sim1.putGhost (o' := .loop (yg fn tmps ps assign body D .busy)) hS1 rfl
  have hc2 := vz (o' := .loop (yg fn tmps ps assign body D .busy)) hw1 rfl hM1
  refine Code.wpF_mono ?_ (hbody.out Oth M1 _ _ ⟨β1, sim2⟩)
  rintro e a3 w3 ⟨A3, S3, M3, ⟨rfl, hS3, hR⟩, ⟨β3, sim3⟩, hc3⟩
  obtain ⟨⟨⟨hw3, _⟩, _⟩, hM3⟩ := sim3.sto.obj l _ hS3
  have sim4 := sim3.putGhost (o' := .loop (yg fn tmps ps assign body D .ready)) hS3 rfl
  have hc4 := vz (o' := .loop (yg fn tmps ps assign body D .ready)) hw3 rfl hM3
  exact ⟨_, _, run_endRound none hw3, _, rfl, .s (.bool true), _, M3, hR, .s _, sim4.sto, hc1.trans (hc2.trans (hc3.trans hc4))⟩
/-- **A range over a function.** -/
theorem AWp.rangeFunc (hro : c.round = none) {g : Operand} {ps : Array Tmp} {assign body : Code} {Q : Exit -> Fr -> Store -> Prop} {A : Fr} {st : Store} {gf : FuncId} {gfn : Func} {gcode : Code} {cap : List AV} (hg : A.ev g = .av (.clos gf cap))
    (hf : P.funcs[gf]? = some gfn) (hb : gfn.body = some gcode) (hname : (gfn.name == "runtime.NumGoroutine") = false)
    (gh : List (Nat × AV)) (hgh : ∀ p ∈ gh, A.t p.1 = .av p.2) (hdis : ∀ q ∈ gh, q.1 ∉ ps.toList) (hnd : ps.toList.Nodup) (hlt : ∀ p ∈ ps.toList, p < c.n)
    (h : ∀ (l : Nat) (X Y : AObj), Fresh st l ->
      (∀ (S : Store) (args : List AV) (R : AV -> Store -> Prop), S.obj l = some X -> args.length = ps.size ->
        AWp P { c with round := some l } assign (fun e A S1 => e = .normal /\ S1.obj l = some X /\ AWp P { c with round := some l } body (fun e _ S2 => e = .normal /\ S2.obj l = some Y /\ R (.s (.bool true)) (S2.setObj l X)) A (S1.setObj l Y)) (vo ps.toList args gh) S -> AYield P l args S R) ->
      ACalls P gf (.s (.func (.yield l) #[] #[]) :: cap) (st.setObj l X) fun _ S' => S'.obj l = some X /\ Q .normal A (S'.delObj l)) :
    AWp P c (.rangeFunc g ps assign body) Q A st := by
  refine ⟨fun Oth M a w ⟨β, sim⟩ => ?_⟩
  refine wpIn_rangeFunc fun fn _ => ?_
  obtain ⟨capv, hcv, hcr⟩ := VRel.clos_inv (zy sim.env hg)
  have eg : ∀ args w, (callFunc gf args).run P w = .ok (.enter gf args) w := fun args w => by
    have hne : ¬ gfn.name = "runtime.NumGoroutine" := by simpa using hname
    simp [callFunc, run_program, hf, hne, hb]
  have hF : c.F.round = none := hro
  rw [hF]
  have sim1 := sim.grow (Grow.alloc w (.deferred (some [])))
  have hl : (w.alloc (.deferred (some []))).heap.size = w.heap.size + 1 := by simp
  have hfr : Fresh st (w.heap.size + 1) := sim.sto.fresh (by omega)
  have sim2 := sim1.newObj (.loop (yg fn a.tmps ps assign body w.heap.size .ready)) (.ghost (.loop (yg fn a.tmps ps assign body w.heap.size .ready)) (gh.map fun p => (p.2, a.tmps.getD p.1 undef)))
    ⟨⟨yb _ _, rfl⟩, fun p hp => by
      obtain ⟨q, hq, rfl⟩ := List.mem_map.1 hp
      have h1 := sim1.tm q.1
      rw [hgh q hq] at h1
      exact VRel.keep (yn _ _ M Oth) h1⟩
  rw [hl] at sim2
  have hcall := h (w.heap.size + 1) _ (.ghost (.loop (yg fn a.tmps ps assign body w.heap.size .busy)) (gh.map fun p => (p.2, a.tmps.getD p.1 undef))) hfr
    (fun S args R hS hl h => AYield.of_body rfl sim.tsz hdis hnd hlt hS hl h)
  have hb1 : (w.alloc (.deferred (some []))).heap[w.heap.size]? = some (.deferred (some [])) := yb _ _
  have hc1 : Chg M w (addB M (w.heap.size + 1)) ((w.alloc (.deferred (some []))).alloc (.loop (yg fn a.tmps ps assign body w.heap.size .ready))) := by
    have h1 := (Grow.alloc w (.deferred (some []))).chg M
    have h2 := qq (w.alloc (.deferred (some []))) (.loop (yg fn a.tmps ps assign body w.heap.size .ready)) M
    rw [hl] at h2
    exact h1.trans h2
  have hbD : ((w.alloc (.deferred (some []))).alloc (.loop (yg fn a.tmps ps assign body w.heap.size .ready))).heap[w.heap.size]? = some (.deferred (some [])) := by
    rw [yi _ _ _ (by omega)]; exact hb1
  have hkeep : ∀ x y, VRel w (fun b o => M b o \/ Oth b o) x y -> VRel ((w.alloc (.deferred (some []))).alloc (.loop (yg fn a.tmps ps assign body w.heap.size .ready))) (fun b o => addB M (w.heap.size + 1) b o \/ Oth b o) x y := fun x y h => h.keep hc1.keeps
  have hent := run_enterLoop_outer (P := P) (w := w) fn a.tmps ps assign body
  rw [show ({ state := .ready, pending := none, fn, tmps := a.tmps, params := ps, assign, body, defers := w.heap.size } : Loop) = yg fn a.tmps ps assign body w.heap.size .ready from rfl] at hent
  generalize hW : (w.alloc (.deferred (some []))).alloc (.loop (yg fn a.tmps ps assign body w.heap.size .ready)) = W1 at *
  have hrd : Reads W1 (fun b o => addB M (w.heap.size + 1) b o \/ Oth b o) (.s (.func (.yield (w.heap.size + 1)) #[] #[]) :: cap) (#[Value.func (.yield (w.heap.size + 1)) #[] #[]] ++ capv).toList := by
    rw [Array.toList_append]
    exact Reads.cons (.s _) ⟨hcr.1, fun i x y hx hy => hkeep _ _ (hcr.2 i x y hx hy)⟩
  have hc := sim2.call hcall hrd
  rw [eg] at hc
  refine ⟨w.heap.size + 1, [{ target := .collected w.heap.size, args := #[] }], W1, { target := .fn (.func gf) capv, args := #[.func (.yield (w.heap.size + 1)) #[] #[]] }, W1, gf, #[Value.func (.yield (w.heap.size + 1)) #[] #[]] ++ capv, W1, hent, ?_, fun _ _ => Tv, ?_, fun h => (by cases h), zeo (Calls.mono hc ?_)⟩
  · simp only [resolve, hcv]
    simp [Deferred.ofValue, Act.eval]
  · simp [invoke, eg]
  · rintro e w3 ⟨v, rfl, r, st', M', ⟨hS, hQ⟩, hv, sim3, hc3⟩
    obtain ⟨⟨⟨hw3, _⟩, _⟩, hM3⟩ := sim3.sto.obj _ _ hS
    have sim4 := (sim3.putGhost (o' := .loop { yg fn a.tmps ps assign body w.heap.size .ready with state := .exhausted }) hS rfl).drop (w.heap.size + 1)
    have hc4 := vz (o' := .loop { yg fn a.tmps ps assign body w.heap.size .ready with state := .exhausted }) hw3 rfl hM3
    refine ⟨none, _, run_endLoop hw3 (by simp [yg]), A, st'.delObj (w.heap.size + 1), M', hQ, ⟨β, ?_⟩, hc1.trans (hc3.trans hc4)⟩
    have hst : ((st'.setObj (w.heap.size + 1) (.ghost (.loop { yg fn a.tmps ps assign body w.heap.size .ready with state := .exhausted }) (gh.map fun p => (p.2, a.tmps.getD p.1 undef)))).delObj (w.heap.size + 1)) = st'.delObj (w.heap.size + 1) := by
      unfold Store.setObj Store.delObj
      congr 1
      funext i
      dsimp only
      cases Nat.beq i (w.heap.size + 1) <;> rfl
    rw [hst] at sim4
    have hDlt : w.heap.size < W1.heap.size := zn hbD
    have hnM : ∀ o, ¬ addB M (w.heap.size + 1) w.heap.size o := fun o hm => by
      rcases hm with hm | hm
      · have := sim.sto.mlt _ _ hm; omega
      · omega
    refine { tsz := sim4.tsz, dfr := ⟨?_, ?_⟩, tm := sim4.tm, bx := sim4.bx, inj := sim4.inj, sep := sim4.sep, sto := sim4.sto }
    · show List.Pairwise _ ({ target := Target.collected w.heap.size, args := #[] } :: a.defers)
      refine List.pairwise_cons.2 ⟨fun d hd => ?_, sim4.dfr.nd⟩
      obtain ⟨D, rfl, h1, _⟩ := sim.dfr.all d hd
      have := zn h1
      intro e
      simp only [Target.collected.injEq] at e
      omega
    · intro d hd
      rcases List.mem_cons.1 hd with rfl | hd
      · refine ⟨w.heap.size, rfl, ?_, fun o => ⟨fun hm => hnM o (hc3.sub _ o hm hDlt), fun hO => ?_⟩⟩
        · rw [World.putObj_heap_other (by omega), hc3.blk _ hDlt hnM]
          exact hbD
        · have := sim.sto.olt _ _ hO; omega
      · exact sim4.dfr.all d hd
end
end Go.V
namespace Go.V
section
variable {P : Program} {c : Cfg} {st : Store}
/-- What a copy's source reads as: the first n elements of m. -/
structure SrcN (P : Program) (st : Store) (k m n : Nat) (x : AV) (xs : List AV) : Prop where
  out : ∀ (Oth M : Nat -> Nat -> Prop) (w : World) (xv : Value), StoreOK st Oth M w -> VRel w (fun b o => M b o \/ Oth b o) x xv ->
    (Builtin.lenOf xv).run P w = .ok m w /\ ∃ new : Array Value, Reads w (fun b o => M b o \/ Oth b o) xs new.toList /\ (∀ v ∈ new.toList, zv v = true) /\ new.size = n * k /\ (Builtin.firstCells k n xv).run P w = .ok new w
/-- A slice over an object, anywhere in it. -/
theorem SrcN.obj {k m n o b cp : Nat} {l : List AV} (ho : st.obj b = some (.cells l)) (hl : o + n * k <= l.length) (h1 : ∀ y ∈ (l.drop o).take (n * k), y.one = true) : SrcN P st k m n (.s (.slice (some ⟨b, o, none⟩) m cp)) ((l.drop o).take (n * k)) := by
  refine ⟨fun Oth M w xv sto hxv => ?_⟩
  have hxv := VRel.eq_s hxv
  subst hxv
  obtain ⟨cs, e, fr, hb, _, hlen, hrel⟩ := (sto.obj b _ ho).1
  have hreads : Reads w (fun b o => M b o \/ Oth b o) ((l.drop o).take (n * k)) ((List.range' 0 (n * k)).map fun i => cs.getD (o + i) undef) := by
    refine ⟨by simp; omega, fun i x y hx hy => ?_⟩
    have hi : i < n * k := by
      have := (List.getElem?_eq_some_iff.1 hx).1
      simp at this; omega
    rw [List.getElem?_take_of_lt hi, List.getElem?_drop] at hx
    simp [hi] at hy
    subst hy
    refine hrel (o + i) x _ hx ?_
    rw [Array.getElem?_eq_getElem (by omega)]
    simp [show o + i < cs.size by omega]
  refine ⟨by simp [Builtin.lenOf], ((List.range' 0 (n * k)).map fun i => cs.getD (o + i) undef).toArray, by simpa using hreads, by simpa using zbz hreads h1, by simp, ?_⟩
  have := z7 (P := P) ⟨b, o, none⟩ w (fun i => cs.getD (o + i) undef) (n * k) 0 #[] (fun p hp0 hp => by
    rw [qf]
    simp only [World.cell?, hb]
    have : o + p < cs.size := by omega
    simp [this])
  simp only [Builtin.firstCells, loadCells]
  simpa using this
/-- A list, whole. -/
theorem SrcN.rows {k : Nat} {x : AV} {rows : List (List AV)} (h : yy k (.av x) = some rows) : SrcN P st k rows.length rows.length x rows.flatten := by
  refine ⟨fun Oth M w xv sto hxv => ?_⟩
  obtain ⟨h1, h2, new, h3, h4, h5, h6⟩ := k5 (P := P) (β := fun _ => 0) (k := k) (x := .av x) hxv h
  exact ⟨h1, new, h3, h4, h5, h6 w rfl⟩
end
end Go.V
