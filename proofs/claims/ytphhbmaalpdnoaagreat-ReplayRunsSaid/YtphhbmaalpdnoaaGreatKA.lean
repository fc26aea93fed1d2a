/- Lemmas of thronglaw29; no conditions. -/
import Derived.Orders
import Derived.Deep.LoopGhost
import Derived.Below
import Derived.Scope
import Derived.Sort.LoopGhostIn
import Derived.OrdersIn
import Derived.TacticsIn
import Derived.Laws.StructEq
import Derived.Laws.Wrap64
import Derived.IntWalk
set_option linter.unusedSimpArgs false
set_option linter.unusedVariables false
set_option linter.defProp false
open List renaming length→Γ
open Option renaming some→Δ,none→Θ
namespace Go.V
abbrev BB:=Nat->Nat->Prop
theorem δ{p:Prop}(h:p:=by grind):p:=h
theorem ζ{p:Prop}(h:p:=by dsimp only;omega):p:=h
theorem ξ{p:Prop}(h:p:=by rfl):p:=h
def ω{p:Prop}(h:p:=by cases h):p:=h
theorem γ{p:Prop}(h:p:=by rw[he];decide):p:=h
theorem θa{p:Prop}(h:p:=by rw[xi];omega):p:=h
def θb{p:Prop}(h:p:=by have:=q.1;omega):p:=h
def θc{p:Prop}(h:p:=by cases hx):p:=h
theorem θd{p:Prop}(h:p:=by rw[Fah];omega):p:=h
theorem θe{p:Prop}(h:p:=by simpa using h1):p:=h
theorem θf{p:Prop}(h:p:=by rw[wq];omega):p:=h
def θg{p:Prop}(h:p:=by rw[zj];omega):p:=h
def θh{p:Prop}(h:p:=by simp_all):p:=h
def θi{p:Prop}(h:p:=by subst e;simp at h1):p:=h
def θj{p:Prop}(h:p:=by rw[Faf];exact hi):p:=h
def θk{p:Prop}(h:p:=by simp at h):p:=h
def θl{p:Prop}(h:p:=by unfold z6;rw[Fas];exact Fbl _ _):p:=h
def θm{p:Prop}(h:p:=by rw[hq2];omega):p:=h
def θn{p:Prop}(h:p:=by dsimp only at this;omega):p:=h
def θo{p:Prop}(h:p:=by have:=hz.2 hh;rw[this]at c1;cases c1):p:=h
theorem θp{p:Prop}(h:p:=by simpa using hx):p:=h
def θq{p:Prop}(h:p:=by unfold Cmd.okP;simp[h]):p:=h
def θr{p:Prop}(h:p:=by unfold Cmd.only;simp[h]):p:=h
def θs{p:Prop}(h:p:=by simp_all[aE,aW]):p:=h
theorem θt{p:Prop}(h:p:=by simpa using h2):p:=h
def θu{p:Prop}(h:p:=by have:=hzc.2 hh;rw[this]at c2;cases c2):p:=h
def θv{p:Prop}(h:p:=by rw[<-hS];exact zd _ _ _):p:=h
def θw{p:Prop}(h:p:=by rw[<-hS];exact(hv.set (hoff p hp) _).set (hoff p hp) _):p:=h
theorem θx{p:Prop}(h:p:=by rw[he];exact hE):p:=h
def θy{p:Prop}(h:p:=by obtain⟨d,h1,h2⟩:=h.und;rw[hy]at h2;cases d<;>simp[Da]at h2;grind):p:=h
def θz{p:Prop}(h:p:=by simp only[vcV,hx];exact h'):p:=h
theorem θ0{p:Prop}(h:p:=by simp[Op.operands]):p:=h
def θ1{p:Prop}(h:p:=by simpa [Op.operands]using hr):p:=h
def θ2{p:Prop}(h:p:=by simpa using hn):p:=h
def θ3{p:Prop}(h:p:=by simp[Cj]at hk):p:=h
def θ4{p:Prop}(h:p:=by have:=f1.2.1;grind):p:=h
def θ5{p:Prop}(h:p:=by simp_all[callFunc]):p:=h
def θ6{p:Prop}(h:p:=by have:=hb0.2 (ok.1 hp.1).1;cases this):p:=h
def θ7{p:Prop}(h:p:=by simp only[Fan,false_iff];exact hn):p:=h
def θ8{p:Prop}(h:p:=by simp only[Fan,false_iff];exact hh):p:=h
def θ9{p:Prop}(h:p:=by obtain⟨x,y,rfl,h1,h2⟩:=Hg hr;exact Reads.cons (Fe hv sto h1) (Reads.cons (qq h2) Reads.nil)):p:=h
def ψa{p:Prop}(h:p:=by dsimp only at f3⊢;rw[f3];exact Y):p:=h
theorem ψb{p:Prop}(h:p:=by rw[zj];exact Fai _):p:=h
def ψc{p:Prop}(h:p:=by simpa only[vcV,Oj]using h):p:=h
def ψd{p:Prop}(h:p:=by rw[hw.other b' he];exact h1):p:=h
def ψe{p:Prop}(h:p:=by simp[hv,Builtin.lenOf]):p:=h
def ψf{p:Prop}(h:p:=by have:=Wz h.lsz hilt hun;omega):p:=h
def ψg{p:Prop}(h:p:=by unfold off;split<;>(try split)<;>omega):p:=h
def ψh{p:Prop}(h:p:=by show(0:Int)<=0/\(0:Int)<8;decide):p:=h
def ψi{p:Prop}(h:p:=by rw[if_pos hh]at h;cases h):p:=h
def ψj{p:Prop}(h:p:=by have:=hb1.2 (ok.1 hp.1).2;cases this):p:=h
def ψk{p:Prop}(h:p:=by rw[hq2];unfold yr;omega):p:=h
def ψl{p:Prop}(h:p:=by dsimp only at hji;omega):p:=h
def ψm{p:Prop}(h:p:=by have:=hplace hh;unfold qv at this;omega):p:=h
def ψn{p:Prop}(h:p:=by rw[hz.2 hh]at c2;cases c2):p:=h
def ψo{p:Prop}(h:p:=by have:=congrArg List.length (hb rfl);rw[zj]at this;exact Fa2 this):p:=h
def ψp{p:Prop}(h:p:=by repeat(first|exact O|refine⟨rfl,?_⟩|refine⟨⟨k,rfl,J _ (zm hlt) rfl⟩,?_⟩|refine⟨J (o:=S1.obj p) _ hp1 rfl,?_⟩)):p:=h
def ψq{p:Prop}(h:p:=by have:=hz.2 hh;rw[this]at c2;cases c2):p:=h
def ψr{p:Prop}(h:p:=by simp[Builtin.len_,goInt,ht,hargs,hx,hv,yy (jz (hI _ _ hi) hty)]):p:=h
def ψs{p:Prop}(h:p:=by refine⟨by simp[hm1],λi x y hx hy=>?_⟩;obtain⟨z,hz,hzz⟩:=hm2 i x hx;rw[Fcx,Fau,hz]at hy;simp at hy;subst hy;exact qt sim.env (Pc hzz)):p:=h
def ψt{p:Prop}(h:p:=by obtain⟨β,s⟩:=sim;exact VRel.eq_s (qt s.env ht)):p:=h
def ψu{p:Prop}(h:p:=by grind[Op.operands,Call.operands]):p:=h
def ψv{p:Prop}(h:p:=by simp[Builtin.zeroCells,Value.cells]):p:=h
def ψw{p:Prop}(h:p:=by rw[ho];simp[Op.operands,Call.operands,hcl,hargs]):p:=h
def ψx{p:Prop}(h:p:=by show(0:Int)<=0/\(0:Int)<=4;decide):p:=h
def ψy{p:Prop}(h:p:=by have:=hz.2 hh.1;rw[this]at c1;cases c1):p:=h
def ψz{p:Prop}(h:p:=by obtain⟨e,_,rfl⟩:=Fag.1 he;rfl):p:=h
def ψ0{p:Prop}(h:p:=by have:=hq.1;rw[e,zd]at this;cases this):p:=h
def ψ1{p:Prop}(h:p:=by obtain⟨d,h1,h2⟩:=h.und;rw[hy]at h2;cases d<;>simp[Da]at h2;exact h1):p:=h
def ψ2{p:Prop}(h:p:=by simp[execOp,ho,hp',Instr.storeAt,Instr.sureAddr,storeVar,vx (hI _ _ hi),hvs,hr]):p:=h
def ψ3{p:Prop}(h:p:=by rw[show wo (x+y)=-9223372036854775807 by unfold wo;omega]at h;exact h):p:=h
def ψ4{p:Prop}(h:p:=by obtain⟨_,_,w,hw,h1,_,h2,_⟩:=hE;subst ha;exact absurd ⟨rfl,w,Fae _,hw,h1,h2⟩ hn):p:=h
def ψ5{p:Prop}(h:p:=by rw[Fb0,show 0+i*ti2.size=i from by show 0+i*1=i;omega,Far (by simpa using hlt),Fau,Fac hlt];rfl):p:=h
def ψ6{p:Prop}(h:p:=by simp only[Fan,false_iff];exact λhh=>by have:=hz.2 hh.1;rw[this]at c1;cases c1):p:=h
def ψ7{p:Prop}(h:p:=by simp only[true_iff];refine hci.2 λu hu hne=>?_;obtain⟨j,hj,rfl⟩:=Faj hu;exact hall j hj Z hne):p:=h
def ψ8{p:Prop}(h:p:=by have:=hh.1;rw[hkv]at this;exact⟨by dsimp only at this;omega,by dsimp only at this;omega⟩):p:=h
def ψ9{p:Prop}(h:p:=by have:=hh.2;rw[hkv]at this;exact⟨by dsimp only at this;omega,by dsimp only at this;omega⟩):p:=h
def φa{p:Prop}(h:p:=by have hd:=xx (f:=zf) (L:=J) yx hi;rw[<-Fdb,hd,Fb0,Far (by rw[yx];exact hj)];exact hy):p:=h
def κ{p:Prop}(h:p:=by kernel_rfl):p:=h
theorem χ{p:Prop}(h:p:=by simp;omega):p:=h
theorem Z{p:Prop}(h:p:=by omega):p:=h
theorem ψ{p:Prop}(h:p:=by decide):p:=h
theorem φ{p:Prop}(h:p:=by simp):p:=h
set_option linter.defProp false
def Faa:=@List.getElem_mem
def Fab:=@List.take_succ_eq_append_getElem
def Fac:=@List.getElem?_eq_getElem
def Fad:=@List.length_append
def Fae:=@Nat.zero_le
def Faf:=@List.length_set
def Fag:=@List.mem_map
def Fah:=@List.length_take
def Fai:=@Nat.le_refl
def Faj:=@List.getElem_of_mem
def Fak:=@Option.some.injEq
def Fal:=@List.take_length
def Fam:=@List.getElem?_cons_zero
def Fan:=@Bool.false_eq_true
def Fao:=@List.length_singleton
def Fap:=@List.getElem?_cons_succ
def Faq:=@List.append_assoc
def Far:=@List.getElem?_append_left
def Fas:=@List.length_map
def Fat:=@Int.tdiv_eq_ediv_of_nonneg
def Fau:=@List.getElem?_map
def Fav:=@Nat.not_lt_zero
def Faw:=@List.mem_append
def Fax:=@Int.mul_nonneg
def Fay:=@Bool.and_eq_true
def Faz:=@Int.toNat_natCast
def Fa0:=@List.getElem?_append_right
def Fa1:=@List.getElem?_eq_some_iff
def Fa2:=@List.eq_nil_of_length_eq_zero
def Fa3:=@Nat.mul_le_mul_right
def Fa4:=@List.mem_of_getElem?
def Fa5:=@List.findIdx?_eq_some_iff_getElem
def Fa6:=@List.mem_iff_getElem?
def Fa7:=@List.mem_cons
def Fa8:=@List.map_append
def Fa9:=@Int.mul_le_mul
def Fba:=@List.mem_cons_of_mem
def Fbb:=@List.length_cons
def Fbc:=@Array.toList_append
def Fbd:=@Nat.zero_add
def Fbe:=@List.mem_range
def Fbf:=@Array.getD_eq_getD_getElem?
def Fbg:=@Bool.and_eq_true_iff
def Fbh:=@List.length_replicate
def Fbi:=@List.getElem_set_self
def Fbj:=@List.getElem_map
def Fbk:=@Int.eq_ofNat_of_zero_le
def Fbl:=@List.length_filter_le
def Fbm:=@Bool.eq_iff_iff
def Fbn:=@List.mem_cons_self
def Fbo:=@List.getD_eq_getElem?_getD
def Fbp:=@Nat.le_of_ble_eq_true
def Fbq:=@List.append_nil
def Fbr:=@List.set_set
def Fbs:=@List.Nodup.length_le_of_subset
def Fbt:=@Array.getElem?_eq_some_iff
def Fbu:=@Nat.beq_refl
def Fbv:=@List.getElem?_replicate
def Fbw:=@List.map_congr_left
def Fbx:=@List.findIdx?_eq_none_iff
def Fby:=@Array.getElem?_eq_getElem
def Fbz:=@List.take_of_length_le
def Fb0:=@List.head?_drop
def Fb1:=@List.getElem_append_left
def Fb2:=@List.getElem?_take_of_lt
def Fb3:=@Int.ediv_nonneg
def Fb4:=@List.getElem?_eq_none
def Fb5:=@List.map_cons
def Fb6:=@List.take_append_of_le_length
def Fb7:=@Nat.le_trans
def Fb8:=@Int.add_zero
def Fb9:=@Int.ediv_eq_zero_of_lt
def Fca:=@Nat.ble_eq_true_of_le
def Fcb:=@List.take_append_drop
def Fcc:=@List.mem_filter
def Fcd:=@List.ext_getElem?
def Fce:=@Bool.not_eq_true'
def Fcf:=@List.mem_of_mem_take
def Fcg:=@List.not_mem_nil
def Fch:=@Nat.add_mul
def Fci:=@List.mem_singleton
def Fcj:=@List.length_nil
def Fck:=@List.cons.injEq
def Fcl:=@Int.emod_nonneg
def Fcm:=@List.all_eq_true
def Fcn:=@Int.tmod_eq_emod_of_nonneg
def Fco:=@Array.length_toList
def Fcp:=@List.take_zero
def Fcq:=@List.pairwise_iff_getElem
def Fcr:=@List.drop_zero
def Fcs:=@List.drop_eq_getElem_cons
def Fct:=@List.getElem?_drop
def Fcu:=@List.filter_append
def Fcv:=@Nat.lt_succ_self
def Fcw:=@Int.le_refl
def Fcx:=@Array.toList_map
def Fcy:=@List.drop_of_length_le
def Fcz:=@List.ext_getElem
def Fc0:=@Int.ediv_le_self
def Fc1:=@List.pairwise_cons
def Fc2:=@Int.emod_lt_of_pos
def Fc3:=@Bool.and_eq_false_iff
def Fc4:=@Array.getElem?_modify
def Fc5:=@Nat.mul_le_mul
def Fc6:=@List.foldl_cons
def Fc7:=@Int.emod_eq_of_lt
def Fc8:=@List.length_drop
def Fc9:=@List.getElem_set
def Fda:=@Int.mul_le_mul_of_nonneg_left
def Fdb:=@List.drop_drop
def Fdc:=@List.getElem_cons_zero
def Fdd:=@Nat.le_succ
def Fde:=@List.nil_append
def Fdf:=@Int.emod_add_mul_ediv
def Fdg:=@Array.getElem?_toList
def Fdh:=@List.nodup_append
def Fdi:=@List.any_eq_false
def Fdj:=@Int.fdiv_eq_ediv_of_nonneg
def Fdk:=@Array.getElem?_append_left
def Fdl:=@List.mem_append_left
def Fdm:=@List.filter_cons
def Fdn:=@Bool.cond_decide
def Fdo:=@Nat.lt_irrefl
def Fdp:=@List.range_succ
def Fdq:=@Int.sub_eq_add_neg
def Fdr:=@Bool.and_self
def Fds:=@List.length_range
def Fdt:=@List.getElem_take
def Fdu:=@List.foldl_append
def Fdv:=@List.eraseIdx_eq_take_drop_succ
def Fdw:=@Int.pow_pos
def Fdx:=@Int.mul_add
def Fdy:=@List.nodup_nil
def Fdz:=@Bool.false_and
def Fd0:=@Nat.succ_mul
def Fd1:=@Int.mul_le_mul_of_nonneg_right
def Fd2:=@Int.ediv_lt_of_lt_mul
def Fd3:=@Int.add_mul_ediv_left
def Fd4:=@Array.mem_of_getElem?
def Fd5:=@List.map_eq_cons_iff
def Fd6:=@List.dropLast_concat_getLast
def Fd7:=@Bool.false_or
def Fd8:=@Nat.min_eq_left
def Fd9:=@List.flatten_append
def Fea:=@Int.add_mul_emod_self_left
def Feb:=@Option.isSome_none
def Fec:=@Nat.add_sub_cancel
def Fed:=@List.getElem?_take
def Fee:=@List.mem_of_find?_eq_some
def Fef:=@List.getElem_append_right
def Feg:=@Bool.and_false
def Feh:=@Array.mapM_eq_mapM_toList
def Fei:=@List.getElem?_set
def Fej:=@List.flatten_cons
def Fek:=@List.findIdx?_map
def Fel:=@List.filter_congr
def Fem:=@Nat.mul_one
def Fen:=@List.drop_length
def Feo:=@List.any_eq_true
def O:True:=trivial
inductive AV where
  |any
  |s (v:Value)
  |agg (cs:List AV)
  |tup (vs:List AV)
  |lst (k:Nat) (rows:List (List AV)) (tok:Option Nat)
  |cp (cells:List AV)
  |emp
  |clos (f:FuncId) (cap:List AV)
  deriving Inhabited
def xq:Value->Bool
  |.agg _=>false
  |.tuple _=>false
  |_=>true
inductive VRel(w:World)(T:BB):AV->Value->Prop
  |any (v:Value):VRel w T .any v
  |s (v:Value):VRel w T (.s v) v
  |agg (cs:List AV) (c:Array Value) (hl:Γ cs=c.size) (h:∀(i:Nat) (x:AV) (y:Value),cs[i]?=Δ x->c[i]?=Δ y->VRel w T x y):VRel w T (.agg cs) (.agg c)
  |tup (cs:List AV) (c:Array Value) (hl:Γ cs=c.size) (h:∀(i:Nat) (x:AV) (y:Value),cs[i]?=Δ x->c[i]?=Δ y->VRel w T x y):VRel w T (.tup cs) (.tuple c)
  |emp (a:Option Addr) (h:∀x,a=Δ x->x.spot=Θ):VRel w T .emp (.slice a 0 0)
  |nil (k:Nat) (a:Option Addr):VRel w T (.lst k [] Θ) (.slice a 0 0)
  |lst (rows:List (List AV)) (tok:Option Nat) (b off cap k:Nat) (c:Nat->Value) (hcap:Γ rows<=cap)
      (hk:∀(i:Nat) (row:List AV),rows[i]?=Δ row->Γ row=k)
      (htok:∀t,tok=Δ t->t=b/\off=0/\rows≠[]/\∃c e fr,w.heap[b]?=Δ (.cells c e fr)/\cap*k<=c.size)
      (hc:∀(i:Nat) (row:List AV) (j:Nat) (x:AV),rows[i]?=Δ row->row[j]?=Δ x->w.cell? ⟨b,off+(i*k+j),Θ⟩=Δ (c (i*k+j))/\¬T b (off+(i*k+j)))
      (h1:∀(i:Nat) (row:List AV) (j:Nat) (x:AV),rows[i]?=Δ row->row[j]?=Δ x->xq (c (i*k+j))=true)
      (hx:∀(i:Nat) (row:List AV) (j:Nat) (x:AV),rows[i]?=Δ row->row[j]?=Δ x->VRel w T x (c (i*k+j))):
      VRel w T (.lst k rows tok) (.slice (Δ ⟨b,off,Θ⟩) (Γ rows) cap)
  |cp (cells:List AV) (b off:Nat) (c:Nat->Value)
      (hc:∀(j:Nat) (x:AV),cells[j]?=Δ x->w.cell? ⟨b,off+j,Θ⟩=Δ (c j)/\¬T b (off+j))
      (hx:∀(j:Nat) (x:AV),cells[j]?=Δ x->VRel w T x (c j)):
      VRel w T (.cp cells) (.pointer (Δ ⟨b,off,Θ⟩))
  |clos (f:FuncId) (cs:List AV) (c:Array Value) (hl:Γ cs=c.size) (h:∀(i:Nat) (x:AV) (y:Value),cs[i]?=Δ x->c[i]?=Δ y->VRel w T x y):VRel w T (.clos f cs) (.func (.func f) #[] c)
structure Keeps(w:World)(T:BB)(w':World)(T':BB):Prop where
  cell:∀b o c,w.cell? ⟨b,o,Θ⟩=Δ c->¬T b o->w'.cell? ⟨b,o,Θ⟩=Δ c
  out:∀b o c,w.cell? ⟨b,o,Θ⟩=Δ c->¬T b o->¬T' b o
  shp:∀(b:Nat) c e fr,w.heap[b]?=Δ (.cells c e fr)->∃c' fr',w'.heap[b]?=Δ (.cells c' e fr')/\c'.size=c.size
theorem VRel.keep{w C:World}{T E:BB}(p:Keeps w T C E){x:AV}{v:Value}(h:VRel w T x v):VRel C E x v:=by
  induction h with
  |any v=>exact .any v
  |s v=>exact .s v
  |agg u c o _ d=>exact .agg u c o d
  |tup u c o _ d=>exact .tup u c o d
  |emp a h=>exact .emp a h
  |nil k a=>exact .nil k a
  | lst rows tok b off B k c hcap z htok A n _ d=>
    refine .lst rows tok b off B k c hcap z (λt G=>?_) (λi y j x n D=>?_) n d
    . obtain⟨n,D,l,c,e,M,g,L⟩:=htok t G
      obtain⟨P,H,K,I⟩:=p.shp _ _ _ _ g;grind
    . obtain⟨l,g⟩:=A i y j x n D
      exact⟨p.cell _ _ _ l g,p.out _ _ _ l g⟩
  | cp cells b off c A _ d=>
    refine .cp cells b off c (λj x n=>?_) d;obtain⟨l,g⟩:=A j x n;exact⟨p.cell _ _ _ l g,p.out _ _ _ l g⟩
  |clos f u c o _ d=>exact .clos f u c o d
def VRel.mono{w:World}{T a:BB}(c:∀b o,a b o->T b o){x:AV}{v:Value}(h:VRel w T x v):VRel w a x v:=
  h.keep ⟨λ_ _ _ h _=>h,λ_ _ _ _ h d=>h (c _ _ d),λ_ _ _ _ h=>⟨_,_,h,rfl⟩⟩
def AV.le(x y:AV):Prop:=∀w T v,VRel w T x v->VRel w T y v
theorem AV.le_refl(x:AV):AV.le x x:=λ_ _ _ h=>h
def AV.le_trans{x y z:AV}(h:AV.le x y)(a:AV.le y z):AV.le x z:=λw T v k=>a w T v (h w T v k)
def AV.le_any(x:AV):AV.le x .any:=λ_ _ v _=>.any v
def AV.le_tok(k:Nat)(rows:List (List AV))(d:Option Nat):AV.le (.lst k rows d) (.lst k rows Θ):=by
  intro w T v h;cases h with
  |nil _ a=>exact .nil k a
  |lst _ _ b off e _ c hcap g htok i j f=>exact .lst rows Θ b off e k c hcap g (λ_ h=>by cases h) i j f
def AV.le_nil(k:Nat):AV.le (.s (.slice Θ 0 0)) (.lst k [] Θ):=by intro w T v h;cases h;exact .nil k Θ
def AV.le_agg{a b:List AV}(l:Γ a=Γ b)(h:∀(i:Nat) (x y:AV),a[i]?=Δ x->b[i]?=Δ y->AV.le x y):AV.le (.agg a) (.agg b):=by
  intro w T v g;cases g with
  | agg _ c j k=>
    refine .agg b c (by omega) λi x y f e=>?_;have d:i<Γ a:=by grind
    exact h i a[i] x (Fac d) f w T y (k i _ _ (Fac d) e)
inductive AObj where
  |cells (l:List AV)
  |map (es:List (AV×AV)) (bs:List Nat) (clock:Nat)
  |iter (m:Nat) (since:Nat) (seen:List Nat) (last:Nat)
  |ghost (o:Obj) (gh:List (AV×Value))
structure Store where
  obj:Nat->Option AObj
  tok:Nat->Option Nat
def Store.empty:Store:=⟨λ_=>Θ,λ_=>Θ⟩
def Store.sO(a:Store)(b:Nat)(x:AObj):Store:={a with obj:=λi=>bif Nat.beq i b then Δ x else a.obj i}
def Store.sT(a:Store)(b:Nat)(x:Option Nat):Store:={a with tok:=λi=>bif Nat.beq i b then x else a.tok i}
structure Store.Has(st st':Store):Prop where
  obj:∀b x,st'.obj b=Δ x->st.obj b=Δ x
  tok:∀b x,st'.tok b=Δ x->st.tok b=Δ x
def Store.Has.refl(a:Store):a.Has a:=⟨λ_ _ h=>h,λ_ _ h=>h⟩
theorem Store.Has.trans{a b c:Store}(h:a.Has b)(d:b.Has c):a.Has c:=⟨λ_ _ k=>h.obj _ _ (d.obj _ _ k),λ_ _ k=>h.tok _ _ (d.tok _ _ k)⟩
def F9(a:Nat×Nat)(n:Nat):Prop:=a.2=a.1\/n<=a.1
def CellsRel(w:World)(T:BB)(l:List AV)(b:Nat):Prop:=
  ∃ c e fr,w.heap[b]?=Δ (.cells c e fr)/\fr.2=fr.1/\Γ l=c.size∧
    ∀(i:Nat) (x:AV) (y:Value),l[i]?=Δ x->c[i]?=Δ y->VRel w T x y
def yvq(w:World)(T:BB)(d:List (AV×AV))(c:List Nat)(a:Nat)(b:Nat):Prop:=
  ∃ ms:Array MapEntry,w.heap[b]?=Δ (.map ms a)/\Γ d=ms.size∧
    (∀(i:Nat) (x:AV×AV) (y:MapEntry),d[i]?=Δ x->ms[i]?=Δ y->VRel w T x.1 y.key/\VRel w T x.2 y.val)∧
    c=ms.toList.map (·.born)/\(∀t∈c,t<a)/\c.Pairwise (·<·)
def Rk:Obj->Bool
  |.cells ..=>false
  |_=>true
def ObjRel(w:World)(T:BB):AObj->Nat->Prop
  |.cells l,b=>CellsRel w T l b
  |.map es a clock,b=>yvq w T es a clock b
  |.iter m since seen last,b=>w.heap[b]?=Δ (.mapIter (Δ m) since seen.toArray last)
  |.ghost o gh,b=>(w.heap[b]?=Δ o/\Rk o=true)/\∀p∈gh,VRel w T p.1 p.2
structure StoreOK(st:Store)(Oth M:BB)(w:World):Prop where
  obj:∀b x,st.obj b=Δ x->ObjRel w (λb o=>M b o\/Oth b o) x b/\∀o,M b o
  tok:∀b top,st.tok b=Δ top->∃c e fr,w.heap[b]?=Δ (.cells c e fr)/\F9 fr c.size/\top<=c.size/\∀o,top<=o->M b o
  mlt:∀b o,M b o->b<w.heap.size
  olt:∀b o,Oth b o->b<w.heap.size
  dis:∀b o,Oth b o->¬M b o
def StoreOK.weaken{d a:Store}{c M:BB}{w:World}(h:StoreOK d c M w)(e:d.Has a):StoreOK a c M w:=
  ⟨λb x k=>h.obj b x (e.obj b x k),λb x k=>h.tok b x (e.tok b x k),h.mlt,h.olt,h.dis⟩
structure Chg(M:BB)(w:World)(M':BB)(w':World):Prop where
  size:w.heap.size<=w'.heap.size
  keep:∀b o,b<w.heap.size->¬M b o->w'.cell? ⟨b,o,Θ⟩=w.cell? ⟨b,o,Θ⟩
  blk:∀b,b<w.heap.size->(∀o,¬M b o)->w'.heap[b]?=w.heap[b]?
  shp:∀(b:Nat) c e fr,w.heap[b]?=Δ (.cells c e fr)->∃c' fr',w'.heap[b]?=Δ (.cells c' e fr')/\c'.size=c.size
  sub:∀b o,M' b o->b<w.heap.size->M b o
  tape:w'.tape=w.tape
  os:w'.os=w.os
  output:w'.output=w.output
def Chg.refl(M:BB)(w:World):Chg M w M w:=
  ⟨Fai _,λ_ _ _ _=>rfl,λ_ _ _=>rfl,λ_ _ _ _ h=>⟨_,_,h,rfl⟩,λ_ _ h _=>h,rfl,rfl,rfl⟩
theorem Ho{w:World}{b:Nat}{x:Obj}(h:w.heap[b]?=Δ x):b<w.heap.size:=(Fbt.1 h).1
theorem Chg.trans{M i g:BB}{w f d:World}(h:Chg M w i f)(k:Chg i f g d):Chg M w g d where
  size:=Fb7 h.size k.size
  keep b o a l:=by rw[k.keep b o (Nat.lt_of_lt_of_le a h.size) (λj=>l (h.sub b o j a)),h.keep b o a l]
  blk b a l:=by rw[k.blk b (Nat.lt_of_lt_of_le a h.size) (λo j=>l o (h.sub b o j a)),h.blk b a l]
  shp b c e fr t:=by obtain⟨y,n,u,B⟩:=h.shp b c e fr t;obtain⟨v,p,A,z⟩:=k.shp b y e n u;grind
  sub b o l a:=h.sub b o (k.sub b o l (Nat.lt_of_lt_of_le a h.size)) a
  tape:=k.tape.trans h.tape
  os:=k.os.trans h.os
  output:=k.output.trans h.output
theorem Oy{w:World}{b o:Nat}{c:Value}(h:w.cell? ⟨b,o,Θ⟩=Δ c):b<w.heap.size:=World.block_lt_of_cell? _ _ h
def Chg.keeps{M M' Oth:BB}{w g:World}(h:Chg M w M' g):
    Keeps w (λb o=>M b o\/Oth b o) g (λb o=>M' b o\/Oth b o) where
  cell b o c a f:=by rw[h.keep b o (Oy a) λd=>f (.inl d)];exact a
  out b o c a f e:=f (e.imp (λd=>h.sub b o d (Oy a)) id)
  shp:=h.shp
abbrev Ja:=AV->Store->Prop
inductive LV where
  |any
  |und
  |av (x:AV)
  |bx (k off:Nat)
  deriving Inhabited
structure Fr where
  t:Nat->LV
  bx:Nat->Option (List AV)
section
variable {w w':World} {v:Value} {st:Store} {b:Nat}
def LV.kill(k:Nat):LV->LV
  |.bx a o=>bif Nat.beq a k then .any else .bx a o
  |x=>x
def Fr.put(A:Fr)(d:Nat)(x:LV):Fr:={A with t:=λi=>bif Nat.beq i d then x else A.t i}
def Fr.setBx(A:Fr)(k:Nat)(l:List AV):Fr:={A with bx:=λi=>bif Nat.beq i k then Δ l else A.bx i}
def Fr.newBx(A:Fr)(d:Nat)(l:List AV):Fr:=
  {t:=λi=>bif Nat.beq i d then .bx d 0 else(A.t i).kill d,bx:=λi=>bif Nat.beq i d then Δ l else A.bx i}
def ysh(v:Value):AV:=.s v
def cst:Value->AV
  |.agg a=>.agg (a.toList.map ysh)
  |v=>.s v
def Fr.ev(A:Fr):Operand->LV
  |.tmp t=>A.t t
  |.const v=>.av (cst v)
  |.global g=>.av (.s (.pointer (Δ ⟨g,0,Θ⟩)))
  |.func f=>.av (.clos f [])
def LRel(w:World)(T:BB)(β:Nat->Nat):LV->Value->Prop
  |.any,_=>True
  |.und,v=>v=undef
  |.av x,v=>VRel w T x v
  |.bx k off,v=>v=.pointer (Δ ⟨β k,off,Θ⟩)
theorem LRel.keep{T a:BB}{β:Nat->Nat}(c:Keeps w T w' a){x:LV}(h:LRel w T β x v):LRel w' a β x v:=by
  cases x with
  |any=>trivial
  |und=>exact h
  |av x=>exact VRel.keep c h
  |bx k off=>exact h
def LV.le(x y:LV):Prop:=∀w T β v,LRel w T β x v->LRel w T β y v
theorem LV.le_refl(x:LV):LV.le x x:=λ_ _ _ _ h=>h
def LV.le_any(x:LV):LV.le x .any:=λ_ _ _ _ _=>trivial
structure Marks(Oth M:BB)(w:World)(ds:List Deferred):Prop where
  nd:ds.Pairwise λx y=>x.target≠y.target
  all:∀d∈ds,∃D,d={target:=.collected D,args:=#[]}/\w.heap[D]?=Δ (.deferred (Δ []))/\∀o,¬M D o/\¬Oth D o
theorem Marks.nil{a M:BB}:Marks a M w []:=⟨List.Pairwise.nil,λd h=>ω⟩
def Marks.step{a M M':BB}{c:List Deferred}(h:Marks a M w c)
    (g:∀D,w.heap[D]?=Δ (.deferred (Δ []))->D<w.heap.size->(∀o,¬M D o/\¬a D o)->w'.heap[D]?=w.heap[D]?/\∀o,¬M' D o):Marks a M' w' c:=
  ⟨h.nd,λd f=>by obtain⟨D,e,j,i⟩:=h.all d f;grind⟩
theorem Marks.sub{a M M':BB}{c:List Deferred}(h:Marks a M w c)(d:∀b o,M' b o->M b o):Marks a M' w c:=
  h.step λD _ _ f=>⟨rfl,λo e=>(f o).1 (d D o e)⟩
structure SN where
  sz:Nat
  D0:List Deferred:=[]
  /--it has no marks -/
  nm:Bool:=false
structure MarksD(Oth M:BB)(w:World)(n:SN)(ds:List Deferred):Prop where
  ex:∃ms,ds=ms++n.D0/\(n.nm=true->ms=[])/\Marks Oth M w ms
theorem MarksD.nil{a M:BB}{n:SN}(h:n.D0=[]):MarksD a M w n []:=⟨[],δ,λ_=>rfl,Marks.nil⟩
def MarksD.step{a M M':BB}{n:SN}{c:List Deferred}(h:MarksD a M w n c)
    (f:∀D,w.heap[D]?=Δ (.deferred (Δ []))->D<w.heap.size->(∀o,¬M D o/\¬a D o)->w'.heap[D]?=w.heap[D]?/\∀o,¬M' D o):MarksD a M' w' n c:=by
  obtain⟨d,e,i,g⟩:=h.ex;exact⟨d,e,i,g.step f⟩
theorem MarksD.sub{a M M':BB}{n:SN}{c:List Deferred}(h:MarksD a M w n c)(f:∀b o,M' b o->M b o):MarksD a M' w n c:=by obtain⟨d,e,i,g⟩:=h.ex;exact⟨d,e,i,g.sub f⟩
def MarksD.out{a M:BB}{n:SN}{c:List Deferred}(h:MarksD a M w n c)(g:n.D0=[]):Marks a M w c:=by obtain⟨d,e,_,f⟩:=h.ex;grind
theorem MarksD.known{a M:BB}{n:SN}{c:List Deferred}(h:MarksD a M w n c)(g:n.nm=true):c=n.D0:=by obtain⟨d,e,f,_⟩:=h.ex;grind
def MarksD.of{a M:BB}{n:SN}{c:List Deferred}(h:Marks a M w c)(f:n.D0=[])(d:n.nm=false):MarksD a M w n c:=⟨c,δ,λe=>δ,h⟩
structure SimB(n:SN)(Oth:BB)(β:Nat->Nat)(A:Fr)(st:Store)(M:BB)(a:Act)(w:World):Prop where
  tsz:a.tmps.size=n.sz
  dfr:MarksD Oth M w n a.defers
  tm:∀i,LRel w (λb o=>M b o\/Oth b o) β (A.t i) (a.tmps.getD i undef)
  bx:∀k l,A.bx k=Δ l->CellsRel w (λb o=>M b o\/Oth b o) l (β k)/\∀o,M (β k) o
  inj:∀k k',A.bx k≠Θ->A.bx k'≠Θ->β k=β k'->k=k'
  sep:∀k b,A.bx k≠Θ->(st.obj b≠Θ\/st.tok b≠Θ)->β k≠b
  sto:StoreOK st Oth M w
def Sim(n:SN)(c:BB)(A:Fr)(st:Store)(M:BB)(a:Act)(w:World):Prop:=∃β,SimB n c β A st M a w
theorem VRel.cst(w:World)(T:BB)(v:Value):VRel w T (cst v) v:=by
  cases v<;>simp only[V.cst]<;>first
    |exact .s _
    | (refine .agg _ _ φ λi x y a c=>?_
       simp only[Fau]at a;rw[Fdg,c]at a;simp only[Option.map_some,Fak]at a;subst a;exact .s _)
theorem SimB.ev{n:SN}{c M:BB}{β:Nat->Nat}{A:Fr}{a:Act}(h:SimB n c β A st M a w)(x:Operand):
    LRel w (λb o=>M b o\/c b o) β (A.ev x) (a.eval x):=by
  cases x with
  |tmp t=>exact h.tm t
  |const v=>exact VRel.cst _ _ _
  |global g=>exact VRel.s _
  |func f=>exact VRel.clos f [] #[] rfl φ
theorem Ae(i d:Nat):Nat.beq i d=true↔i=d:=φ
theorem SimB.put{n:SN}{c M:BB}{β:Nat->Nat}{A:Fr}{a:Act}(h:SimB n c β A st M a w)
    {d:Nat} (f:d<n.sz) {x:LV} (g:LRel w (λb o=>M b o\/c b o) β x v):SimB n c β (A.put d x) st M (a.put (Δ d) v) w where
  tsz:=by simp[Act.put,h.tsz]
  dfr:=h.dfr
  tm i:=by
    simp only[Fr.put,Act.put,Fbf];by_cases e:i=d
    . subst e
      have:i<a.tmps.size:=by rw[h.tsz];exact f
      simp_all
    . have j:Nat.beq i d=false:=by grind[Ae]
      rw[Array.getElem?_setIfInBounds_ne (Ne.symm e)];have:=h.tm i;simp_all
  bx:=h.bx
  inj:=h.inj
  sep:=h.sep
  sto:=h.sto
structure Grow(w w':World):Prop where
  size:w.heap.size<=w'.heap.size
  blk:∀b,b<w.heap.size->w'.heap[b]?=w.heap[b]?
  tape:w'.tape=w.tape
  os:w'.os=w.os
  output:w'.output=w.output
theorem Fu(w:World)(o:Obj)(k:Nat)(h:k<w.heap.size):(w.alloc o).heap[k]?=w.heap[k]?:=by show(w.heap.push o)[k]?=_;grind
def Grow.refl(w:World):Grow w w:=⟨Fai _,λ_ _=>rfl,rfl,rfl,rfl⟩
theorem Grow.alloc(w:World)(o:Obj):Grow w (w.alloc o):=⟨φ,λb a=>Fu w o b a,rfl,rfl,rfl⟩
def Grow.drew(w:World):Grow w w.drew:=⟨Fai _,λ_ _=>rfl,rfl,rfl,rfl⟩
theorem Gz(h:w'.heap[b]?=w.heap[b]?)(o:Nat):w'.cell? ⟨b,o,Θ⟩=w.cell? ⟨b,o,Θ⟩:=by simp only[World.cell?,h]
def Grow.chg(h:Grow w w')(M:BB):Chg M w M w' where
  size:=h.size
  keep b o a _:=Gz (h.blk b a) o
  blk b a _:=h.blk b a
  shp b c e fr d:=⟨c,fr,by rw[h.blk b (Ho d)];exact d,rfl⟩
  sub _ _ f _:=f
  tape:=h.tape
  os:=h.os
  output:=h.output
def Grow.keeps(h:Grow w w')(T:BB):Keeps w T w' T where
  cell b o c d _:=by rw[Gz (h.blk b (Oy d))];exact d
  out _ _ _ _ f:=f
  shp b c e fr a:=⟨c,fr,by rw[h.blk b (Ho a)];exact a,rfl⟩
theorem CellsRel.same{T a:BB}{l:List AV}(h:CellsRel w T l b)(g:Keeps w T w' a)(p:w'.heap[b]?=w.heap[b]?):CellsRel w' a l b:=by obtain⟨c,e,o,t,n,k,j⟩:=h;exact⟨c,e,o,δ,n,k,λi x y f d=>(j i x y f d).keep g⟩
theorem ObjRel.same{T g:BB}{l:AObj}(h:ObjRel w T l b)(a:Keeps w T w' g)(c:w'.heap[b]?=w.heap[b]?):ObjRel w' g l b:=by
  cases l with
  |cells l=>exact CellsRel.same h a c
  | iter m since seen last=>
    show _=_;rw[c];exact h
  |ghost o gh=>exact⟨⟨by rw[c];exact h.1.1,h.1.2⟩,λp k=>(h.2 p k).keep a⟩
  | map es z clock=>
    obtain⟨j,u,t,f,n⟩:=h;exact⟨j,δ,t,λi x y e d=>⟨(f i x y e d).1.keep a,(f i x y e d).2.keep a⟩,n⟩
def CellsRel.lt{T:BB}{l:List AV}(h:CellsRel w T l b):b<w.heap.size:=by obtain⟨c,e,d,a,_⟩:=h;grind
def ObjRel.lt{T:BB}{l:AObj}(h:ObjRel w T l b):b<w.heap.size:=by
  cases l with
  |cells l=>exact CellsRel.lt h
  |iter m since seen last=>exact Ho h
  |ghost o gh=>exact Ho h.1.1
  | map es d clock=>
    obtain⟨a,c,_⟩:=h;grind
theorem StoreOK.grow{a M:BB}(h:StoreOK st a M w)(g:Grow w w'):StoreOK st a M w' where
  obj b x d:=⟨ObjRel.same (h.obj b x d).1 (g.keeps _) (g.blk b (h.obj b x d).1.lt),(h.obj b x d).2⟩
  tok b top j:=by obtain⟨c,e,l,i,k⟩:=h.tok b top j;exact⟨c,e,l,by rw[g.blk b (Ho i)];exact i,k⟩
  mlt b o f:=Nat.lt_of_lt_of_le (h.mlt b o f) g.size
  olt b o f:=Nat.lt_of_lt_of_le (h.olt b o f) g.size
  dis:=h.dis
theorem SimB.grow{n:SN}{c M:BB}{β:Nat->Nat}{A:Fr}{a:Act}(h:SimB n c β A st M a w)(g:Grow w w'):SimB n c β A st M a w' where
  tsz:=h.tsz
  dfr:=h.dfr.step λD _ e f=>⟨g.blk D e,λo=>(f o).1⟩
  tm i:=(h.tm i).keep (g.keeps _)
  bx k l d:=⟨(h.bx k l d).1.same (g.keeps _) (g.blk _ (h.bx k l d).1.lt),(h.bx k l d).2⟩
  inj:=h.inj
  sep:=h.sep
  sto:=h.sto.grow g
def Y{x:LV}:LV.le x x:=LV.le_refl x
def Tt{x:AV}:AV.le x x:=AV.le_refl x
end
inductive Ty where
  |int (k:IntKind)
  |bool
  |str
  |slice (e:TypeId)
  |ptr (e:TypeId)
  |struct (fs:List (Nat×TypeId))
  |array (n:Nat) (e:TypeId)
  |map (k e:TypeId)
  |func
  |other
  deriving Inhabited,DecidableEq
structure TI where
  ty:Ty
  size:Nat
  bytes:Nat
  zero:List Value
  /--values of it may be held against one another -/
  eq:Bool:=false
  deriving Inhabited
abbrev Info:=Nat->Option TI
def Da:TypeDesc->Ty
  |.int k=>.int k
  |.bool=>.bool
  |.string=>.str
  |.slice e=>.slice e
  |.pointer e=>.ptr e
  |.struct fs=>.struct (fs.toList.map λf=>(f.offset,f.type))
  |.array n e=>.array n e
  |.map k e=>.map k e
  |.func ..=>.func
  |_=>.other
def Dn:Ty->Bool
  |.struct _=>true
  |.array _ _=>true
  |_=>false
structure TIok(P:Program)(t:TypeId)(i:TI):Prop where
  info:∃inf,P.info? t=Δ inf/\inf.size=i.size/\inf.bytes=i.bytes/\∃z,inf.zero=Δ z/\z.cells.toList=i.zero
  und:∃d,P.underlying t=Δ d/\Da d=i.ty
  zsz:Γ i.zero=i.size
  zag:∀inf z,P.info? t=Δ inf->inf.zero=Δ z->(Dn i.ty=true/\∃cs,z=.agg cs)\/(Dn i.ty=false/\i.zero=[z])
  eqs : i.eq = true -> P.stoodInHeld t = false /\ P.eqGuardType P.depth t = false /\ ∀ fs, P.underlying t = Δ (.struct fs) -> ∀ f ∈ fs.toList, f.name ≠ "_"
def qf(P:Program)(I:Info):Prop:=∀t i,I t=Δ i->TIok P t i
structure Cfg where
  n:Nat
  I:Info
  /--temporaries whose 'alloc','box','buildSlice' make an object (a token) -/
  G:List Nat:=[]
  /--temporaries whose sums may wrap -/
  W:List Nat:=[]
  /--the loop whose round this is -/
  round:Option Nat:=Θ
  /--deferred calls that are known -/
  D0:List Deferred:=[]
  /--it ranges over no function -/
  nm:Bool:=false
def Cfg.F(c:Cfg):Fence:={Fence.wide with round:=c.round}
def optK{α:Type}(o:Option α)(K:α->Prop):Prop:=match o with|some x=>K x|none=>False
theorem J{α:Type}{o:Option α}{K:α->Prop}(x:α)(h:o=Δ x)(a:K x):optK o K:=by subst h;exact a
theorem zv{α:Type}{o:Option α}{K:α->Prop}(h:optK o K):∃x,o=Δ x/\K x:=by
  cases o with
  |none=>exact h.elim
  |some x=>exact⟨x,rfl,h⟩
def Ds(b:Bool)(p q:Prop):Prop:=match b with|true=>p|false=>q
theorem zg{b:Bool}{p q:Prop}(h:b=true->p)(a:b=false->q):Ds b p q:=by
  cases b with
  |true=>exact h rfl
  |false=>exact a rfl
def yr(v:Int):Prop:=-9223372036854775808<=v/\v<=9223372036854775807
def jq(k:IntKind)(a:Int):LV:=.av (.s (.int k a))
def k8(b:Bool):LV:=.av (.s (.bool b))
def arK(a:Bool)(k:IntKind)(v:Int)(K:LV->Prop):Prop:=
  match a,k with
  |false,.i64=>yr v/\K (jq .i64 v)
  |_,k=>K (jq k (k.wrap v))
def xf(c:BinOp)(k:IntKind)(x y:Int):Int:=
  let a:=BitVec.ofInt k.bits x
  let b:=BitVec.ofInt k.bits y
  match c with
  |.and=>k.wrap (a &&& b).toNat
  |.or=>k.wrap (a ||| b).toNat
  |.xor=>k.wrap (a^^^b).toNat
  |_=>k.wrap (a &&& ~~~b).toNat
def Me(c:Bool)(d:BinOp)(k:IntKind)(a b:Int)(K:LV->Prop):Prop:=
  match d with
  |.add=>arK c k (a+b) K
  |.sub=>arK c k (a-b) K
  |.mul=>arK c k (a*b) K
  |.quo=>b≠0/\arK c k (a.tdiv b) K
  |.rem=>b≠0/\K (jq k (a.tmod b))
  |.and=>K (jq k (xf .and k a b))
  |.or=>K (jq k (xf .or k a b))
  |.xor=>K (jq k (xf .xor k a b))
  |.andNot=>K (jq k (xf .andNot k a b))
  |.eql=>K (k8 (a==b))
  |.neq=>K (k8 (a != b))
  |.lss=>K (k8 (decide (a<b)))
  |.leq=>K (k8 (decide (a<=b)))
  |.gtr=>K (k8 (decide (a>b)))
  |.geq=>K (k8 (decide (a>=b)))
  |.shl=>0<=b/\K (jq k (k.wrap (a*2^(min b.toNat k.bits))))
  |.shr=>0<=b/\K (jq k (a.fdiv (2^(min b.toNat k.bits))))
theorem O5{v:Int}(h:yr v):IntKind.i64.wrap v=v:=by obtain⟨b,a⟩:=h;grind[IntKind.wrap,IntKind.bits,IntKind.signed]
def Hs:List AV->(List AV->Prop)->Prop
  |[],K=>K []
  |x::l,K=>Hs l λa=>K (x::a)
theorem Hr(l:List AV)(K:List AV->Prop):Hs l K=K l:=by
  induction l generalizing K with
  |nil=>rfl
  |cons x l a=>simp only[Hs];rw[a]
theorem Cz{l:List AV}{K:List AV->Prop}(h:K l):Hs l K:=by rw[Hr];exact h
def partK(i:TI)(cells:List AV)(K:LV->Prop):Prop:=
  bif Dn i.ty then(bif Nat.ble i.size (Γ cells) then Hs (cells.take i.size) λl=>K (.av (.agg l))else False)
  else optK cells.head? λx=>K (.av x)
def Fk(i:TI)(cells:List AV):Option AV:=
  bif Dn i.ty then(bif Nat.ble i.size (Γ cells) then Δ (.agg (cells.take i.size))else Θ)
  else cells.head?
def Gt(I:Info):Nat->TypeId->AV->AV->Option Bool
  |0,_,_,_=>Θ
  | d+1,t,x,y=>
    match I t with
    |none=>Θ
    | some i=>
      match i.ty,x,y with
      |.int _,.s (.int k a),.s (.int g b)=>bif decide (k=g)then Δ (a==b)else Θ
      |.bool,.s (.bool a),.s (.bool b)=>Δ (a==b)
      |.str,.s (.string a),.s (.string b)=>Δ (a==b)
      | .struct fs,.agg xs,.agg e=>
        bif i.eq then
          fs.foldr (λf c=>match I f.2 with
            |none=>Θ
            | some j=>match Fk j (xs.drop f.1),Fk j (e.drop f.1)with
              | some u,Δ v=>match Gt I d f.2 u v,c with
                |some p,Δ q=>Δ (p&&q)
                |_,_=>Θ
              |_,_=>Θ) (Δ true)
        else Θ
      |.slice _,.s (.slice Θ 0 0),.s (.slice Θ 0 0)=>Δ true
      |.func,.s .nilFunc,.s .nilFunc=>Δ true
      |.func,.clos _ _,.s .nilFunc=>Δ false
      |.func,.s .nilFunc,.clos _ _=>Δ false
      |.ptr _,.s (.pointer Θ),.s (.pointer Θ)=>Δ true
      |.ptr _,.s (.pointer (Δ _)),.s (.pointer Θ)=>Δ false
      |.ptr _,.s (.pointer Θ),.s (.pointer (Δ _))=>Δ false
      |.slice _,.s (.slice (Δ _) _ _),.s (.slice Θ 0 0)=>Δ false
      |_,_,_=>Θ
def LV.toAV:LV->Option AV
  |.av x=>Δ x
  |_=>Θ
def LV.toV:LV->Option Value
  |.av (.s v)=>Δ v
  |_=>Θ
def zku{x:LV}{v:Value}(h:x.toV=Δ v):x=.av (.s v):=by unfold LV.toV at h;grind
def Pc{x:LV}{y:AV}(h:x.toAV=Δ y):x=.av y:=by cases x<;>simp[LV.toAV]at h;rw[h]
def Hi(ev:Operand->LV):Option Operand->Option (Option Int)
  |none=>Δ Θ
  | some x=>match ev x with
    |.av (.s (.int _ i))=>Δ (Δ i)
    |_=>Θ
def cellsOf:AV->Option (List AV)
  |.agg a=>Δ a
  |.any=>Θ
  |.tup _=>Θ
  | .s v=>match v with
    |.agg _=>Θ
    |.tuple _=>Θ
    |v=>Δ [.s v]
  |x=>Δ [x]
def zu(l:List AV)(off:Nat)(a:List AV):List AV:=l.take off++a++l.drop (off+Γ a)
def Ku(a:Nat->Option (Nat×Nat))(cells:List AV):List (Nat×LV)->Option (List AV)
  |[]=>Δ cells
  | (i,v)::rest=>
    match a i,v with
    | some (off,size),.av x=>match cellsOf x with
      |some xs=>bif Nat.beq (Γ xs) size&&Nat.ble (off+size) (Γ cells) then Ku a (zu cells off xs) rest else Θ
      |none=>Θ
    |_,_=>Θ
def zfy(I:Info)(a:List (Nat×TypeId)):Option (List (Nat×Nat)):=
  a.mapM λf=>(I f.2).map λj=>(f.1,j.size)
def So(x:LV)(d:Nat)(K:LV->Prop):Prop:=
  match x with
  |.bx k o=>K (.bx k (o+d))
  |.av (.cp cells)=>K (.av (.cp (cells.drop d)))
  |.av (.s (.pointer (Δ ⟨b,o,Θ⟩)))=>K (.av (.s (.pointer (Δ ⟨b,o+d,Θ⟩))))
  |_=>False
def Sf(a:Nat->Option (List AV))(c:Store)(x:LV)(K:List AV->Prop):Prop:=
  match x with
  |.bx k o=>optK (a k) λl=>K (l.drop o)
  |.av (.cp cells)=>K cells
  |.av (.s (.pointer (Δ ⟨b,o,Θ⟩)))=>optK (c.obj b) λx=>match x with|.cells l=>K (l.drop o)|_=>False
  |_=>False
def mv(x:LV)(a:Store)(ty:Ty)(K:LV->Prop):Prop:=
  match ty,x with
  |.slice _,.av (.lst _ rows _)=>K (jq .i64 (Γ rows))
  |.slice _,.av (.s (.slice _ n _))=>K (jq .i64 n)
  |.slice _,.av .emp=>K (jq .i64 (0:Nat))
  |.str,.av (.s (.string s))=>K (jq .i64 s.size)
  |.map _ _,.av (.s (.map Θ))=>K (jq .i64 0)
  |.map _ _,.av (.s (.map (Δ r)))=>optK (a.obj r) λx=>match x with|.map es _ _=>K (jq .i64 (Γ es))|_=>False
  |.array n _,_=>K (jq .i64 n)
  |_,_=>False
def min2(a b:Int):Int:=bif decide (b<a)then b else a
def max2(a b:Int):Int:=bif decide (b>a)then b else a
def Ny(f:Int->Int->Int)(xs:List LV)(K:LV->Prop):Prop:=
  match xs with
  |[.av (.s (.int k a)),.av (.s (.int _ b))]=>K (jq k (f a b))
  |[.av (.s (.int k a)),.av (.s (.int _ b)),.av (.s (.int _ c))]=>K (jq k (f (f a b) c))
  |[.av (.s (.int k a)),.av (.s (.int _ b)),.av (.s (.int _ c)),.av (.s (.int _ d))]=>K (jq k (f (f (f a b) c) d))
  |_=>False
def Lf(c:Cfg)(ev:Operand->LV)(d:Store)(a:Call)(K:LV->Prop):Prop:=
  match a.callee with
  | .builtin b=>match b with
    |.len=>optK a.argTypes[0]? λt=>optK (c.I t) λi=>optK a.args[0]? λx=>mv (ev x) d i.ty K
    | .cap=>optK a.argTypes[0]? λt=>optK (c.I t) λi=>optK a.args[0]? λx=>match i.ty,ev x with
      |.slice _,.av (.s (.slice _ _ n))=>K (jq .i64 n)
      |_,_=>False
    |.min=>Ny min2 (a.args.toList.map ev) K
    |.max=>Ny max2 (a.args.toList.map ev) K
    |_=>False
  |_=>False
def br(x:LV)(K:LV->Prop):Prop:=
  match x with
  |.any=>K .any
  |.und=>K .und
  |.av y=>K (.av y)
  |.bx k o=>K (.bx k o)
theorem Oj(x:LV)(K:LV->Prop):br x K=K x:=by cases x<;>rfl
def vcV(c:Cfg)(ev:Operand->LV)(B:Nat->Option (List AV))(C:Store)(d:Nat)(z:Op)(K:LV->Prop):Prop:=
  match z with
  |.move x|.assign x=>br (ev x) K
  | .pick b x y=>match ev b with
    |.av (.s (.bool b))=>Ds b (br (ev x) K) (br (ev y) K)
    |_=>False
  | .nilCheck x=>match ev x with
    |.bx k o=>K (.bx k o)
    |.av (.cp l)=>K (.av (.cp l))
    |.av (.clos f l)=>K (.av (.clos f l))
    |.av (.s (.pointer (Δ a)))=>K (.av (.s (.pointer (Δ a))))
    |.av (.s (.iface t v))=>K (.av (.s (.iface t v)))
    |_=>False
  | .binOp z t x y _=>match ev x,ev y with
    | .av (.s (.int k a)),.av (.s (.int G b))=>match z with
      |.shl|.shr=>Me false z k a b K
      |_=>bif decide (k=G)then Me (c.W.contains d) z k a b K else False
    | .av x,.av y=>match z with
      |.eql=>optK (Gt c.I 5 t x y) λb=>K (k8 b)
      |.neq=>optK (Gt c.I 5 t x y) λb=>K (k8 (!b))
      |_=>False
    |_,_=>False
  | .unOp z _ x=>match z,ev x with
    |.neg,.av (.s (.int k a))=>arK (c.W.contains d) k (0-a) K
    |.not,.av (.s (.bool b))=>K (k8 (!b))
    |_,_=>False
  | .convert s t x=>optK (c.I s) λi=>optK (c.I t) λj=>match i.ty,j.ty,ev x with
    |.int _,.int k,.av (.s (.int _ n))=>arK (c.W.contains d) k n K
    |_,_,_=>False
  |.load t a=>optK (c.I t) λi=>Sf B C (ev a) λl=>partK i l K
  | .fieldAddr s x f=>optK (c.I s) λi=>match i.ty with
    |.struct fs=>optK fs[f]? λg=>optK (c.I g.2) λj=>bif Nat.blt 0 j.size then So (ev x) g.1 K else False
    |_=>False
  | .field s x f=>optK (c.I s) λi=>match i.ty,ev x with
    |.struct fs,.av (.agg w)=>optK fs[f]? λg=>optK (c.I g.2) λj=>partK j (w.drop g.1) K
    |_,_=>False
  | .indexAddr t x ix=>optK (c.I t) λi=>match i.ty,ev x,ev ix with
    |.slice e,.av (.lst k rows _),.av (.s (.int _ j))=>optK (c.I e) λie=>bif Nat.beq k ie.size then∃m:Nat,j=(m:Int)/\optK rows[m]? λA=>K (.av (.cp A))else False
    |.slice e,.av (.s (.slice (Δ ⟨b,o,Θ⟩) len _)),.av (.s (.int _ j))=>optK (c.I e) λie=>∃m:Nat,j=(m:Int)/\m<len/\K (.av (.s (.pointer (Δ ⟨b,o+m*ie.size,Θ⟩))))
    |.array n e,p,.av (.s (.int _ j))=>optK (c.I e) λie=>∃m:Nat,j=(m:Int)/\m<n/\So p (m*ie.size) K
    |_,_,_=>False
  | .index t x ix=>optK (c.I t) λi=>match i.ty,ev x,ev ix with
    |.array n e,.av (.agg w),.av (.s (.int _ j))=>optK (c.I e) λie=>∃m:Nat,j=(m:Int)/\m<n/\partK ie (w.drop (m*ie.size)) K
    |.str,.av (.s (.string s)),.av (.s (.int _ j))=>∃m:Nat,j=(m:Int)/\optK s[m]? λb=>K (jq .u8 b.toNat)
    |_,_,_=>False
  | .slice t x lo H mx=>bif mx.isSome then False else optK (c.I t) λi=>match i.ty,ev x,Hi ev lo,Hi ev H with
    |.slice e,.av (.lst k rows _),Δ l,Δ h=>optK (c.I e) λie=>bif Nat.beq k ie.size then∃p q:Nat,l.getD 0=(p:Int)/\h.getD (Γ rows:Int)=(q:Int)/\p<=q/\q<=Γ rows/\(K (.av (.lst k ((rows.take q).drop p) Θ)))else False
    |.slice e,.av (.s (.slice (Δ ⟨b,o,Θ⟩) len u)),Δ l,Δ h=>optK (c.I e) λie=>∃p q:Nat,l.getD 0=(p:Int)/\h.getD (len:Int)=(q:Int)/\p<=q/\q<=u/\((p<u/\K (.av (.s (.slice (Δ ⟨b,o+p*ie.size,Θ⟩) (q-p) (u-p)))))\/(p=u/\K (.av (.s (.slice (Δ ⟨b,o,Θ⟩) 0 0)))))
    |.slice e,.av (.s (.slice Θ 0 0)),Δ l,Δ h=>optK (c.I e) λ_=>l.getD 0=0/\h.getD 0=0/\K (.av (.s (.slice Θ 0 0)))
    |.array n e,.av (.s (.pointer (Δ ⟨b,o,Θ⟩))),Δ Θ,Δ Θ=>optK (c.I e) λ_=>K (.av (.s (.slice (Δ ⟨b,o,Θ⟩) n n)))
    |_,_,_,_=>False
  | .extract x ix=>match ev x with
    |.av (.tup D)=>optK D[ix]? λx=>K (.av x)
    |_=>False
  | .build t parts=>optK (c.I t) λi=>match i.ty with
    |.struct fs=>optK (zfy c.I fs) λE=>optK (Ku (λi=>E[i]?) (i.zero.map AV.s) (parts.toList.map λp=>(p.1,ev p.2))) λw=>Hs w λw=>K (.av (.agg w))
    |.array _ e=>optK (c.I e) λie=>optK (Ku (λj=>Δ (j*ie.size,ie.size)) (i.zero.map AV.s) (parts.toList.map λp=>(p.1,ev p.2))) λw=>Hs w λw=>K (.av (.agg w))
    |_=>False
  | .makeFunc fn first u=>match fn with
    |.func f=>bif first.isEmpty then optK (u.toList.mapM λx=>(ev x).toAV) λl=>K (.av (.clos f l))else optK (first.toList.mapM λx=>(ev x).toV) λl=>bif u.isEmpty then K (.av (.s (.func (.func f) l.toArray #[])))else False
    |_=>False
  |.call cl=>Lf c ev C cl K
  |_=>False
structure Env(w:World)(T:BB)(β:Nat->Nat)(ev:Operand->LV)(bx:Nat->Option (List AV))(st:Store)(ρ:Operand->Value):Prop where
  ev:∀x,LRel w T β (ev x) (ρ x)
  bx:∀k l,bx k=Δ l->CellsRel w T l (β k)
  obj:∀b x,st.obj b=Δ x->ObjRel w T x b
def Bw(P:Program)(c:Cfg)(ev:Operand->LV)(bx:Nat->Option (List AV))(st:Store)(d:Nat)(a:Op)(K:LV->Prop):Prop:=
  ∃ x,K x/\(∀b:LV->Prop,b x->vcV c ev bx st d a b)∧
    ∀w T β ρ (o:Oper),o.op=a->Env w T β ev bx st ρ->∃v,(execOp ρ o).run P w=.ok (.value v) w/\LRel w T β x v
section
variable {P:Program} {c:Cfg} {ev:Operand->LV} {bx:Nat->Option (List AV)} {st:Store} {d:Nat} {K:LV->Prop}
variable {w:World} {T:BB} {β:Nat->Nat} {ρ:Operand->Value}
theorem VRel.eq_s{v u:Value}(h:VRel w T (.s v) u):u=v:=by generalize a:AV.s v=x at h;cases h<;>cases a;rfl
theorem Env.s(a:Env w T β ev bx st ρ){x:Operand}{v:Value}(h:ev x=.av (.s v)):ρ x=v:=by have:=a.ev x;rw[h]at this;exact VRel.eq_s this
def yo2(x:Operand)(h:vcV c ev bx st d (.move x) K):Bw P c ev bx st d (.move x) K:=
  ⟨ev x,ψc,λ_ h=>ψc,λw T β ρ o a b=>⟨ρ x,by simp[execOp,a],b.ev x⟩⟩
def ype(x:Operand)(h:vcV c ev bx st d (.assign x) K):Bw P c ev bx st d (.assign x) K:=
  ⟨ev x,ψc,λ_ h=>ψc,λw T β ρ o a b=>⟨ρ x,by simp[execOp,a],b.ev x⟩⟩
def yo0(b x y:Operand)(h:vcV c ev bx st d (.pick b x y) K):Bw P c ev bx st d (.pick b x y) K:=by
  simp only[vcV]at h;split at h
  . rename_i t e
    refine⟨bif t then ev x else ev y,?_,λi g=>?_,λw T β ρ o f a=>⟨if t then ρ x else ρ y,?_,?_⟩⟩
    . simp only[Oj]at h
      cases t<;>exact h
    . simp only[vcV,e,Oj]
      cases t<;>exact g
    . have:=a.s e
      simp[execOp,f,this,asBool]
    . cases t<;>simp[a.ev]
  grind
def O0{a:Bool}{k:IntKind}{v:Int}(h:arK a k v K):K (jq k (k.wrap v))/\∀b:LV->Prop,b (jq k (k.wrap v))->arK a k v b:=by grind[arK,O5]
def ynn{o:Bool}{l:BinOp}{k p:IntKind}{a b:Int}(h:Me o l k a b K)(n:l≠.shl->l≠.shr->k=p):
    ∃z:Value,K (.av (.s z))/\(∀j:LV->Prop,j (.av (.s z))->Me o l k a b j)/\∀t w,(binOp l t (.int k a) (.int p b)).run P w=.ok z w:=by
  cases l<;>simp only[Me]at h
  case add=>
    obtain⟨i,g⟩:=O0 h;obtain rfl:=n φ φ;exact⟨_,i,g,λt w=>by simp[binOp,Op.intArith]⟩
  case sub=>
    obtain⟨i,g⟩:=O0 h;obtain rfl:=n φ φ;exact⟨_,i,g,λt w=>by simp[binOp,Op.intArith]⟩
  case mul=>
    obtain⟨i,g⟩:=O0 h;obtain rfl:=n φ φ;exact⟨_,i,g,λt w=>by simp[binOp,Op.intArith]⟩
  case quo=>
    obtain⟨e,h⟩:=h;obtain⟨i,g⟩:=O0 h;obtain rfl:=n φ φ;exact⟨_,i,λj f=>⟨e,g j f⟩,λt w=>by simp[binOp,Op.intDiv,e]⟩
  case rem=>
    obtain⟨e,h⟩:=h;obtain rfl:=n φ φ;exact⟨_,h,λj f=>⟨e,f⟩,λt w=>by simp[binOp,Op.intDiv,e]⟩
  case shl=>
    obtain⟨e,h⟩:=h;exact⟨_,h,λj f=>⟨e,f⟩,λt w=>by simp[binOp,Op.shift,Int.not_lt.2 e]⟩
  case shr=>
    obtain⟨e,h⟩:=h;exact⟨_,h,λj f=>⟨e,f⟩,λt w=>by simp[binOp,Op.shift,Int.not_lt.2 e]⟩
  all_goals
    obtain rfl:=n φ φ;exact⟨_,h,λ_ f=>f,λt w=>by simp[binOp,Op.intBits,Op.intCmp,xf]⟩
theorem yra(e:BinOp)(t:TypeId)(x y:Operand)(k f:IntKind)(a b:Int)(w:World):(eqGuard e t x y (.int k a) (.int f b)).run P w=.ok () w:=by cases e<;>rfl
end
section
variable {P:Program} {I:Info} {w:World} {T:BB}
theorem Mw{t:TypeId}{i:TI}{k:IntKind}(h:TIok P t i)(hy:i.ty=.int k):P.underlying t=Δ (.int k):=θy
theorem te{t:TypeId}{i:TI}(h:TIok P t i)(hy:i.ty=.bool):P.underlying t=Δ .bool:=ψ1
theorem fm{t:TypeId}{i:TI}(h:TIok P t i)(hy:i.ty=.str):P.underlying t=Δ .string:=ψ1
theorem jz{t:TypeId}{i:TI}{e:TypeId}(h:TIok P t i)(hy:i.ty=.slice e):P.underlying t=Δ (.slice e):=θy
theorem Vd{t:TypeId}{i:TI}{e:TypeId}(h:TIok P t i)(hy:i.ty=.ptr e):P.underlying t=Δ (.pointer e):=θy
theorem Pb{t:TypeId}{i:TI}{n:Nat}{e:TypeId}(h:TIok P t i)(hy:i.ty=.array n e):P.underlying t=Δ (.array n e):=θy
theorem Li{t:TypeId}{i:TI}{k e:TypeId}(h:TIok P t i)(hy:i.ty=.map k e):P.underlying t=Δ (.map k e):=θy
def fo{t:TypeId}{i:TI}(h:TIok P t i)(hy:i.ty=.func):∃a b c,P.underlying t=Δ (.func a b c):=θy
def Pa{t:TypeId}{i:TI}{c:List (Nat×TypeId)}(h:TIok P t i)(e:i.ty=.struct c):
    ∃a:Array Field,P.underlying t=Δ (.struct a)/\(a.toList.map λf=>(f.offset,f.type))=c:=by
  obtain⟨d,g,b⟩:=h.und;rw[e]at b;cases d<;>simp[Da]at b;grind
theorem vx{t:TypeId}{i:TI}(h:TIok P t i)(w:World):(sizeOf t).run P w=.ok i.size w:=by obtain⟨a,c,b,_⟩:=h.info;simp_all[sizeOf,typeInfo]
theorem Vx{t:TypeId}{i:TI}(h:TIok P t i)(w:World):(isAgg t).run P w=.ok (Dn i.ty) w:=by obtain⟨d,b,a⟩:=h.und;cases d<;>simp[Da]at a<;>rw[<-a]<;>simp_all[isAgg,underlying,Dn]
theorem yy{t:TypeId}{d:TypeDesc}(h:P.underlying t=Δ d)(w:World):(underlying t).run P w=.ok d w:=by simp[underlying,run_program,h]
def Nj{t:TypeId}{i:TI}(h:TIok P t i)(w:World):∃z,(zeroValue t).run P w=.ok z w/\z.cells.toList=i.zero:=by obtain⟨a,d,_,_,z,c,b⟩:=h.info;simp_all[zeroValue,typeInfo]
def Reads(w:World)(T:BB)(l:List AV)(c:List Value):Prop:=Γ l=Γ c/\∀(i:Nat) (x:AV) (y:Value),l[i]?=Δ x->c[i]?=Δ y->VRel w T x y
theorem Reads.drop{l:List AV}{c:List Value}(h:Reads w T l c)(n:Nat):Reads w T (l.drop n) (c.drop n):=
  ⟨by simp[h.1],λi x y b a=>h.2 (n+i) x y δ δ⟩
theorem Reads.take{l:List AV}{c:List Value}(h:Reads w T l c)(n:Nat):Reads w T (l.take n) (c.take n):=
  ⟨by simp[h.1],λi x y b a=>by
    rw[Fed]at b a;split at b
    . rename_i d;simp only[d,if_true]at a;exact h.2 i x y b a
    grind⟩
theorem Reads.nil:Reads w T [] []:=⟨rfl,λ_ _ _ h _=>θk⟩
theorem Reads.cons{x:AV}{v:Value}{l:List AV}{c:List Value}(h:VRel w T x v)(d:Reads w T l c):Reads w T (x::l) (v::c):=
  ⟨by simp[d.1],λi a b f e=>by
    cases i with
    |zero=>grind
    |succ i=>exact d.2 i a b δ δ⟩
def Reads.append{l e:List AV}{c g:List Value}(h:Reads w T l c)(f:Reads w T e g):Reads w T (l++e) (c++g):=
  ⟨by simp[h.1,f.1],λi x y d a=>by
    rcases Nat.lt_or_ge i (Γ l) with b|b
    . rw[Far b]at d
      rw[Far (by rw[<-h.1];exact b)]at a;exact h.2 i x y d a
    . rw[Fa0 b]at d
      rw[Fa0 (by rw[<-h.1];exact b)]at a;rw[<-h.1]at a;exact f.2 _ x y d a⟩
theorem Reads.keep{a:World}{b:BB}{l:List AV}{c:List Value}(h:Reads w T l c)(f:Keeps w T a b):Reads a b l c:=
  ⟨h.1,λi x y e d=>(h.2 i x y e d).keep f⟩
theorem Reads.map_s(c:List Value):Reads w T (c.map AV.s) c:=
  ⟨φ,λi x y a b=>by rw[Fau,b]at a;simp at a;subst a;exact .s _⟩
def Reads.getElem?{l:List AV}{c:List Value}(h:Reads w T l c){i:Nat}{x:AV}(b:l[i]?=Δ x):∃v,c[i]?=Δ v/\VRel w T x v:=by
  have d:=(Fa1.1 b).1;have a:i<Γ c:=by rw[<-h.1];exact d
  exact⟨_,Fac a,h.2 i x _ b (Fac a)⟩
def G8{l:List AV}{v:Value}(h:VRel w T (.agg l) v):∃c,v=.agg c/\Reads w T l c.toList:=by
  cases h with
  |agg _ c b h=>exact⟨c,rfl,by simp[b],λi x y a d=>h i x y a δ⟩
theorem sc{l:List AV}{v:Value}(h:VRel w T (.tup l) v):∃c,v=.tuple c/\Reads w T l c.toList:=by
  cases h with
  |tup _ c b h=>exact⟨c,rfl,by simp[b],λi x y a d=>h i x y a δ⟩
def Mu{l:List AV}{c:Array Value}(h:Reads w T l c.toList):VRel w T (.agg l) (.agg c):=
  .agg l c (by simpa using h.1) λi x y a b=>h.2 i x y a δ
theorem Ah{l:List AV}{c:Array Value}(h:Reads w T l c.toList):VRel w T (.tup l) (.tuple c):=
  .tup l c (by simpa using h.1) λi x y a b=>h.2 i x y a δ
theorem No(i:TI)(l:List AV)(K:LV->Prop):partK i l K=optK (Fk i l) λx=>K (.av x):=by unfold partK Fk;cases Dn i.ty<;>simp only[cond_true,cond_false,Hr];cases Nat.ble i.size (Γ l)<;>rfl
def Re{t:TypeId}{i:TI}(e:TIok P t i){l:List AV}{a:Array Value}(h:Reads w T l a.toList){off:Nat}{x:AV}(b:Fk i (l.drop off)=Δ x):
    ∃v,(part t a off).run P w=.ok v w/\VRel w T x v:=by
  unfold Fk at b;cases c:Dn i.ty with
  | true=>
    simp only[c,cond_true]at b;cases g:Nat.ble i.size (l.drop off).length with
    |false=>grind
    | true=>
      simp only[g,cond_true,Fak]at b;subst b;refine⟨.agg (a.extract off (off+i.size)),by simp[part,Vx e,c,vx e],Mu ?_⟩;have:(a.extract off (off+i.size)).toList=(a.toList.drop off).take i.size:=φ;rw[this];exact(h.drop off).take i.size
  | false=>
    simp only[c,cond_false]at b;have d:l[off]?=Δ x:=θh;obtain⟨v,j,f⟩:=h.getElem? d;refine⟨v,?_,f⟩;have:a[off]?=Δ v:=δ;simp[part,Vx e,c,this]
def zf9(L:qf P I):∀(d:Nat) (t:TypeId) (x y:AV) (b:Bool),Gt I d t x y=Δ b->∀(D:Nat),d<=D->∀u v,VRel w T x u->VRel w T y v->
    (Op.equalIn D t u v).run P w=.ok b w:=by
  intro d;induction d with
  |zero=>intro t x y b h;trivial
  | succ d ih=>
    intro t x y b h D hD u v o n;obtain⟨D,rfl⟩:∃D',D=D'+1:=⟨D-1,Z⟩
    rw[Gt]at h;cases G:I t with
    |none=>grind
    | some i=>
      rw[G]at h;have l:=L t i G;simp only at h;split at h
      . rename_i k k1 a k2 W c
        by_cases hk:k1=k2
        . subst hk
          simp at h;subst h;rw[VRel.eq_s o,VRel.eq_s n];simp[Op.equalIn,yy (Mw l c)]
        grind
      . rename_i a W c
        simp at h;subst h;rw[VRel.eq_s o,VRel.eq_s n];simp[Op.equalIn,yy (te l c)]
      . rename_i a W c
        simp at h;subst h;rw[VRel.eq_s o,VRel.eq_s n];simp[Op.equalIn,yy (fm l c)]
      . rename_i fs xs X c
        cases H:i.eq with
        |false=>grind
        | true=>
          simp only[H,cond_true]at h;obtain⟨c1,rfl,h1⟩:=G8 o;obtain⟨c2,rfl,h2⟩:=G8 n;obtain⟨a,z,K⟩:=Pa l c;obtain⟨V,_,U⟩:=l.eqs H;have S:P.fieldsOf t=a:=by simp[Program.fieldsOf,z]
          rw[run_equalIn_struct w D t c1 c2 δ V,S];have R:=U a z;subst K;clear S U z V H c l G o n;generalize a.toList=fl at*;induction fl generalizing b with
          |nil=>simp at h;subst h;rfl
          | cons f fl ihf=>
            simp only[Fb5,List.foldr_cons]at h;cases E:I f.type with
            |none=>grind
            | some j=>
              simp only[E]at h;cases Q:Fk j (xs.drop f.offset)with
              |none=>grind
              | some u'=>
                cases M:Fk j (X.drop f.offset)with
                |none=>grind
                | some v'=>
                  simp only[Q,M]at h;split at h
                  . rename_i p q B A
                    simp at h;subst h;obtain⟨vu,r1,r2⟩:=Re (L _ _ E) h1 Q;obtain⟨vv,r3,r4⟩:=Re (L _ _ E) h2 M;have r5:=ih f.type u' v' p B D Z vu vv r2 r4;have r6:=ihf q (λg hg=>R g (Fba _ hg)) A
                    have C : f.name ≠ "_" := R f (by simp)
                    rw[Op.eqFields,if_pos C];simp only[Sem.run_bind,r1,r3,r5,Result.andThen_ok];cases p with
                    |true=>grind
                    |false=>simp
                  . cases h
      . rename_i e c
        simp at h;subst h;rw[VRel.eq_s o,VRel.eq_s n];simp[Op.equalIn,yy (jz l c)]
      . rename_i c
        obtain⟨_,_,_,c⟩:=fo l c;simp at h;subst h;rw[VRel.eq_s o,VRel.eq_s n];simp[Op.equalIn,yy c]
      . rename_i c
        obtain⟨_,_,_,c⟩:=fo l c;simp at h;subst h;rw[VRel.eq_s n];cases o;simp[Op.equalIn,yy c]
      . rename_i c
        obtain⟨_,_,_,c⟩:=fo l c;simp at h;subst h;rw[VRel.eq_s o];cases n;simp[Op.equalIn,yy c]
      . rename_i c
        simp at h;subst h;rw[VRel.eq_s o,VRel.eq_s n];simp[Op.equalIn,yy (Vd l c)]
      . rename_i c
        simp at h;subst h;rw[VRel.eq_s o,VRel.eq_s n];simp[Op.equalIn,yy (Vd l c)]
      . rename_i c
        simp at h;subst h;rw[VRel.eq_s o,VRel.eq_s n];simp[Op.equalIn,yy (Vd l c)]
      . rename_i c
        simp at h;subst h;rw[VRel.eq_s o,VRel.eq_s n];simp[Op.equalIn,yy (jz l c)]
      . cases h
end
section
variable {P:Program} {c:Cfg} {ev:Operand->LV} {bx:Nat->Option (List AV)} {st:Store} {d:Nat} {K:LV->Prop}
def qt{w:World}{T:BB}{β:Nat->Nat}{ρ:Operand->Value}(b:Env w T β ev bx st ρ){x:Operand}{a:AV}(h:ev x=.av a):VRel w T a (ρ x):=by have:=b.ev x;rw[h]at this;exact this
theorem zzv(a b:ByteArray):(a==b)=(a.data.toList==b.data.toList):=by obtain⟨⟨a⟩⟩:=a;obtain⟨⟨b⟩⟩:=b;rw[Fbm];show(Array.mk a==Array.mk b)=true↔_;simp
def zf7(o:qf P c.I){op:BinOp}(a:op=.eql\/op=.neq){t:TypeId}{x y:AV}{b:Bool}{w:World}{T:BB}{u v:Value}(f:VRel w T x u)(e:VRel w T y v)
    (h:Gt c.I 5 t x y=Δ b) (M:∀k p z q,x=.s (.int k p)->y=.s (.int z q)->False) (l j:Operand):
    (eqGuard op t l j u v).run P w=.ok () w/\(binOp op t u v).run P w=.ok (.bool (if op=.eql then b else !b)) w:=by
  have r:=zf9 (P:=P) o 5 t x y b h 10000 Z u v f e;rw[Gt]at h;cases n:c.I t with
  |none=>grind
  | some i=>
    rw[n]at h;have A:=o t i n;simp only at h;split at h
    . grind
    . rw[VRel.eq_s f,VRel.eq_s e]at r⊢
      rcases a with rfl|rfl<;>simp[eqGuard,binOp,Op.equal,Op.maxDepth,r]
    . rename_i a1 G g
      rw[VRel.eq_s f,VRel.eq_s e]at r⊢;have Q:(a1.toList==G.toList)=b:=by grind[Go.ByteArray.toList_eq,zzv]
      rcases a with rfl|rfl<;>simp_all[eqGuard,binOp,Op.stringOp]
    . rename_i fs L H g
      cases B:i.eq with
      |false=>grind
      | true=>
        obtain⟨E,rfl,S⟩:=G8 f;obtain⟨D,rfl,R⟩:=G8 e;obtain⟨_,C,_⟩:=A.eqs B;refine⟨run_eqGuard_agg w op t l j E D C,?_⟩;rcases a with rfl|rfl<;>simp[binOp,Op.equal,Op.maxDepth,r]
    . rw[VRel.eq_s f,VRel.eq_s e]at r⊢
      rcases a with rfl|rfl<;>simp[eqGuard,binOp,Op.equal,Op.maxDepth,r]
    . rw[VRel.eq_s f,VRel.eq_s e]at r⊢
      rcases a with rfl|rfl<;>simp[eqGuard,binOp,Op.equal,Op.maxDepth,r]
    . rw[VRel.eq_s e]at r⊢
      cases f;rcases a with rfl|rfl<;>simp[eqGuard,binOp,Op.equal,Op.maxDepth,r]
    . rw[VRel.eq_s f]at r⊢
      cases e;rcases a with rfl|rfl<;>simp[eqGuard,binOp,Op.equal,Op.maxDepth,r]
    . rw[VRel.eq_s f,VRel.eq_s e]at r⊢
      rcases a with rfl|rfl<;>simp[eqGuard,binOp,Op.equal,Op.maxDepth,r]
    . rw[VRel.eq_s f,VRel.eq_s e]at r⊢
      rcases a with rfl|rfl<;>simp[eqGuard,binOp,Op.equal,Op.maxDepth,r]
    . rw[VRel.eq_s f,VRel.eq_s e]at r⊢
      rcases a with rfl|rfl<;>simp[eqGuard,binOp,Op.equal,Op.maxDepth,r]
    . rw[VRel.eq_s f,VRel.eq_s e]at r⊢
      rcases a with rfl|rfl<;>simp[eqGuard,binOp,Op.equal,Op.maxDepth,r]
    . cases h
def ypd(M:qf P c.I)(e:BinOp)(t:TypeId)(x y:Operand)(G:TypeId)(h:vcV c ev bx st d (.binOp e t x y G) K):Bw P c ev bx st d (.binOp e t x y G) K:=by
  simp only[vcV]at h;split at h
  . rename_i k a l b D C
    have key:(∃H,Me H e k a b K/\(e≠.shl->e≠.shr->k=l)/\∀j,Me H e k a b j->vcV c ev bx st d (.binOp e t x y G) j):=by
      split at h
      . simp_all[vcV]
      . simp_all[vcV]
      . rename_i i g
        by_cases B:k=l
        . refine⟨c.W.contains d,δ,λ_ _=>B,λj E=>?_⟩
          simp_all[vcV]
        grind
    obtain⟨H,i,g,V⟩:=key;obtain⟨z,S,R,Q⟩:=ynn (P:=P) i g;refine⟨_,S,λj E=>V j (R j E),λw T β ρ o n f=>⟨z,?_,VRel.s _⟩⟩;simp[execOp,n,f.s D,f.s C,yra,Q]
  . rename_i u v U D C
    have A:∀k p l q,u=.s (.int k p)->v=.s (.int l q)->False:=λk p l q i g=>U k p l q (by rw[i]) (by rw[g]);split at h
    . obtain⟨b,L,B⟩:=zv h
      refine⟨_,B,λj E=>?_,λw T β ρ o n f=>⟨.bool b,?_,VRel.s _⟩⟩
      . simp_all[vcV,J]
      . obtain⟨i,g⟩:=zf7 M (op:=.eql) (.inl rfl) (qt f D) (qt f C) L A x y
        simp[execOp,n,i,g]
    . obtain⟨b,L,B⟩:=zv h
      refine⟨_,B,λj E=>?_,λw T β ρ o n f=>⟨.bool !b,?_,VRel.s _⟩⟩
      . simp_all[vcV,J]
      . obtain⟨i,g⟩:=zf7 M (op:=.neq) (.inr rfl) (qt f D) (qt f C) L A x y
        simp[execOp,n,i,g]
    grind
  grind
def yo1(x:Operand)(h:vcV c ev bx st d (.nilCheck x) K):Bw P c ev bx st d (.nilCheck x) K:=by
  simp only[vcV]at h;split at h
  . rename_i k o hx
    refine⟨_,h,λg h'=>θz,λw T β ρ o e b=>?_⟩;have:=b.ev x;rw[hx]at this;exact⟨ρ x,by rw[show ρ x=_ from this];simp[execOp,e,show ρ x=_ from this],this⟩
  . rename_i l hx
    refine⟨_,h,λg h'=>θz,λw T β ρ o e b=>⟨ρ x,?_,qt b hx⟩⟩;have:=qt b hx;generalize i:ρ x=v at*;cases this;simp[execOp,e,i]
  . rename_i f l hx
    refine⟨_,h,λg h'=>θz,λw T β ρ o e b=>⟨ρ x,?_,qt b hx⟩⟩;have:=qt b hx;generalize i:ρ x=v at*;cases this;simp[execOp,e,i]
  . rename_i a hx
    refine⟨_,h,λg h'=>θz,λw T β ρ o e b=>⟨ρ x,?_,qt b hx⟩⟩;simp[execOp,e,b.s hx]
  . rename_i n j hx
    refine⟨_,h,λg h'=>θz,λw T β ρ o e b=>⟨ρ x,?_,qt b hx⟩⟩;simp[execOp,e,b.s hx]
  grind
def yox(g:UnOp)(t:TypeId)(x:Operand)(h:vcV c ev bx st d (.unOp g t x) K):Bw P c ev bx st d (.unOp g t x) K:=by
  simp only[vcV]at h;split at h
  . rename_i k a hx
    obtain⟨i,l⟩:=O0 h;refine⟨_,i,λj h'=>by simp only[vcV,hx];grind,λw T β ρ o e f=>⟨_,?_,VRel.s _⟩⟩;simp[execOp,e,f.s hx,Op.unary,Op.intArith]
  . rename_i b hx
    refine⟨_,h,λj h'=>θz,λw T β ρ o e f=>⟨_,?_,VRel.s _⟩⟩;simp[execOp,e,f.s hx,Op.unary]
  grind
def ypa(e:qf P c.I)(s t:TypeId)(x:Operand)(h:vcV c ev bx st d (.convert s t x) K):Bw P c ev bx st d (.convert s t x) K:=by
  simp only[vcV]at h;obtain⟨i,p,h⟩:=zv h;obtain⟨j,l,h⟩:=zv h;split at h
  . rename_i z k y n b a f
    obtain⟨v,A⟩:=O0 h;refine⟨_,v,λC B=>?_,λw T β ρ o g u=>⟨_,?_,VRel.s _⟩⟩
    . simp only[vcV]
      grind[J]
    . simp[execOp,g,u.s f,convert,yy (Mw (e _ _ p) b),yy (Mw (e _ _ l) a),Conv.intToInt]
  grind
def yo9(x:Operand)(a:Nat)(h:vcV c ev bx st d (.extract x a) K):Bw P c ev bx st d (.extract x a) K:=by
  simp only[vcV]at h;split at h
  . rename_i l f
    obtain⟨y,e,h⟩:=zv h;refine⟨_,h,λz u=>by simp_all[vcV,J],λw T β ρ o p j=>?_⟩;obtain⟨k,t,i⟩:=sc (qt j f);obtain⟨v,n,b⟩:=i.getElem? e;have g:k[a]?=Δ v:=δ;exact⟨v,by simp_all[execOp,Instr.extract],b⟩
  grind
def Nz{α β:Type}{f:α->Option β}:∀{l:List α} {m:List β},l.mapM f=Δ m->Γ m=Γ l/\∀(i:Nat) (x:β),m[i]?=Δ x->∃a,l[i]?=Δ a/\f a=Δ x:=by
  intro l;induction l with
  |nil=>simp
  | cons a l ih=>
    intro m h;rw[List.mapM_cons]at h;cases hf:f a with
    |none=>grind
    | some b=>
      cases hl:l.mapM f with
      |none=>grind
      | some m'=>
        grind
def yo3(t:Fn)(first b:Array Operand)(h:vcV c ev bx st d (.makeFunc t first b) K):Bw P c ev bx st d (.makeFunc t first b) K:=by
  cases t<;>simp only[vcV]at h<;>try exact h.elim
  rename_i f;cases hf:first.isEmpty with
  | false=>
    rw[hf]at h;simp only[cond_false]at h;obtain⟨l,hl,h⟩:=zv h;cases E:b.isEmpty with
    |false=>grind
    | true=>
      have hcap:b=#[]:=δ;subst hcap;replace h:K (.av (.s (.func (.func f) l.toArray #[]))):=h;refine⟨_,h,λD C=>by simp_all[vcV,J],λw T β ρ o u k=>⟨.func (.func f) (first.map ρ) #[],?_,?_⟩⟩
      . simp[execOp,u,Instr.makeFunc]
      . obtain⟨B,p⟩:=Nz hl
        have e:l.toArray=first.map ρ:=by
          apply Array.ext';apply Fcd;intro i;rw[Fcx,Fau];cases z:l[i]? with
          | none=>
            grind
          | some x=>
            obtain⟨a,A,g⟩:=p i x z;have:=VRel.eq_s (qt k (zku g));grind
        rw[e];exact .s _
  | true=>
    rw[hf]at h;simp only[cond_true]at h;obtain⟨l,hl,h⟩:=zv h;refine⟨_,h,λD C=>by simp_all[vcV,J],λw T β ρ o u k=>⟨.func (.func f) #[] (b.map ρ),?_,?_⟩⟩
    . simp_all[execOp,Instr.makeFunc]
    . obtain⟨B,p⟩:=Nz hl
      refine VRel.clos f l _ δ λi x y v j=>?_;obtain⟨a,A,g⟩:=p i x v;have n:b[i]?=Δ a:=δ;rw[Array.getElem?_map,n]at j;simp at j;subst j;exact qt k (Pc g)
def Lo(a:Addr)(w:World)(f:Nat->Value):∀(n i:Nat) (b:Array Value),(∀j,i<=j->j<i+n->w.cell? (a.add j)=Δ (f j))->
    (loadCellsFrom a i n b).run P w=.ok (b++((List.range' i n).map f).toArray) w:=by
  intro n;induction n with
  |zero=>intro i b _;rfl
  | succ n e=>
    intro i b h;have l:=h i (Fai _) Z;have:(load (a.add i)).run P w=.ok (f i) w:=θh;simp only[loadCellsFrom,Sem.run_bind,this,Result.andThen_ok];rw[e (i+1) (b.push (f i)) (λj k g=>h j Z Z)];simp[List.range'_succ]
theorem wu(b off n:Nat):(Addr.add ⟨b,off,Θ⟩ n)=⟨b,off+n,Θ⟩:=by grind[Addr.add]
def rk(w:World)(T:BB)(l:List AV)(b off:Nat):Prop:=∃f:Nat->Value,∀j x,l[j]?=Δ x->w.cell? ⟨b,off+j,Θ⟩=Δ (f j)/\VRel w T x (f j)
def zd4{w:World}{T:BB}{t:TypeId}{i:TI}(k:TIok P t i){l:List AV}{b off:Nat}(h:rk w T l b off){x:AV}(a:Fk i l=Δ x):
    ∃v,(loadVar t ⟨b,off,Θ⟩).run P w=.ok v w/\VRel w T x v:=by
  obtain⟨f,h⟩:=h;unfold Fk at a;cases e:Dn i.ty with
  | true=>
    simp only[e,cond_true]at a;cases n:Nat.ble i.size (Γ l) with
    |false=>grind
    | true=>
      simp only[n,cond_true,Fak]at a;subst a;have p:i.size<=Γ l:=Fbp n;have o:(loadCells ⟨b,off,Θ⟩ i.size).run P w=.ok (#[]++((List.range' 0 i.size).map f).toArray) w:=by refine Lo _ w f i.size 0 #[] λj _ B=>?_;rw[wu];exact(h j _ (Fac Z)).1
      refine⟨.agg (#[]++((List.range' 0 i.size).map f).toArray),by simp only[loadVar,Sem.run_bind,Vx k,e,Result.andThen_ok,if_true,vx k,o,Sem.run_pure],Mu ?_⟩;refine⟨δ,λj y v z A=>?_⟩;grind
  | false=>
    simp only[e,cond_false]at a;have g:l[0]?=Δ x:=by grind[List.head?_eq_getElem?]
    obtain⟨C,u⟩:=h 0 x g;refine⟨f 0,?_,u⟩;simp only[loadVar,Sem.run_bind,Vx k,e,Result.andThen_ok];simp_all
def CellsRel.avail{w:World}{T:BB}{l:List AV}{b:Nat}(h:CellsRel w T l b)(o:Nat):rk w T (l.drop o) b o:=by
  obtain⟨c,e,t,p,_,n,k⟩:=h;refine⟨λj=>c.getD (o+j) undef,λj x g=>?_⟩;have f:l[o+j]?=Δ x:=δ;have a:o+j<c.size:=δ;have i:c[o+j]?=Δ (c.getD (o+j) undef):=by simp[a]
  grind[World.cell?]
def zha{x:LV}{K:List AV->Prop}(h:Sf bx st x K):
    ∃l,K l/\(∀g:List AV->Prop,g l->Sf bx st x g)/\∀w T β ρ,Env w T β ev bx st ρ->∀v,LRel w T β x v->∃b off,v=.pointer (Δ ⟨b,off,Θ⟩)/\rk w T l b off:=by
  unfold Sf at h;split at h
  . rename_i k o
    obtain⟨l,p,h⟩:=zv h;exact⟨_,h,λg e=>J l p e,λw T β ρ i v a=>⟨β k,o,a,(i.bx k l p).avail o⟩⟩
  . rename_i cells
    refine⟨_,h,λg e=>e,λw T β ρ i v a=>?_⟩;cases a with
    |cp _ b off f z u=>exact⟨b,off,rfl,f,λj x t=>⟨(z j x t).1,u j x t⟩⟩
  . rename_i b o
    obtain⟨y,n,h⟩:=zv h;cases y with
    |cells l=>exact⟨_,h,λg e=>J _ n e,λw T β ρ i v a=>⟨b,o,VRel.eq_s a,CellsRel.avail (i.obj b _ n) o⟩⟩
    |map es A clock=>grind
    |iter m since seen last=>grind
    |ghost o gh=>grind
  grind
def yo4(z:qf P c.I)(t:TypeId)(a:Operand)(h:vcV c ev bx st d (.load t a) K):Bw P c ev bx st d (.load t a) K:=by
  simp only[vcV]at h;obtain⟨i,y,h⟩:=zv h;obtain⟨l,g,p,n⟩:=zha (ev:=ev) h;rw[No]at g;obtain⟨x,k,u⟩:=zv g;refine⟨_,u,λE D=>?_,λw T β ρ o C j=>?_⟩
  . simp only[vcV]
    grind[J,No]
  . obtain⟨b,off,A,f⟩:=n w T β ρ j _ (j.ev a)
    obtain⟨v,B,e⟩:=zd4 (z _ _ y) f k;exact⟨v,by simp_all[execOp,Instr.loadAt,Instr.sureAddr],e⟩
def zih{x:LV}{n:Nat}(h:So x n K):
    ∃y,K y/\(∀e:LV->Prop,e y->So x n e)/\∀w T β v,LRel w T β x v->∃b off,v=.pointer (Δ ⟨b,off,Θ⟩)/\LRel w T β y (.pointer (Δ ⟨b,off+n,Θ⟩)):=by
  unfold So at h;split at h
  . exact⟨_,h,λ_ h=>h,λw T β v a=>⟨_,_,a,rfl⟩⟩
  . refine⟨_,h,λ_ h=>h,λw T β v a=>?_⟩
    rename_i cells;cases a with
    | cp _ b off f k i=>
      refine⟨b,off,rfl,VRel.cp _ _ _ (λj=>f (n+j)) (λj x g=>?_) (λj x g=>?_)⟩
      . grind
      grind
  . exact⟨_,h,λ_ h=>h,λw T β v a=>⟨_,_,VRel.eq_s a,VRel.s _⟩⟩
  grind
def yo7(v:qf P c.I)(s:TypeId)(x:Operand)(f:Nat)(h:vcV c ev bx st d (.fieldAddr s x f) K):Bw P c ev bx st d (.fieldAddr s x f) K:=by
  simp only[vcV]at h;obtain⟨i,H,h⟩:=zv h;split at h
  . rename_i fs n
    obtain⟨g,k,h⟩:=zv h;obtain⟨j,G,h⟩:=zv h;cases e:Nat.blt 0 j.size with
    |false=>grind
    |true=>
    rw[e]at h;simp only[cond_true]at h;obtain⟨y,A,z,C⟩:=zih h;refine⟨y,A,λR Q=>?_,λw T β ρ o E L=>?_⟩
    . simp only[vcV]
      grind[J]
    . obtain⟨b,off,B,D⟩:=C w T β _ (L.ev x)
      obtain⟨a,u,t⟩:=Pa (v _ _ H) n;refine⟨_,?_,D⟩;subst t;simp only[Fau]at k;cases p:a.toList[f]? with
      |none=>grind
      | some fd=>
        rw[p]at k;simp at k;subst k;have hfa':a[f]?=Δ fd:=δ;have M:0<j.size:=Fbp e;have l:¬j.size=0:=Z;simp[execOp,E,B,Instr.fieldAt,yy u,hfa',Instr.sureAddr,fieldPlace,vx (v _ _ G),l,wu]
  grind
def yo8(p:qf P c.I)(s:TypeId)(x:Operand)(f:Nat)(h:vcV c ev bx st d (.field s x f) K):Bw P c ev bx st d (.field s x f) K:=by
  simp only[vcV]at h;obtain⟨i,C,h⟩:=zv h;split at h
  . rename_i fs Q k u
    obtain⟨g,b,h⟩:=zv h;obtain⟨j,B,h⟩:=zv h;rw[No]at h;obtain⟨y,t,h⟩:=zv h;refine⟨_,h,λR M=>?_,λw T β ρ o L D=>?_⟩
    . simp only[vcV]
      grind[J,No]
    . obtain⟨a,E,n⟩:=Pa (p _ _ C) k
      obtain⟨G,H,A⟩:=G8 (qt D u);obtain⟨v,z,e⟩:=Re (P:=P) (p _ _ B) A t;refine⟨v,?_,e⟩;subst n;simp only[Fau]at b;cases l:a.toList[f]? with
      |none=>grind
      | some fd=>
        rw[l]at b;simp at b;subst b;simp_all[execOp,Instr.field,yy,asAgg]
  grind
end
section
variable {P:Program} {c:Cfg} {ev:Operand->LV} {bx:Nat->Option (List AV)} {st:Store} {d:Nat} {K:LV->Prop}
def O6{w:World}{T:BB}{k:Nat}{rows:List (List AV)}{l:Option Nat}{v:Value}(h:VRel w T (.lst k rows l) v):
    (∃(a:Option Addr) (g:Nat),v=.slice a (Γ rows) g/\rows=[]/\l=Θ/\g=0)\/∃(b off g:Nat),v=.slice (Δ ⟨b,off,Θ⟩) (Γ rows) g/\Γ rows<=g∧
      (∀(i:Nat) (e:List AV),rows[i]?=Δ e->Γ e=k)/\∃f:Nat->Value,
      (∀(i:Nat) (e:List AV) (j:Nat) (x:AV),rows[i]?=Δ e->e[j]?=Δ x->w.cell? ⟨b,off+(i*k+j),Θ⟩=Δ (f (i*k+j))/\¬T b (off+(i*k+j))/\VRel w T x (f (i*k+j))/\xq (f (i*k+j))=true):=by
  cases h with
  |nil _ a=>simp
  |lst _ _ b off g _ f hcap u htok p y t=>exact .inr ⟨b,off,g,rfl,hcap,u,f,λi e j x o n=>⟨(p i e j x o n).1,(p i e j x o n).2,t i e j x o n,y i e j x o n⟩⟩
theorem VRel.empty(w:World)(T:BB)(k b off e:Nat):VRel w T (.lst k [] Θ) (.slice (Δ ⟨b,off,Θ⟩) 0 e):=
  VRel.lst [] Θ b off e k (λ_=>undef) (Fae _) (λi a h=>θk) (λt f=>by cases f) (λi a j x h=>θk) (λi a j x h=>θk) (λi a j x h=>θk)
def yo5(B:qf P c.I)(t:TypeId)(x U:Operand)(h:vcV c ev bx st d (.indexAddr t x U) K):Bw P c ev bx st d (.indexAddr t x U) K:=by
  simp only[vcV]at h;obtain⟨i,A,h⟩:=zv h;split at h
  . rename_i e S rows tok k j a C g
    replace h:=zv h;obtain⟨p,l,h⟩:=h;cases Q:Nat.beq S p.size with
    |false=>grind
    | true=>
      rw[Q]at h;simp only[cond_true]at h;obtain rfl:S=p.size:=(Ae _ _).1 Q;obtain⟨m,rfl,h⟩:=h;replace h:=zv h;obtain⟨G,u,h⟩:=h;refine⟨_,h,λV E=>?_,λw T β ρ o D v=>?_⟩
      . simp only[vcV]
        refine J i A ?_;simp only[a,C,g];refine J p l ?_;rw[Q];exact⟨m,rfl,J G u E⟩
      . have z:m<Γ rows:=(Fa1.1 u).1
        rcases O6 (qt v C)with⟨_,_,_,h2,_⟩|⟨b,off,R,M,hcap,hk,f,hf⟩
        . grind
        . refine⟨.pointer (Δ ⟨b,off+m*p.size,Θ⟩),?_,VRel.cp _ _ _ (λj=>f (m*p.size+j)) (λj y L=>?_) (λj y L=>?_)⟩
          . simp[execOp,D,M,v.s g,Instr.indexAt,asIntOf,yy (jz (B _ _ A) a),vx (B _ _ l),wu,z]
          . grind
          grind
  . rename_i e b o len R k j a C g
    replace h:=zv h;obtain⟨p,l,m,rfl,z,h⟩:=h;refine⟨_,h,λV E=>?_,λw T β ρ o D v=>?_⟩
    . simp only[vcV]
      refine J i A ?_;simp only[a,C,g];exact J p l ⟨m,rfl,z,E⟩
    . refine⟨_,?_,VRel.s _⟩
      simp[execOp,D,v.s C,v.s g,Instr.indexAt,asIntOf,yy (jz (B _ _ A) a),vx (B _ _ l),wu,z]
  . rename_i n e k j a g
    replace h:=zv h;obtain⟨p,l,m,rfl,z,h⟩:=h;obtain⟨y,L,H,W⟩:=zih h;refine⟨_,L,λV E=>?_,λw T β ρ o D v=>?_⟩
    . simp only[vcV]
      refine J i A ?_;simp only[a,g];exact J p l ⟨m,rfl,z,H _ E⟩
    . obtain⟨b,off,M,X⟩:=W w T β _ (v.ev x)
      refine⟨_,?_,X⟩;simp[execOp,D,M,v.s g,Instr.indexAt,asIntOf,yy (Pb (B _ _ A) a),vx (B _ _ l),wu,z,Instr.sureAddr]
  grind
def yo6(z:qf P c.I)(t:TypeId)(x D:Operand)(h:vcV c ev bx st d (.index t x D) K):Bw P c ev bx st d (.index t x D) K:=by
  simp only[vcV]at h;obtain⟨i,u,h⟩:=zv h;split at h
  . rename_i n e V k j a l f
    replace h:=zv h;obtain⟨L,g,m,rfl,E,h⟩:=h;rw[No]at h;obtain⟨y,M,h⟩:=zv h;refine⟨_,h,λS H=>?_,λw T β ρ o C p=>?_⟩
    . simp only[vcV]
      refine J i u ?_;simp only[a,l,f];refine J L g ⟨m,rfl,E,?_⟩;grind[No,J]
    . obtain⟨U,Q,R⟩:=G8 (qt p l)
      obtain⟨v,B,A⟩:=Re (P:=P) (z _ _ g) R M;refine⟨v,?_,A⟩;simp[execOp,C,Q,p.s f,Instr.index,asIntOf,yy (Pb (z _ _ u) a),vx (z _ _ g),E,B]
  . rename_i s k j a l f
    obtain⟨m,rfl,h⟩:=h;replace h:=zv h;obtain⟨b,G,h⟩:=h;refine⟨_,h,λS H=>?_,λw T β ρ o C p=>?_⟩
    . simp only[vcV]
      refine J i u ?_;simp only[a,l,f];exact⟨m,rfl,J b G H⟩
    . refine⟨_,?_,VRel.s _⟩
      simp[execOp,C,p.s l,p.s f,Instr.index,asIntOf,yy (fm (z _ _ u) a),G]
  grind
def mp{α β:Type}{f:α->β}{l:List α}{a b:β}(h:l.map f=[a,b]):∃x y,l=[x,y]/\f x=a/\f y=b:=by obtain⟨x,j,rfl,n,i⟩:=Fd5.1 h;obtain⟨y,e,rfl,k,g⟩:=Fd5.1 i;rw[List.map_eq_nil_iff]at g;grind
def mo{α β:Type}{f:α->β}{l:List α}{a b c:β}(h:l.map f=[a,b,c]):∃x y z,l=[x,y,z]/\f x=a/\f y=b/\f z=c:=by obtain⟨x,g,rfl,k,e⟩:=Fd5.1 h;obtain⟨y,z,rfl,j,i⟩:=mp e;grind
def zd0{α β:Type}{f:α->β}{l:List α}{a b c d:β}(h:l.map f=[a,b,c,d]):∃x y z u,l=[x,y,z,u]/\f x=a/\f y=b/\f z=c/\f u=d:=by obtain⟨x,g,rfl,n,e⟩:=Fd5.1 h;obtain⟨y,z,u,rfl,k,j,i⟩:=mo e;grind
def ypb(hI:qf P c.I)(W:Call)(h:vcV c ev bx st d (.call W) K):Bw P c ev bx st d (.call W) K:=by
  obtain⟨R,j,A⟩:=W;simp only[vcV,Lf]at h;split at h
  . rename_i b
    cases b<;>simp only at h
    case len=>
      obtain⟨t,ht,h⟩:=zv h;obtain⟨i,hi,h⟩:=zv h;obtain⟨x,hx,h⟩:=zv h;have key:∃y,K y/\(∀B:LV->Prop,B y->mv (ev x) st i.ty B)/\∀w T β ρ ty,Env w T β ev bx st ρ->∃v,(Builtin.len_ A ty (j.map ρ)).run P w=.ok v w/\LRel w T β y v:=by
        have hargs:∀ρ:Operand->Value,(j.map ρ)[0]?=Δ (ρ x):=fun ρ=>δ;unfold mv at h⊢;split at h
        . rename_i e k rows tok hty f
          refine⟨_,h,λB p=>p,λw T β ρ ty g=>?_⟩;rcases O6 (qt g f)with⟨_,cap,hv,_⟩|⟨b,off,cap,hv,_⟩
          . exact⟨_,ψr,VRel.s _⟩
          . exact⟨_,ψr,VRel.s _⟩
        . rename_i e a n cap hty f
          exact⟨_,h,λB p=>p,λw T β ρ ty g=>⟨_,by simp[Builtin.len_,goInt,ht,hargs,hx,g.s f,yy (jz (hI _ _ hi) hty)],VRel.s _⟩⟩
        . rename_i e hty f
          refine⟨_,h,λB p=>p,λw T β ρ ty g=>?_⟩;obtain⟨ad,hv⟩:∃ad,ρ x=.slice ad 0 0:=by
            have C:=qt g f;generalize ρ x=v at C;cases C with
            |emp ad _=>simp
          exact⟨_,ψr,VRel.s _⟩
        . rename_i s hty f
          exact⟨_,h,λB p=>p,λw T β ρ ty g=>⟨_,by simp[Builtin.len_,goInt,ht,hargs,hx,g.s f,yy (fm (hI _ _ hi) hty)],VRel.s _⟩⟩
        . rename_i k e hty f
          exact⟨_,h,λB p=>p,λw T β ρ ty g=>⟨_,by simp[Builtin.len_,goInt,ht,hargs,hx,g.s f,yy (Li (hI _ _ hi) hty)],VRel.s _⟩⟩
        . rename_i k e r hty f
          obtain⟨ob,Q,h⟩:=zv h;cases ob with
          |cells l=>grind
          |iter m since seen last=>grind
          |ghost o gh=>grind
          | map es bs clock=>
            refine⟨_,h,λB p=>J _ Q p,λw T β ρ ty g=>?_⟩;obtain⟨ms,C,D,_⟩:=g.obj r _ Q;refine⟨_,?_,VRel.s _⟩;simp[Builtin.len_,goInt,ht,hargs,hx,g.s f,yy (Li (hI _ _ hi) hty),getObj,Sem.run,C,D,goInt]
        . rename_i n e hty
          exact⟨_,h,λB p=>p,λw T β ρ ty g=>⟨_,by simp[Builtin.len_,goInt,ht,hargs,hx,yy (Pb (hI _ _ hi) hty)],VRel.s _⟩⟩
        grind
      obtain⟨y,hy,ε,M⟩:=key;refine⟨y,hy,λB p=>?_,λw T β ρ o H g=>?_⟩
      . simp only[vcV,Lf]
        grind[J]
      . obtain⟨v,C,D⟩:=M w T β ρ o.type g
        simp_all[execOp,resolve,invoke,builtin]
    case cap=>
      obtain⟨t,ht,h⟩:=zv h;obtain⟨i,hi,h⟩:=zv h;obtain⟨x,hx,h⟩:=zv h;have hargs:∀ρ:Operand->Value,(j.map ρ)[0]?=Δ (ρ x):=fun ρ=>δ;split at h
      . rename_i e a n cap hty f
        refine⟨_,h,λB p=>?_,λw T β ρ o H g=>⟨_,?_,VRel.s _⟩⟩
        . simp only[vcV,Lf]
          grind[J]
        . simp[execOp,H,resolve,invoke,builtin,Builtin.cap_,ht,hx,g.s f,yy (jz (hI _ _ hi) hty),goInt]
      grind
    case min=>
      have key:∃z:Value,K (.av (.s z))/\(∀B:LV->Prop,B (.av (.s z))->Ny min2 (j.toList.map ev) B)/\∀w T β ρ ty,Env w T β ev bx st ρ->(Builtin.min_ A ty (j.map ρ)).run P w=.ok z w:=by
        unfold Ny at h⊢;split at h
        . rename_i k a L b f
          refine⟨_,h,λB p=>p,λw T β ρ ty g=>?_⟩;obtain⟨l⟩:=j;obtain⟨x,y,rfl,C,D⟩:=mp f;simp[Builtin.min_,g.s C,g.s D,Builtin.min2,min2,Fdn]
        . rename_i k a L b E X f
          refine⟨_,h,λB p=>p,λw T β ρ ty g=>?_⟩;obtain⟨l⟩:=j;obtain⟨x,y,z,rfl,C,D,G⟩:=mo f;simp[Builtin.min_,g.s C,g.s D,g.s G,Builtin.min2,min2,Fdn]
        . rename_i k a L b E X k3 d' f
          refine⟨_,h,λB p=>p,λw T β ρ ty g=>?_⟩;obtain⟨l⟩:=j;obtain⟨x,y,z,u,rfl,C,D,G,V⟩:=zd0 f;simp[Builtin.min_,g.s C,g.s D,g.s G,g.s V,Builtin.min2,min2,Fdn]
        grind
      obtain⟨z,U,S,M⟩:=key;exact⟨_,U,λB p=>by simp_all[vcV,Lf],λw T β ρ o H g=>⟨z,by simp[execOp,H,resolve,invoke,builtin,M w T β ρ o.type g],VRel.s _⟩⟩
    case max=>
      have key:∃z:Value,K (.av (.s z))/\(∀B:LV->Prop,B (.av (.s z))->Ny max2 (j.toList.map ev) B)/\∀w T β ρ ty,Env w T β ev bx st ρ->(Builtin.max_ A ty (j.map ρ)).run P w=.ok z w:=by
        unfold Ny at h⊢;split at h
        . rename_i k a L b f
          refine⟨_,h,λB p=>p,λw T β ρ ty g=>?_⟩;obtain⟨l⟩:=j;obtain⟨x,y,rfl,C,D⟩:=mp f;simp[Builtin.max_,g.s C,g.s D,Builtin.max2,max2,Fdn]
        . rename_i k a L b E X f
          refine⟨_,h,λB p=>p,λw T β ρ ty g=>?_⟩;obtain⟨l⟩:=j;obtain⟨x,y,z,rfl,C,D,G⟩:=mo f;simp[Builtin.max_,g.s C,g.s D,g.s G,Builtin.max2,max2,Fdn]
        . rename_i k a L b E X k3 d' f
          refine⟨_,h,λB p=>p,λw T β ρ ty g=>?_⟩;obtain⟨l⟩:=j;obtain⟨x,y,z,u,rfl,C,D,G,V⟩:=zd0 f;simp[Builtin.max_,g.s C,g.s D,g.s G,g.s V,Builtin.max2,max2,Fdn]
        grind
      obtain⟨z,U,S,M⟩:=key;exact⟨_,U,λB p=>by simp_all[vcV,Lf],λw T β ρ o H g=>⟨z,by simp[execOp,H,resolve,invoke,builtin,M w T β ρ o.type g],VRel.s _⟩⟩
  grind
theorem Wn{w:World}{T:BB}{β:Nat->Nat}{ρ:Operand->Value}(b:Env w T β ev bx st ρ){x:Option Operand}{l:Option Int}(h:Hi ev x=Δ l):
    (l=Θ/\x=Θ)\/∃k i o,l=Δ i/\x=Δ o/\ρ o=.int k i:=by
  cases x with
  |none=>simp_all[Hi]
  | some o=>
    simp only[Hi]at h;split at h
    . rename_i k i a
      simp at h;exact .inr ⟨k,i,o,h.symm,rfl,b.s a⟩
    . cases h
def Sh{w:World}{T:BB}{β:Nat->Nat}{ρ:Operand->Value}(j:Env w T β ev bx st ρ){f g:Option Operand}{l h:Option Int}(z:Hi ev f=Δ l)(B:Hi ev g=Δ h)
    (len a p q:Nat) (v:l.getD 0=(p:Int)) (t:h.getD (len:Int)=(q:Int)) (u:p<=q) (n:q<=a):
    (Instr.sliceBounds true len a (f.map ρ) (g.map ρ) Θ).run P w=.ok (p,q,a) w:=by
  rcases Wn j z with⟨rfl,rfl⟩|⟨k,i,o,rfl,rfl,y⟩<;>rcases Wn j B with⟨rfl,rfl⟩|⟨D,E,C,rfl,rfl,A⟩<;>simp at v t
  . have e:p=0:=Z
    have b:q=len:=Z;simp_all[Instr.sliceBounds]
  . have e:p=0:=Z
    simp_all[Instr.sliceBounds,Instr.sliceBound,asIntOf]
  . have b:q=len:=Z
    simp_all[Instr.sliceBounds,Instr.sliceBound,asIntOf]
  simp_all[Instr.sliceBounds,Instr.sliceBound,asIntOf]
def yoy(B:qf P c.I)(t:TypeId)(x:Operand)(lo hi mx:Option Operand)(h:vcV c ev bx st d (.slice t x lo hi mx) K):Bw P c ev bx st d (.slice t x lo hi mx) K:=by
  simp only[vcV]at h;cases mx with
  |some m=>grind
  |none=>
  simp only[Feb,cond_false]at h;replace h:=zv h;obtain⟨i,y,h⟩:=h;split at h
  . rename_i e k rows tok l hh a L M z
    replace h:=zv h;obtain⟨H,g,h⟩:=h;cases D:Nat.beq k H.size with
    |false=>grind
    |true=>
    rw[D]at h;simp only[cond_true]at h;obtain rfl:k=H.size:=(Ae _ _).1 D;obtain⟨p,q,R,Q,E,τ,h⟩:=h;refine⟨_,h,λK' X=>?_,λw T β ρ o C A=>?_⟩
    . simp only[vcV,Feb,cond_false]
      grind[J]
    . rcases O6 (qt A L)with⟨ad,u,V,rfl,_,rfl⟩|⟨b,off,u,V,hcap,hk,f,hf⟩
      . have ι:q=0:=by grind
        have ν:p=0:=Z;subst ι ν;refine⟨.slice ad 0 0,?_,VRel.nil _ _⟩;have D:=Sh (P:=P) A M z 0 0 0 0 R Q (Fai _) (Fai _);cases ad<;>simp[execOp,C,V,Instr.sliceAt,Instr.slice,yy (jz (B _ _ y) a),D,vx (B _ _ g)]
      . have U:=Sh (P:=P) A M z (Γ rows) u p q R Q E Z
        have hlen:(List.drop p (List.take q rows)).length=q-p:=δ;by_cases W:u=p
        . have ε:q=p:=Z
          have hnil:List.drop p (List.take q rows)=[]:=Fa2 Z;refine⟨.slice (Δ ⟨b,off,Θ⟩) 0 0,?_,?_⟩
          . subst W
            subst ε;simp[execOp,C,V,Instr.sliceAt,Instr.slice,yy (jz (B _ _ y) a),U,vx (B _ _ g)]
          . show VRel w T (.lst _ (List.drop p (List.take q rows)) Θ) _
            grind[VRel.empty]
        . refine⟨.slice (Δ ⟨b,off+p*H.size,Θ⟩) (q-p) (u-p),?_,?_⟩
          . simp[execOp,C,V,Instr.sliceAt,Instr.slice,yy (jz (B _ _ y) a),U,vx (B _ _ g),W,wu]
          . show VRel w T (.lst _ (List.drop p (List.take q rows)) Θ) _
            rw[<-hlen];have hget:∀(i:Nat) (v:List AV),(List.drop p (List.take q rows))[i]?=Δ v->rows[p+i]?=Δ v:=δ;refine VRel.lst _ Θ b (off+p*H.size) (u-p) _ (λj=>f (p*H.size+j)) Z (λi v h=>hk _ _ (hget i v h)) (λt ht=>by cases ht) (λi v j x h1 h2=>?_) (λi v j x h1 h2=>?_) (λi v j x h1 h2=>?_)
            . grind
            . grind
            grind
  . rename_i e b o len u l hh a L M z
    replace h:=zv h;obtain⟨H,g,p,q,R,Q,E,S,G⟩:=h;rcases G with⟨G,h⟩|⟨G,h⟩
    . refine⟨_,h,λK' X=>?_,λw T β ρ o C A=>?_⟩
      . simp only[vcV,Feb,cond_false]
        grind[J]
      . have D:=Sh (P:=P) A M z len u p q R Q E S
        have W:¬u=p:=Z;refine⟨_,?_,VRel.s _⟩;simp[execOp,C,A.s L,Instr.sliceAt,Instr.slice,yy (jz (B _ _ y) a),D,vx (B _ _ g),W,wu]
    . refine⟨_,h,λK' X=>?_,λw T β ρ o C A=>?_⟩
      . simp only[vcV,Feb,cond_false]
        grind[J]
      . have D:=Sh (P:=P) A M z len u p q R Q E S
        have η:q=u:=Z;subst η G;refine⟨_,?_,VRel.s _⟩;simp[execOp,C,A.s L,Instr.sliceAt,Instr.slice,yy (jz (B _ _ y) a),D,vx (B _ _ g)]
  . rename_i e l hh a L M z
    replace h:=zv h;obtain⟨H,g,R,Q,h⟩:=h;refine⟨_,h,λK' X=>?_,λw T β ρ o C A=>?_⟩
    . simp_all[vcV,J]
    . have D:=Sh (P:=P) A M z 0 0 0 0 R Q (Fai _) (Fai _)
      refine⟨_,?_,VRel.s _⟩;simp[execOp,C,A.s L,Instr.sliceAt,Instr.slice,yy (jz (B _ _ y) a),D,vx (B _ _ g)]
  . rename_i n e b o a L M ο
    replace h:=zv h;obtain⟨H,g,h⟩:=h;refine⟨_,h,λK' X=>?_,λw T β ρ o' C A=>?_⟩
    . simp_all[vcV,J]
    . have e1:lo.map ρ=Θ:=by grind[Wn]
      have e2:hi.map ρ=Θ:=by grind[Wn]
      refine⟨_,?_,VRel.s _⟩;simp[execOp,C,A.s L,Instr.sliceAt,Instr.sureAddr,yy (Pb (B _ _ y) a),e1,e2,Instr.sliceBounds,vx (B _ _ g),wu]
  grind
def po{w:World}{T:BB}{x:AV}{v:Value}(h:VRel w T x v){l:List AV}(e:cellsOf x=Δ l):Reads w T l v.cells.toList/\((∃c,v=.agg c)\/xq v=true/\v.cells.toList=[v]):=by
  cases h with
  |any v=>cases e
  | agg o c g h=>
    simp only[cellsOf,Fak]at e;subst e;exact⟨⟨by trivial,λi x y j t=>h i x y j (by simpa [Value.cells]using t)⟩,.inl ⟨c,rfl⟩⟩
  |s v=>cases v<;>simp only[cellsOf]at e<;>cases e<;>exact⟨Reads.cons (VRel.s _) Reads.nil,.inr ⟨rfl,rfl⟩⟩
  |tup o c g h=>cases e
  |emp a h=>cases e;exact⟨Reads.cons (VRel.emp a h) Reads.nil,.inr ⟨rfl,rfl⟩⟩
  |nil k a=>cases e;exact⟨Reads.cons (VRel.nil k a) Reads.nil,.inr ⟨rfl,rfl⟩⟩
  |lst rows tok b off p k c hcap u htok n z j=>cases e;exact⟨Reads.cons (.lst rows tok b off p k c hcap u htok n z j) Reads.nil,.inr ⟨rfl,rfl⟩⟩
  |cp cells b off c n j=>cases e;exact⟨Reads.cons (.cp cells b off c n j) Reads.nil,.inr ⟨rfl,rfl⟩⟩
  |clos f o c g h=>cases e;exact⟨Reads.cons (.clos f o c g h) Reads.nil,.inr ⟨rfl,rfl⟩⟩
theorem yac(a:List Value)(cells:Array Value)(off:Nat)(h:off+Γ a<=cells.size):
    ((a.zipIdx.foldl (λb (x:Value×Nat)=>b.setIfInBounds (off+x.2) x.1) cells)).toList=cells.toList.take off++a++cells.toList.drop (off+Γ a):=by
  suffices H:∀(a:List Value) (n:Nat) (cells:Array Value),off+n+Γ a<=cells.size->
      ((a.zipIdx n).foldl (λb (x:Value×Nat)=>b.setIfInBounds (off+x.2) x.1) cells).toList=cells.toList.take (off+n)++a++cells.toList.drop (off+n+Γ a) by grind
  intro a;induction a with
  |nil=>simp
  | cons v a e=>
    intro n cells h;simp only[Fbb]at h;simp only[List.zipIdx_cons,Fc6];rw[e (n+1) _ δ];have f:off+n<Γ cells.toList:=δ;simp only[Array.toList_setIfInBounds];apply Fcd;intro i;simp only[List.getElem?_append,Fed,Fct,Fei,Fad,Fah,Faf,Fbb,Fc8,Fco];grind
def ol{w:World}{T:BB}{β:Nat->Nat}{place:Nat->Option (Nat×Nat)}:∀(parts:List (Nat×LV)) (vals:List (Nat×Value)) (cells:List AV) (cs:Array Value) (l:List AV),
    Γ parts=Γ vals->(∀(i:Nat) (p:Nat×LV) (v:Nat×Value),parts[i]?=Δ p->vals[i]?=Δ v->p.1=v.1/\LRel w T β p.2 v.2)->Reads w T cells cs.toList->Ku place cells parts=Δ l->
    ∃ds,Instr.fill place cs vals=Δ ds/\Reads w T l ds.toList:=by
  intro parts;induction parts with
  | nil=>
    intro vals cells cs l hlen _ hr h;cases vals with
    |nil=>simp_all[Ku,Instr.fill]
    |cons v vs=>grind
  | cons p parts ih=>
    intro vals cells cs l hlen hp hr h;cases vals with
    |nil=>grind
    | cons v vals=>
      obtain⟨i,x⟩:=p;obtain⟨i',u⟩:=v;obtain⟨rfl,hx⟩:=hp 0 _ _ rfl rfl;simp only[Ku]at h;cases hpl:place i with
      |none=>grind
      | some os=>
        obtain⟨off,size⟩:=os;rw[hpl]at h;cases x with
        | av x=>
          simp only at h;cases hc:cellsOf x with
          |none=>grind
          | some xs=>
            rw[hc]at h;simp only at h;cases hb:(Nat.beq (Γ xs) size&&Nat.ble (off+size) (Γ cells))with
            |false=>grind
            | true=>
              rw[hb]at h;simp only[cond_true]at h;simp only[Fay]at hb;have h1:Γ xs=size:=(Ae _ _).1 hb.1;have h2:off+size<=Γ cells:=Fbp hb.2;have hrx:=(po hx hc).1;have h3:u.cells.size=size:=by rw[<-h1,hrx.1];simp
              have h4:off+size<=cs.size:=by have:=hr.1;grind
              have hsp:Reads w T (zu cells off xs) (u.cells.zipIdx.foldl (λcs (x:Value×Nat)=>cs.setIfInBounds (off+x.2) x.1) cs).toList:=by
                have e:(u.cells.zipIdx.foldl (λcs (x:Value×Nat)=>cs.setIfInBounds (off+x.2) x.1) cs)=(u.cells.toList.zipIdx.foldl (λcs (x:Value×Nat)=>cs.setIfInBounds (off+x.2) x.1) cs):=by grind[Array.toList_zipIdx]
                rw[e,yac _ _ _ δ];unfold zu;refine((hr.take off).append hrx).append ?_;rw[hrx.1];exact hr.drop _
              obtain⟨ds,hd1,hd2⟩:=ih vals _ _ l δ (λj p v h1 h2=>hp (j+1) p v δ δ) hsp h;simp_all[Instr.fill]
        |_=>simp at h
def ygk{α β:Type}{P:Program}{w:World}{f:α->Sem β}{g:α->Option β}(n:∀a b,g a=Δ b->(f a).run P w=.ok b w):∀{l:List α} {m:List β},l.mapM g=Δ m->(l.mapM f).run P w=.ok m w:=by
  intro l;induction l with
  |nil=>simp
  | cons a l i=>
    intro m h;rw[List.mapM_cons]at h;cases k:g a with
    |none=>grind
    | some b=>
      cases j:l.mapM g with
      |none=>grind
      | some e=>
        simp_all
def ypc(A:qf P c.I)(t:TypeId)(parts:Array (Nat×Operand))(h:vcV c ev bx st d (.build t parts) K):Bw P c ev bx st d (.build t parts) K:=by
  simp only[vcV]at h;obtain⟨i,E,h⟩:=zv h
  have hparts:∀(w:World) (T:BB) (β:Nat->Nat) (ρ:Operand->Value),Env w T β ev bx st ρ->
      (parts.toList.map λp=>(p.1,ev p.2)).length=(parts.map λ(p:Nat×Operand)=>(p.1,ρ p.2)).toList.length∧
      ∀(i:Nat) (p:Nat×LV) (v:Nat×Value),(parts.toList.map λp=>(p.1,ev p.2))[i]?=Δ p->(parts.map λ(p:Nat×Operand)=>(p.1,ρ p.2)).toList[i]?=Δ v->p.1=v.1/\LRel w T β p.2 v.2:=by
    intro w T β ρ C;refine⟨φ,λi p v hp D=>?_⟩;rw[Fcx,Fau]at D;rw[Fau]at hp;cases S:parts.toList[i]? with
    |none=>grind
    | some q=>
      rw[S]at hp D;simp at hp D;subst hp D;exact⟨rfl,C.ev _⟩
  split at h
  . rename_i fs u
    obtain⟨G,hpl,h⟩:=zv h;obtain⟨l,H,h⟩:=zv h;rw[Hr]at h;refine⟨_,h,λW V=>?_,λw T β ρ o Q C=>?_⟩
    . simp only[vcV]
      grind[J,Cz]
    . obtain⟨a,U,M⟩:=Pa (A _ _ E) u
      obtain⟨z,B,k⟩:=Nj (A _ _ E) w;obtain⟨h1,h2⟩:=hparts w T β ρ C;have hpl':(a.mapM (m:=Sem) λf=>do pure (f.offset,<-sizeOf f.type)).run P w=.ok G.toArray w:=by
        rw[Feh];have:(a.toList.mapM (m:=Sem) λf=>do pure (f.offset,<-sizeOf f.type)).run P w=.ok G w:=by
          refine ygk (g:=λf=>(c.I f.type).map λj=>(f.offset,j.size)) ?_ ?_
          . intro f b hb
            cases R:c.I f.type with
            |none=>grind
            | some j=>
              rw[R]at hb;simp at hb;subst hb;simp[vx (A _ _ R)]
          . subst M
            rw[<-hpl];unfold zfy;rw[List.mapM_map];rfl
        simp_all
      have y:Reads w T (i.zero.map AV.s) z.cells.toList:=by rw[k];exact Reads.map_s _
      obtain⟨ds,hd1,hd2⟩:=ol (w:=w) (T:=T) (β:=β) _ _ _ z.cells l h1 h2 y H;have hd1':Instr.fill (λx=>G.toArray[x]?) z.cells ((parts.map λ(p:Nat×Operand)=>(p.1,ρ p.2)).toList)=Δ ds:=θh;refine⟨.agg ds,?_,Mu hd2⟩;simp_all[execOp,Instr.build,yy]
  . rename_i n e u
    obtain⟨X,L,h⟩:=zv h;obtain⟨l,H,h⟩:=zv h;rw[Hr]at h;refine⟨_,h,λW V=>?_,λw T β ρ o Q C=>?_⟩
    . simp only[vcV]
      grind[J,Cz]
    . obtain⟨z,B,k⟩:=Nj (A _ _ E) w
      obtain⟨h1,h2⟩:=hparts w T β ρ C;have y:Reads w T (i.zero.map AV.s) z.cells.toList:=by rw[k];exact Reads.map_s _
      obtain⟨ds,hd1,hd2⟩:=ol (w:=w) (T:=T) (β:=β) _ _ _ z.cells l h1 h2 y H;refine⟨.agg ds,?_,Mu hd2⟩;simp only[execOp,Q,Instr.build,Sem.run_bind,Result.andThen_ok,Sem.run_pure,B,yy (Pb (A _ _ E) u),vx (A _ _ L),hd1]
  grind
end
section
variable {P:Program} {st:Store} {w:World} {A:Fr}
def fa{c:Cfg}{ev:Operand->LV}{k:Nat->Option (List AV)}{d:Nat}{K:LV->Prop}(g:qf P c.I)(j:Op)(h:vcV c ev k st d j K):Bw P c ev k st d j K:=by
  cases j with
  |move x=>exact yo2 x h
  |assign x=>exact ype x h
  |pick a b e=>exact yo0 a b e h
  |nilCheck x=>exact yo1 x h
  |binOp j t x y yt=>exact ypd g j t x y yt h
  |unOp j t x=>exact yox j t x h
  |convert s t x=>exact ypa g s t x h
  |load t a=>exact yo4 g t a h
  |fieldAddr s x f=>exact yo7 g s x f h
  |field s x f=>exact yo8 g s x f h
  |indexAddr t x i=>exact yo5 g t x i h
  |index t x i=>exact yo6 g t x i h
  |slice t x lo l mx=>exact yoy g t x lo l mx h
  |extract x i=>exact yo9 x i h
  |build t ps=>exact ypc g t ps h
  |makeFunc f a b=>exact yo3 f a b h
  |call cl=>exact ypb g cl h
  |_=>exact h.elim
def xg(st:Store)(R:Ja)(c M:BB)(w:World)(v:Value)(d:World):Prop:=
  ∃r a M',R r a/\VRel d (λb o=>M' b o\/c b o) r v/\StoreOK a c M' d/\Chg M w M' d
def zil(P:Program)(R:Value->World->Prop):Result Next->Prop
  |.ok (.enter f args) w=>Calls P f args w λe a=>∃v,e=.returned v/\R v a
  |.ok (.value v) w=>R v w
  |_=>False
structure ACalls(P:Program)(f:FuncId)(args:List AV)(st:Store)(R:Ja):Prop where
  out:∀(Oth M:BB) (w:World) (vs:Array Value),StoreOK st Oth M w->Reads w (λb o=>M b o\/Oth b o) args vs.toList->
    zil P (xg st R Oth M w) ((callFunc f vs).run P w)
def Fresh(st:Store)(b:Nat):Prop:=st.obj b=Θ/\st.tok b=Θ
def Owned(k:Nat)(st:Store)(v:AV)(rows:List (List AV))(a:Store):Prop:=
  (v=.emp/\rows=[]/\a=st)\/(rows≠[]/\∃b,Fresh st b/\v=.lst k rows (Δ b)/\a=st.sT b (Δ (Γ rows*k)))
def vw(k:Nat)(x:LV):Option (List (List AV)):=
  match x with
  |.av (.lst a rows _)=>bif Nat.beq a k then Δ rows else Θ
  |.av (.s (.slice Θ 0 _))=>Δ []
  |.av .emp=>Δ []
  |_=>Θ
def room(n a:Nat):Prop:=n*a<=140737488355328/\n<=140737488355328
def du(c:Cfg)(st:Store)(e:TypeId)(s x:LV)(K:Ja):Prop:=
  optK (c.I e) λie=>
    match s with
    |.av (.s (.slice Θ 0 0))=>optK (vw ie.size x) λrows=>room (Γ rows) ie.bytes/\∀v a,Owned ie.size st v rows a->K v a
    |.av .emp=>optK (vw ie.size x) λrows=>room (Γ rows) ie.bytes/\∀v a,Owned ie.size st v rows a->K v a
    | .av (.lst k rows (Δ b))=>bif Nat.beq k ie.size&&Nat.blt 0 ie.size then optK (vw ie.size x) λd=>st.tok b=Δ (Γ rows*k)/\room (rows++d).length ie.bytes∧
        ∀v a,Owned ie.size (st.sT b Θ) v (rows++d) a->K v a
      else False
    |_=>False
structure AppX(P:Program)(c:Cfg)(st:Store)(e:TypeId)(s x:AV)(K:Ja):Prop where
  has:∃ie,c.I e=Δ ie
  out:∀ie,c.I e=Δ ie->∀(Oth M:BB) (w:World) (sv xv:Value) (argTypes:Array TypeId) (ty:TypeId) (args:Array Value) (t:TypeId),StoreOK st Oth M w->
    VRel w (λb o=>M b o\/Oth b o) s sv->VRel w (λb o=>M b o\/Oth b o) x xv->argTypes[0]?=Δ t->(∃t1 e1,argTypes[1]?=Δ t1/\P.underlying t1=Δ (.slice e1))->
    P.underlying t=Δ (.slice e)->TIok P e ie->args[0]?=Δ sv->args[1]?=Δ xv->∃v w',(Builtin.append_ argTypes ty args).run P w=.ok v w'/\xg st K Oth M w v w'
structure appendK(P:Program)(c:Cfg)(st:Store)(e:TypeId)(s x:LV)(K:Ja):Prop where
  out:du c st e s x K\/∃s' x',s=.av s'/\x=.av x'/\AppX P c st e s' x' K
structure AEff(P:Program)(c:Cfg)(o:Oper)(args:List AV)(st:Store)(R:Ja):Prop where
  out:∀(Oth M:BB) (w:World) (ρ:Operand->Value),qf P c.I->StoreOK st Oth M w->Reads w (λb o=>M b o\/Oth b o) args (o.op.operands.map ρ).toList->
    match(execOp ρ o).run P w with
    |.ok (.value v) w'=>xg st R Oth M w v w'
    |.ok .skip w'=>o.dst=Θ/\xg st R Oth M w (.tuple #[]) w'
    |_=>False
def Pk(j:TI):Bool:=match j.ty with|.slice _=>true|_=>false
def isX:Op->Bool
  |.lookup ..=>true
  |.mapUpdate ..=>true
  |.insert ..=>true
  |.makeMap ..=>true
  |.makeSlice ..=>true
  |.range ..=>true
  |.next ..=>true
  |.entry ..=>true
  |.makeInterface ..=>true
  |.slice _ _ _ _ mx=>mx.isSome
  | .call cl=>match cl.callee with
    |.builtin .delete=>true
    |.builtin .copy=>true
    |.builtin .clear=>true
    |_=>false
  |_=>false
def xz(A:Fr)(n:Nat)(d:Option Tmp)(x:LV)(K:Fr->Prop):Prop:=
  match d with
  |none=>K A
  |some d=>bif Nat.blt d n then K (A.put d x)else False
def AV.one:AV->Bool
  |.s v=>xq v
  |.agg _=>false
  |.tup _=>false
  |.any=>false
  |_=>true
theorem Wo{T:BB}{x:AV}{v:Value}(h:VRel w T x v)(a:x.one=true):xq v=true:=by cases h<;>trivial
def Dz(i:TI)(A:Fr)(st:Store)(p:LV)(x:AV)(K:Fr->Store->Prop):Prop:=
  optK (cellsOf x) λxs=>bif Nat.beq (Γ xs) i.size&&xs.all AV.one then
    match p with
    |.bx k o=>optK (A.bx k) λl=>bif Nat.ble (o+Γ xs) (Γ l) then Hs (zu l o xs) λa=>K (A.setBx k a) st else False
    | .av (.s (.pointer (Δ ⟨b,o,Θ⟩)))=>optK (st.obj b) λy=>match y with
      |.cells l=>o+Γ xs<=Γ l/\Hs (zu l o xs) λa=>K A (st.sO b (.cells a))
      |_=>False
    |_=>False
  else False
def Co(i:TI):List AV:=i.zero.map AV.s
def Kj(k n:Nat)(a:List (List AV)):List (Nat×LV)->Option (List (List AV))
  |[]=>Δ a
  | (i,x)::rest=>match x with
    | .av x=>match cellsOf x with
      |some xs=>bif Nat.beq (Γ xs) k&&Nat.blt i n then Kj k n (a.set i xs) rest else Θ
      |none=>Θ
    |_=>Θ
def dl(c:Cfg)(o:Oper)(e:BinOp)(t:TypeId)(x y:Operand)(f:TypeId)(K:Fr->Store->Prop)(A:Fr)(st:Store):Prop:=
  match A.ev x,A.ev y with
  | .av (.lst _ rows _),.av (.s (.slice Θ 0 0))=>optK (c.I t) λi=>match i.ty with
    | .slice _=>match e with
      |.eql=>∀b:Bool,(b=true->rows=[])->xz A c.n o.dst (k8 b) λa=>K a st
      |.neq=>∀b:Bool,(b=true->rows=[])->xz A c.n o.dst (k8 (!b)) λa=>K a st
      |_=>False
    |_=>False
  |_,_=>optK o.dst λd=>bif Nat.blt d c.n then vcV c A.ev A.bx st d (.binOp e t x y f) (λx=>K (A.put d x) st)else False
def m8:Ty->Bool
  |.int .u8=>true
  |_=>false
def vcX(P:Program)(c:Cfg)(o:Oper)(K:Fr->Store->Prop)(A:Fr)(st:Store):Prop:=
  optK (o.op.operands.toList.mapM λx=>(A.ev x).toAV) λb=>AEff P c o b st λr a=>xz A c.n o.dst (.av r) λd=>K d a
def cw(P:Program)(c:Cfg)(o:Oper)(s t:TypeId)(x:Operand)(K:Fr->Store->Prop)(A:Fr)(st:Store):Prop:=
  match A.ev x with
  | .av (.lst k rows (Δ b))=>bif Nat.beq s t then optK (c.I t) λi=>match i.ty with
    |.slice e=>optK (c.I e) λie=>bif m8 ie.ty&&Nat.beq k 1 then optK (st.tok b) λ_=>xz A c.n o.dst (.av (.lst k rows (Δ b))) λa=>K a st else False
    |_=>False
    else False
  |.av (.s (.slice _ _ _))=>vcX P c o K A st
  |.av (.s (.pointer _))=>vcX P c o K A st
  |_=>optK o.dst λd=>bif Nat.blt d c.n then vcV c A.ev A.bx st d (.convert s t x) (λx=>K (A.put d x) st)else False
structure Meets(P:Program)(t:TypeId)(v:Value)(m:String)(g:FuncId)(x:AV):Prop where
  out:∃u,(∀w:World,(method (P.types.size+Made.depth) t v m).run P w=.ok (g,u) w)/\∀(w:World) (T:BB),VRel w T x u
def W5(P:Program)(c:Cfg)(o:Oper)(d:Call)(m:String)(y:LV)(K:Fr->Store->Prop)(A:Fr)(st:Store):Prop:=
  match y with
  |.av (.s (.iface t v))=>optK (d.args.toList.mapM λx=>(A.ev x).toAV) λb=>∃g x,Meets P t v m g x∧
      ACalls P g (x::b) st λr a=>xz A c.n o.dst (.av r) λe=>K e a
  |_=>False
def bt(x:LV):Option (FuncId×List AV×List AV):=
  match x with
  |.av (.clos g a)=>Δ (g,[],a)
  |.av (.s (.func (.func g) fv cv))=>Δ (g,fv.toList.map AV.s,cv.toList.map AV.s)
  |_=>Θ
def G9(P:Program)(c:Cfg)(o:Oper)(K:Fr->Store->Prop)(A:Fr)(st:Store):Prop:=
  match o.op with
  |.alloc t=>optK (c.I t) λi=>optK o.dst λd=>bif Nat.blt d c.n then
      Hs (Co i) λl=>(bif c.G.contains d then∀b,Fresh st b->K (A.put d (.av (.s (.pointer (Δ ⟨b,0,Θ⟩))))) (st.sO b (.cells l))
        else K (A.newBx d l) st)else False
  |.box _ x=>optK o.dst λd=>bif Nat.blt d c.n then(match A.ev x with
      | .av x=>optK (cellsOf x) λl=>
        bif c.G.contains d then∀b,Fresh st b->K (A.put d (.av (.s (.pointer (Δ ⟨b,0,Θ⟩))))) (st.sO b (.cells l))
        else K (A.newBx d l) st
      |_=>False)else False
  |.buildSlice t n parts=>optK (c.I t) λi=>optK o.dst λd=>bif Nat.blt d c.n then(match i.ty with
      | .slice e=>optK (c.I e) λie=>optK (Kj ie.size n (List.replicate n (Co ie)) (parts.toList.map λp=>(p.1,A.ev p.2))) λrows=>
        bif rows.flatten.all AV.one then n*ie.size<=16777216/\(match rows with
          |[]=>K (A.put d (.av .emp)) st
          | _ ::_=>bif c.G.contains d then(bif c.G.contains (d+1000000)then∀b,Fresh st b->K (A.put d (.av (.s (.slice (Δ ⟨b,0,Θ⟩) (Γ rows) (Γ rows))))) (st.sO b (.cells rows.flatten))
              else∀b,Fresh st b->K (A.put d (.av (.lst ie.size rows (Δ b)))) (st.sT b (Δ (Γ rows*ie.size))))
            else K (A.put d (.av (.lst ie.size rows Θ))) st)else False
      |_=>False)else False
  |.store t a x=>bif o.dst.isNone then optK (c.I t) λi=>match A.ev x with
      |.av x=>Dz i A st (A.ev a) x K
      |_=>False
      else False
  |.binOp op t x y yt=>dl c o op t x y yt K A st
  |.convert s t x=>cw P c o s t x K A st
  | .call cl=>match cl.callee with
    | .value f=>match bt (A.ev f)with
      | some (g,fv,j)=>optK (cl.args.toList.mapM λx=>(A.ev x).toAV) λu=>
        ACalls P g (fv++(u++j)) st λr h=>xz A c.n o.dst (.av r) λk=>K k h
      |_=>False
    |.invoke y m=>W5 P c o cl m (A.ev y) K A st
    | .builtin .append=>optK cl.argTypes[0]? λt=>optK (c.I t) λi=>optK cl.args[0]? λs=>optK cl.args[1]? λx=>match i.ty with
      |.slice e=>bif (cl.argTypes[1]?.bind c.I).any Pk then
          appendK P c st e (A.ev s) (A.ev x) λr h=>xz A c.n o.dst (.av r) λk=>K k h else vcX P c o K A st
      |_=>False
    |_=>optK o.dst λd=>bif Nat.blt d c.n then vcV c A.ev A.bx st d o.op (λx=>K (A.put d x) st)else False
  |op=>optK o.dst λd=>bif Nat.blt d c.n then vcV c A.ev A.bx st d op (λx=>K (A.put d x) st)else False
structure AYield(P:Program)(l:Nat)(args:List AV)(st:Store)(R:Ja):Prop where
  out:∀(Oth M:BB) (w:World) (vs:Array Value),StoreOK st Oth M w->Reads w (λb o=>M b o\/Oth b o) args vs.toList->
    ∃fn tmps assign body,(Instr.yield l vs).run P w=.ok (.round l fn tmps assign body) w/\RoundIn Fence.wide 0 P l fn tmps assign body w λe w'=>∃v,e=.returned v/\xg st R Oth M w v w'
def ei(A:Fr)(a:Op):Option Nat:=
  match a with
  | .call cl=>match cl.callee with
    | .value f=>match A.ev f with
      |.av (.s (.func (.yield l) x y))=>bif Nat.beq x.size 0&&Nat.beq y.size 0 then Δ l else Θ
      |_=>Θ
    |_=>Θ
  |_=>Θ
def rl(A:Fr)(a:Op):Option (List AV):=
  match a with
  |.call cl=>cl.args.toList.mapM λx=>(A.ev x).toAV
  |_=>Θ
def Ff(P:Program)(c:Cfg)(o:Oper)(K:Fr->Store->Prop)(A:Fr)(st:Store):Prop:=
  bif isX o.op then vcX P c o K A st else G9 P c o K A st
def Mv(P:Program)(c:Cfg)(o:Oper)(K:Fr->Store->Prop)(A:Fr)(st:Store):Prop:=
  match ei A o.op with
  |some l=>optK (rl A o.op) λb=>AYield P l b st λr a=>xz A c.n o.dst (.av r) λd=>K d a
  |none=>Ff P c o K A st
def Cfg.N(c:Cfg):SN:=⟨c.n,c.D0,c.nm⟩
def AOp(P:Program)(n:SN)(o:Oper)(K:Fr->Store->Prop)(A:Fr)(st:Store):Prop:=
  ∀c M a w,Sim n c A st M a w->o.wp P a w (λf d=>∃e b M',K e b/\Sim n c e b M' f d/\Chg M w M' d) (λ_ _ _=>False)
def yvr(P:Program)(c:Cfg)(o:Oper)(K:Fr->Store->Prop)(A:Fr)(st:Store):Prop:=
  ∀d M a w,Sim c.N d A st M a w->o.wpIn c.F 0 P a w (λg e=>∃f b M',K f b/\Sim c.N d f b M' g e/\Chg M w M' e) (λ_ _ _=>False)
def SimB.env{n:SN}{c M:BB}{β:Nat->Nat}{a:Act}(h:SimB n c β A st M a w):
    Env w (λb o=>M b o\/c b o) β A.ev A.bx st a.eval:=
  ⟨h.ev,λk l e=>(h.bx k l e).1,λb x d=>(h.sto.obj b x d).1⟩
theorem Sl{c:Cfg}{o:Oper}{K:Fr->Store->Prop}(p:qf P c.I)
    (h:optK o.dst λd=>bif Nat.blt d c.n then vcV c A.ev A.bx st d o.op (λx=>K (A.put d x) st)else False):AOp P c.N o K A st:=by
  obtain⟨d,l,h⟩:=zv h;cases f:Nat.blt d c.n with
  |false=>grind
  | true=>
    rw[f]at h;simp only[cond_true]at h;have e:d<c.n:=Fbp f;obtain⟨x,g,_,j⟩:=fa p o.op h;rintro t M a w ⟨β,b⟩;obtain⟨v,k,i⟩:=j w _ β a.eval o rfl b.env;unfold Oper.wp;rw[k,Oper.upon_value,l];exact⟨_,st,M,g,⟨β,b.put e i⟩,Chg.refl M w⟩
end
section
variable {P:Program} {c:Cfg} {w:World} {Oth M:BB} {st:Store}
def we(M:BB)(B:Nat):Nat->Nat->Prop:=λb o=>M b o\/b=B
def Ko(w:World)(o:Obj):(w.alloc o).heap[w.heap.size]?=Δ o:=by show(w.heap.push o)[_]?=_;simp
def Ig(w:World)(o:Obj)(M Oth:BB):Keeps w (λb o=>M b o\/Oth b o) (w.alloc o) (λb o=>we M w.heap.size b o\/Oth b o) where
  cell b f c d _:=by grind[Gz,Fu,Oy]
  out b f c d i a:=by
    rcases a with(h|h)|h
    . grind
    . have:=Oy d;omega
    grind
  shp b c e fr g:=⟨c,fr,by grind[Fu],rfl⟩
theorem StoreOK.alloc(h:StoreOK st Oth M w)(o:Obj):StoreOK st Oth (we M w.heap.size) (w.alloc o) where
  obj b x f:=⟨ObjRel.same (h.obj b x f).1 (Ig w o M Oth) (Fu w o b (h.obj b x f).1.lt),λo=>.inl ((h.obj b x f).2 o)⟩
  tok b top j:=by obtain⟨c,e,u,v,t,p,n⟩:=h.tok b top j;exact⟨c,e,u,by grind[Fu],t,p,λo k=>.inl (n o k)⟩
  mlt b a g:=by
    rcases g with d|d
    . have:=h.mlt b a d;simp;omega
    simp_all
  olt b a g:=by have:=h.olt b a g;simp;omega
  dis b a i l:=by
    rcases l with d|d
    . exact h.dis b a i d
    . have:=h.olt b a i;omega
def Kw(w:World)(o:Obj)(M:BB):Chg M w (we M w.heap.size) (w.alloc o) where
  size:=φ
  keep b d a _:=Gz (Fu w o b a) d
  blk b a _:=Fu w o b a
  shp b c e fr g:=⟨c,fr,by grind[Fu],rfl⟩
  sub b d f a:=by
    rcases f with h|h
    . exact h
    . omega
  tape:=rfl
  os:=rfl
  output:=rfl
def StoreOK.fresh(h:StoreOK st Oth M w){b:Nat}(d:w.heap.size<=b):Fresh st b:=by
  constructor
  . cases a:st.obj b with
    |none=>rfl
    |some x=>have:=(h.obj b x a).1.lt;omega
  . cases a:st.tok b with
    |none=>rfl
    | some x=>
      obtain⟨c,e,g,f,_⟩:=h.tok b x a;grind
def Sd{l:List AV}{a:Array Value}(w:World)(e:TypeId)(M Oth:BB)(h:Reads w (λb o=>M b o\/Oth b o) l a.toList):
    CellsRel (w.alloc (.cells a e)) (λb o=>we M w.heap.size b o\/Oth b o) l w.heap.size:=
  ⟨a,e,(0,0),Ko w _,rfl,by simpa using h.1,λi x y d f=>(h.2 i x y d δ).keep (Ig w _ M Oth)⟩
theorem Marks.alloc{Oth M:BB}{w:World}{d:List Deferred}(h:Marks Oth M w d)(a:∀b o,M b o->b<w.heap.size)(x:Obj):Marks Oth (we M w.heap.size) (w.alloc x) d:=
  h.step λD _ f g=>⟨Fu w x D f,λo a=>a.elim (g o).1 λe=>Z⟩
theorem MarksD.alloc{Oth M:BB}{w:World}{n:SN}{a:List Deferred}(h:MarksD Oth M w n a)(f:∀b o,M b o->b<w.heap.size)(x:Obj):MarksD Oth (we M w.heap.size) (w.alloc x) n a:=by obtain⟨d,e,g,h⟩:=h.ex;exact⟨d,e,g,h.alloc f x⟩
theorem SimB.newBx{n:SN}{β:Nat->Nat}{A:Fr}{a:Act}(h:SimB n Oth β A st M a w){d:Nat}(Q:d<n.sz){l:List AV}{H:Array Value}(e:TypeId)
    (I:Reads w (λb o=>M b o\/Oth b o) l H.toList):
    SimB n Oth (λk=>if k=d then w.heap.size else β k) (A.newBx d l) st (we M w.heap.size) (a.put (Δ d) (.pointer (Δ ⟨w.heap.size,0,Θ⟩))) (w.alloc (.cells H e)) where
  tsz:=by simp[Act.put,h.tsz]
  dfr:=h.dfr.alloc h.sto.mlt _
  tm i:=by
    simp only[Fr.newBx,Act.put,Fbf];by_cases G:i=d
    . subst G
      have:i<a.tmps.size:=by rw[h.tsz];exact Q
      simp_all[LRel]
    . have g:Nat.beq i d=false:=by grind[Ae]
      simp only[g,cond_false];rw[Array.getElem?_setIfInBounds_ne (Ne.symm G)];have j:=h.tm i;rw[Fbf]at j;cases E:A.t i with
      |any=>trivial
      |und=>rw[E]at j;exact j
      |av x=>rw[E]at j;exact VRel.keep (Ig w _ M Oth) j
      | bx k o=>
        simp only[LV.kill];cases f:Nat.beq k d with
        |true=>trivial
        | false=>
          have K:k≠d:=λe=>θh;simp_all[LRel]
  bx k B f:=by
    simp only[Fr.newBx]at f;by_cases v:k=d
    . subst v
      simp only[Fbu,cond_true,Fak]at f;subst f;simp only[if_true];exact⟨Sd w e M Oth I,λo=>.inr rfl⟩
    . have g:Nat.beq k d=false:=by grind[Ae]
      simp only[g,cond_false]at f;simp only[v,if_false];exact⟨(h.bx k B f).1.same (Ig w _ M Oth) (Fu w _ _ (h.bx k B f).1.lt),λo=>.inl ((h.bx k B f).2 o)⟩
  inj k z f p y:=by
    simp only[Fr.newBx]at f p;have D:∀k,A.bx k≠Θ->β k<w.heap.size:=λk f=>by
      cases L:A.bx k with
      |none=>grind
      |some l=>exact(h.bx k l L).1.lt
    by_cases j:k=d<;>by_cases R:z=d
    . omega
    . have g:Nat.beq z d=false:=by grind[Ae]
      grind
    . have g:Nat.beq k d=false:=by grind[Ae]
      grind
    . have g:Nat.beq k d=false:=by grind[Ae]
      have u:Nat.beq z d=false:=by grind[Ae]
      simp only[g,u,cond_false]at f p;simp only[j,R,if_false]at y;exact h.inj k z f p y
  sep k b f g y:=by
    have D:b<w.heap.size:=by
      rcases g with g|g
      . cases C:st.obj b with
        |none=>grind
        |some x=>exact(h.sto.obj b x C).1.lt
      . cases C:st.tok b with
        |none=>grind
        | some x=>
          obtain⟨c,e,S,j,_⟩:=h.sto.tok b x C;grind
    simp only[Fr.newBx]at f;by_cases j:k=d
    . grind
    . have u:Nat.beq k d=false:=by grind[Ae]
      simp only[u,cond_false]at f;simp only[j,if_false]at y;exact h.sep k b f g y
  sto:=h.sto.alloc _
def SimB.grow1{n:SN}{β:Nat->Nat}{A:Fr}{a:Act}(h:SimB n Oth β A st M a w)(o:Obj):SimB n Oth β A st (we M w.heap.size) a (w.alloc o) where
  tsz:=h.tsz
  dfr:=h.dfr.alloc h.sto.mlt _
  tm i:=(h.tm i).keep (Ig w _ M Oth)
  bx k l b:=⟨(h.bx k l b).1.same (Ig w _ M Oth) (Fu w _ _ (h.bx k l b).1.lt),λo=>.inl ((h.bx k l b).2 o)⟩
  inj:=h.inj
  sep:=h.sep
  sto:=h.sto.alloc _
theorem qp{i j:Nat}(h:i≠j):Nat.beq i j=false:=by grind[Ae]
def SimB.newObj{n:SN}{β:Nat->Nat}{A:Fr}{a:Act}(h:SimB n Oth β A st M a w)(o:Obj)(x:AObj)
    (g:ObjRel (w.alloc o) (λb o=>we M w.heap.size b o\/Oth b o) x w.heap.size):
    SimB n Oth β A (st.sO w.heap.size x) (we M w.heap.size) a (w.alloc o) where
  tsz:=h.tsz
  dfr:=h.dfr.alloc h.sto.mlt _
  tm:=(h.grow1 o).tm
  bx:=(h.grow1 o).bx
  inj:=h.inj
  sep k b j t p:=by
    by_cases d:b=w.heap.size
    . cases i:A.bx k with
      |none=>grind
      |some l=>have:=(h.bx k l i).1.lt;omega
    . refine h.sep k b j ?_ p
      simpa [Store.sO,qp d]using t
  sto:=by
    have e:=h.sto.alloc o;refine⟨λb y f=>?_,e.tok,e.mlt,e.olt,e.dis⟩;by_cases d:b=w.heap.size
    . subst d
      simp only[Store.sO,Fbu,cond_true,Fak]at f;subst f;exact⟨g,λo=>.inr rfl⟩
    . simp only[Store.sO,qp d,cond_false]at f
      exact e.obj b y f
end
end Go.V
