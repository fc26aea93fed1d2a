/- Ground of laws of throngtop: contracts and plain lemmas; no condition beyond the row's own. -/
import Derived.Orders
import Derived.Deep.LoopGhost
import Derived.Below
import Derived.Scope
import Derived.Sort.LoopGhostIn
import Derived.OrdersIn
import Derived.TacticsIn
import Derived.Laws.StructEq
import Derived.Laws.Wrap64
import Derived.IntWalk
set_option linter.unusedSimpArgs false
set_option linter.unusedVariables false
set_option linter.defProp false
namespace Go.V
theorem δ{p:Prop}(h:p:=by grind):p:=h
theorem ζ{p:Prop}(h:p:=by dsimp only;omega):p:=h
theorem ξ{p:Prop}(h:p:=by rfl):p:=h
theorem ω{p:Prop}(h:p:=by cases h):p:=h
theorem γ{p:Prop}(h:p:=by have:=q.1;omega):p:=h
theorem θa{p:Prop}(h:p:=by cases hx):p:=h
theorem θb{p:Prop}(h:p:=by cases e):p:=h
theorem θc{p:Prop}(h:p:=by rw[zj]):p:=h
theorem θd{p:Prop}(h:p:=by rw[Cd];omega):p:=h
theorem θe{p:Prop}(h:p:=by rw[xo];omega):p:=h
theorem θf{p:Prop}(h:p:=by rw[zj];omega):p:=h
theorem θg{p:Prop}(h:p:=by simpa using h1):p:=h
theorem θh{p:Prop}(h:p:=by simp_all):p:=h
theorem θi{p:Prop}(h:p:=by simp at h):p:=h
theorem θj{p:Prop}(h:p:=by simpa using hx):p:=h
theorem θk{p:Prop}(h:p:=by unfold Cmd.okP;simp[h]):p:=h
theorem θl{p:Prop}(h:p:=by unfold Cmd.only;simp[h]):p:=h
theorem θm{p:Prop}(h:p:=by simp_all[aE,aW]):p:=h
theorem θn{p:Prop}(h:p:=by simpa using h2):p:=h
theorem θo{p:Prop}(h:p:=by obtain⟨d,h1,h2⟩:=h.und;rw[hy]at h2;cases d<;>simp[Cq]at h2;grind):p:=h
theorem θp{p:Prop}(h:p:=by simp only[vcV,hx];exact h'):p:=h
theorem θq{p:Prop}(h:p:=by simp[Op.operands]):p:=h
theorem θr{p:Prop}(h:p:=by simpa [Op.operands]using hr):p:=h
theorem θs{p:Prop}(h:p:=by rw[Fam];omega):p:=h
theorem θt{p:Prop}(h:p:=by have:=congrArg List.length (hb rfl);rw[zj]at this;exact Far this):p:=h
theorem θu{p:Prop}(h:p:=by rw[he];decide):p:=h
theorem θv{p:Prop}(h:p:=by simpa using h):p:=h
theorem θw{p:Prop}(h:p:=by rw[hq2];omega):p:=h
theorem θx{p:Prop}(h:p:=by simp[Ca]at hk):p:=h
theorem θy{p:Prop}(h:p:=by have:=f1.2.1;grind):p:=h
theorem θz{p:Prop}(h:p:=by simp_all[callFunc]):p:=h
theorem θ0{p:Prop}(h:p:=by simp only[Fah,false_iff];exact hn):p:=h
theorem θ1{p:Prop}(h:p:=by simp only[Fah,false_iff];exact hh):p:=h
theorem θ2{p:Prop}(h:p:=by unfold z8;rw[Fap];exact Fbh _ _):p:=h
theorem θ3{p:Prop}(h:p:=by dsimp only at f3⊢;rw[f3];exact Tq):p:=h
theorem θ4{p:Prop}(h:p:=by simpa only[vcV,Na]using h):p:=h
theorem θ5{p:Prop}(h:p:=by rw[hw.other b' he];exact h1):p:=h
theorem θ6{p:Prop}(h:p:=by simp[hv,Builtin.lenOf]):p:=h
theorem θ7{p:Prop}(h:p:=by have:=V9 h.lsz hilt hun;omega):p:=h
theorem θ8{p:Prop}(h:p:=by unfold off;split<;>(try split)<;>omega):p:=h
theorem θ9{p:Prop}(h:p:=by show(0:Int)<=0/\(0:Int)<8;decide):p:=h
theorem ψa{p:Prop}(h:p:=by rw[if_pos hh]at h;cases h):p:=h
theorem ψb{p:Prop}(h:p:=by rw[hq2];unfold yg;omega):p:=h
theorem ψc{p:Prop}(h:p:=by dsimp only at hji;omega):p:=h
theorem ψd{p:Prop}(h:p:=by have:=hplace hh;unfold qt at this;omega):p:=h
theorem ψe{p:Prop}(h:p:=by intro h4;subst h4;exact hne rfl):p:=h
theorem ψf{p:Prop}(h:p:=by rw[hz.2 hh]at c2;cases c2):p:=h
theorem ψg{p:Prop}(h:p:=by dsimp only at this;omega):p:=h
theorem ψh{p:Prop}(h:p:=by simp[Builtin.len_,goInt,ht,hargs,hx,hv,yn (ja (hI _ _ hi) hty)]):p:=h
theorem ψi{p:Prop}(h:p:=by refine⟨by simp[hm1],λi x y hx hy=>?_⟩;obtain⟨z,hz,hzz⟩:=hm2 i x hx;rw[Fck,Faq,hz]at hy;simp at hy;subst hy;exact qk sim.env (Oe hzz)):p:=h
theorem ψj{p:Prop}(h:p:=by grind[Op.operands,Call.operands]):p:=h
theorem ψk{p:Prop}(h:p:=by simp[Builtin.zeroCells,Value.cells]):p:=h
theorem ψl{p:Prop}(h:p:=by rw[ho];simp[Op.operands,Call.operands,hcl,hargs]):p:=h
theorem ψm{p:Prop}(h:p:=by show(0:Int)<=0/\(0:Int)<=4;decide):p:=h
theorem ψn{p:Prop}(h:p:=by have:=hz.2 hh.1;rw[this]at c1;cases c1):p:=h
theorem ψo{p:Prop}(h:p:=by obtain⟨e,_,rfl⟩:=Fai.1 he;rfl):p:=h
theorem ψp{p:Prop}(h:p:=by have:=hz.2 hh;rw[this]at c1;cases c1):p:=h
theorem ψq{p:Prop}(h:p:=by obtain⟨d,h1,h2⟩:=h.und;rw[hy]at h2;cases d<;>simp[Cq]at h2;exact h1):p:=h
theorem ψr{p:Prop}(h:p:=by simp[execOp,ho,hp',Instr.storeAt,Instr.sureAddr,storeVar,kh (hI _ _ hi),hvs,hr]):p:=h
theorem ψs{p:Prop}(h:p:=by rw[show vd (x+y)=-9223372036854775807 by unfold vd;omega]at h;exact h):p:=h
theorem ψt{p:Prop}(h:p:=by rw[Fcc,show 0+i*ti2.size=i from by show 0+i*1=i;omega,Fau (by simpa using hlt),Faq,Fac hlt];rfl):p:=h
theorem ψu{p:Prop}(h:p:=by simp only[Fah,false_iff];exact λhh=>by have:=hz.2 hh.1;rw[this]at c1;cases c1):p:=h
theorem ψv{p:Prop}(h:p:=by simp only[true_iff];refine hci.2 λu hu hne=>?_;obtain⟨j,hj,rfl⟩:=Faj hu;exact hall j hj θ hne):p:=h
theorem χ{p:Prop}(h:p:=by simp;omega):p:=h
theorem θ{p:Prop}(h:p:=by omega):p:=h
theorem ψ{p:Prop}(h:p:=by decide):p:=h
theorem φ{p:Prop}(h:p:=by simp):p:=h
set_option linter.defProp false
def Faa:=@List.getElem_mem
def Fab:=@List.take_succ_eq_append_getElem
def Fac:=@List.getElem?_eq_getElem
def Fad:=@List.length_append
def Fae:=@Nat.zero_le
def Faf:=@Option.some.injEq
def Fag:=@List.getElem?_cons_zero
def Fah:=@Bool.false_eq_true
def Fai:=@List.mem_map
def Faj:=@List.getElem_of_mem
def Fak:=@Nat.le_refl
def Fal:=@List.take_length
def Fam:=@List.length_take
def Fan:=@List.getElem?_cons_succ
def Fao:=@List.append_assoc
def Fap:=@List.length_map
def Faq:=@List.getElem?_map
def Far:=@List.eq_nil_of_length_eq_zero
def Fas:=@List.length_singleton
def Fat:=@List.mem_append
def Fau:=@List.getElem?_append_left
def Fav:=@List.mem_cons_of_mem
def Faw:=@Int.mul_nonneg
def Fax:=@List.map_append
def Fay:=@Bool.and_eq_true
def Faz:=@List.length_set
def Fa0:=@List.getElem?_append_right
def Fa1:=@Int.tdiv_eq_ediv_of_nonneg
def Fa2:=@List.getElem?_eq_some_iff
def Fa3:=@Nat.not_lt_zero
def Fa4:=@List.mem_iff_getElem?
def Fa5:=@List.length_replicate
def Fa6:=@List.mem_cons
def Fa7:=@List.mem_cons_self
def Fa8:=@Int.toNat_natCast
def Fa9:=@Nat.mul_le_mul_right
def Fba:=@List.mem_of_getElem?
def Fbb:=@List.findIdx?_eq_some_iff_getElem
def Fbc:=@Int.mul_le_mul
def Fbd:=@List.length_cons
def Fbe:=@List.mem_range
def Fbf:=@Array.toList_append
def Fbg:=@Array.getD_eq_getD_getElem?
def Fbh:=@List.length_filter_le
def Fbi:=@Nat.zero_add
def Fbj:=@Bool.and_eq_true_iff
def Fbk:=@List.getD_eq_getElem?_getD
def Fbl:=@Int.eq_ofNat_of_zero_le
def Fbm:=@Nat.le_of_ble_eq_true
def Fbn:=@List.append_nil
def Fbo:=@List.getElem_append_left
def Fbp:=@List.Nodup.length_le_of_subset
def Fbq:=@Array.getElem?_eq_some_iff
def Fbr:=@Nat.beq_refl
def Fbs:=@List.take_append_drop
def Fbt:=@List.mem_singleton
def Fbu:=@Bool.eq_iff_iff
def Fbv:=@Nat.le_trans
def Fbw:=@List.getElem_map
def Fbx:=@List.mem_filter
def Fby:=@List.getElem?_eq_none
def Fbz:=@Int.tmod_eq_emod_of_nonneg
def Fb0:=@List.map_congr_left
def Fb1:=@List.getElem?_replicate
def Fb2:=@List.take_append_of_le_length
def Fb3:=@List.findIdx?_eq_none_iff
def Fb4:=@Array.getElem?_eq_getElem
def Fb5:=@List.getElem?_take_of_lt
def Fb6:=@Nat.ble_eq_true_of_le
def Fb7:=@List.map_cons
def Fb8:=@List.ext_getElem?
def Fb9:=@Bool.not_eq_true'
def Fca:=@Int.add_zero
def Fcb:=@List.not_mem_nil
def Fcc:=@List.head?_drop
def Fcd:=@List.take_of_length_le
def Fce:=@List.pairwise_iff_getElem
def Fcf:=@List.cons.injEq
def Fcg:=@Int.ediv_nonneg
def Fch:=@List.filter_append
def Fci:=@List.all_eq_true
def Fcj:=@Int.le_refl
def Fck:=@Array.toList_map
def Fcl:=@List.mem_of_mem_take
def Fcm:=@List.drop_zero
def Fcn:=@Int.emod_nonneg
def Fco:=@Array.length_toList
def Fcp:=@List.getElem_cons_zero
def Fcq:=@List.length_drop
def Fcr:=@List.getElem_set
def Fcs:=@List.ext_getElem
def Fct:=@List.pairwise_cons
def Fcu:=@List.getElem?_drop
def Fcv:=@Array.getElem?_modify
def Fcw:=@Nat.add_mul
def Fcx:=@List.drop_eq_getElem_cons
def Fcy:=@List.foldl_cons
def Fcz:=@List.drop_append_of_le_length
def Fc0:=@Int.mul_le_mul_of_nonneg_left
def Fc1:=@List.take_zero
def Fc2:=@List.drop_of_length_le
def Fc3:=@Int.emod_lt_of_pos
def Fc4:=@List.map_set
def Fc5:=@List.length_nil
def Fc6:=@Int.emod_add_mul_ediv
def Fc7:=@Array.getElem?_toList
def Fc8:=@List.nodup_append
def Fc9:=@List.foldl_append
def Fda:=@Array.getElem?_append_left
def Fdb:=@List.getElem_append_right
def Fdc:=@List.filter_cons
def Fdd:=@Bool.cond_decide
def Fde:=@List.map_eq_nil_iff
def Fdf:=@Int.mul_comm
def Fdg:=@Nat.zero_lt_one
def Fdh:=@List.nil_append
def Fdi:=@Int.sub_eq_add_neg
def Fdj:=@Bool.and_self
def Fdk:=@List.getElem_replicate
def Fdl:=@List.getElem?_set_self
def Fdm:=@Int.ediv_eq_zero_of_lt
def Fdn:=@Nat.le_succ
def Fdo:=@List.length_range
def Fdp:=@List.getElem_take
def Fdq:=@List.any_eq_false
def Fdr:=@Nat.mul_le_mul
def Fds:=@List.nodup_nil
def Fdt:=@List.drop_left
def Fdu:=@Nat.succ_mul
def Fdv:=@Int.mul_le_mul_of_nonneg_right
def Fdw:=@Int.ediv_lt_of_lt_mul
def Fdx:=@Array.mem_of_getElem?
def Fdy:=@List.map_eq_cons_iff
def Fdz:=@List.getElem?_set_ne
def Fd0:=@List.dropLast_concat_getLast
def Fd1:=@List.flatten_append
def Fd2:=@Int.mul_add
def Fd3:=@Option.isSome_none
def Fd4:=@Nat.add_sub_cancel
def Fd5:=@List.getElem?_take
def Fd6:=@List.take_left
def Fd7:=@List.mem_of_find?_eq_some
def Fd8:=@Array.mapM_eq_mapM_toList
def Fd9:=@List.getElem?_set
def Fea:=@List.flatten_cons
def Feb:=@Int.emod_eq_of_lt
def qlt(a b:Int×Int):Prop:=a.1<b.1\/a.1=b.1/\a.2<b.2
instance(a b:Int×Int):Decidable (qlt a b):=by unfold qlt;exact inferInstance
theorem f8(a:Int×Int):¬qlt a a:=by unfold qlt;omega
theorem Ve{a b c:Int×Int}(h:¬qlt b a)(k:¬qlt c b):¬qlt c a:=by unfold qlt at*;omega
theorem Vf{a b:Int×Int}(h:qlt a b):¬qlt b a:=by unfold qlt at*;omega
theorem zas{a b:Int×Int}(h:¬qlt b a):a.1<=b.1:=by unfold qlt at*;omega
def par(j:Nat):Nat:=(j-1)/2
def H2(f:Nat->Int×Int)(i k:Nat):Nat->Int×Int:=λj=>if j=k then f i else if j=i then f k else f j
def Lq(f:Nat->Int×Int)(n:Nat):Prop:=∀j,0<j->j<n->¬qlt (f j) (f (par j))
def UpF(f:Nat->Int×Int)(n i:Nat):Prop:=(∀j,0<j->j<n->j≠i->¬qlt (f j) (f (par j)))/\∀j,0<j->j<n->par j=i->0<i->¬qlt (f j) (f (par i))
def Hx(f:Nat->Int×Int)(n i:Nat):Prop:=(∀j,0<j->j<n->par j≠i->¬qlt (f j) (f (par j)))/\∀j,0<j->j<n->par j=i->0<i->¬qlt (f j) (f (par i))
theorem Df{j:Nat}(h:0<j):par j<j:=by unfold par;omega
theorem zin{f:Nat->Int×Int}{n i:Nat}(h:UpF f n i)(hi:i=0\/¬qlt (f i) (f (par i))):Lq f n:=by
 intro j h0 hj;by_cases e:j=i
 ·grind
 ·exact h.1 j h0 hj e
theorem zim{f:Nat->Int×Int}{n:Nat}(h:Lq f n):UpF f (n+1) n:=
 ⟨λj h0 hj hn=>h j h0 (by omega),λj h0 hj hp h1=>by have:=Df h0;omega⟩
theorem zil{f:Nat->Int×Int}{n i:Nat}(h:UpF f n i)(h0:0<i)(hi:i<n)(hl:qlt (f i) (f (par i))):UpF (H2 f i (par i)) n (par i):=by
 have hp:=Df h0;refine⟨λj j0 jn jp=>?_,λj j0 jn jp p0=>?_⟩
 ·unfold H2;rw[if_neg jp];by_cases e:j=i
  ·simp_all[Vf]
  ·rw[if_neg e];by_cases e2:par j=par i
   ·rw[if_pos e2];have h1:=h.1 j j0 jn e;grind[Ve,Vf]
   ·rw[if_neg e2];by_cases e3:par j=i
    ·rw[if_pos e3];exact h.2 j j0 jn e3 h0
    ·rw[if_neg e3];exact h.1 j j0 jn e
 ·have hpp:=Df p0;unfold H2;rw[if_neg (show¬par (par i)=par i by omega),if_neg (show¬par (par i)=i by omega)];have h1:=h.1 (par i) p0 (by omega) (by omega);by_cases e:j=i
  ·grind
  ·have hjp:j≠par i:=by grind
   rw[if_neg hjp,if_neg e];have h2:=h.1 j j0 jn e;grind[Ve]
theorem zet{f:Nat->Int×Int}{n i:Nat}(h:Hx f n i)(hc:∀j,0<j->j<n->par j=i->¬qlt (f j) (f i)):Lq f n:=by
 intro j h0 hj;by_cases e:par j=i
 ·grind
 ·exact h.1 j h0 hj e
theorem ypi{f:Nat->Int×Int}{n i k:Nat}(h:Hx f n i)(hk0:0<k)(hk:k<n)(hki:par k=i)(hmin:∀j,0<j->j<n->par j=i->¬qlt (f j) (f k))(hl:qlt (f k) (f i)):Hx (H2 f i k) n k:=by
 have hik:i<k:=hki▸Df hk0;refine⟨λj j0 jn jp=>?_,λj j0 jn jp _=>?_⟩
 ·unfold H2;rw[if_neg jp];by_cases e:j=k
  ·simp_all[Vf]
  ·rw[if_neg e];by_cases e2:j=i
   ·subst e2;have hpj:par j≠j:=by have:=Df j0;omega
    rw[if_pos rfl,if_neg hpj];exact h.2 k hk0 hk hki j0
   ·rw[if_neg e2];by_cases e3:par j=i
    ·grind
    ·rw[if_neg e3];exact h.1 j j0 jn e3
 ·have hjk:k<j:=jp▸Df j0;unfold H2;rw[if_neg (show¬j=k by omega),if_neg (show¬j=i by omega),hki,if_neg (show¬i=k by omega),if_pos rfl];have h1:=h.1 j j0 jn (by omega);grind
theorem yma{f:Nat->Int×Int}{n:Nat}(h:Lq f n):∀j,j<n->¬qlt (f j) (f 0):=by
 intro j;induction j using Nat.strongRecOn with
 |_ j ih=>
  intro hj;by_cases e:j=0
  ·subst e;exact f8 _
  ·have hp:=Df (Nat.pos_of_ne_zero e);exact Ve (ih _ hp (by omega)) (h j (by omega) hj)
theorem O6{i j:Nat}(h:0<j):par j=i↔j=2*i+1\/j=2*i+2:=by unfold par;omega
def qat(l:List (Int×Int))(j:Nat):Int×Int:=l.getD j (0,0)
def wy(l:List (Int×Int)):Prop:=Lq (qat l) l.length
def wh(l:List (Int×Int))(i k:Nat):List (Int×Int):=(l.set i (qat l k)).set k (qat l i)
theorem L9(l:List (Int×Int))(i k:Nat):(wh l i k).length=l.length:=by simp[wh]
theorem Vg{l:List (Int×Int)}{j:Nat}(h:j<l.length):qat l j=l[j]:=by grind[qat]
theorem ygp{l:List (Int×Int)}{i:Nat}(h:i<l.length)(x:Int×Int)(j:Nat):qat (l.set i x) j=if j=i then x else qat l j:=by unfold qat;grind
theorem zat{l:List (Int×Int)}{i k:Nat}(hi:i<l.length)(hk:k<l.length):qat (wh l i k)=H2 (qat l) i k:=by grind[wh,H2,ygp]
theorem su{l:List (Int×Int)}{i k:Nat}(hi:i<l.length)(hk:k<l.length):(wh l i k).Perm l:=by grind[wh,Vg]
theorem zau(l:List (Int×Int))(x:Int×Int)(j:Nat)(h:j<l.length):qat (l++[x]) j=qat l j:=by grind[qat]
structure FarOK(E:Nat->Nat->Int->Prop)(goal:Nat)(d:Nat->Int):Prop where
 lab:∀u,d u=-1\/0<=d u
 gl:d goal=0
 pre:∀u,u≠goal->0<=d u->∃t c,0<=d t/\E t u c/\d t+c<=d u
 rel:∀t u c,0<=d t->E t u c->0<=d u/\d u<=d t+c
section
variable {goal u n t:Nat} {cur:Int}
theorem W5{E:Nat->Nat->Int->Prop}(hE:∀t u c,E t u c->0<c){d e:Nat->Int}(h:FarOK E goal d)(k:FarOK E goal e):∀(n:Nat) (u:Nat),0<=e u->(e u).toNat=n->0<=d u/\d u<=e u:=by
 intro n;induction n using Nat.strongRecOn with
 |_ n ih=>
  intro u hu hn;by_cases hg:u=goal
  ·subst hg;have h1:=h.gl;omega
  ·obtain⟨t,c,ht,hE1,hc⟩:=k.pre u hg hu;have hp:=hE _ _ _ hE1;obtain⟨h1,h2⟩:=ih (e t).toNat θ t ht rfl;obtain⟨h3,h4⟩:=h.rel t u c h1 hE1;omega
theorem yoo{E:Nat->Nat->Int->Prop}(hE:∀t u c,E t u c->0<c){d e:Nat->Int}(h:FarOK E goal d)(k:FarOK E goal e):d=e:=by
 funext u
 rcases h.lab u with h1|h1
 ·rcases k.lab u with h2|h2
  ·omega
  ·have:=W5 hE h k _ u h2 rfl;omega
 ·rcases k.lab u with h2|h2
  ·have:=W5 hE k h _ u h1 rfl;omega
  ·have h3:=W5 hE h k _ u h2 rfl;have h4:=W5 hE k h _ u h1 rfl;omega
def qb{α:Type}(d:Nat->α)(u:Nat)(x:α):Nat->α:=λj=>if j=u then x else d j
theorem Cg{α:Type}(d:Nat->α)(u:Nat)(x:α):qb d u x u=x:=by simp[qb]
theorem vz{α:Type}{d:Nat->α}{j:Nat}{x:α}(h:j≠u):qb d u x j=d j:=by simp[qb,h]
structure DJ(E:Nat->Nat->Int->Prop)(n goal:Nat)(d:Nat->Int)(dn:Nat->Bool)(q:List (Int×Int))(cur:Int)(O:Nat->Nat->Int->Prop):Prop where
 lab:∀u,d u=-1\/0<=d u
 gl:d goal=0
 pre:∀u,u≠goal->0<=d u->∃t c,dn t=true/\0<=d t/\E t u c/\d t+c<=d u
 rel:∀t u c,dn t=true->E t u c->¬O t u c->0<=d u/\d u<=d t+c
 mono:∀t,dn t=true->0<=d t/\d t<=cur
 ent:∀e∈q,∃u:Nat,e.2=(u:Int)/\u<n/\0<=d u/\d u<=e.1/\cur<=e.1
 wait:∀u,0<=d u->dn u=false->(d u,(u:Int))∈q
def K3:Nat->Nat->Int->Prop:=λ_ _ _=>False
theorem yps(E:Nat->Nat->Int->Prop)(hg:goal<n){d:Nat->Int}(hd:∀u,d u=if u=goal then 0 else -1):DJ E n goal d (λ_=>false) [(0,(goal:Int))] 0 K3:=by
 refine⟨λu=>?_,by simp[hd],λu hu h=>?_,λt u c h=>?_,λt h=>?_,λe he=>?_,λu h _=>?_⟩
 ·grind
 ·grind
 ·cases h
 ·cases h
 ·grind
 grind
theorem ypq{E:Nat->Nat->Int->Prop}{d:Nat->Int}{dn:Nat->Bool}{q q':List (Int×Int)}(h:DJ E n goal d dn q cur K3){x:Int×Int}{t:Nat}(ht:x.2=(t:Int))(hp:q.Perm (x::q'))(hd:dn t=true):DJ E n goal d dn q' cur K3:=by
 refine⟨h.lab,h.gl,h.pre,h.rel,h.mono,λe he=>h.ent e (hp.mem_iff.2 (Fav _ he)),λu hu hn=>?_⟩;rcases Fa6.1 (hp.mem_iff.1 (h.wait u hu hn))with he|he
 ·grind
 omega
theorem ypp{E:Nat->Nat->Int->Prop}{d:Nat->Int}{dn:Nat->Bool}{q q':List (Int×Int)}(h:DJ E n goal d dn q cur K3){x:Int×Int}{t:Nat}(ht:x.2=(t:Int))(hp:q.Perm (x::q'))(hm:∀e∈q,¬qlt e x)(hd:dn t=false):
  x.1=d t/\DJ E n goal d (qb dn t true) q' x.1 (λa _ _=>a=t):=by
 have hx:x∈q:=hp.mem_iff.2 Fa7;obtain⟨u,hu,hun,hu0,hux,huc⟩:=h.ent x hx;have:u=t:=θ;subst this;have hk:x.1=d u:=by have:=zas (hm _ (h.wait u hu0 hd));omega
 refine⟨hk,h.lab,h.gl,λv hv hl=>?_,λa b c ha hE hO=>?_,λa ha=>?_,λe he=>?_,λv hv hn=>?_⟩
 ·obtain⟨a,c,h1,h2,h3,h4⟩:=h.pre v hv hl;grind[qb]
 ·rw[vz hO]at ha;exact h.rel a b c ha hE (λh=>h)
 ·unfold qb at ha;split at ha
  ·grind
  ·have:=h.mono a ha;omega
 ·have he2:=hp.mem_iff.2 (Fav x he);obtain⟨v,h1,h2,h3,h4,h5⟩:=h.ent e he2;exact⟨v,h1,h2,h3,h4,zas (hm e he2)⟩
 ·unfold qb at hn;split at hn
  ·cases hn
  ·rename_i hne;rcases Fa6.1 (hp.mem_iff.1 (h.wait v hv hn))with he|he
   ·grind
   omega
theorem nc{E:Nat->Nat->Int->Prop}{d:Nat->Int}{dn:Nat->Bool}{q:List (Int×Int)}{O O':Nat->Nat->Int->Prop}(h:DJ E n goal d dn q cur O)
  (ho:∀t u c,O t u c->¬O' t u c->E t u c->0<=d u/\d u<=d t+c):DJ E n goal d dn q cur O':=
 ⟨h.lab,h.gl,h.pre,λt u c ht hE hO=>by
  by_cases e:O t u c
  ·grind
  ·exact h.rel t u c ht hE e,h.mono,h.ent,h.wait⟩
theorem zey{E:Nat->Nat->Int->Prop}(hE:∀t u c,E t u c->0<c){d:Nat->Int}{dn:Nat->Bool}{q q':List (Int×Int)}{O:Nat->Nat->Int->Prop}(h:DJ E n goal d dn q cur O){u:Nat}{c:Int}(ht:dn t=true)(htc:d t=cur)(hu:u<n)(hEu:E t u c)(hd:dn u=false)(hl:d u<0\/cur+c<d u)
  (hq:q'.Perm ((cur+c,(u:Int))::q)):DJ E n goal (qb d u (cur+c)) dn q' cur O:=by
 have hc:=hE _ _ _ hEu;have hcur:0<=cur:=by have:=h.mono t ht;omega
 have htu:t≠u:=λe=>δ;have hdn:∀a,dn a=true->a≠u:=λa ha e=>δ;have hgu:goal≠u:=λe=>by subst e;have:=h.gl;omega
 refine⟨λv=>?_,by rw[vz hgu];exact h.gl,λv hv hl2=>?_,λa b k ha hE2 hO=>?_,λa ha=>?_,λe he=>?_,λv hv hn=>?_⟩
 ·unfold qb;split
  ·omega
  ·exact h.lab v
 ·by_cases e:v=u
  ·grind[vz,Cg]
  ·rw[vz e]at hl2⊢;obtain⟨a,k,h1,h2,h3,h4⟩:=h.pre v hv hl2;grind[vz]
 ·rw[vz (hdn a ha)];obtain⟨h1,h2⟩:=h.rel a b k ha hE2 hO;grind[Cg,vz]
 ·rw[vz (hdn a ha)];exact h.mono a ha
 ·rcases Fa6.1 (hq.mem_iff.1 he)with e1|e1
  ·subst e1;exact⟨u,rfl,hu,by rw[Cg];omega,by rw[Cg];simp,θ⟩
  ·obtain⟨v,h1,h2,h3,h4,h5⟩:=h.ent e e1;grind[Cg,vz]
 ·by_cases e:v=u
  ·grind[Cg]
  ·rw[vz e]at hv⊢;exact hq.mem_iff.2 (Fav _ (h.wait v hv hn))
theorem ypt{E:Nat->Nat->Int->Prop}{d:Nat->Int}{dn:Nat->Bool}(h:DJ E n goal d dn [] cur K3):FarOK E goal d:=by
 have hdn:∀u,0<=d u->dn u=true:=λu hu=>by
  cases hb:dn u with
  |true=>rfl
  |false=>exact absurd (h.wait u hu hb) φ
 exact⟨h.lab,h.gl,λu hu hl=>by obtain⟨t,c,_,h2,h3,h4⟩:=h.pre u hu hl;grind,λt u c ht hE=>h.rel t u c (hdn t ht) hE (λh=>h)⟩
end
theorem κ{p:Prop}(h:p:=by kernel_rfl):p:=h
section
variable {w w':World} {v:Value}
theorem Tv:True:=trivial
inductive AV where
  |any
  |s (v:Value)
  |agg (cs:List AV)
  |tup (vs:List AV)
  |lst (k:Nat) (rows:List (List AV)) (tok:Option Nat)
  |cp (cells:List AV)
  |emp
  |clos (f:FuncId) (cap:List AV)
  deriving Inhabited
def qw:Value->Bool
  |.agg _=>false
  |.tuple _=>false
  |_=>true
inductive VRel(w:World)(T:Nat->Nat->Prop):AV->Value->Prop
  |any (v:Value):VRel w T .any v
  |s (v:Value):VRel w T (.s v) v
  |agg (cs:List AV) (c:Array Value) (hl:cs.length=c.size) (h:∀(i:Nat) (x:AV) (y:Value),cs[i]?=some x->c[i]?=some y->VRel w T x y):VRel w T (.agg cs) (.agg c)
  |tup (cs:List AV) (c:Array Value) (hl:cs.length=c.size) (h:∀(i:Nat) (x:AV) (y:Value),cs[i]?=some x->c[i]?=some y->VRel w T x y):VRel w T (.tup cs) (.tuple c)
  |emp (a:Option Addr) (h:∀x,a=some x->x.spot=none):VRel w T .emp (.slice a 0 0)
  |nil (k:Nat) (a:Option Addr):VRel w T (.lst k [] none) (.slice a 0 0)
  |lst (rows:List (List AV)) (tok:Option Nat) (b off cap k:Nat) (c:Nat->Value) (hcap:rows.length<=cap)
      (hk:∀(i:Nat) (row:List AV),rows[i]?=some row->row.length=k)
      (htok:∀t,tok=some t->t=b/\off=0/\rows≠[]/\∃c e fr,w.heap[b]?=some (.cells c e fr)/\cap*k<=c.size)
      (hc:∀(i:Nat) (row:List AV) (j:Nat) (x:AV),rows[i]?=some row->row[j]?=some x->w.cell? ⟨b,off+(i*k+j),none⟩=some (c (i*k+j))/\¬T b (off+(i*k+j)))
      (h1:∀(i:Nat) (row:List AV) (j:Nat) (x:AV),rows[i]?=some row->row[j]?=some x->qw (c (i*k+j))=true)
      (hx:∀(i:Nat) (row:List AV) (j:Nat) (x:AV),rows[i]?=some row->row[j]?=some x->VRel w T x (c (i*k+j))):
      VRel w T (.lst k rows tok) (.slice (some ⟨b,off,none⟩) rows.length cap)
  |cp (cells:List AV) (b off:Nat) (c:Nat->Value)
      (hc:∀(j:Nat) (x:AV),cells[j]?=some x->w.cell? ⟨b,off+j,none⟩=some (c j)/\¬T b (off+j))
      (hx:∀(j:Nat) (x:AV),cells[j]?=some x->VRel w T x (c j)):
      VRel w T (.cp cells) (.pointer (some ⟨b,off,none⟩))
  |clos (f:FuncId) (cs:List AV) (c:Array Value) (hl:cs.length=c.size) (h:∀(i:Nat) (x:AV) (y:Value),cs[i]?=some x->c[i]?=some y->VRel w T x y):VRel w T (.clos f cs) (.func (.func f) #[] c)
structure Keeps(w:World)(T:Nat->Nat->Prop)(w':World)(T':Nat->Nat->Prop):Prop where
  cell:∀b o c,w.cell? ⟨b,o,none⟩=some c->¬T b o->w'.cell? ⟨b,o,none⟩=some c
  out:∀b o c,w.cell? ⟨b,o,none⟩=some c->¬T b o->¬T' b o
  shp:∀(b:Nat) c e fr,w.heap[b]?=some (.cells c e fr)->∃c' fr',w'.heap[b]?=some (.cells c' e fr')/\c'.size=c.size
theorem VRel.keep{T T':Nat->Nat->Prop}(hk:Keeps w T w' T'){x:AV}(h:VRel w T x v):VRel w' T' x v:=by
  induction h with
  |any v=>exact .any v
  |s v=>exact .s v
  |agg cs c hl _ ih=>exact .agg cs c hl ih
  |tup cs c hl _ ih=>exact .tup cs c hl ih
  |emp a h=>exact .emp a h
  |nil k a=>exact .nil k a
  | lst rows tok b off cap k c hcap hkk htok hc h1 _ ih=>
    refine .lst rows tok b off cap k c hcap hkk (λt ht=>?_) (λi row j x h1 h2=>?_) h1 ih
    · obtain⟨h1,h2,h3,c,e,fr,h4,h5⟩:=htok t ht
      obtain⟨c',fr',h6,h7⟩:=hk.shp _ _ _ _ h4;grind
    · obtain⟨h3,h4⟩:=hc i row j x h1 h2
      exact⟨hk.cell _ _ _ h3 h4,hk.out _ _ _ h3 h4⟩
  | cp cells b off c hc _ ih=>
    refine .cp cells b off c (λj x h1=>?_) ih;obtain⟨h3,h4⟩:=hc j x h1;exact⟨hk.cell _ _ _ h3 h4,hk.out _ _ _ h3 h4⟩
  |clos f cs c hl _ ih=>exact .clos f cs c hl ih
theorem VRel.mono{T T':Nat->Nat->Prop}(hs:∀b o,T' b o->T b o){x:AV}(h:VRel w T x v):VRel w T' x v:=
  h.keep ⟨λ_ _ _ h _=>h,λ_ _ _ _ h h'=>h (hs _ _ h'),λ_ _ _ _ h=>⟨_,_,h,rfl⟩⟩
def AV.le(x y:AV):Prop:=∀w T v,VRel w T x v->VRel w T y v
theorem AV.le_refl(x:AV):AV.le x x:=λ_ _ _ h=>h
theorem AV.le_trans{x y z:AV}(h:AV.le x y)(h':AV.le y z):AV.le x z:=λw T v k=>h' w T v (h w T v k)
theorem AV.le_any(x:AV):AV.le x .any:=λ_ _ v _=>.any v
theorem AV.le_tok(k:Nat)(rows:List (List AV))(tok:Option Nat):AV.le (.lst k rows tok) (.lst k rows none):=by
  intro w T v h;cases h with
  |nil _ a=>exact .nil k a
  |lst _ _ b off cap _ c hcap hk htok hc h1 hx=>exact .lst rows none b off cap k c hcap hk (λ_ h=>ω) hc h1 hx
theorem AV.le_nil(k:Nat):AV.le (.s (.slice none 0 0)) (.lst k [] none):=by intro w T v h;cases h;exact .nil k none
theorem AV.le_nil_emp:AV.le (.s (.slice none 0 0)) .emp:=by intro w T v h;cases h;exact .emp _ (λx h=>ω)
theorem AV.le_agg{cs ds:List AV}(hl:cs.length=ds.length)(h:∀(i:Nat) (x y:AV),cs[i]?=some x->ds[i]?=some y->AV.le x y):AV.le (.agg cs) (.agg ds):=by
  intro w T v hv;cases hv with
  | agg _ c hl' hc=>
    refine .agg ds c θ λi x y hx hy=>?_;have hi:i<cs.length:=δ;exact h i cs[i] x (Fac hi) hx w T y (hc i _ _ (Fac hi) hy)
inductive AObj where
  |cells (l:List AV)
  |map (es:List (AV×AV)) (bs:List Nat) (clock:Nat)
  |iter (m:Nat) (since:Nat) (seen:List Nat) (last:Nat)
  |ghost (o:Obj) (gh:List (AV×Value))
structure Store where
  obj:Nat->Option AObj
  tok:Nat->Option Nat
def Store.empty:Store:=⟨λ_=>none,λ_=>none⟩
def Store.sO(st:Store)(b:Nat)(x:AObj):Store:={st with obj:=λi=>bif Nat.beq i b then some x else st.obj i}
def Store.sT(st:Store)(b:Nat)(x:Option Nat):Store:={st with tok:=λi=>bif Nat.beq i b then x else st.tok i}
structure Store.Has(st st':Store):Prop where
  obj:∀b x,st'.obj b=some x->st.obj b=some x
  tok:∀b x,st'.tok b=some x->st.tok b=some x
theorem Store.Has.refl(st:Store):st.Has st:=⟨λ_ _ h=>h,λ_ _ h=>h⟩
theorem Store.Has.trans{a b c:Store}(h:a.Has b)(h':b.Has c):a.Has c:=⟨λ_ _ k=>h.obj _ _ (h'.obj _ _ k),λ_ _ k=>h.tok _ _ (h'.tok _ _ k)⟩
def Fi(fr:Nat×Nat)(n:Nat):Prop:=fr.2=fr.1\/n<=fr.1
def CellsRel(w:World)(T:Nat->Nat->Prop)(l:List AV)(b:Nat):Prop:=
  ∃ c e fr,w.heap[b]?=some (.cells c e fr)/\fr.2=fr.1/\l.length=c.size∧
    ∀(i:Nat) (x:AV) (y:Value),l[i]?=some x->c[i]?=some y->VRel w T x y
def ytf(w:World)(T:Nat->Nat->Prop)(es:List (AV×AV))(bs:List Nat)(clock:Nat)(b:Nat):Prop:=
  ∃ ms:Array MapEntry,w.heap[b]?=some (.map ms clock)/\es.length=ms.size∧
    (∀(i:Nat) (x:AV×AV) (y:MapEntry),es[i]?=some x->ms[i]?=some y->VRel w T x.1 y.key/\VRel w T x.2 y.val)∧
    bs=ms.toList.map (·.born)/\(∀t∈bs,t<clock)/\bs.Pairwise (·<·)
def Pc:Obj->Bool
  |.cells ..=>false
  |_=>true
def ObjRel(w:World)(T:Nat->Nat->Prop):AObj->Nat->Prop
  |.cells l,b=>CellsRel w T l b
  |.map es bs clock,b=>ytf w T es bs clock b
  |.iter m since seen last,b=>w.heap[b]?=some (.mapIter (some m) since seen.toArray last)
  |.ghost o gh,b=>(w.heap[b]?=some o/\Pc o=true)/\∀p∈gh,VRel w T p.1 p.2
structure StoreOK(st:Store)(Oth M:Nat->Nat->Prop)(w:World):Prop where
  obj:∀b x,st.obj b=some x->ObjRel w (λb o=>M b o\/Oth b o) x b/\∀o,M b o
  tok:∀b top,st.tok b=some top->∃c e fr,w.heap[b]?=some (.cells c e fr)/\Fi fr c.size/\top<=c.size/\∀o,top<=o->M b o
  mlt:∀b o,M b o->b<w.heap.size
  olt:∀b o,Oth b o->b<w.heap.size
  dis:∀b o,Oth b o->¬M b o
theorem StoreOK.weaken{st st':Store}{Oth M:Nat->Nat->Prop}(h:StoreOK st Oth M w)(hh:st.Has st'):StoreOK st' Oth M w:=
  ⟨λb x k=>h.obj b x (hh.obj b x k),λb x k=>h.tok b x (hh.tok b x k),h.mlt,h.olt,h.dis⟩
structure Chg(M:Nat->Nat->Prop)(w:World)(M':Nat->Nat->Prop)(w':World):Prop where
  size:w.heap.size<=w'.heap.size
  keep:∀b o,b<w.heap.size->¬M b o->w'.cell? ⟨b,o,none⟩=w.cell? ⟨b,o,none⟩
  blk:∀b,b<w.heap.size->(∀o,¬M b o)->w'.heap[b]?=w.heap[b]?
  shp:∀(b:Nat) c e fr,w.heap[b]?=some (.cells c e fr)->∃c' fr',w'.heap[b]?=some (.cells c' e fr')/\c'.size=c.size
  sub:∀b o,M' b o->b<w.heap.size->M b o
  tape:w'.tape=w.tape
  os:w'.os=w.os
  output:w'.output=w.output
theorem Chg.refl(M:Nat->Nat->Prop)(w:World):Chg M w M w:=
  ⟨Fak _,λ_ _ _ _=>rfl,λ_ _ _=>rfl,λ_ _ _ _ h=>⟨_,_,h,rfl⟩,λ_ _ h _=>h,rfl,rfl,rfl⟩
theorem Gs{b:Nat}{x:Obj}(h:w.heap[b]?=some x):b<w.heap.size:=(Fbq.1 h).1
theorem Chg.trans{M M₁ M₂:Nat->Nat->Prop}{w₁ w₂:World}(h:Chg M w M₁ w₁)(k:Chg M₁ w₁ M₂ w₂):Chg M w M₂ w₂ where
  size:=Fbv h.size k.size
  keep b o hb hm:=by rw[k.keep b o (Nat.lt_of_lt_of_le hb h.size) (λhm'=>hm (h.sub b o hm' hb)),h.keep b o hb hm]
  blk b hb hm:=by rw[k.blk b (Nat.lt_of_lt_of_le hb h.size) (λo hm'=>hm o (h.sub b o hm' hb)),h.blk b hb hm]
  shp b c e fr hw:=by obtain⟨c',fr',h1,h2⟩:=h.shp b c e fr hw;obtain⟨c'',fr'',h3,h4⟩:=k.shp b c' e fr' h1;grind
  sub b o hm hb:=h.sub b o (k.sub b o hm (Nat.lt_of_lt_of_le hb h.size)) hb
  tape:=k.tape.trans h.tape
  os:=k.os.trans h.os
  output:=k.output.trans h.output
theorem Np{b o:Nat}{c:Value}(h:w.cell? ⟨b,o,none⟩=some c):b<w.heap.size:=World.block_lt_of_cell? _ _ h
theorem Chg.keeps{M M' Oth:Nat->Nat->Prop}(h:Chg M w M' w'):
    Keeps w (λb o=>M b o\/Oth b o) w' (λb o=>M' b o\/Oth b o) where
  cell b o c hc hT:=by rw[h.keep b o (Np hc) λhm=>hT (.inl hm)];exact hc
  out b o c hc hT hT':=hT (hT'.imp (λhm=>h.sub b o hm (Np hc)) id)
  shp:=h.shp
abbrev Ja:=AV->Store->Prop
end
inductive LV where
  |any
  |und
  |av (x:AV)
  |bx (k off:Nat)
  deriving Inhabited
structure Fr where
  t:Nat->LV
  bx:Nat->Option (List AV)
section
variable {w w':World} {v:Value} {st:Store} {b:Nat}
def LV.kill(k:Nat):LV->LV
  |.bx k' o=>bif Nat.beq k' k then .any else .bx k' o
  |x=>x
def Fr.put(A:Fr)(d:Nat)(x:LV):Fr:={A with t:=λi=>bif Nat.beq i d then x else A.t i}
def Fr.setBx(A:Fr)(k:Nat)(l:List AV):Fr:={A with bx:=λi=>bif Nat.beq i k then some l else A.bx i}
def Fr.newBx(A:Fr)(d:Nat)(l:List AV):Fr:=
  {t:=λi=>bif Nat.beq i d then .bx d 0 else(A.t i).kill d,bx:=λi=>bif Nat.beq i d then some l else A.bx i}
def yp6(v:Value):AV:=.s v
def cst:Value->AV
  |.agg cs=>.agg (cs.toList.map yp6)
  |v=>.s v
def Fr.ev(A:Fr):Operand->LV
  |.tmp t=>A.t t
  |.const v=>.av (cst v)
  |.global g=>.av (.s (.pointer (some ⟨g,0,none⟩)))
  |.func f=>.av (.clos f [])
def LRel(w:World)(T:Nat->Nat->Prop)(β:Nat->Nat):LV->Value->Prop
  |.any,_=>True
  |.und,v=>v=undef
  |.av x,v=>VRel w T x v
  |.bx k off,v=>v=.pointer (some ⟨β k,off,none⟩)
theorem LRel.keep{T T':Nat->Nat->Prop}{β:Nat->Nat}(hk:Keeps w T w' T'){x:LV}(h:LRel w T β x v):LRel w' T' β x v:=by
  cases x with
  |any=>trivial
  |und=>exact h
  |av x=>exact VRel.keep hk h
  |bx k off=>exact h
def LV.le(x y:LV):Prop:=∀w T β v,LRel w T β x v->LRel w T β y v
theorem LV.le_refl(x:LV):LV.le x x:=λ_ _ _ _ h=>h
theorem LV.le_any(x:LV):LV.le x .any:=λ_ _ _ _ _=>trivial
structure Marks(Oth M:Nat->Nat->Prop)(w:World)(ds:List Deferred):Prop where
  nd:ds.Pairwise λx y=>x.target≠y.target
  all:∀d∈ds,∃D,d={target:=.collected D,args:=#[]}/\w.heap[D]?=some (.deferred (some []))/\∀o,¬M D o/\¬Oth D o
theorem Marks.nil{Oth M:Nat->Nat->Prop}:Marks Oth M w []:=⟨List.Pairwise.nil,λd h=>ω⟩
theorem Marks.step{Oth M M':Nat->Nat->Prop}{ds:List Deferred}(h:Marks Oth M w ds)
    (hs:∀D,w.heap[D]?=some (.deferred (some []))->D<w.heap.size->(∀o,¬M D o/\¬Oth D o)->w'.heap[D]?=w.heap[D]?/\∀o,¬M' D o):Marks Oth M' w' ds:=
  ⟨h.nd,λd hd=>by obtain⟨D,e,h1,h2⟩:=h.all d hd;grind⟩
theorem Marks.sub{Oth M M':Nat->Nat->Prop}{ds:List Deferred}(h:Marks Oth M w ds)(hs:∀b o,M' b o->M b o):Marks Oth M' w ds:=
  h.step λD _ _ h2=>⟨rfl,λo hm=>(h2 o).1 (hs D o hm)⟩
structure SN where
  sz:Nat
  D0:List Deferred:=[]
  /--it has no marks -/
  nm:Bool:=false
structure MarksD(Oth M:Nat->Nat->Prop)(w:World)(n:SN)(ds:List Deferred):Prop where
  ex:∃ms,ds=ms++n.D0/\(n.nm=true->ms=[])/\Marks Oth M w ms
theorem MarksD.nil{Oth M:Nat->Nat->Prop}{n:SN}(h:n.D0=[]):MarksD Oth M w n []:=⟨[],δ,λ_=>rfl,Marks.nil⟩
theorem MarksD.step{Oth M M':Nat->Nat->Prop}{n:SN}{ds:List Deferred}(h:MarksD Oth M w n ds)
    (hs:∀D,w.heap[D]?=some (.deferred (some []))->D<w.heap.size->(∀o,¬M D o/\¬Oth D o)->w'.heap[D]?=w.heap[D]?/\∀o,¬M' D o):MarksD Oth M' w' n ds:=by
  obtain⟨ms,e,h0,hm⟩:=h.ex;exact⟨ms,e,h0,hm.step hs⟩
theorem MarksD.sub{Oth M M':Nat->Nat->Prop}{n:SN}{ds:List Deferred}(h:MarksD Oth M w n ds)(hs:∀b o,M' b o->M b o):MarksD Oth M' w n ds:=by obtain⟨ms,e,h0,hm⟩:=h.ex;exact⟨ms,e,h0,hm.sub hs⟩
theorem MarksD.out{Oth M:Nat->Nat->Prop}{n:SN}{ds:List Deferred}(h:MarksD Oth M w n ds)(h0:n.D0=[]):Marks Oth M w ds:=by obtain⟨ms,e,_,hm⟩:=h.ex;grind
theorem MarksD.known{Oth M:Nat->Nat->Prop}{n:SN}{ds:List Deferred}(h:MarksD Oth M w n ds)(h0:n.nm=true):ds=n.D0:=by obtain⟨ms,e,h1,_⟩:=h.ex;grind
theorem MarksD.of{Oth M:Nat->Nat->Prop}{n:SN}{ds:List Deferred}(h:Marks Oth M w ds)(h0:n.D0=[])(h1:n.nm=false):MarksD Oth M w n ds:=⟨ds,δ,λe=>δ,h⟩
structure SimB(n:SN)(Oth:Nat->Nat->Prop)(β:Nat->Nat)(A:Fr)(st:Store)(M:Nat->Nat->Prop)(a:Act)(w:World):Prop where
  tsz:a.tmps.size=n.sz
  dfr:MarksD Oth M w n a.defers
  tm:∀i,LRel w (λb o=>M b o\/Oth b o) β (A.t i) (a.tmps.getD i undef)
  bx:∀k l,A.bx k=some l->CellsRel w (λb o=>M b o\/Oth b o) l (β k)/\∀o,M (β k) o
  inj:∀k k',A.bx k≠none->A.bx k'≠none->β k=β k'->k=k'
  sep:∀k b,A.bx k≠none->(st.obj b≠none\/st.tok b≠none)->β k≠b
  sto:StoreOK st Oth M w
def Sim(n:SN)(Oth:Nat->Nat->Prop)(A:Fr)(st:Store)(M:Nat->Nat->Prop)(a:Act)(w:World):Prop:=∃β,SimB n Oth β A st M a w
theorem VRel.cst(w:World)(T:Nat->Nat->Prop)(v:Value):VRel w T (cst v) v:=by
  cases v<;>simp only[V.cst]<;>first
    |exact .s _
    | (refine .agg _ _ φ λi x y hx hy=>?_
       simp only[Faq]at hx;rw[Fc7,hy]at hx;simp only[Option.map_some,Faf]at hx;subst hx;exact .s _)
theorem SimB.ev{n:SN}{Oth M:Nat->Nat->Prop}{β:Nat->Nat}{A:Fr}{a:Act}(h:SimB n Oth β A st M a w)(x:Operand):
    LRel w (λb o=>M b o\/Oth b o) β (A.ev x) (a.eval x):=by
  cases x with
  |tmp t=>exact h.tm t
  |const v=>exact VRel.cst _ _ _
  |global g=>exact VRel.s _
  |func f=>exact VRel.clos f [] #[] rfl φ
theorem ve(i d:Nat):Nat.beq i d=true↔i=d:=φ
theorem SimB.put{n:SN}{Oth M:Nat->Nat->Prop}{β:Nat->Nat}{A:Fr}{a:Act}(h:SimB n Oth β A st M a w)
    {d:Nat} (hd:d<n.sz) {x:LV} (hx:LRel w (λb o=>M b o\/Oth b o) β x v):SimB n Oth β (A.put d x) st M (a.put (some d) v) w where
  tsz:=by simp[Act.put,h.tsz]
  dfr:=h.dfr
  tm i:=by
    simp only[Fr.put,Act.put,Fbg];by_cases hi:i=d
    · subst hi
      have:i<a.tmps.size:=by rw[h.tsz];exact hd
      simp_all
    · have hb:Nat.beq i d=false:=by grind[ve]
      rw[Array.getElem?_setIfInBounds_ne (Ne.symm hi)];have:=h.tm i;simp_all
  bx:=h.bx
  inj:=h.inj
  sep:=h.sep
  sto:=h.sto
structure Grow(w w':World):Prop where
  size:w.heap.size<=w'.heap.size
  blk:∀b,b<w.heap.size->w'.heap[b]?=w.heap[b]?
  tape:w'.tape=w.tape
  os:w'.os=w.os
  output:w'.output=w.output
theorem D6(w:World)(o:Obj)(k:Nat)(h:k<w.heap.size):(w.alloc o).heap[k]?=w.heap[k]?:=by show(w.heap.push o)[k]?=_;grind
theorem Grow.refl(w:World):Grow w w:=⟨Fak _,λ_ _=>rfl,rfl,rfl,rfl⟩
theorem Grow.alloc(w:World)(o:Obj):Grow w (w.alloc o):=⟨φ,λb hb=>D6 w o b hb,rfl,rfl,rfl⟩
theorem Grow.drew(w:World):Grow w w.drew:=⟨Fak _,λ_ _=>rfl,rfl,rfl,rfl⟩
theorem F6(h:w'.heap[b]?=w.heap[b]?)(o:Nat):w'.cell? ⟨b,o,none⟩=w.cell? ⟨b,o,none⟩:=by simp only[World.cell?,h]
theorem Grow.chg(h:Grow w w')(M:Nat->Nat->Prop):Chg M w M w' where
  size:=h.size
  keep b o hb _:=F6 (h.blk b hb) o
  blk b hb _:=h.blk b hb
  shp b c e fr hw:=⟨c,fr,by rw[h.blk b (Gs hw)];exact hw,rfl⟩
  sub _ _ hm _:=hm
  tape:=h.tape
  os:=h.os
  output:=h.output
theorem Grow.keeps(h:Grow w w')(T:Nat->Nat->Prop):Keeps w T w' T where
  cell b o c hc _:=by rw[F6 (h.blk b (Np hc))];exact hc
  out _ _ _ _ hT:=hT
  shp b c e fr hw:=⟨c,fr,by rw[h.blk b (Gs hw)];exact hw,rfl⟩
theorem CellsRel.same{T T':Nat->Nat->Prop}{l:List AV}(h:CellsRel w T l b)(hk:Keeps w T w' T')(hb:w'.heap[b]?=w.heap[b]?):CellsRel w' T' l b:=by obtain⟨c,e,fr,h1,h2,h3,h4⟩:=h;exact⟨c,e,fr,δ,h2,h3,λi x y hx hy=>(h4 i x y hx hy).keep hk⟩
theorem ObjRel.same{T T':Nat->Nat->Prop}{l:AObj}(h:ObjRel w T l b)(hk:Keeps w T w' T')(hb:w'.heap[b]?=w.heap[b]?):ObjRel w' T' l b:=by
  cases l with
  |cells l=>exact CellsRel.same h hk hb
  | iter m since seen last=>
    show _=_;rw[hb];exact h
  |ghost o gh=>exact⟨⟨by rw[hb];exact h.1.1,h.1.2⟩,λp hp=>(h.2 p hp).keep hk⟩
  | map es bs clock=>
    obtain⟨ms,h1,h2,h3,h4⟩:=h;exact⟨ms,δ,h2,λi x y hx hy=>⟨(h3 i x y hx hy).1.keep hk,(h3 i x y hx hy).2.keep hk⟩,h4⟩
theorem CellsRel.lt{T:Nat->Nat->Prop}{l:List AV}(h:CellsRel w T l b):b<w.heap.size:=by obtain⟨c,e,fr,h1,_⟩:=h;grind
theorem ObjRel.lt{T:Nat->Nat->Prop}{l:AObj}(h:ObjRel w T l b):b<w.heap.size:=by
  cases l with
  |cells l=>exact CellsRel.lt h
  |iter m since seen last=>exact Gs h
  |ghost o gh=>exact Gs h.1.1
  | map es bs clock=>
    obtain⟨ms,h1,_⟩:=h;grind
theorem StoreOK.grow{Oth M:Nat->Nat->Prop}(h:StoreOK st Oth M w)(g:Grow w w'):StoreOK st Oth M w' where
  obj b x hx:=⟨ObjRel.same (h.obj b x hx).1 (g.keeps _) (g.blk b (h.obj b x hx).1.lt),(h.obj b x hx).2⟩
  tok b top ht:=by obtain⟨c,e,fr,h1,h2⟩:=h.tok b top ht;exact⟨c,e,fr,by rw[g.blk b (Gs h1)];exact h1,h2⟩
  mlt b o hm:=Nat.lt_of_lt_of_le (h.mlt b o hm) g.size
  olt b o hm:=Nat.lt_of_lt_of_le (h.olt b o hm) g.size
  dis:=h.dis
theorem SimB.grow{n:SN}{Oth M:Nat->Nat->Prop}{β:Nat->Nat}{A:Fr}{a:Act}(h:SimB n Oth β A st M a w)(g:Grow w w'):SimB n Oth β A st M a w' where
  tsz:=h.tsz
  dfr:=h.dfr.step λD _ hl h2=>⟨g.blk D hl,λo=>(h2 o).1⟩
  tm i:=(h.tm i).keep (g.keeps _)
  bx k l hk:=⟨(h.bx k l hk).1.same (g.keeps _) (g.blk _ (h.bx k l hk).1.lt),(h.bx k l hk).2⟩
  inj:=h.inj
  sep:=h.sep
  sto:=h.sto.grow g
theorem Tq{x:LV}:LV.le x x:=LV.le_refl x
theorem Tt{x:AV}:AV.le x x:=AV.le_refl x
end
inductive Ty where
  |int (k:IntKind)
  |bool
  |str
  |slice (e:TypeId)
  |ptr (e:TypeId)
  |struct (fs:List (Nat×TypeId))
  |array (n:Nat) (e:TypeId)
  |map (k e:TypeId)
  |func
  |other
  deriving Inhabited,DecidableEq
structure TI where
  ty:Ty
  size:Nat
  bytes:Nat
  zero:List Value
  /--values of it may be held against one another -/
  eq:Bool:=false
  deriving Inhabited
abbrev Info:=Nat->Option TI
def Cq:TypeDesc->Ty
  |.int k=>.int k
  |.bool=>.bool
  |.string=>.str
  |.slice e=>.slice e
  |.pointer e=>.ptr e
  |.struct fs=>.struct (fs.toList.map λf=>(f.offset,f.type))
  |.array n e=>.array n e
  |.map k e=>.map k e
  |.func ..=>.func
  |_=>.other
def Cy:Ty->Bool
  |.struct _=>true
  |.array _ _=>true
  |_=>false
structure TIok(P:Program)(t:TypeId)(i:TI):Prop where
  info:∃inf,P.info? t=some inf/\inf.size=i.size/\inf.bytes=i.bytes/\∃z,inf.zero=some z/\z.cells.toList=i.zero
  und:∃d,P.underlying t=some d/\Cq d=i.ty
  zsz:i.zero.length=i.size
  zag:∀inf z,P.info? t=some inf->inf.zero=some z->(Cy i.ty=true/\∃cs,z=.agg cs)\/(Cy i.ty=false/\i.zero=[z])
  eqs : i.eq = true -> P.stoodInHeld t = false /\ P.eqGuardType P.depth t = false /\ ∀ fs, P.underlying t = some (.struct fs) -> ∀ f ∈ fs.toList, f.name ≠ "_"
def y9(P:Program)(I:Info):Prop:=∀t i,I t=some i->TIok P t i
structure Cfg where
  n:Nat
  I:Info
  /--temporaries whose 'alloc','box','buildSlice' make an object (a token) -/
  G:List Nat:=[]
  /--temporaries whose sums may wrap -/
  W:List Nat:=[]
  /--the loop whose round this is -/
  round:Option Nat:=none
  /--deferred calls that are known -/
  D0:List Deferred:=[]
  /--it ranges over no function -/
  nm:Bool:=false
def Cfg.F(c:Cfg):Fence:={Fence.wide with round:=c.round}
def optK{α:Type}(o:Option α)(K:α->Prop):Prop:=match o with|some x=>K x|none=>False
theorem za{α:Type}{o:Option α}{K:α->Prop}(x:α)(h:o=some x)(hk:K x):optK o K:=by subst h;exact hk
theorem zr{α:Type}{o:Option α}{K:α->Prop}(h:optK o K):∃x,o=some x/\K x:=by
  cases o with
  |none=>exact h.elim
  |some x=>exact⟨x,rfl,h⟩
def Dm(b:Bool)(p q:Prop):Prop:=match b with|true=>p|false=>q
theorem zk{b:Bool}{p q:Prop}(h:b=true->p)(h':b=false->q):Dm b p q:=by
  cases b with
  |true=>exact h rfl
  |false=>exact h' rfl
def yg(v:Int):Prop:=-9223372036854775808<=v/\v<=9223372036854775807
def xr(k:IntKind)(a:Int):LV:=.av (.s (.int k a))
def jv(b:Bool):LV:=.av (.s (.bool b))
def arK(wr:Bool)(k:IntKind)(v:Int)(K:LV->Prop):Prop:=
  match wr,k with
  |false,.i64=>yg v/\K (xr .i64 v)
  |_,k=>K (xr k (k.wrap v))
def jk(op:BinOp)(k:IntKind)(x y:Int):Int:=
  let a:=BitVec.ofInt k.bits x
  let b:=BitVec.ofInt k.bits y
  match op with
  |.and=>k.wrap (a &&& b).toNat
  |.or=>k.wrap (a ||| b).toNat
  |.xor=>k.wrap (a^^^b).toNat
  |_=>k.wrap (a &&& ~~~b).toNat
def Lg(wr:Bool)(op:BinOp)(k:IntKind)(a b:Int)(K:LV->Prop):Prop:=
  match op with
  |.add=>arK wr k (a+b) K
  |.sub=>arK wr k (a-b) K
  |.mul=>arK wr k (a*b) K
  |.quo=>b≠0/\arK wr k (a.tdiv b) K
  |.rem=>b≠0/\K (xr k (a.tmod b))
  |.and=>K (xr k (jk .and k a b))
  |.or=>K (xr k (jk .or k a b))
  |.xor=>K (xr k (jk .xor k a b))
  |.andNot=>K (xr k (jk .andNot k a b))
  |.eql=>K (jv (a==b))
  |.neq=>K (jv (a != b))
  |.lss=>K (jv (decide (a<b)))
  |.leq=>K (jv (decide (a<=b)))
  |.gtr=>K (jv (decide (a>b)))
  |.geq=>K (jv (decide (a>=b)))
  |.shl=>0<=b/\K (xr k (k.wrap (a*2^(min b.toNat k.bits))))
  |.shr=>0<=b/\K (xr k (a.fdiv (2^(min b.toNat k.bits))))
theorem N6{v:Int}(h:yg v):IntKind.i64.wrap v=v:=by obtain⟨h1,h2⟩:=h;grind[IntKind.wrap,IntKind.bits,IntKind.signed]
def Gv:List AV->(List AV->Prop)->Prop
  |[],K=>K []
  |x::l,K=>Gv l λl'=>K (x::l')
theorem Gu(l:List AV)(K:List AV->Prop):Gv l K=K l:=by
  induction l generalizing K with
  |nil=>rfl
  |cons x l ih=>simp only[Gv];rw[ih]
theorem Hq{l:List AV}{K:List AV->Prop}(h:K l):Gv l K:=by rw[Gu];exact h
def partK(i:TI)(cells:List AV)(K:LV->Prop):Prop:=
  bif Cy i.ty then(bif Nat.ble i.size cells.length then Gv (cells.take i.size) λl=>K (.av (.agg l))else False)
  else optK cells.head? λx=>K (.av x)
def Dx(i:TI)(cells:List AV):Option AV:=
  bif Cy i.ty then(bif Nat.ble i.size cells.length then some (.agg (cells.take i.size))else none)
  else cells.head?
def F0(I:Info):Nat->TypeId->AV->AV->Option Bool
  |0,_,_,_=>none
  | d+1,t,x,y=>
    match I t with
    |none=>none
    | some i=>
      match i.ty,x,y with
      |.int _,.s (.int k a),.s (.int k' b)=>bif decide (k=k')then some (a==b)else none
      |.bool,.s (.bool a),.s (.bool b)=>some (a==b)
      |.str,.s (.string a),.s (.string b)=>some (a==b)
      | .struct fs,.agg xs,.agg ys=>
        bif i.eq then
          fs.foldr (λf acc=>match I f.2 with
            |none=>none
            | some j=>match Dx j (xs.drop f.1),Dx j (ys.drop f.1)with
              | some u,some v=>match F0 I d f.2 u v,acc with
                |some p,some q=>some (p&&q)
                |_,_=>none
              |_,_=>none) (some true)
        else none
      |.slice _,.s (.slice none 0 0),.s (.slice none 0 0)=>some true
      |.func,.s .nilFunc,.s .nilFunc=>some true
      |.func,.clos _ _,.s .nilFunc=>some false
      |.func,.s .nilFunc,.clos _ _=>some false
      |.ptr _,.s (.pointer none),.s (.pointer none)=>some true
      |.ptr _,.s (.pointer (some _)),.s (.pointer none)=>some false
      |.ptr _,.s (.pointer none),.s (.pointer (some _))=>some false
      |.slice _,.s (.slice (some _) _ _),.s (.slice none 0 0)=>some false
      |_,_,_=>none
def LV.toAV:LV->Option AV
  |.av x=>some x
  |_=>none
def LV.toV:LV->Option Value
  |.av (.s v)=>some v
  |_=>none
theorem zjp{x:LV}{v:Value}(h:x.toV=some v):x=.av (.s v):=by unfold LV.toV at h;grind
theorem Oe{x:LV}{y:AV}(h:x.toAV=some y):x=.av y:=by cases x<;>simp[LV.toAV]at h;rw[h]
def Gl(ev:Operand->LV):Option Operand->Option (Option Int)
  |none=>some none
  | some x=>match ev x with
    |.av (.s (.int _ i))=>some (some i)
    |_=>none
def cellsOf:AV->Option (List AV)
  |.agg cs=>some cs
  |.any=>none
  |.tup _=>none
  | .s v=>match v with
    |.agg _=>none
    |.tuple _=>none
    |v=>some [.s v]
  |x=>some [x]
def zp(l:List AV)(off:Nat)(vs:List AV):List AV:=l.take off++vs++l.drop (off+vs.length)
def I2(place:Nat->Option (Nat×Nat))(cells:List AV):List (Nat×LV)->Option (List AV)
  |[]=>some cells
  | (i,v)::rest=>
    match place i,v with
    | some (off,size),.av x=>match cellsOf x with
      |some xs=>bif Nat.beq xs.length size&&Nat.ble (off+size) cells.length then I2 place (zp cells off xs) rest else none
      |none=>none
    |_,_=>none
def zeb(I:Info)(fs:List (Nat×TypeId)):Option (List (Nat×Nat)):=
  fs.mapM λf=>(I f.2).map λj=>(f.1,j.size)
def Rp(x:LV)(d:Nat)(K:LV->Prop):Prop:=
  match x with
  |.bx k o=>K (.bx k (o+d))
  |.av (.cp cells)=>K (.av (.cp (cells.drop d)))
  |.av (.s (.pointer (some ⟨b,o,none⟩)))=>K (.av (.s (.pointer (some ⟨b,o+d,none⟩))))
  |_=>False
def Rh(bx:Nat->Option (List AV))(st:Store)(x:LV)(K:List AV->Prop):Prop:=
  match x with
  |.bx k o=>optK (bx k) λl=>K (l.drop o)
  |.av (.cp cells)=>K cells
  |.av (.s (.pointer (some ⟨b,o,none⟩)))=>optK (st.obj b) λx=>match x with|.cells l=>K (l.drop o)|_=>False
  |_=>False
def lf(x:LV)(st:Store)(ty:Ty)(K:LV->Prop):Prop:=
  match ty,x with
  |.slice _,.av (.lst _ rows _)=>K (xr .i64 rows.length)
  |.slice _,.av (.s (.slice _ n _))=>K (xr .i64 n)
  |.slice _,.av .emp=>K (xr .i64 (0:Nat))
  |.str,.av (.s (.string s))=>K (xr .i64 s.size)
  |.map _ _,.av (.s (.map none))=>K (xr .i64 0)
  |.map _ _,.av (.s (.map (some r)))=>optK (st.obj r) λx=>match x with|.map es _ _=>K (xr .i64 es.length)|_=>False
  |.array n _,_=>K (xr .i64 n)
  |_,_=>False
def min2(a b:Int):Int:=bif decide (b<a)then b else a
def max2(a b:Int):Int:=bif decide (b>a)then b else a
def Mt(f:Int->Int->Int)(xs:List LV)(K:LV->Prop):Prop:=
  match xs with
  |[.av (.s (.int k a)),.av (.s (.int _ b))]=>K (xr k (f a b))
  |[.av (.s (.int k a)),.av (.s (.int _ b)),.av (.s (.int _ c))]=>K (xr k (f (f a b) c))
  |[.av (.s (.int k a)),.av (.s (.int _ b)),.av (.s (.int _ c)),.av (.s (.int _ d))]=>K (xr k (f (f (f a b) c) d))
  |_=>False
def Kb(c:Cfg)(ev:Operand->LV)(st:Store)(cl:Call)(K:LV->Prop):Prop:=
  match cl.callee with
  | .builtin b=>match b with
    |.len=>optK cl.argTypes[0]? λt=>optK (c.I t) λi=>optK cl.args[0]? λx=>lf (ev x) st i.ty K
    | .cap=>optK cl.argTypes[0]? λt=>optK (c.I t) λi=>optK cl.args[0]? λx=>match i.ty,ev x with
      |.slice _,.av (.s (.slice _ _ n))=>K (xr .i64 n)
      |_,_=>False
    |.min=>Mt min2 (cl.args.toList.map ev) K
    |.max=>Mt max2 (cl.args.toList.map ev) K
    |_=>False
  |_=>False
def Ww(x:LV)(K:LV->Prop):Prop:=
  match x with
  |.any=>K .any
  |.und=>K .und
  |.av y=>K (.av y)
  |.bx k o=>K (.bx k o)
theorem Na(x:LV)(K:LV->Prop):Ww x K=K x:=by cases x<;>rfl
def vcV(c:Cfg)(ev:Operand->LV)(bx:Nat->Option (List AV))(st:Store)(d:Nat)(op:Op)(K:LV->Prop):Prop:=
  match op with
  |.move x|.assign x=>Ww (ev x) K
  | .pick b x y=>match ev b with
    |.av (.s (.bool b))=>Dm b (Ww (ev x) K) (Ww (ev y) K)
    |_=>False
  | .nilCheck x=>match ev x with
    |.bx k o=>K (.bx k o)
    |.av (.cp l)=>K (.av (.cp l))
    |.av (.clos f l)=>K (.av (.clos f l))
    |.av (.s (.pointer (some a)))=>K (.av (.s (.pointer (some a))))
    |.av (.s (.iface t v))=>K (.av (.s (.iface t v)))
    |_=>False
  | .binOp op t x y _=>match ev x,ev y with
    | .av (.s (.int k a)),.av (.s (.int k' b))=>match op with
      |.shl|.shr=>Lg false op k a b K
      |_=>bif decide (k=k')then Lg (c.W.contains d) op k a b K else False
    | .av x,.av y=>match op with
      |.eql=>optK (F0 c.I 5 t x y) λb=>K (jv b)
      |.neq=>optK (F0 c.I 5 t x y) λb=>K (jv (!b))
      |_=>False
    |_,_=>False
  | .unOp op _ x=>match op,ev x with
    |.neg,.av (.s (.int k a))=>arK (c.W.contains d) k (0-a) K
    |.not,.av (.s (.bool b))=>K (jv (!b))
    |_,_=>False
  | .convert s t x=>optK (c.I s) λi=>optK (c.I t) λj=>match i.ty,j.ty,ev x with
    |.int _,.int k,.av (.s (.int _ n))=>arK (c.W.contains d) k n K
    |_,_,_=>False
  |.load t a=>optK (c.I t) λi=>Rh bx st (ev a) λl=>partK i l K
  | .fieldAddr s x f=>optK (c.I s) λi=>match i.ty with
    |.struct fs=>optK fs[f]? λg=>optK (c.I g.2) λj=>bif Nat.blt 0 j.size then Rp (ev x) g.1 K else False
    |_=>False
  | .field s x f=>optK (c.I s) λi=>match i.ty,ev x with
    |.struct fs,.av (.agg cs)=>optK fs[f]? λg=>optK (c.I g.2) λj=>partK j (cs.drop g.1) K
    |_,_=>False
  | .indexAddr t x ix=>optK (c.I t) λi=>match i.ty,ev x,ev ix with
    |.slice e,.av (.lst k rows _),.av (.s (.int _ j))=>optK (c.I e) λie=>bif Nat.beq k ie.size then∃m:Nat,j=(m:Int)/\optK rows[m]? λrow=>K (.av (.cp row))else False
    |.slice e,.av (.s (.slice (some ⟨b,o,none⟩) len _)),.av (.s (.int _ j))=>optK (c.I e) λie=>∃m:Nat,j=(m:Int)/\m<len/\K (.av (.s (.pointer (some ⟨b,o+m*ie.size,none⟩))))
    |.array n e,p,.av (.s (.int _ j))=>optK (c.I e) λie=>∃m:Nat,j=(m:Int)/\m<n/\Rp p (m*ie.size) K
    |_,_,_=>False
  | .index t x ix=>optK (c.I t) λi=>match i.ty,ev x,ev ix with
    |.array n e,.av (.agg cs),.av (.s (.int _ j))=>optK (c.I e) λie=>∃m:Nat,j=(m:Int)/\m<n/\partK ie (cs.drop (m*ie.size)) K
    |.str,.av (.s (.string s)),.av (.s (.int _ j))=>∃m:Nat,j=(m:Int)/\optK s[m]? λb=>K (xr .u8 b.toNat)
    |_,_,_=>False
  | .slice t x lo hi mx=>bif mx.isSome then False else optK (c.I t) λi=>match i.ty,ev x,Gl ev lo,Gl ev hi with
    |.slice e,.av (.lst k rows _),some l,some h=>optK (c.I e) λie=>bif Nat.beq k ie.size then∃p q:Nat,l.getD 0=(p:Int)/\h.getD (rows.length:Int)=(q:Int)/\p<=q/\q<=rows.length/\(K (.av (.lst k ((rows.take q).drop p) none)))else False
    |.slice e,.av (.s (.slice (some ⟨b,o,none⟩) len cap)),some l,some h=>optK (c.I e) λie=>∃p q:Nat,l.getD 0=(p:Int)/\h.getD (len:Int)=(q:Int)/\p<=q/\q<=cap/\((p<cap/\K (.av (.s (.slice (some ⟨b,o+p*ie.size,none⟩) (q-p) (cap-p)))))\/(p=cap/\K (.av (.s (.slice (some ⟨b,o,none⟩) 0 0)))))
    |.slice e,.av (.s (.slice none 0 0)),some l,some h=>optK (c.I e) λ_=>l.getD 0=0/\h.getD 0=0/\K (.av (.s (.slice none 0 0)))
    |.array n e,.av (.s (.pointer (some ⟨b,o,none⟩))),some none,some none=>optK (c.I e) λ_=>K (.av (.s (.slice (some ⟨b,o,none⟩) n n)))
    |_,_,_,_=>False
  | .extract x ix=>match ev x with
    |.av (.tup vs)=>optK vs[ix]? λx=>K (.av x)
    |_=>False
  | .build t parts=>optK (c.I t) λi=>match i.ty with
    |.struct fs=>optK (zeb c.I fs) λpl=>optK (I2 (λi=>pl[i]?) (i.zero.map AV.s) (parts.toList.map λp=>(p.1,ev p.2))) λcs=>Gv cs λcs=>K (.av (.agg cs))
    |.array _ e=>optK (c.I e) λie=>optK (I2 (λj=>some (j*ie.size,ie.size)) (i.zero.map AV.s) (parts.toList.map λp=>(p.1,ev p.2))) λcs=>Gv cs λcs=>K (.av (.agg cs))
    |_=>False
  | .makeFunc fn first cap=>match fn with
    |.func f=>bif first.isEmpty then optK (cap.toList.mapM λx=>(ev x).toAV) λl=>K (.av (.clos f l))else optK (first.toList.mapM λx=>(ev x).toV) λl=>bif cap.isEmpty then K (.av (.s (.func (.func f) l.toArray #[])))else False
    |_=>False
  |.call cl=>Kb c ev st cl K
  |_=>False
structure Env(w:World)(T:Nat->Nat->Prop)(β:Nat->Nat)(ev:Operand->LV)(bx:Nat->Option (List AV))(st:Store)(ρ:Operand->Value):Prop where
  ev:∀x,LRel w T β (ev x) (ρ x)
  bx:∀k l,bx k=some l->CellsRel w T l (β k)
  obj:∀b x,st.obj b=some x->ObjRel w T x b
def Az(P:Program)(c:Cfg)(ev:Operand->LV)(bx:Nat->Option (List AV))(st:Store)(d:Nat)(op:Op)(K:LV->Prop):Prop:=
  ∃ x,K x/\(∀K':LV->Prop,K' x->vcV c ev bx st d op K')∧
    ∀w T β ρ (o:Oper),o.op=op->Env w T β ev bx st ρ->∃v,(execOp ρ o).run P w=.ok (.value v) w/\LRel w T β x v
section
variable {P:Program} {c:Cfg} {ev:Operand->LV} {bx:Nat->Option (List AV)} {st:Store} {d:Nat} {K:LV->Prop}
variable {w:World} {T:Nat->Nat->Prop} {β:Nat->Nat} {ρ:Operand->Value}
theorem VRel.eq_s{v u:Value}(h:VRel w T (.s v) u):u=v:=by generalize hx:AV.s v=x at h;cases h<;>cases hx;rfl
theorem Env.s(he:Env w T β ev bx st ρ){x:Operand}{v:Value}(h:ev x=.av (.s v)):ρ x=v:=by have:=he.ev x;rw[h]at this;exact VRel.eq_s this
theorem yms(x:Operand)(h:vcV c ev bx st d (.move x) K):Az P c ev bx st d (.move x) K:=
  ⟨ev x,θ4,λ_ h=>θ4,λw T β ρ o ho he=>⟨ρ x,by simp[execOp,ho],he.ev x⟩⟩
theorem ym4(x:Operand)(h:vcV c ev bx st d (.assign x) K):Az P c ev bx st d (.assign x) K:=
  ⟨ev x,θ4,λ_ h=>θ4,λw T β ρ o ho he=>⟨ρ x,by simp[execOp,ho],he.ev x⟩⟩
theorem ymq(b x y:Operand)(h:vcV c ev bx st d (.pick b x y) K):Az P c ev bx st d (.pick b x y) K:=by
  simp only[vcV]at h;split at h
  · rename_i t hb
    refine⟨bif t then ev x else ev y,?_,λK' h'=>?_,λw T β ρ o ho he=>⟨if t then ρ x else ρ y,?_,?_⟩⟩
    · simp only[Na]at h
      cases t<;>exact h
    · simp only[vcV,hb,Na]
      cases t<;>exact h'
    · have:=he.s hb
      simp[execOp,ho,this,asBool]
    · cases t<;>simp[he.ev]
  grind
theorem Nv{wr:Bool}{k:IntKind}{v:Int}(h:arK wr k v K):K (xr k (k.wrap v))/\∀K':LV->Prop,K' (xr k (k.wrap v))->arK wr k v K':=by grind[arK,N6]
theorem ylc{wr:Bool}{op:BinOp}{k k':IntKind}{a b:Int}(h:Lg wr op k a b K)(hk:op≠.shl->op≠.shr->k=k'):
    ∃z:Value,K (.av (.s z))/\(∀K':LV->Prop,K' (.av (.s z))->Lg wr op k a b K')/\∀t w,(binOp op t (.int k a) (.int k' b)).run P w=.ok z w:=by
  cases op<;>simp only[Lg]at h
  case add=>
    obtain⟨h1,h2⟩:=Nv h;obtain rfl:=hk φ φ;exact⟨_,h1,h2,λt w=>by simp[binOp,Op.intArith]⟩
  case sub=>
    obtain⟨h1,h2⟩:=Nv h;obtain rfl:=hk φ φ;exact⟨_,h1,h2,λt w=>by simp[binOp,Op.intArith]⟩
  case mul=>
    obtain⟨h1,h2⟩:=Nv h;obtain rfl:=hk φ φ;exact⟨_,h1,h2,λt w=>by simp[binOp,Op.intArith]⟩
  case quo=>
    obtain⟨hb,h⟩:=h;obtain⟨h1,h2⟩:=Nv h;obtain rfl:=hk φ φ;exact⟨_,h1,λK' h'=>⟨hb,h2 K' h'⟩,λt w=>by simp[binOp,Op.intDiv,hb]⟩
  case rem=>
    obtain⟨hb,h⟩:=h;obtain rfl:=hk φ φ;exact⟨_,h,λK' h'=>⟨hb,h'⟩,λt w=>by simp[binOp,Op.intDiv,hb]⟩
  case shl=>
    obtain⟨hb,h⟩:=h;exact⟨_,h,λK' h'=>⟨hb,h'⟩,λt w=>by simp[binOp,Op.shift,Int.not_lt.2 hb]⟩
  case shr=>
    obtain⟨hb,h⟩:=h;exact⟨_,h,λK' h'=>⟨hb,h'⟩,λt w=>by simp[binOp,Op.shift,Int.not_lt.2 hb]⟩
  all_goals
    obtain rfl:=hk φ φ;exact⟨_,h,λ_ h'=>h',λt w=>by simp[binOp,Op.intBits,Op.intCmp,jk]⟩
theorem yo0(op:BinOp)(t:TypeId)(x y:Operand)(k k':IntKind)(a b:Int)(w:World):(eqGuard op t x y (.int k a) (.int k' b)).run P w=.ok () w:=by cases op<;>rfl
end
section
variable {P:Program} {I:Info} {w:World} {T:Nat->Nat->Prop}
theorem L4{t:TypeId}{i:TI}{k:IntKind}(h:TIok P t i)(hy:i.ty=.int k):P.underlying t=some (.int k):=θo
theorem rx{t:TypeId}{i:TI}(h:TIok P t i)(hy:i.ty=.bool):P.underlying t=some .bool:=ψq
theorem dp{t:TypeId}{i:TI}(h:TIok P t i)(hy:i.ty=.str):P.underlying t=some .string:=ψq
theorem ja{t:TypeId}{i:TI}{e:TypeId}(h:TIok P t i)(hy:i.ty=.slice e):P.underlying t=some (.slice e):=θo
theorem R4{t:TypeId}{i:TI}{e:TypeId}(h:TIok P t i)(hy:i.ty=.ptr e):P.underlying t=some (.pointer e):=θo
theorem Od{t:TypeId}{i:TI}{n:Nat}{e:TypeId}(h:TIok P t i)(hy:i.ty=.array n e):P.underlying t=some (.array n e):=θo
theorem Ke{t:TypeId}{i:TI}{k e:TypeId}(h:TIok P t i)(hy:i.ty=.map k e):P.underlying t=some (.map k e):=θo
theorem dq{t:TypeId}{i:TI}(h:TIok P t i)(hy:i.ty=.func):∃a b c,P.underlying t=some (.func a b c):=θo
theorem Oc{t:TypeId}{i:TI}{fs:List (Nat×TypeId)}(h:TIok P t i)(hy:i.ty=.struct fs):
    ∃a:Array Field,P.underlying t=some (.struct a)/\(a.toList.map λf=>(f.offset,f.type))=fs:=by
  obtain⟨d,h1,h2⟩:=h.und;rw[hy]at h2;cases d<;>simp[Cq]at h2;grind
theorem kh{t:TypeId}{i:TI}(h:TIok P t i)(w:World):(sizeOf t).run P w=.ok i.size w:=by obtain⟨inf,h1,h2,_⟩:=h.info;simp_all[sizeOf,typeInfo]
theorem Ss{t:TypeId}{i:TI}(h:TIok P t i)(w:World):(isAgg t).run P w=.ok (Cy i.ty) w:=by obtain⟨d,h1,h2⟩:=h.und;cases d<;>simp[Cq]at h2<;>rw[<-h2]<;>simp_all[isAgg,underlying,Cy]
theorem yn{t:TypeId}{d:TypeDesc}(h:P.underlying t=some d)(w:World):(underlying t).run P w=.ok d w:=by simp[underlying,run_program,h]
theorem Mf{t:TypeId}{i:TI}(h:TIok P t i)(w:World):∃z,(zeroValue t).run P w=.ok z w/\z.cells.toList=i.zero:=by obtain⟨inf,h1,_,_,z,h3,h4⟩:=h.info;simp_all[zeroValue,typeInfo]
def Reads(w:World)(T:Nat->Nat->Prop)(l:List AV)(c:List Value):Prop:=l.length=c.length/\∀(i:Nat) (x:AV) (y:Value),l[i]?=some x->c[i]?=some y->VRel w T x y
theorem Reads.drop{l:List AV}{c:List Value}(h:Reads w T l c)(n:Nat):Reads w T (l.drop n) (c.drop n):=
  ⟨by simp[h.1],λi x y hx hy=>h.2 (n+i) x y δ δ⟩
theorem Reads.take{l:List AV}{c:List Value}(h:Reads w T l c)(n:Nat):Reads w T (l.take n) (c.take n):=
  ⟨by simp[h.1],λi x y hx hy=>by
    rw[Fd5]at hx hy;split at hx
    · rename_i hi;simp only[hi,if_true]at hy;exact h.2 i x y hx hy
    grind⟩
theorem Reads.nil:Reads w T [] []:=⟨rfl,λ_ _ _ h _=>θi⟩
theorem Reads.cons{x:AV}{v:Value}{l:List AV}{c:List Value}(h:VRel w T x v)(hl:Reads w T l c):Reads w T (x::l) (v::c):=
  ⟨by simp[hl.1],λi a b ha hb=>by
    cases i with
    |zero=>grind
    |succ i=>exact hl.2 i a b δ δ⟩
theorem Reads.append{l l':List AV}{c c':List Value}(h:Reads w T l c)(h':Reads w T l' c'):Reads w T (l++l') (c++c'):=
  ⟨by simp[h.1,h'.1],λi x y hx hy=>by
    rcases Nat.lt_or_ge i l.length with hi|hi
    · rw[Fau hi]at hx
      rw[Fau (by rw[<-h.1];exact hi)]at hy;exact h.2 i x y hx hy
    · rw[Fa0 hi]at hx
      rw[Fa0 (by rw[<-h.1];exact hi)]at hy;rw[<-h.1]at hy;exact h'.2 _ x y hx hy⟩
theorem Reads.keep{w':World}{T':Nat->Nat->Prop}{l:List AV}{c:List Value}(h:Reads w T l c)(hk:Keeps w T w' T'):Reads w' T' l c:=
  ⟨h.1,λi x y hx hy=>(h.2 i x y hx hy).keep hk⟩
theorem Reads.map_s(c:List Value):Reads w T (c.map AV.s) c:=
  ⟨φ,λi x y hx hy=>by rw[Faq,hy]at hx;simp at hx;subst hx;exact .s _⟩
theorem Reads.getElem?{l:List AV}{c:List Value}(h:Reads w T l c){i:Nat}{x:AV}(hx:l[i]?=some x):∃v,c[i]?=some v/\VRel w T x v:=by
  have hi:=(Fa2.1 hx).1;have hi':i<c.length:=by rw[<-h.1];exact hi
  exact⟨_,Fac hi',h.2 i x _ hx (Fac hi')⟩
theorem G9{l:List AV}{v:Value}(h:VRel w T (.agg l) v):∃c,v=.agg c/\Reads w T l c.toList:=by
  cases h with
  |agg _ c hl h=>exact⟨c,rfl,by simp[hl],λi x y hx hy=>h i x y hx δ⟩
theorem p9{l:List AV}{v:Value}(h:VRel w T (.tup l) v):∃c,v=.tuple c/\Reads w T l c.toList:=by
  cases h with
  |tup _ c hl h=>exact⟨c,rfl,by simp[hl],λi x y hx hy=>h i x y hx δ⟩
theorem Oa{l:List AV}{c:Array Value}(h:Reads w T l c.toList):VRel w T (.agg l) (.agg c):=
  .agg l c (by simpa using h.1) λi x y hx hy=>h.2 i x y hx δ
theorem vx{l:List AV}{c:Array Value}(h:Reads w T l c.toList):VRel w T (.tup l) (.tuple c):=
  .tup l c (by simpa using h.1) λi x y hx hy=>h.2 i x y hx δ
theorem Mn(i:TI)(l:List AV)(K:LV->Prop):partK i l K=optK (Dx i l) λx=>K (.av x):=by unfold partK Dx;cases Cy i.ty<;>simp only[cond_true,cond_false,Gu];cases Nat.ble i.size l.length<;>rfl
theorem O5{t:TypeId}{i:TI}(hi:TIok P t i){l:List AV}{cs:Array Value}(h:Reads w T l cs.toList){off:Nat}{x:AV}(hx:Dx i (l.drop off)=some x):
    ∃v,(part t cs off).run P w=.ok v w/\VRel w T x v:=by
  unfold Dx at hx;cases ha:Cy i.ty with
  | true=>
    simp only[ha,cond_true]at hx;cases hb:Nat.ble i.size (l.drop off).length with
    |false=>grind
    | true=>
      simp only[hb,cond_true,Faf]at hx;subst hx;refine⟨.agg (cs.extract off (off+i.size)),by simp[part,Ss hi,ha,kh hi],Oa ?_⟩;have:(cs.extract off (off+i.size)).toList=(cs.toList.drop off).take i.size:=φ;rw[this];exact(h.drop off).take i.size
  | false=>
    simp only[ha,cond_false]at hx;have hx':l[off]?=some x:=θh;obtain⟨v,hv,hr⟩:=h.getElem? hx';refine⟨v,?_,hr⟩;have:cs[off]?=some v:=δ;simp[part,Ss hi,ha,this]
theorem zeo(hI:y9 P I):∀(d:Nat) (t:TypeId) (x y:AV) (b:Bool),F0 I d t x y=some b->∀(D:Nat),d<=D->∀u v,VRel w T x u->VRel w T y v->
    (Op.equalIn D t u v).run P w=.ok b w:=by
  intro d;induction d with
  |zero=>intro t x y b h;trivial
  | succ d ih=>
    intro t x y b h D hD u v hu hv;obtain⟨D,rfl⟩:∃D',D=D'+1:=⟨D-1,θ⟩
    rw[F0]at h;cases hi:I t with
    |none=>grind
    | some i=>
      rw[hi]at h;have ht:=hI t i hi;simp only at h;split at h
      · rename_i k k1 a k2 a' hy
        by_cases hk:k1=k2
        · subst hk
          simp at h;subst h;rw[VRel.eq_s hu,VRel.eq_s hv];simp[Op.equalIn,yn (L4 ht hy)]
        grind
      · rename_i a a' hy
        simp at h;subst h;rw[VRel.eq_s hu,VRel.eq_s hv];simp[Op.equalIn,yn (rx ht hy)]
      · rename_i a a' hy
        simp at h;subst h;rw[VRel.eq_s hu,VRel.eq_s hv];simp[Op.equalIn,yn (dp ht hy)]
      · rename_i fs xs ys hy
        cases he:i.eq with
        |false=>grind
        | true=>
          simp only[he,cond_true]at h;obtain⟨c1,rfl,h1⟩:=G9 hu;obtain⟨c2,rfl,h2⟩:=G9 hv;obtain⟨a,ha1,ha2⟩:=Oc ht hy;obtain⟨e1,_,e3⟩:=ht.eqs he;have hf:P.fieldsOf t=a:=by simp[Program.fieldsOf,ha1]
          rw[run_equalIn_struct w D t c1 c2 δ e1,hf];have hn:=e3 a ha1;subst ha2;clear hf e3 ha1 e1 he hy ht hi hu hv;generalize a.toList=fl at*;induction fl generalizing b with
          |nil=>simp at h;subst h;rfl
          | cons f fl ihf=>
            simp only[Fb7,List.foldr_cons]at h;cases hj:I f.type with
            |none=>grind
            | some j=>
              simp only[hj]at h;cases hp:Dx j (xs.drop f.offset)with
              |none=>grind
              | some u'=>
                cases hq:Dx j (ys.drop f.offset)with
                |none=>grind
                | some v'=>
                  simp only[hp,hq]at h;split at h
                  · rename_i p q hpp hqq
                    simp at h;subst h;obtain⟨vu,r1,r2⟩:=O5 (hI _ _ hj) h1 hp;obtain⟨vv,r3,r4⟩:=O5 (hI _ _ hj) h2 hq;have r5:=ih f.type u' v' p hpp D θ vu vv r2 r4;have r6:=ihf q (λg hg=>hn g (Fav _ hg)) hqq
                    have hne : f.name ≠ "_" := hn f (by simp)
                    rw[Op.eqFields,if_pos hne];simp only[Sem.run_bind,r1,r3,r5,Result.andThen_ok];cases p with
                    |true=>grind
                    |false=>simp
                  · cases h
      · rename_i e hy
        simp at h;subst h;rw[VRel.eq_s hu,VRel.eq_s hv];simp[Op.equalIn,yn (ja ht hy)]
      · rename_i hy
        obtain⟨_,_,_,hy⟩:=dq ht hy;simp at h;subst h;rw[VRel.eq_s hu,VRel.eq_s hv];simp[Op.equalIn,yn hy]
      · rename_i hy
        obtain⟨_,_,_,hy⟩:=dq ht hy;simp at h;subst h;rw[VRel.eq_s hv];cases hu;simp[Op.equalIn,yn hy]
      · rename_i hy
        obtain⟨_,_,_,hy⟩:=dq ht hy;simp at h;subst h;rw[VRel.eq_s hu];cases hv;simp[Op.equalIn,yn hy]
      · rename_i hy
        simp at h;subst h;rw[VRel.eq_s hu,VRel.eq_s hv];simp[Op.equalIn,yn (R4 ht hy)]
      · rename_i hy
        simp at h;subst h;rw[VRel.eq_s hu,VRel.eq_s hv];simp[Op.equalIn,yn (R4 ht hy)]
      · rename_i hy
        simp at h;subst h;rw[VRel.eq_s hu,VRel.eq_s hv];simp[Op.equalIn,yn (R4 ht hy)]
      · rename_i hy
        simp at h;subst h;rw[VRel.eq_s hu,VRel.eq_s hv];simp[Op.equalIn,yn (ja ht hy)]
      · cases h
end
section
variable {P:Program} {c:Cfg} {ev:Operand->LV} {bx:Nat->Option (List AV)} {st:Store} {d:Nat} {K:LV->Prop}
theorem qk{w:World}{T:Nat->Nat->Prop}{β:Nat->Nat}{ρ:Operand->Value}(he:Env w T β ev bx st ρ){x:Operand}{a:AV}(h:ev x=.av a):VRel w T a (ρ x):=by have:=he.ev x;rw[h]at this;exact this
theorem zyu(a b:ByteArray):(a==b)=(a.data.toList==b.data.toList):=by obtain⟨⟨a⟩⟩:=a;obtain⟨⟨b⟩⟩:=b;rw[Fbu];show(Array.mk a==Array.mk b)=true↔_;simp
theorem zem(hI:y9 P c.I){op:BinOp}(hop:op=.eql\/op=.neq){t:TypeId}{x y:AV}{b:Bool}{w:World}{T:Nat->Nat->Prop}{u v:Value}(hx:VRel w T x u)(hy:VRel w T y v)
    (h:F0 c.I 5 t x y=some b) (hn:∀k p k' q,x=.s (.int k p)->y=.s (.int k' q)->False) (ox oy:Operand):
    (eqGuard op t ox oy u v).run P w=.ok () w/\(binOp op t u v).run P w=.ok (.bool (if op=.eql then b else !b)) w:=by
  have r:=zeo (P:=P) hI 5 t x y b h 10000 θ u v hx hy;rw[F0]at h;cases hi:c.I t with
  |none=>grind
  | some i=>
    rw[hi]at h;have ht:=hI t i hi;simp only at h;split at h
    · grind
    · rw[VRel.eq_s hx,VRel.eq_s hy]at r⊢
      rcases hop with rfl|rfl<;>simp[eqGuard,binOp,Op.equal,Op.maxDepth,r]
    · rename_i a1 b1 hty
      rw[VRel.eq_s hx,VRel.eq_s hy]at r⊢;have hb:(a1.toList==b1.toList)=b:=by grind[Go.ByteArray.toList_eq,zyu]
      rcases hop with rfl|rfl<;>simp_all[eqGuard,binOp,Op.stringOp]
    · rename_i fs xs ys hty
      cases he:i.eq with
      |false=>grind
      | true=>
        obtain⟨c1,rfl,h1⟩:=G9 hx;obtain⟨c2,rfl,h2⟩:=G9 hy;obtain⟨_,e2,_⟩:=ht.eqs he;refine⟨run_eqGuard_agg w op t ox oy c1 c2 e2,?_⟩;rcases hop with rfl|rfl<;>simp[binOp,Op.equal,Op.maxDepth,r]
    · rw[VRel.eq_s hx,VRel.eq_s hy]at r⊢
      rcases hop with rfl|rfl<;>simp[eqGuard,binOp,Op.equal,Op.maxDepth,r]
    · rw[VRel.eq_s hx,VRel.eq_s hy]at r⊢
      rcases hop with rfl|rfl<;>simp[eqGuard,binOp,Op.equal,Op.maxDepth,r]
    · rw[VRel.eq_s hy]at r⊢
      cases hx;rcases hop with rfl|rfl<;>simp[eqGuard,binOp,Op.equal,Op.maxDepth,r]
    · rw[VRel.eq_s hx]at r⊢
      cases hy;rcases hop with rfl|rfl<;>simp[eqGuard,binOp,Op.equal,Op.maxDepth,r]
    · rw[VRel.eq_s hx,VRel.eq_s hy]at r⊢
      rcases hop with rfl|rfl<;>simp[eqGuard,binOp,Op.equal,Op.maxDepth,r]
    · rw[VRel.eq_s hx,VRel.eq_s hy]at r⊢
      rcases hop with rfl|rfl<;>simp[eqGuard,binOp,Op.equal,Op.maxDepth,r]
    · rw[VRel.eq_s hx,VRel.eq_s hy]at r⊢
      rcases hop with rfl|rfl<;>simp[eqGuard,binOp,Op.equal,Op.maxDepth,r]
    · rw[VRel.eq_s hx,VRel.eq_s hy]at r⊢
      rcases hop with rfl|rfl<;>simp[eqGuard,binOp,Op.equal,Op.maxDepth,r]
    · cases h
theorem ym3(hI:y9 P c.I)(op:BinOp)(t:TypeId)(x y:Operand)(yt:TypeId)(h:vcV c ev bx st d (.binOp op t x y yt) K):Az P c ev bx st d (.binOp op t x y yt) K:=by
  simp only[vcV]at h;split at h
  · rename_i k a k' b hx hy
    have key:(∃wr,Lg wr op k a b K/\(op≠.shl->op≠.shr->k=k')/\∀K',Lg wr op k a b K'->vcV c ev bx st d (.binOp op t x y yt) K'):=by
      split at h
      · simp_all[vcV]
      · simp_all[vcV]
      · rename_i h1 h2
        by_cases hk:k=k'
        · refine⟨c.W.contains d,δ,λ_ _=>hk,λK' h'=>?_⟩
          simp_all[vcV]
        grind
    obtain⟨wr,h1,h2,h3⟩:=key;obtain⟨z,k1,k2,k3⟩:=ylc (P:=P) h1 h2;refine⟨_,k1,λK' h'=>h3 K' (k2 K' h'),λw T β ρ o ho he=>⟨z,?_,VRel.s _⟩⟩;simp[execOp,ho,he.s hx,he.s hy,yo0,k3]
  · rename_i u v hn hx hy
    have hn':∀k p k' q,u=.s (.int k p)->v=.s (.int k' q)->False:=λk p k' q h1 h2=>hn k p k' q (by rw[h1]) (by rw[h2]);split at h
    · obtain⟨b,hb,hk⟩:=zr h
      refine⟨_,hk,λK' h'=>?_,λw T β ρ o ho he=>⟨.bool b,?_,VRel.s _⟩⟩
      · simp_all[vcV,za]
      · obtain⟨h1,h2⟩:=zem hI (op:=.eql) (.inl rfl) (qk he hx) (qk he hy) hb hn' x y
        simp[execOp,ho,h1,h2]
    · obtain⟨b,hb,hk⟩:=zr h
      refine⟨_,hk,λK' h'=>?_,λw T β ρ o ho he=>⟨.bool !b,?_,VRel.s _⟩⟩
      · simp_all[vcV,za]
      · obtain⟨h1,h2⟩:=zem hI (op:=.neq) (.inr rfl) (qk he hx) (qk he hy) hb hn' x y
        simp[execOp,ho,h1,h2]
    grind
  grind
theorem ymr(x:Operand)(h:vcV c ev bx st d (.nilCheck x) K):Az P c ev bx st d (.nilCheck x) K:=by
  simp only[vcV]at h;split at h
  · rename_i k o hx
    refine⟨_,h,λK' h'=>θp,λw T β ρ o ho he=>?_⟩;have:=he.ev x;rw[hx]at this;exact⟨ρ x,by rw[show ρ x=_ from this];simp[execOp,ho,show ρ x=_ from this],this⟩
  · rename_i l hx
    refine⟨_,h,λK' h'=>θp,λw T β ρ o ho he=>⟨ρ x,?_,qk he hx⟩⟩;have:=qk he hx;generalize hv:ρ x=v at*;cases this;simp[execOp,ho,hv]
  · rename_i f l hx
    refine⟨_,h,λK' h'=>θp,λw T β ρ o ho he=>⟨ρ x,?_,qk he hx⟩⟩;have:=qk he hx;generalize hv:ρ x=v at*;cases this;simp[execOp,ho,hv]
  · rename_i a hx
    refine⟨_,h,λK' h'=>θp,λw T β ρ o ho he=>⟨ρ x,?_,qk he hx⟩⟩;simp[execOp,ho,he.s hx]
  · rename_i t0 v0 hx
    refine⟨_,h,λK' h'=>θp,λw T β ρ o ho he=>⟨ρ x,?_,qk he hx⟩⟩;simp[execOp,ho,he.s hx]
  grind
theorem ymn(op:UnOp)(t:TypeId)(x:Operand)(h:vcV c ev bx st d (.unOp op t x) K):Az P c ev bx st d (.unOp op t x) K:=by
  simp only[vcV]at h;split at h
  · rename_i k a hx
    obtain⟨h1,h2⟩:=Nv h;refine⟨_,h1,λK' h'=>by simp only[vcV,hx];grind,λw T β ρ o ho he=>⟨_,?_,VRel.s _⟩⟩;simp[execOp,ho,he.s hx,Op.unary,Op.intArith]
  · rename_i b hx
    refine⟨_,h,λK' h'=>θp,λw T β ρ o ho he=>⟨_,?_,VRel.s _⟩⟩;simp[execOp,ho,he.s hx,Op.unary]
  grind
theorem ym0(hI:y9 P c.I)(s t:TypeId)(x:Operand)(h:vcV c ev bx st d (.convert s t x) K):Az P c ev bx st d (.convert s t x) K:=by
  simp only[vcV]at h;obtain⟨i,hi,h⟩:=zr h;obtain⟨j,hj,h⟩:=zr h;split at h
  · rename_i k1 k k2 n hy1 hy2 hx
    obtain⟨h1,h2⟩:=Nv h;refine⟨_,h1,λK' h'=>?_,λw T β ρ o ho he=>⟨_,?_,VRel.s _⟩⟩
    · simp only[vcV]
      grind[za]
    · simp[execOp,ho,he.s hx,convert,yn (L4 (hI _ _ hi) hy1),yn (L4 (hI _ _ hj) hy2),Conv.intToInt]
  grind
theorem ymz(x:Operand)(ix:Nat)(h:vcV c ev bx st d (.extract x ix) K):Az P c ev bx st d (.extract x ix) K:=by
  simp only[vcV]at h;split at h
  · rename_i vs hx
    obtain⟨y,hy,h⟩:=zr h;refine⟨_,h,λK' h'=>by simp_all[vcV,za],λw T β ρ o ho he=>?_⟩;obtain⟨cs,hc,hr⟩:=p9 (qk he hx);obtain⟨v,hv,hvr⟩:=hr.getElem? hy;have hv':cs[ix]?=some v:=δ;exact⟨v,by simp_all[execOp,Instr.extract],hvr⟩
  grind
theorem Mu{α β:Type}{f:α->Option β}:∀{l:List α} {m:List β},l.mapM f=some m->m.length=l.length/\∀(i:Nat) (x:β),m[i]?=some x->∃a,l[i]?=some a/\f a=some x:=by
  intro l;induction l with
  |nil=>simp
  | cons a l ih=>
    intro m h;rw[List.mapM_cons]at h;cases hf:f a with
    |none=>grind
    | some b=>
      cases hl:l.mapM f with
      |none=>grind
      | some m'=>
        grind
theorem ymt(fn:Fn)(first cap:Array Operand)(h:vcV c ev bx st d (.makeFunc fn first cap) K):Az P c ev bx st d (.makeFunc fn first cap) K:=by
  cases fn<;>simp only[vcV]at h<;>try exact h.elim
  rename_i f;cases hf:first.isEmpty with
  | false=>
    rw[hf]at h;simp only[cond_false]at h;obtain⟨l,hl,h⟩:=zr h;cases hc:cap.isEmpty with
    |false=>grind
    | true=>
      have hcap:cap=#[]:=δ;subst hcap;replace h:K (.av (.s (.func (.func f) l.toArray #[]))):=h;refine⟨_,h,λK' h'=>by simp_all[vcV,za],λw T β ρ o ho he=>⟨.func (.func f) (first.map ρ) #[],?_,?_⟩⟩
      · simp[execOp,ho,Instr.makeFunc]
      · obtain⟨h1,h2⟩:=Mu hl
        have e:l.toArray=first.map ρ:=by
          apply Array.ext';apply Fb8;intro i;rw[Fck,Faq];cases hi:l[i]? with
          | none=>
            grind
          | some x=>
            obtain⟨a,ha,hfa⟩:=h2 i x hi;have:=VRel.eq_s (qk he (zjp hfa));grind
        rw[e];exact .s _
  | true=>
    rw[hf]at h;simp only[cond_true]at h;obtain⟨l,hl,h⟩:=zr h;refine⟨_,h,λK' h'=>by simp_all[vcV,za],λw T β ρ o ho he=>⟨.func (.func f) #[] (cap.map ρ),?_,?_⟩⟩
    · simp_all[execOp,Instr.makeFunc]
    · obtain⟨h1,h2⟩:=Mu hl
      refine VRel.clos f l _ δ λi x y hx hy=>?_;obtain⟨a,ha,hfa⟩:=h2 i x hx;have ha':cap[i]?=some a:=δ;rw[Array.getElem?_map,ha']at hy;simp at hy;subst hy;exact qk he (Oe hfa)
theorem Mg(a:Addr)(w:World)(f:Nat->Value):∀(n i:Nat) (acc:Array Value),(∀j,i<=j->j<i+n->w.cell? (a.add j)=some (f j))->
    (loadCellsFrom a i n acc).run P w=.ok (acc++((List.range' i n).map f).toArray) w:=by
  intro n;induction n with
  |zero=>intro i acc _;rfl
  | succ n ih=>
    intro i acc h;have h0:=h i (Fak _) θ;have:(load (a.add i)).run P w=.ok (f i) w:=θh;simp only[loadCellsFrom,Sem.run_bind,this,Result.andThen_ok];rw[ih (i+1) (acc.push (f i)) (λj h1 h2=>h j θ θ)];simp[List.range'_succ]
theorem wx(b off n:Nat):(Addr.add ⟨b,off,none⟩ n)=⟨b,off+n,none⟩:=by grind[Addr.add]
def po(w:World)(T:Nat->Nat->Prop)(l:List AV)(b off:Nat):Prop:=∃f:Nat->Value,∀j x,l[j]?=some x->w.cell? ⟨b,off+j,none⟩=some (f j)/\VRel w T x (f j)
theorem zcp{w:World}{T:Nat->Nat->Prop}{t:TypeId}{i:TI}(hi:TIok P t i){l:List AV}{b off:Nat}(h:po w T l b off){x:AV}(hx:Dx i l=some x):
    ∃v,(loadVar t ⟨b,off,none⟩).run P w=.ok v w/\VRel w T x v:=by
  obtain⟨f,h⟩:=h;unfold Dx at hx;cases ha:Cy i.ty with
  | true=>
    simp only[ha,cond_true]at hx;cases hb:Nat.ble i.size l.length with
    |false=>grind
    | true=>
      simp only[hb,cond_true,Faf]at hx;subst hx;have hle:i.size<=l.length:=Fbm hb;have hr:(loadCells ⟨b,off,none⟩ i.size).run P w=.ok (#[]++((List.range' 0 i.size).map f).toArray) w:=by refine Mg _ w f i.size 0 #[] λj _ hj=>?_;rw[wx];exact(h j _ (Fac θ)).1
      refine⟨.agg (#[]++((List.range' 0 i.size).map f).toArray),by simp only[loadVar,Sem.run_bind,Ss hi,ha,Result.andThen_ok,if_true,kh hi,hr,Sem.run_pure],Oa ?_⟩;refine⟨δ,λj y v hy hv=>?_⟩;grind
  | false=>
    simp only[ha,cond_false]at hx;have hx':l[0]?=some x:=by grind[List.head?_eq_getElem?]
    obtain⟨h1,h2⟩:=h 0 x hx';refine⟨f 0,?_,h2⟩;simp only[loadVar,Sem.run_bind,Ss hi,ha,Result.andThen_ok];simp_all
theorem CellsRel.avail{w:World}{T:Nat->Nat->Prop}{l:List AV}{b:Nat}(h:CellsRel w T l b)(o:Nat):po w T (l.drop o) b o:=by
  obtain⟨c,e,fr,h1,_,h3,h4⟩:=h;refine⟨λj=>c.getD (o+j) undef,λj x hx=>?_⟩;have hx':l[o+j]?=some x:=δ;have hlt:o+j<c.size:=δ;have hc:c[o+j]?=some (c.getD (o+j) undef):=by simp[hlt]
  grind[World.cell?]
theorem zfr{x:LV}{K:List AV->Prop}(h:Rh bx st x K):
    ∃l,K l/\(∀K':List AV->Prop,K' l->Rh bx st x K')/\∀w T β ρ,Env w T β ev bx st ρ->∀v,LRel w T β x v->∃b off,v=.pointer (some ⟨b,off,none⟩)/\po w T l b off:=by
  unfold Rh at h;split at h
  · rename_i k o
    obtain⟨l,hl,h⟩:=zr h;exact⟨_,h,λK' h'=>za l hl h',λw T β ρ he v hv=>⟨β k,o,hv,(he.bx k l hl).avail o⟩⟩
  · rename_i cells
    refine⟨_,h,λK' h'=>h',λw T β ρ he v hv=>?_⟩;cases hv with
    |cp _ b off f hc hx=>exact⟨b,off,rfl,f,λj x hj=>⟨(hc j x hj).1,hx j x hj⟩⟩
  · rename_i b o
    obtain⟨y,hy,h⟩:=zr h;cases y with
    |cells l=>exact⟨_,h,λK' h'=>za _ hy h',λw T β ρ he v hv=>⟨b,o,VRel.eq_s hv,CellsRel.avail (he.obj b _ hy) o⟩⟩
    |map es bs clock=>grind
    |iter m since seen last=>grind
    |ghost o gh=>grind
  grind
theorem ymu(hI:y9 P c.I)(t:TypeId)(a:Operand)(h:vcV c ev bx st d (.load t a) K):Az P c ev bx st d (.load t a) K:=by
  simp only[vcV]at h;obtain⟨i,hi,h⟩:=zr h;obtain⟨l,hl,hl',hs⟩:=zfr (ev:=ev) h;rw[Mn]at hl;obtain⟨x,hx,hk⟩:=zr hl;refine⟨_,hk,λK' h'=>?_,λw T β ρ o ho he=>?_⟩
  · simp only[vcV]
    grind[za,Mn]
  · obtain⟨b,off,hv,hav⟩:=hs w T β ρ he _ (he.ev a)
    obtain⟨v,hr,hvr⟩:=zcp (hI _ _ hi) hav hx;exact⟨v,by simp_all[execOp,Instr.loadAt,Instr.sureAddr],hvr⟩
theorem zg2{x:LV}{n:Nat}(h:Rp x n K):
    ∃y,K y/\(∀K':LV->Prop,K' y->Rp x n K')/\∀w T β v,LRel w T β x v->∃b off,v=.pointer (some ⟨b,off,none⟩)/\LRel w T β y (.pointer (some ⟨b,off+n,none⟩)):=by
  unfold Rp at h;split at h
  · exact⟨_,h,λ_ h=>h,λw T β v hv=>⟨_,_,hv,rfl⟩⟩
  · refine⟨_,h,λ_ h=>h,λw T β v hv=>?_⟩
    rename_i cells;cases hv with
    | cp _ b off f hc hx=>
      refine⟨b,off,rfl,VRel.cp _ _ _ (λj=>f (n+j)) (λj x hj=>?_) (λj x hj=>?_)⟩
      · grind
      grind
  · exact⟨_,h,λ_ h=>h,λw T β v hv=>⟨_,_,VRel.eq_s hv,VRel.s _⟩⟩
  grind
theorem ymx(hI:y9 P c.I)(s:TypeId)(x:Operand)(f:Nat)(h:vcV c ev bx st d (.fieldAddr s x f) K):Az P c ev bx st d (.fieldAddr s x f) K:=by
  simp only[vcV]at h;obtain⟨i,hi,h⟩:=zr h;split at h
  · rename_i fs hty
    obtain⟨g,hg,h⟩:=zr h;obtain⟨j,hj,h⟩:=zr h;cases hjb:Nat.blt 0 j.size with
    |false=>grind
    |true=>
    rw[hjb]at h;simp only[cond_true]at h;obtain⟨y,hy,hy',hs⟩:=zg2 h;refine⟨y,hy,λK' h'=>?_,λw T β ρ o ho he=>?_⟩
    · simp only[vcV]
      grind[za]
    · obtain⟨b,off,hv,hr⟩:=hs w T β _ (he.ev x)
      obtain⟨a,ha1,ha2⟩:=Oc (hI _ _ hi) hty;refine⟨_,?_,hr⟩;subst ha2;simp only[Faq]at hg;cases hfa:a.toList[f]? with
      |none=>grind
      | some fd=>
        rw[hfa]at hg;simp at hg;subst hg;have hfa':a[f]?=some fd:=δ;have hz:0<j.size:=Fbm hjb;have hz':¬j.size=0:=θ;simp[execOp,ho,hv,Instr.fieldAt,yn ha1,hfa',Instr.sureAddr,fieldPlace,kh (hI _ _ hj),hz',wx]
  grind
theorem ymy(hI:y9 P c.I)(s:TypeId)(x:Operand)(f:Nat)(h:vcV c ev bx st d (.field s x f) K):Az P c ev bx st d (.field s x f) K:=by
  simp only[vcV]at h;obtain⟨i,hi,h⟩:=zr h;split at h
  · rename_i fs cs hty hx
    obtain⟨g,hg,h⟩:=zr h;obtain⟨j,hj,h⟩:=zr h;rw[Mn]at h;obtain⟨y,hy,h⟩:=zr h;refine⟨_,h,λK' h'=>?_,λw T β ρ o ho he=>?_⟩
    · simp only[vcV]
      grind[za,Mn]
    · obtain⟨a,ha1,ha2⟩:=Oc (hI _ _ hi) hty
      obtain⟨us,hu,hr⟩:=G9 (qk he hx);obtain⟨v,hv1,hv2⟩:=O5 (P:=P) (hI _ _ hj) hr hy;refine⟨v,?_,hv2⟩;subst ha2;simp only[Faq]at hg;cases hfa:a.toList[f]? with
      |none=>grind
      | some fd=>
        rw[hfa]at hg;simp at hg;subst hg;simp_all[execOp,Instr.field,yn,asAgg]
  grind
end
section
variable {P:Program} {c:Cfg} {ev:Operand->LV} {bx:Nat->Option (List AV)} {st:Store} {d:Nat} {K:LV->Prop}
theorem N9{w:World}{T:Nat->Nat->Prop}{k:Nat}{rows:List (List AV)}{tok:Option Nat}{v:Value}(h:VRel w T (.lst k rows tok) v):
    (∃(a:Option Addr) (cap:Nat),v=.slice a rows.length cap/\rows=[]/\tok=none/\cap=0)\/∃(b off cap:Nat),v=.slice (some ⟨b,off,none⟩) rows.length cap/\rows.length<=cap∧
      (∀(i:Nat) (row:List AV),rows[i]?=some row->row.length=k)/\∃f:Nat->Value,
      (∀(i:Nat) (row:List AV) (j:Nat) (x:AV),rows[i]?=some row->row[j]?=some x->w.cell? ⟨b,off+(i*k+j),none⟩=some (f (i*k+j))/\¬T b (off+(i*k+j))/\VRel w T x (f (i*k+j))/\qw (f (i*k+j))=true):=by
  cases h with
  |nil _ a=>simp
  |lst _ _ b off cap _ f hcap hk htok hc h0 hx=>exact .inr ⟨b,off,cap,rfl,hcap,hk,f,λi row j x h1 h2=>⟨(hc i row j x h1 h2).1,(hc i row j x h1 h2).2,hx i row j x h1 h2,h0 i row j x h1 h2⟩⟩
theorem VRel.empty(w:World)(T:Nat->Nat->Prop)(k b off cap:Nat):VRel w T (.lst k [] none) (.slice (some ⟨b,off,none⟩) 0 cap):=
  VRel.lst [] none b off cap k (λ_=>undef) (Fae _) (λi row h=>θi) (λt ht=>by cases ht) (λi row j x h=>θi) (λi row j x h=>θi) (λi row j x h=>θi)
theorem ymv(hI:y9 P c.I)(t:TypeId)(x ix:Operand)(h:vcV c ev bx st d (.indexAddr t x ix) K):Az P c ev bx st d (.indexAddr t x ix) K:=by
  simp only[vcV]at h;obtain⟨i,hi,h⟩:=zr h;split at h
  · rename_i e k' rows tok k j hty hx hix
    replace h:=zr h;obtain⟨ie,hie,h⟩:=h;cases hb:Nat.beq k' ie.size with
    |false=>grind
    | true=>
      rw[hb]at h;simp only[cond_true]at h;obtain rfl:k'=ie.size:=(ve _ _).1 hb;obtain⟨m,rfl,h⟩:=h;replace h:=zr h;obtain⟨row,hrow,h⟩:=h;refine⟨_,h,λK' h'=>?_,λw T β ρ o ho he=>?_⟩
      · simp only[vcV]
        refine za i hi ?_;simp only[hty,hx,hix];refine za ie hie ?_;rw[hb];exact⟨m,rfl,za row hrow h'⟩
      · have hm:m<rows.length:=(Fa2.1 hrow).1
        rcases N9 (qk he hx)with⟨_,_,_,h2,_⟩|⟨b,off,cap,hv,hcap,hk,f,hf⟩
        · grind
        · refine⟨.pointer (some ⟨b,off+m*ie.size,none⟩),?_,VRel.cp _ _ _ (λj=>f (m*ie.size+j)) (λj y hy=>?_) (λj y hy=>?_)⟩
          · simp[execOp,ho,hv,he.s hix,Instr.indexAt,asIntOf,yn (ja (hI _ _ hi) hty),kh (hI _ _ hie),wx,hm]
          · grind
          grind
  · rename_i e b o len cap k j hty hx hix
    replace h:=zr h;obtain⟨ie,hie,m,rfl,hm,h⟩:=h;refine⟨_,h,λK' h'=>?_,λw T β ρ o ho he=>?_⟩
    · simp only[vcV]
      refine za i hi ?_;simp only[hty,hx,hix];exact za ie hie ⟨m,rfl,hm,h'⟩
    · refine⟨_,?_,VRel.s _⟩
      simp[execOp,ho,he.s hx,he.s hix,Instr.indexAt,asIntOf,yn (ja (hI _ _ hi) hty),kh (hI _ _ hie),wx,hm]
  · rename_i n e k j hty hix
    replace h:=zr h;obtain⟨ie,hie,m,rfl,hm,h⟩:=h;obtain⟨y,hy,hy',hs⟩:=zg2 h;refine⟨_,hy,λK' h'=>?_,λw T β ρ o ho he=>?_⟩
    · simp only[vcV]
      refine za i hi ?_;simp only[hty,hix];exact za ie hie ⟨m,rfl,hm,hy' _ h'⟩
    · obtain⟨b,off,hv,hr⟩:=hs w T β _ (he.ev x)
      refine⟨_,?_,hr⟩;simp[execOp,ho,hv,he.s hix,Instr.indexAt,asIntOf,yn (Od (hI _ _ hi) hty),kh (hI _ _ hie),wx,hm,Instr.sureAddr]
  grind
theorem ymw(hI:y9 P c.I)(t:TypeId)(x ix:Operand)(h:vcV c ev bx st d (.index t x ix) K):Az P c ev bx st d (.index t x ix) K:=by
  simp only[vcV]at h;obtain⟨i,hi,h⟩:=zr h;split at h
  · rename_i n e cs k j hty hx hix
    replace h:=zr h;obtain⟨ie,hie,m,rfl,hm,h⟩:=h;rw[Mn]at h;obtain⟨y,hy,h⟩:=zr h;refine⟨_,h,λK' h'=>?_,λw T β ρ o ho he=>?_⟩
    · simp only[vcV]
      refine za i hi ?_;simp only[hty,hx,hix];refine za ie hie ⟨m,rfl,hm,?_⟩;grind[Mn,za]
    · obtain⟨us,hu,hr⟩:=G9 (qk he hx)
      obtain⟨v,hv1,hv2⟩:=O5 (P:=P) (hI _ _ hie) hr hy;refine⟨v,?_,hv2⟩;simp[execOp,ho,hu,he.s hix,Instr.index,asIntOf,yn (Od (hI _ _ hi) hty),kh (hI _ _ hie),hm,hv1]
  · rename_i s k j hty hx hix
    obtain⟨m,rfl,h⟩:=h;replace h:=zr h;obtain⟨b,hb,h⟩:=h;refine⟨_,h,λK' h'=>?_,λw T β ρ o ho he=>?_⟩
    · simp only[vcV]
      refine za i hi ?_;simp only[hty,hx,hix];exact⟨m,rfl,za b hb h'⟩
    · refine⟨_,?_,VRel.s _⟩
      simp[execOp,ho,he.s hx,he.s hix,Instr.index,asIntOf,yn (dp (hI _ _ hi) hty),hb]
  grind
theorem la{α β:Type}{f:α->β}{l:List α}{a b:β}(h:l.map f=[a,b]):∃x y,l=[x,y]/\f x=a/\f y=b:=by obtain⟨x,l',rfl,h1,h2⟩:=Fdy.1 h;obtain⟨y,l'',rfl,h3,h4⟩:=Fdy.1 h2;rw[Fde]at h4;grind
theorem i9{α β:Type}{f:α->β}{l:List α}{a b c:β}(h:l.map f=[a,b,c]):∃x y z,l=[x,y,z]/\f x=a/\f y=b/\f z=c:=by obtain⟨x,l',rfl,h1,h2⟩:=Fdy.1 h;obtain⟨y,z,rfl,h3,h4⟩:=la h2;grind
theorem zcl{α β:Type}{f:α->β}{l:List α}{a b c d:β}(h:l.map f=[a,b,c,d]):∃x y z u,l=[x,y,z,u]/\f x=a/\f y=b/\f z=c/\f u=d:=by obtain⟨x,l',rfl,h1,h2⟩:=Fdy.1 h;obtain⟨y,z,u,rfl,h3,h4,h5⟩:=i9 h2;grind
theorem ym1(hI:y9 P c.I)(cl:Call)(h:vcV c ev bx st d (.call cl) K):Az P c ev bx st d (.call cl) K:=by
  obtain⟨callee,args,argTypes⟩:=cl;simp only[vcV,Kb]at h;split at h
  · rename_i b
    cases b<;>simp only at h
    case len=>
      obtain⟨t,ht,h⟩:=zr h;obtain⟨i,hi,h⟩:=zr h;obtain⟨x,hx,h⟩:=zr h;have key:∃y,K y/\(∀K':LV->Prop,K' y->lf (ev x) st i.ty K')/\∀w T β ρ ty,Env w T β ev bx st ρ->∃v,(Builtin.len_ argTypes ty (args.map ρ)).run P w=.ok v w/\LRel w T β y v:=by
        have hargs:∀ρ:Operand->Value,(args.map ρ)[0]?=some (ρ x):=fun ρ=>δ;unfold lf at h⊢;split at h
        · rename_i e k rows tok hty hev
          refine⟨_,h,λK' h'=>h',λw T β ρ ty he=>?_⟩;rcases N9 (qk he hev)with⟨_,cap,hv,_⟩|⟨b,off,cap,hv,_⟩
          · exact⟨_,ψh,VRel.s _⟩
          · exact⟨_,ψh,VRel.s _⟩
        · rename_i e a n cap hty hev
          exact⟨_,h,λK' h'=>h',λw T β ρ ty he=>⟨_,by simp[Builtin.len_,goInt,ht,hargs,hx,he.s hev,yn (ja (hI _ _ hi) hty)],VRel.s _⟩⟩
        · rename_i e hty hev
          refine⟨_,h,λK' h'=>h',λw T β ρ ty he=>?_⟩;obtain⟨ad,hv⟩:∃ad,ρ x=.slice ad 0 0:=by
            have h1:=qk he hev;generalize ρ x=v at h1;cases h1 with
            |emp ad _=>simp
          exact⟨_,ψh,VRel.s _⟩
        · rename_i s hty hev
          exact⟨_,h,λK' h'=>h',λw T β ρ ty he=>⟨_,by simp[Builtin.len_,goInt,ht,hargs,hx,he.s hev,yn (dp (hI _ _ hi) hty)],VRel.s _⟩⟩
        · rename_i k e hty hev
          exact⟨_,h,λK' h'=>h',λw T β ρ ty he=>⟨_,by simp[Builtin.len_,goInt,ht,hargs,hx,he.s hev,yn (Ke (hI _ _ hi) hty)],VRel.s _⟩⟩
        · rename_i k e r hty hev
          obtain⟨ob,hob,h⟩:=zr h;cases ob with
          |cells l=>grind
          |iter m since seen last=>grind
          |ghost o gh=>grind
          | map es bs clock=>
            refine⟨_,h,λK' h'=>za _ hob h',λw T β ρ ty he=>?_⟩;obtain⟨ms,h1,h2,_⟩:=he.obj r _ hob;refine⟨_,?_,VRel.s _⟩;simp[Builtin.len_,goInt,ht,hargs,hx,he.s hev,yn (Ke (hI _ _ hi) hty),getObj,Sem.run,h1,h2,goInt]
        · rename_i n e hty
          exact⟨_,h,λK' h'=>h',λw T β ρ ty he=>⟨_,by simp[Builtin.len_,goInt,ht,hargs,hx,yn (Od (hI _ _ hi) hty)],VRel.s _⟩⟩
        grind
      obtain⟨y,hy,hy',hs⟩:=key;refine⟨y,hy,λK' h'=>?_,λw T β ρ o ho he=>?_⟩
      · simp only[vcV,Kb]
        grind[za]
      · obtain⟨v,h1,h2⟩:=hs w T β ρ o.type he
        simp_all[execOp,resolve,invoke,builtin]
    case cap=>
      obtain⟨t,ht,h⟩:=zr h;obtain⟨i,hi,h⟩:=zr h;obtain⟨x,hx,h⟩:=zr h;have hargs:∀ρ:Operand->Value,(args.map ρ)[0]?=some (ρ x):=fun ρ=>δ;split at h
      · rename_i e a n cap hty hev
        refine⟨_,h,λK' h'=>?_,λw T β ρ o ho he=>⟨_,?_,VRel.s _⟩⟩
        · simp only[vcV,Kb]
          grind[za]
        · simp[execOp,ho,resolve,invoke,builtin,Builtin.cap_,ht,hx,he.s hev,yn (ja (hI _ _ hi) hty),goInt]
      grind
    case min=>
      have key:∃z:Value,K (.av (.s z))/\(∀K':LV->Prop,K' (.av (.s z))->Mt min2 (args.toList.map ev) K')/\∀w T β ρ ty,Env w T β ev bx st ρ->(Builtin.min_ argTypes ty (args.map ρ)).run P w=.ok z w:=by
        unfold Mt at h⊢;split at h
        · rename_i k a k' b hev
          refine⟨_,h,λK' h'=>h',λw T β ρ ty he=>?_⟩;obtain⟨l⟩:=args;obtain⟨x,y,rfl,h1,h2⟩:=la hev;simp[Builtin.min_,he.s h1,he.s h2,Builtin.min2,min2,Fdd]
        · rename_i k a k' b k'' c' hev
          refine⟨_,h,λK' h'=>h',λw T β ρ ty he=>?_⟩;obtain⟨l⟩:=args;obtain⟨x,y,z,rfl,h1,h2,h3⟩:=i9 hev;simp[Builtin.min_,he.s h1,he.s h2,he.s h3,Builtin.min2,min2,Fdd]
        · rename_i k a k' b k'' c' k3 d' hev
          refine⟨_,h,λK' h'=>h',λw T β ρ ty he=>?_⟩;obtain⟨l⟩:=args;obtain⟨x,y,z,u,rfl,h1,h2,h3,h4⟩:=zcl hev;simp[Builtin.min_,he.s h1,he.s h2,he.s h3,he.s h4,Builtin.min2,min2,Fdd]
        grind
      obtain⟨z,hz,hz',hs⟩:=key;exact⟨_,hz,λK' h'=>by simp_all[vcV,Kb],λw T β ρ o ho he=>⟨z,by simp[execOp,ho,resolve,invoke,builtin,hs w T β ρ o.type he],VRel.s _⟩⟩
    case max=>
      have key:∃z:Value,K (.av (.s z))/\(∀K':LV->Prop,K' (.av (.s z))->Mt max2 (args.toList.map ev) K')/\∀w T β ρ ty,Env w T β ev bx st ρ->(Builtin.max_ argTypes ty (args.map ρ)).run P w=.ok z w:=by
        unfold Mt at h⊢;split at h
        · rename_i k a k' b hev
          refine⟨_,h,λK' h'=>h',λw T β ρ ty he=>?_⟩;obtain⟨l⟩:=args;obtain⟨x,y,rfl,h1,h2⟩:=la hev;simp[Builtin.max_,he.s h1,he.s h2,Builtin.max2,max2,Fdd]
        · rename_i k a k' b k'' c' hev
          refine⟨_,h,λK' h'=>h',λw T β ρ ty he=>?_⟩;obtain⟨l⟩:=args;obtain⟨x,y,z,rfl,h1,h2,h3⟩:=i9 hev;simp[Builtin.max_,he.s h1,he.s h2,he.s h3,Builtin.max2,max2,Fdd]
        · rename_i k a k' b k'' c' k3 d' hev
          refine⟨_,h,λK' h'=>h',λw T β ρ ty he=>?_⟩;obtain⟨l⟩:=args;obtain⟨x,y,z,u,rfl,h1,h2,h3,h4⟩:=zcl hev;simp[Builtin.max_,he.s h1,he.s h2,he.s h3,he.s h4,Builtin.max2,max2,Fdd]
        grind
      obtain⟨z,hz,hz',hs⟩:=key;exact⟨_,hz,λK' h'=>by simp_all[vcV,Kb],λw T β ρ o ho he=>⟨z,by simp[execOp,ho,resolve,invoke,builtin,hs w T β ρ o.type he],VRel.s _⟩⟩
  grind
theorem Vu{w:World}{T:Nat->Nat->Prop}{β:Nat->Nat}{ρ:Operand->Value}(he:Env w T β ev bx st ρ){x:Option Operand}{l:Option Int}(h:Gl ev x=some l):
    (l=none/\x=none)\/∃k i o,l=some i/\x=some o/\ρ o=.int k i:=by
  cases x with
  |none=>simp_all[Gl]
  | some o=>
    simp only[Gl]at h;split at h
    · rename_i k i hev
      simp at h;exact .inr ⟨k,i,o,h.symm,rfl,he.s hev⟩
    · cases h
theorem Ri{w:World}{T:Nat->Nat->Prop}{β:Nat->Nat}{ρ:Operand->Value}(he:Env w T β ev bx st ρ){lo hi:Option Operand}{l h:Option Int}(hl:Gl ev lo=some l)(hh:Gl ev hi=some h)
    (len cap p q:Nat) (hp:l.getD 0=(p:Int)) (hq:h.getD (len:Int)=(q:Int)) (hpq:p<=q) (hqc:q<=cap):
    (Instr.sliceBounds true len cap (lo.map ρ) (hi.map ρ) none).run P w=.ok (p,q,cap) w:=by
  rcases Vu he hl with⟨rfl,rfl⟩|⟨k,i,o,rfl,rfl,hlo⟩<;>rcases Vu he hh with⟨rfl,rfl⟩|⟨k',i',o',rfl,rfl,hhi⟩<;>simp at hp hq
  · have hp':p=0:=θ
    have hq':q=len:=θ;simp_all[Instr.sliceBounds]
  · have hp':p=0:=θ
    simp_all[Instr.sliceBounds,Instr.sliceBound,asIntOf]
  · have hq':q=len:=θ
    simp_all[Instr.sliceBounds,Instr.sliceBound,asIntOf]
  simp_all[Instr.sliceBounds,Instr.sliceBound,asIntOf]
theorem ymo(hI:y9 P c.I)(t:TypeId)(x:Operand)(lo hi mx:Option Operand)(h:vcV c ev bx st d (.slice t x lo hi mx) K):Az P c ev bx st d (.slice t x lo hi mx) K:=by
  simp only[vcV]at h;cases mx with
  |some m=>grind
  |none=>
  simp only[Fd3,cond_false]at h;replace h:=zr h;obtain⟨i,hi',h⟩:=h;split at h
  · rename_i e k rows tok l hh hty hx hl hh'
    replace h:=zr h;obtain⟨ie,hie,h⟩:=h;cases hb:Nat.beq k ie.size with
    |false=>grind
    |true=>
    rw[hb]at h;simp only[cond_true]at h;obtain rfl:k=ie.size:=(ve _ _).1 hb;obtain⟨p,q,hp,hq,hpq,hql,h⟩:=h;refine⟨_,h,λK' h'=>?_,λw T β ρ o ho he=>?_⟩
    · simp only[vcV,Fd3,cond_false]
      grind[za]
    · rcases N9 (qk he hx)with⟨ad,cap,hv,rfl,_,rfl⟩|⟨b,off,cap,hv,hcap,hk,f,hf⟩
      · have hq0:q=0:=by grind
        have hp0:p=0:=θ;subst hq0 hp0;refine⟨.slice ad 0 0,?_,VRel.nil _ _⟩;have hb:=Ri (P:=P) he hl hh' 0 0 0 0 hp hq (Fak _) (Fak _);cases ad<;>simp[execOp,ho,hv,Instr.sliceAt,Instr.slice,yn (ja (hI _ _ hi') hty),hb,kh (hI _ _ hie)]
      · have hbd:=Ri (P:=P) he hl hh' rows.length cap p q hp hq hpq θ
        have hlen:(List.drop p (List.take q rows)).length=q-p:=δ;by_cases hm:cap=p
        · have hqp:q=p:=θ
          have hnil:List.drop p (List.take q rows)=[]:=Far θ;refine⟨.slice (some ⟨b,off,none⟩) 0 0,?_,?_⟩
          · subst hm
            subst hqp;simp[execOp,ho,hv,Instr.sliceAt,Instr.slice,yn (ja (hI _ _ hi') hty),hbd,kh (hI _ _ hie)]
          · show VRel w T (.lst _ (List.drop p (List.take q rows)) none) _
            grind[VRel.empty]
        · refine⟨.slice (some ⟨b,off+p*ie.size,none⟩) (q-p) (cap-p),?_,?_⟩
          · simp[execOp,ho,hv,Instr.sliceAt,Instr.slice,yn (ja (hI _ _ hi') hty),hbd,kh (hI _ _ hie),hm,wx]
          · show VRel w T (.lst _ (List.drop p (List.take q rows)) none) _
            rw[<-hlen];have hget:∀(i:Nat) (row:List AV),(List.drop p (List.take q rows))[i]?=some row->rows[p+i]?=some row:=δ;refine VRel.lst _ none b (off+p*ie.size) (cap-p) _ (λj=>f (p*ie.size+j)) θ (λi row h=>hk _ _ (hget i row h)) (λt ht=>by cases ht) (λi row j x h1 h2=>?_) (λi row j x h1 h2=>?_) (λi row j x h1 h2=>?_)
            · grind
            · grind
            grind
  · rename_i e b o len cap l hh hty hx hl hh'
    replace h:=zr h;obtain⟨ie,hie,p,q,hp,hq,hpq,hqc,hpc⟩:=h;rcases hpc with⟨hpc,h⟩|⟨hpc,h⟩
    · refine⟨_,h,λK' h'=>?_,λw T β ρ o ho he=>?_⟩
      · simp only[vcV,Fd3,cond_false]
        grind[za]
      · have hb:=Ri (P:=P) he hl hh' len cap p q hp hq hpq hqc
        have hm:¬cap=p:=θ;refine⟨_,?_,VRel.s _⟩;simp[execOp,ho,he.s hx,Instr.sliceAt,Instr.slice,yn (ja (hI _ _ hi') hty),hb,kh (hI _ _ hie),hm,wx]
    · refine⟨_,h,λK' h'=>?_,λw T β ρ o ho he=>?_⟩
      · simp only[vcV,Fd3,cond_false]
        grind[za]
      · have hb:=Ri (P:=P) he hl hh' len cap p q hp hq hpq hqc
        have hq2:q=cap:=θ;subst hq2 hpc;refine⟨_,?_,VRel.s _⟩;simp[execOp,ho,he.s hx,Instr.sliceAt,Instr.slice,yn (ja (hI _ _ hi') hty),hb,kh (hI _ _ hie)]
  · rename_i e l hh hty hx hl hh'
    replace h:=zr h;obtain⟨ie,hie,hp,hq,h⟩:=h;refine⟨_,h,λK' h'=>?_,λw T β ρ o ho he=>?_⟩
    · simp_all[vcV,za]
    · have hb:=Ri (P:=P) he hl hh' 0 0 0 0 hp hq (Fak _) (Fak _)
      refine⟨_,?_,VRel.s _⟩;simp[execOp,ho,he.s hx,Instr.sliceAt,Instr.slice,yn (ja (hI _ _ hi') hty),hb,kh (hI _ _ hie)]
  · rename_i n e b o hty hx hl hl'
    replace h:=zr h;obtain⟨ie,hie,h⟩:=h;refine⟨_,h,λK' h'=>?_,λw T β ρ o' ho he=>?_⟩
    · simp_all[vcV,za]
    · have e1:lo.map ρ=none:=by grind[Vu]
      have e2:hi.map ρ=none:=by grind[Vu]
      refine⟨_,?_,VRel.s _⟩;simp[execOp,ho,he.s hx,Instr.sliceAt,Instr.sureAddr,yn (Od (hI _ _ hi') hty),e1,e2,Instr.sliceBounds,kh (hI _ _ hie),wx]
  grind
theorem od{w:World}{T:Nat->Nat->Prop}{x:AV}{v:Value}(h:VRel w T x v){l:List AV}(hl:cellsOf x=some l):Reads w T l v.cells.toList/\((∃c,v=.agg c)\/qw v=true/\v.cells.toList=[v]):=by
  cases h with
  |any v=>cases hl
  | agg cs c hl' h=>
    simp only[cellsOf,Faf]at hl;subst hl;exact⟨⟨by trivial,λi x y hx hy=>h i x y hx (by simpa [Value.cells]using hy)⟩,.inl ⟨c,rfl⟩⟩
  |s v=>cases v<;>simp only[cellsOf]at hl<;>cases hl<;>exact⟨Reads.cons (VRel.s _) Reads.nil,.inr ⟨rfl,rfl⟩⟩
  |tup cs c hl' h=>cases hl
  |emp a h=>cases hl;exact⟨Reads.cons (VRel.emp a h) Reads.nil,.inr ⟨rfl,rfl⟩⟩
  |nil k a=>cases hl;exact⟨Reads.cons (VRel.nil k a) Reads.nil,.inr ⟨rfl,rfl⟩⟩
  |lst rows tok b off cap k c hcap hk htok hc h1 hx=>cases hl;exact⟨Reads.cons (.lst rows tok b off cap k c hcap hk htok hc h1 hx) Reads.nil,.inr ⟨rfl,rfl⟩⟩
  |cp cells b off c hc hx=>cases hl;exact⟨Reads.cons (.cp cells b off c hc hx) Reads.nil,.inr ⟨rfl,rfl⟩⟩
  |clos f cs c hl' h=>cases hl;exact⟨Reads.cons (.clos f cs c hl' h) Reads.nil,.inr ⟨rfl,rfl⟩⟩
theorem zza(vs:List Value)(cells:Array Value)(off:Nat)(h:off+vs.length<=cells.size):
    ((vs.zipIdx.foldl (λcs (x:Value×Nat)=>cs.setIfInBounds (off+x.2) x.1) cells)).toList=cells.toList.take off++vs++cells.toList.drop (off+vs.length):=by
  suffices H:∀(vs:List Value) (n:Nat) (cells:Array Value),off+n+vs.length<=cells.size->
      ((vs.zipIdx n).foldl (λcs (x:Value×Nat)=>cs.setIfInBounds (off+x.2) x.1) cells).toList=cells.toList.take (off+n)++vs++cells.toList.drop (off+n+vs.length) by grind
  intro vs;induction vs with
  |nil=>simp
  | cons v vs ih=>
    intro n cells h;simp only[Fbd]at h;simp only[List.zipIdx_cons,Fcy];rw[ih (n+1) _ δ];have hlt:off+n<cells.toList.length:=δ;simp only[Array.toList_setIfInBounds];apply Fb8;intro i;simp only[List.getElem?_append,Fd5,Fcu,Fd9,Fad,Fam,Faz,Fbd,Fcq,Fco];grind
theorem mw{w:World}{T:Nat->Nat->Prop}{β:Nat->Nat}{place:Nat->Option (Nat×Nat)}:∀(parts:List (Nat×LV)) (vals:List (Nat×Value)) (cells:List AV) (cs:Array Value) (l:List AV),
    parts.length=vals.length->(∀(i:Nat) (p:Nat×LV) (v:Nat×Value),parts[i]?=some p->vals[i]?=some v->p.1=v.1/\LRel w T β p.2 v.2)->Reads w T cells cs.toList->I2 place cells parts=some l->
    ∃ds,Instr.fill place cs vals=some ds/\Reads w T l ds.toList:=by
  intro parts;induction parts with
  | nil=>
    intro vals cells cs l hlen _ hr h;cases vals with
    |nil=>simp_all[I2,Instr.fill]
    |cons v vs=>grind
  | cons p parts ih=>
    intro vals cells cs l hlen hp hr h;cases vals with
    |nil=>grind
    | cons v vals=>
      obtain⟨i,x⟩:=p;obtain⟨i',u⟩:=v;obtain⟨rfl,hx⟩:=hp 0 _ _ rfl rfl;simp only[I2]at h;cases hpl:place i with
      |none=>grind
      | some os=>
        obtain⟨off,size⟩:=os;rw[hpl]at h;cases x with
        | av x=>
          simp only at h;cases hc:cellsOf x with
          |none=>grind
          | some xs=>
            rw[hc]at h;simp only at h;cases hb:(Nat.beq xs.length size&&Nat.ble (off+size) cells.length)with
            |false=>grind
            | true=>
              rw[hb]at h;simp only[cond_true]at h;simp only[Fay]at hb;have h1:xs.length=size:=(ve _ _).1 hb.1;have h2:off+size<=cells.length:=Fbm hb.2;have hrx:=(od hx hc).1;have h3:u.cells.size=size:=by rw[<-h1,hrx.1];simp
              have h4:off+size<=cs.size:=by have:=hr.1;grind
              have hsp:Reads w T (zp cells off xs) (u.cells.zipIdx.foldl (λcs (x:Value×Nat)=>cs.setIfInBounds (off+x.2) x.1) cs).toList:=by
                have e:(u.cells.zipIdx.foldl (λcs (x:Value×Nat)=>cs.setIfInBounds (off+x.2) x.1) cs)=(u.cells.toList.zipIdx.foldl (λcs (x:Value×Nat)=>cs.setIfInBounds (off+x.2) x.1) cs):=by grind[Array.toList_zipIdx]
                rw[e,zza _ _ _ δ];unfold zp;refine((hr.take off).append hrx).append ?_;rw[hrx.1];exact hr.drop _
              obtain⟨ds,hd1,hd2⟩:=ih vals _ _ l δ (λj p v h1 h2=>hp (j+1) p v δ δ) hsp h;simp_all[Instr.fill]
        |_=>simp at h
theorem yec{α β:Type}{P:Program}{w:World}{f:α->Sem β}{g:α->Option β}(hf:∀a b,g a=some b->(f a).run P w=.ok b w):∀{l:List α} {m:List β},l.mapM g=some m->(l.mapM f).run P w=.ok m w:=by
  intro l;induction l with
  |nil=>simp
  | cons a l ih=>
    intro m h;rw[List.mapM_cons]at h;cases hg:g a with
    |none=>grind
    | some b=>
      cases hl:l.mapM g with
      |none=>grind
      | some m'=>
        simp_all
theorem ym2(hI:y9 P c.I)(t:TypeId)(parts:Array (Nat×Operand))(h:vcV c ev bx st d (.build t parts) K):Az P c ev bx st d (.build t parts) K:=by
  simp only[vcV]at h;obtain⟨i,hi,h⟩:=zr h
  have hparts:∀(w:World) (T:Nat->Nat->Prop) (β:Nat->Nat) (ρ:Operand->Value),Env w T β ev bx st ρ->
      (parts.toList.map λp=>(p.1,ev p.2)).length=(parts.map λ(p:Nat×Operand)=>(p.1,ρ p.2)).toList.length∧
      ∀(i:Nat) (p:Nat×LV) (v:Nat×Value),(parts.toList.map λp=>(p.1,ev p.2))[i]?=some p->(parts.map λ(p:Nat×Operand)=>(p.1,ρ p.2)).toList[i]?=some v->p.1=v.1/\LRel w T β p.2 v.2:=by
    intro w T β ρ he;refine⟨φ,λi p v hp hv=>?_⟩;rw[Fck,Faq]at hv;rw[Faq]at hp;cases hq:parts.toList[i]? with
    |none=>grind
    | some q=>
      rw[hq]at hp hv;simp at hp hv;subst hp hv;exact⟨rfl,he.ev _⟩
  split at h
  · rename_i fs hty
    obtain⟨pl,hpl,h⟩:=zr h;obtain⟨l,hl,h⟩:=zr h;rw[Gu]at h;refine⟨_,h,λK' h'=>?_,λw T β ρ o ho he=>?_⟩
    · simp only[vcV]
      grind[za,Hq]
    · obtain⟨a,ha1,ha2⟩:=Oc (hI _ _ hi) hty
      obtain⟨z,hz1,hz2⟩:=Mf (hI _ _ hi) w;obtain⟨h1,h2⟩:=hparts w T β ρ he;have hpl':(a.mapM (m:=Sem) λf=>do pure (f.offset,<-sizeOf f.type)).run P w=.ok pl.toArray w:=by
        rw[Fd8];have:(a.toList.mapM (m:=Sem) λf=>do pure (f.offset,<-sizeOf f.type)).run P w=.ok pl w:=by
          refine yec (g:=λf=>(c.I f.type).map λj=>(f.offset,j.size)) ?_ ?_
          · intro f b hb
            cases hj:c.I f.type with
            |none=>grind
            | some j=>
              rw[hj]at hb;simp at hb;subst hb;simp[kh (hI _ _ hj)]
          · subst ha2
            rw[<-hpl];unfold zeb;rw[List.mapM_map];rfl
        simp_all
      have hr0:Reads w T (i.zero.map AV.s) z.cells.toList:=by rw[hz2];exact Reads.map_s _
      obtain⟨ds,hd1,hd2⟩:=mw (w:=w) (T:=T) (β:=β) _ _ _ z.cells l h1 h2 hr0 hl;have hd1':Instr.fill (λx=>pl.toArray[x]?) z.cells ((parts.map λ(p:Nat×Operand)=>(p.1,ρ p.2)).toList)=some ds:=θh;refine⟨.agg ds,?_,Oa hd2⟩;simp_all[execOp,Instr.build,yn]
  · rename_i n e hty
    obtain⟨ie,hie,h⟩:=zr h;obtain⟨l,hl,h⟩:=zr h;rw[Gu]at h;refine⟨_,h,λK' h'=>?_,λw T β ρ o ho he=>?_⟩
    · simp only[vcV]
      grind[za,Hq]
    · obtain⟨z,hz1,hz2⟩:=Mf (hI _ _ hi) w
      obtain⟨h1,h2⟩:=hparts w T β ρ he;have hr0:Reads w T (i.zero.map AV.s) z.cells.toList:=by rw[hz2];exact Reads.map_s _
      obtain⟨ds,hd1,hd2⟩:=mw (w:=w) (T:=T) (β:=β) _ _ _ z.cells l h1 h2 hr0 hl;refine⟨.agg ds,?_,Oa hd2⟩;simp only[execOp,ho,Instr.build,Sem.run_bind,Result.andThen_ok,Sem.run_pure,hz1,yn (Od (hI _ _ hi) hty),kh (hI _ _ hie),hd1]
  grind
end
section
variable {P:Program} {st:Store} {w:World} {A:Fr}
theorem df{c:Cfg}{ev:Operand->LV}{bx:Nat->Option (List AV)}{d:Nat}{K:LV->Prop}(hI:y9 P c.I)(op:Op)(h:vcV c ev bx st d op K):Az P c ev bx st d op K:=by
  cases op with
  |move x=>exact yms x h
  |assign x=>exact ym4 x h
  |pick a b e=>exact ymq a b e h
  |nilCheck x=>exact ymr x h
  |binOp op t x y yt=>exact ym3 hI op t x y yt h
  |unOp op t x=>exact ymn op t x h
  |convert s t x=>exact ym0 hI s t x h
  |load t a=>exact ymu hI t a h
  |fieldAddr s x f=>exact ymx hI s x f h
  |field s x f=>exact ymy hI s x f h
  |indexAddr t x i=>exact ymv hI t x i h
  |index t x i=>exact ymw hI t x i h
  |slice t x lo hi mx=>exact ymo hI t x lo hi mx h
  |extract x i=>exact ymz x i h
  |build t ps=>exact ym2 hI t ps h
  |makeFunc f a b=>exact ymt f a b h
  |call cl=>exact ym1 hI cl h
  |_=>exact h.elim
def qy(st:Store)(R:Ja)(Oth M:Nat->Nat->Prop)(w:World)(v:Value)(w':World):Prop:=
  ∃r st' M',R r st'/\VRel w' (λb o=>M' b o\/Oth b o) r v/\StoreOK st' Oth M' w'/\Chg M w M' w'
def zg7(P:Program)(R:Value->World->Prop):Result Next->Prop
  |.ok (.enter f args) w=>Calls P f args w λe w'=>∃v,e=.returned v/\R v w'
  |.ok (.value v) w=>R v w
  |_=>False
structure ACalls(P:Program)(f:FuncId)(args:List AV)(st:Store)(R:Ja):Prop where
  out:∀(Oth M:Nat->Nat->Prop) (w:World) (vs:Array Value),StoreOK st Oth M w->Reads w (λb o=>M b o\/Oth b o) args vs.toList->
    zg7 P (qy st R Oth M w) ((callFunc f vs).run P w)
def Fresh(st:Store)(b:Nat):Prop:=st.obj b=none/\st.tok b=none
def Owned(k:Nat)(st:Store)(v:AV)(rows:List (List AV))(st':Store):Prop:=
  (v=.emp/\rows=[]/\st'=st)\/(rows≠[]/\∃b,Fresh st b/\v=.lst k rows (some b)/\st'=st.sT b (some (rows.length*k)))
def Ab(k:Nat)(x:LV):Option (List (List AV)):=
  match x with
  |.av (.lst k' rows _)=>bif Nat.beq k' k then some rows else none
  |.av (.s (.slice none 0 _))=>some []
  |.av .emp=>some []
  |_=>none
def room(n bytes:Nat):Prop:=n*bytes<=140737488355328/\n<=140737488355328
def ce(c:Cfg)(st:Store)(e:TypeId)(s x:LV)(K:Ja):Prop:=
  optK (c.I e) λie=>
    match s with
    |.av (.s (.slice none 0 0))=>optK (Ab ie.size x) λrows=>room rows.length ie.bytes/\∀v st',Owned ie.size st v rows st'->K v st'
    |.av .emp=>optK (Ab ie.size x) λrows=>room rows.length ie.bytes/\∀v st',Owned ie.size st v rows st'->K v st'
    | .av (.lst k rows (some b))=>bif Nat.beq k ie.size&&Nat.blt 0 ie.size then optK (Ab ie.size x) λrows'=>st.tok b=some (rows.length*k)/\room (rows++rows').length ie.bytes∧
        ∀v st',Owned ie.size (st.sT b none) v (rows++rows') st'->K v st'
      else False
    |_=>False
structure AppX(P:Program)(c:Cfg)(st:Store)(e:TypeId)(s x:AV)(K:Ja):Prop where
  has:∃ie,c.I e=some ie
  out:∀ie,c.I e=some ie->∀(Oth M:Nat->Nat->Prop) (w:World) (sv xv:Value) (argTypes:Array TypeId) (ty:TypeId) (args:Array Value) (t:TypeId),StoreOK st Oth M w->
    VRel w (λb o=>M b o\/Oth b o) s sv->VRel w (λb o=>M b o\/Oth b o) x xv->argTypes[0]?=some t->(∃t1 e1,argTypes[1]?=some t1/\P.underlying t1=some (.slice e1))->
    P.underlying t=some (.slice e)->TIok P e ie->args[0]?=some sv->args[1]?=some xv->∃v w',(Builtin.append_ argTypes ty args).run P w=.ok v w'/\qy st K Oth M w v w'
structure appendK(P:Program)(c:Cfg)(st:Store)(e:TypeId)(s x:LV)(K:Ja):Prop where
  out:ce c st e s x K\/∃s' x',s=.av s'/\x=.av x'/\AppX P c st e s' x' K
structure AEff(P:Program)(c:Cfg)(o:Oper)(args:List AV)(st:Store)(R:Ja):Prop where
  out:∀(Oth M:Nat->Nat->Prop) (w:World) (ρ:Operand->Value),y9 P c.I->StoreOK st Oth M w->Reads w (λb o=>M b o\/Oth b o) args (o.op.operands.map ρ).toList->
    match(execOp ρ o).run P w with
    |.ok (.value v) w'=>qy st R Oth M w v w'
    |.ok .skip w'=>o.dst=none/\qy st R Oth M w (.tuple #[]) w'
    |_=>False
def Ol(j:TI):Bool:=match j.ty with|.slice _=>true|_=>false
def isX:Op->Bool
  |.lookup ..=>true
  |.mapUpdate ..=>true
  |.insert ..=>true
  |.makeMap ..=>true
  |.makeSlice ..=>true
  |.range ..=>true
  |.next ..=>true
  |.entry ..=>true
  |.makeInterface ..=>true
  |.slice _ _ _ _ mx=>mx.isSome
  | .call cl=>match cl.callee with
    |.builtin .delete=>true
    |.builtin .copy=>true
    |.builtin .clear=>true
    |_=>false
  |_=>false
def xf(A:Fr)(n:Nat)(d:Option Tmp)(x:LV)(K:Fr->Prop):Prop:=
  match d with
  |none=>K A
  |some d=>bif Nat.blt d n then K (A.put d x)else False
def AV.one:AV->Bool
  |.s v=>qw v
  |.agg _=>false
  |.tup _=>false
  |.any=>false
  |_=>true
theorem gq{T:Nat->Nat->Prop}{x:AV}{v:Value}(h:VRel w T x v)(h1:x.one=true):qw v=true:=by cases h<;>trivial
def Db(i:TI)(A:Fr)(st:Store)(p:LV)(x:AV)(K:Fr->Store->Prop):Prop:=
  optK (cellsOf x) λxs=>bif Nat.beq xs.length i.size&&xs.all AV.one then
    match p with
    |.bx k o=>optK (A.bx k) λl=>bif Nat.ble (o+xs.length) l.length then Gv (zp l o xs) λl'=>K (A.setBx k l') st else False
    | .av (.s (.pointer (some ⟨b,o,none⟩)))=>optK (st.obj b) λy=>match y with
      |.cells l=>o+xs.length<=l.length/\Gv (zp l o xs) λl'=>K A (st.sO b (.cells l'))
      |_=>False
    |_=>False
  else False
def Cf(i:TI):List AV:=i.zero.map AV.s
def Io(k n:Nat)(acc:List (List AV)):List (Nat×LV)->Option (List (List AV))
  |[]=>some acc
  | (i,x)::rest=>match x with
    | .av x=>match cellsOf x with
      |some xs=>bif Nat.beq xs.length k&&Nat.blt i n then Io k n (acc.set i xs) rest else none
      |none=>none
    |_=>none
def br(c:Cfg)(o:Oper)(op:BinOp)(t:TypeId)(x y:Operand)(yt:TypeId)(K:Fr->Store->Prop)(A:Fr)(st:Store):Prop:=
  match A.ev x,A.ev y with
  | .av (.lst _ rows _),.av (.s (.slice none 0 0))=>optK (c.I t) λi=>match i.ty with
    | .slice _=>match op with
      |.eql=>∀b:Bool,(b=true->rows=[])->xf A c.n o.dst (jv b) λA'=>K A' st
      |.neq=>∀b:Bool,(b=true->rows=[])->xf A c.n o.dst (jv (!b)) λA'=>K A' st
      |_=>False
    |_=>False
  |_,_=>optK o.dst λd=>bif Nat.blt d c.n then vcV c A.ev A.bx st d (.binOp op t x y yt) (λx=>K (A.put d x) st)else False
def lm:Ty->Bool
  |.int .u8=>true
  |_=>false
def vcX(P:Program)(c:Cfg)(o:Oper)(K:Fr->Store->Prop)(A:Fr)(st:Store):Prop:=
  optK (o.op.operands.toList.mapM λx=>(A.ev x).toAV) λvs=>AEff P c o vs st λr st'=>xf A c.n o.dst (.av r) λA'=>K A' st'
def bf(P:Program)(c:Cfg)(o:Oper)(s t:TypeId)(x:Operand)(K:Fr->Store->Prop)(A:Fr)(st:Store):Prop:=
  match A.ev x with
  | .av (.lst k rows (some b))=>bif Nat.beq s t then optK (c.I t) λi=>match i.ty with
    |.slice e=>optK (c.I e) λie=>bif lm ie.ty&&Nat.beq k 1 then optK (st.tok b) λ_=>xf A c.n o.dst (.av (.lst k rows (some b))) λA'=>K A' st else False
    |_=>False
    else False
  |.av (.s (.slice _ _ _))=>vcX P c o K A st
  |.av (.s (.pointer _))=>vcX P c o K A st
  |_=>optK o.dst λd=>bif Nat.blt d c.n then vcV c A.ev A.bx st d (.convert s t x) (λx=>K (A.put d x) st)else False
structure Meets(P:Program)(t:TypeId)(v:Value)(m:String)(g:FuncId)(x:AV):Prop where
  out:∃u,(∀w:World,(method (P.types.size+Made.depth) t v m).run P w=.ok (g,u) w)/\∀(w:World) (T:Nat->Nat->Prop),VRel w T x u
def Wd(P:Program)(c:Cfg)(o:Oper)(cl:Call)(m:String)(y:LV)(K:Fr->Store->Prop)(A:Fr)(st:Store):Prop:=
  match y with
  |.av (.s (.iface t v))=>optK (cl.args.toList.mapM λx=>(A.ev x).toAV) λvs=>∃g x,Meets P t v m g x∧
      ACalls P g (x::vs) st λr st'=>xf A c.n o.dst (.av r) λA'=>K A' st'
  |_=>False
def Wy(x:LV):Option (FuncId×List AV×List AV):=
  match x with
  |.av (.clos g cap)=>some (g,[],cap)
  |.av (.s (.func (.func g) fv cv))=>some (g,fv.toList.map AV.s,cv.toList.map AV.s)
  |_=>none
def Ga(P:Program)(c:Cfg)(o:Oper)(K:Fr->Store->Prop)(A:Fr)(st:Store):Prop:=
  match o.op with
  |.alloc t=>optK (c.I t) λi=>optK o.dst λd=>bif Nat.blt d c.n then
      Gv (Cf i) λl=>(bif c.G.contains d then∀b,Fresh st b->K (A.put d (.av (.s (.pointer (some ⟨b,0,none⟩))))) (st.sO b (.cells l))
        else K (A.newBx d l) st)else False
  |.box _ x=>optK o.dst λd=>bif Nat.blt d c.n then(match A.ev x with
      | .av x=>optK (cellsOf x) λl=>
        bif c.G.contains d then∀b,Fresh st b->K (A.put d (.av (.s (.pointer (some ⟨b,0,none⟩))))) (st.sO b (.cells l))
        else K (A.newBx d l) st
      |_=>False)else False
  |.buildSlice t n parts=>optK (c.I t) λi=>optK o.dst λd=>bif Nat.blt d c.n then(match i.ty with
      | .slice e=>optK (c.I e) λie=>optK (Io ie.size n (List.replicate n (Cf ie)) (parts.toList.map λp=>(p.1,A.ev p.2))) λrows=>
        bif rows.flatten.all AV.one then n*ie.size<=16777216/\(match rows with
          |[]=>K (A.put d (.av .emp)) st
          | _ ::_=>bif c.G.contains d then(bif c.G.contains (d+1000000)then∀b,Fresh st b->K (A.put d (.av (.s (.slice (some ⟨b,0,none⟩) rows.length rows.length)))) (st.sO b (.cells rows.flatten))
              else∀b,Fresh st b->K (A.put d (.av (.lst ie.size rows (some b)))) (st.sT b (some (rows.length*ie.size))))
            else K (A.put d (.av (.lst ie.size rows none))) st)else False
      |_=>False)else False
  |.store t a x=>bif o.dst.isNone then optK (c.I t) λi=>match A.ev x with
      |.av x=>Db i A st (A.ev a) x K
      |_=>False
      else False
  |.binOp op t x y yt=>br c o op t x y yt K A st
  |.convert s t x=>bf P c o s t x K A st
  | .call cl=>match cl.callee with
    | .value f=>match Wy (A.ev f)with
      | some (g,fv,cap)=>optK (cl.args.toList.mapM λx=>(A.ev x).toAV) λvs=>
        ACalls P g (fv++(vs++cap)) st λr st'=>xf A c.n o.dst (.av r) λA'=>K A' st'
      |_=>False
    |.invoke y m=>Wd P c o cl m (A.ev y) K A st
    | .builtin .append=>optK cl.argTypes[0]? λt=>optK (c.I t) λi=>optK cl.args[0]? λs=>optK cl.args[1]? λx=>match i.ty with
      |.slice e=>bif (cl.argTypes[1]?.bind c.I).any Ol then
          appendK P c st e (A.ev s) (A.ev x) λr st'=>xf A c.n o.dst (.av r) λA'=>K A' st' else vcX P c o K A st
      |_=>False
    |_=>optK o.dst λd=>bif Nat.blt d c.n then vcV c A.ev A.bx st d o.op (λx=>K (A.put d x) st)else False
  |op=>optK o.dst λd=>bif Nat.blt d c.n then vcV c A.ev A.bx st d op (λx=>K (A.put d x) st)else False
structure AYield(P:Program)(l:Nat)(args:List AV)(st:Store)(R:Ja):Prop where
  out:∀(Oth M:Nat->Nat->Prop) (w:World) (vs:Array Value),StoreOK st Oth M w->Reads w (λb o=>M b o\/Oth b o) args vs.toList->
    ∃fn tmps assign body,(Instr.yield l vs).run P w=.ok (.round l fn tmps assign body) w/\RoundIn Fence.wide 0 P l fn tmps assign body w λe w'=>∃v,e=.returned v/\qy st R Oth M w v w'
def cq(A:Fr)(op:Op):Option Nat:=
  match op with
  | .call cl=>match cl.callee with
    | .value f=>match A.ev f with
      |.av (.s (.func (.yield l) x y))=>bif Nat.beq x.size 0&&Nat.beq y.size 0 then some l else none
      |_=>none
    |_=>none
  |_=>none
def pq(A:Fr)(op:Op):Option (List AV):=
  match op with
  |.call cl=>cl.args.toList.mapM λx=>(A.ev x).toAV
  |_=>none
def Dr(P:Program)(c:Cfg)(o:Oper)(K:Fr->Store->Prop)(A:Fr)(st:Store):Prop:=
  bif isX o.op then vcX P c o K A st else Ga P c o K A st
def Lx(P:Program)(c:Cfg)(o:Oper)(K:Fr->Store->Prop)(A:Fr)(st:Store):Prop:=
  match cq A o.op with
  |some l=>optK (pq A o.op) λvs=>AYield P l vs st λr st'=>xf A c.n o.dst (.av r) λA'=>K A' st'
  |none=>Dr P c o K A st
def Cfg.N(c:Cfg):SN:=⟨c.n,c.D0,c.nm⟩
def AOp(P:Program)(n:SN)(o:Oper)(K:Fr->Store->Prop)(A:Fr)(st:Store):Prop:=
  ∀Oth M a w,Sim n Oth A st M a w->o.wp P a w (λa' w'=>∃A' st' M',K A' st'/\Sim n Oth A' st' M' a' w'/\Chg M w M' w') (λ_ _ _=>False)
def ytg(P:Program)(c:Cfg)(o:Oper)(K:Fr->Store->Prop)(A:Fr)(st:Store):Prop:=
  ∀Oth M a w,Sim c.N Oth A st M a w->o.wpIn c.F 0 P a w (λa' w'=>∃A' st' M',K A' st'/\Sim c.N Oth A' st' M' a' w'/\Chg M w M' w') (λ_ _ _=>False)
theorem SimB.env{n:SN}{Oth M:Nat->Nat->Prop}{β:Nat->Nat}{a:Act}(h:SimB n Oth β A st M a w):
    Env w (λb o=>M b o\/Oth b o) β A.ev A.bx st a.eval:=
  ⟨h.ev,λk l hk=>(h.bx k l hk).1,λb x hx=>(h.sto.obj b x hx).1⟩
theorem Rn{c:Cfg}{o:Oper}{K:Fr->Store->Prop}(hI:y9 P c.I)
    (h:optK o.dst λd=>bif Nat.blt d c.n then vcV c A.ev A.bx st d o.op (λx=>K (A.put d x) st)else False):AOp P c.N o K A st:=by
  obtain⟨d,hd,h⟩:=zr h;cases hb:Nat.blt d c.n with
  |false=>grind
  | true=>
    rw[hb]at h;simp only[cond_true]at h;have hlt:d<c.n:=Fbm hb;obtain⟨x,hx,_,hs⟩:=df hI o.op h;rintro Oth M a w ⟨β,sim⟩;obtain⟨v,hr,hv⟩:=hs w _ β a.eval o rfl sim.env;unfold Oper.wp;rw[hr,Oper.upon_value,hd];exact⟨_,st,M,hx,⟨β,sim.put hlt hv⟩,Chg.refl M w⟩
end
end Go.V
