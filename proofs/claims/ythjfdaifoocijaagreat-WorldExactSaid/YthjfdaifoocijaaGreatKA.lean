/- Ground of laws of thronglaw25: contracts and plain lemmas; no condition beyond the row's own. -/
import Derived.Orders
import Derived.Deep.LoopGhost
import Derived.Below
import Derived.Scope
import Derived.Sort.LoopGhostIn
import Derived.OrdersIn
import Derived.TacticsIn
import Derived.Laws.StructEq
import Derived.Laws.Wrap64
import Derived.IntWalk
set_option linter.unusedSimpArgs false
set_option linter.unusedVariables false
set_option linter.defProp false
namespace Go.V
theorem δ{p:Prop}(h:p:=by grind):p:=h
theorem ζ{p:Prop}(h:p:=by dsimp only;omega):p:=h
theorem ξ{p:Prop}(h:p:=by rfl):p:=h
def ω{p:Prop}(h:p:=by cases h):p:=h
def γ{p:Prop}(h:p:=by cases hx):p:=h
theorem θa{p:Prop}(h:p:=by rw[he];decide):p:=h
theorem θb{p:Prop}(h:p:=by rw[xi];omega):p:=h
def θc{p:Prop}(h:p:=by have:=q.1;omega):p:=h
theorem θd{p:Prop}(h:p:=by rw[vq];omega):p:=h
theorem θe{p:Prop}(h:p:=by rw[Fam];omega):p:=h
def θf{p:Prop}(h:p:=by subst e;simp at h1):p:=h
def θg{p:Prop}(h:p:=by have:=hz.2 hh;rw[this]at c1;cases c1):p:=h
def θh{p:Prop}(h:p:=by rw[Faf];exact hi):p:=h
def θi{p:Prop}(h:p:=by rw[zl];omega):p:=h
def θj{p:Prop}(h:p:=by simp at h):p:=h
def θk{p:Prop}(h:p:=by unfold z8;rw[Fas];exact Fbk _ _):p:=h
def θl{p:Prop}(h:p:=by rw[hq2];omega):p:=h
def θm{p:Prop}(h:p:=by dsimp only at this;omega):p:=h
theorem θn{p:Prop}(h:p:=by simpa using hx):p:=h
def θo{p:Prop}(h:p:=by unfold Cmd.okP;simp[h]):p:=h
def θp{p:Prop}(h:p:=by unfold Cmd.only;simp[h]):p:=h
def θq{p:Prop}(h:p:=by simp_all[aE,aW]):p:=h
def θr{p:Prop}(h:p:=by have:=hzc.2 hh;rw[this]at c2;cases c2):p:=h
def θs{p:Prop}(h:p:=by rw[<-hS];exact zd _ _ _):p:=h
def θt{p:Prop}(h:p:=by rw[<-hS];exact(hv.set (hoff p hp) _).set (hoff p hp) _):p:=h
theorem θu{p:Prop}(h:p:=by rw[he];exact hE):p:=h
def θv{p:Prop}(h:p:=by obtain⟨d,h1,h2⟩:=h.und;rw[hy]at h2;cases d<;>simp[Ci]at h2;grind):p:=h
def θw{p:Prop}(h:p:=by simp only[vcV,hx];exact h'):p:=h
theorem θx{p:Prop}(h:p:=by simp[Op.operands]):p:=h
def θy{p:Prop}(h:p:=by simpa [Op.operands]using hr):p:=h
theorem θz{p:Prop}(h:p:=by simpa using h1):p:=h
def θ0{p:Prop}(h:p:=by simp only[Fah,false_iff];exact hn):p:=h
def θ1{p:Prop}(h:p:=by intro h4;subst h4;exact hne rfl):p:=h
def θ2{p:Prop}(h:p:=by simp[Bo]at hk):p:=h
def θ3{p:Prop}(h:p:=by have:=f1.2.1;grind):p:=h
def θ4{p:Prop}(h:p:=by simp_all[callFunc]):p:=h
def θ5{p:Prop}(h:p:=by simp only[Fah,false_iff];exact hh):p:=h
def θ6{p:Prop}(h:p:=by have:=hb0.2 (ok.1 hp.1).1;cases this):p:=h
def θ7{p:Prop}(h:p:=by obtain⟨x,y,rfl,h1,h2⟩:=Fc hr;exact Reads.cons (Dh hv sto h1) (Reads.cons (qv h2) Reads.nil)):p:=h
def θ8{p:Prop}(h:p:=by dsimp only at f3⊢;rw[f3];exact Tq):p:=h
def θ9{p:Prop}(h:p:=by simpa only[vcV,Mw]using h):p:=h
def ψa{p:Prop}(h:p:=by rw[hw.other b' he];exact h1):p:=h
def ψb{p:Prop}(h:p:=by simp[hv,Builtin.lenOf]):p:=h
def ψc{p:Prop}(h:p:=by have:=Sm h.lsz hilt hun;omega):p:=h
def ψd{p:Prop}(h:p:=by unfold off;split<;>(try split)<;>omega):p:=h
def ψe{p:Prop}(h:p:=by show(0:Int)<=0/\(0:Int)<8;decide):p:=h
def ψf{p:Prop}(h:p:=by rw[if_pos hh]at h;cases h):p:=h
def ψg{p:Prop}(h:p:=by rw[hq2];unfold ym;omega):p:=h
def ψh{p:Prop}(h:p:=by dsimp only at hji;omega):p:=h
def ψi{p:Prop}(h:p:=by have:=hplace hh;unfold qs at this;omega):p:=h
def ψj{p:Prop}(h:p:=by have:=hb1.2 (ok.1 hp.1).2;cases this):p:=h
def ψk{p:Prop}(h:p:=by rw[hz.2 hh]at c2;cases c2):p:=h
def ψl{p:Prop}(h:p:=by have:=hz.2 hh;rw[this]at c2;cases c2):p:=h
def ψm{p:Prop}(h:p:=by simp[Builtin.len_,goInt,ht,hargs,hx,hv,yv (jv (hI _ _ hi) hty)]):p:=h
def ψn{p:Prop}(h:p:=by obtain⟨β,s⟩:=sim;exact VRel.eq_s (qq s.env ht)):p:=h
def ψo{p:Prop}(h:p:=by grind[Op.operands,Call.operands]):p:=h
def ψp{p:Prop}(h:p:=by simp[Builtin.zeroCells,Value.cells]):p:=h
def ψq{p:Prop}(h:p:=by rw[ho];simp[Op.operands,Call.operands,hcl,hargs]):p:=h
def ψr{p:Prop}(h:p:=by show(0:Int)<=0/\(0:Int)<=4;decide):p:=h
def ψs{p:Prop}(h:p:=by have:=hz.2 hh.1;rw[this]at c1;cases c1):p:=h
def ψt{p:Prop}(h:p:=by obtain⟨e,_,rfl⟩:=Fag.1 he;rfl):p:=h
def ψu{p:Prop}(h:p:=by have:=congrArg List.length (hb rfl);rw[zl]at this;exact Fa4 this):p:=h
def ψv{p:Prop}(h:p:=by obtain⟨d,h1,h2⟩:=h.und;rw[hy]at h2;cases d<;>simp[Ci]at h2;exact h1):p:=h
def ψw{p:Prop}(h:p:=by simp[execOp,ho,hp',Instr.storeAt,Instr.sureAddr,storeVar,vg (hI _ _ hi),hvs,hr]):p:=h
def ψx{p:Prop}(h:p:=by rw[show vp (x+y)=-9223372036854775807 by unfold vp;omega]at h;exact h):p:=h
def ψy{p:Prop}(h:p:=by rw[Fbv,show 0+i*ti2.size=i from by show 0+i*1=i;omega,Fap (by simpa using hlt),Far,Fac hlt];rfl):p:=h
def ψz{p:Prop}(h:p:=by simp only[Fah,false_iff];exact λhh=>by have:=hz.2 hh.1;rw[this]at c1;cases c1):p:=h
def ψ0{p:Prop}(h:p:=by simp only[true_iff];refine hci.2 λu hu hne=>?_;obtain⟨j,hj,rfl⟩:=Fai hu;exact hall j hj θ hne):p:=h
def ψ1{p:Prop}(h:p:=by obtain⟨_,_,w,hw,h1,_,h2,_⟩:=hE;subst ha;exact absurd ⟨rfl,w,Fad _,hw,h1,h2⟩ hn):p:=h
def ψ2{p:Prop}(h:p:=by have:=hh.1;rw[hkv]at this;exact⟨by dsimp only at this;omega,by dsimp only at this;omega⟩):p:=h
def ψ3{p:Prop}(h:p:=by have:=hh.2;rw[hkv]at this;exact⟨by dsimp only at this;omega,by dsimp only at this;omega⟩):p:=h
def ψ4{p:Prop}(h:p:=by have hd:=xt (f:=zf) (L:=J) yn hi;rw[<-Fdk,hd,Fbv,Fap (by rw[yn];exact hj)];exact hy):p:=h
def ψ5{p:Prop}(h:p:=by unfold ql;rw[if_neg λh=>h hon,if_neg hnex,if_neg λh=>h hfi,if_pos θ]):p:=h
def ψ6{p:Prop}(h:p:=by unfold ql;rw[if_neg λh=>h hon,if_neg hnex,if_neg λh=>h hfi,if_neg θ]):p:=h
theorem χ{p:Prop}(h:p:=by simp;omega):p:=h
theorem θ{p:Prop}(h:p:=by omega):p:=h
theorem ψ{p:Prop}(h:p:=by decide):p:=h
theorem φ{p:Prop}(h:p:=by simp):p:=h
set_option linter.defProp false
def Faa:=@List.getElem_mem
def Fab:=@List.take_succ_eq_append_getElem
def Fac:=@List.getElem?_eq_getElem
def Fad:=@Nat.zero_le
def Fae:=@List.length_append
def Faf:=@List.length_set
def Fag:=@List.mem_map
def Fah:=@Bool.false_eq_true
def Fai:=@List.getElem_of_mem
def Faj:=@Option.some.injEq
def Fak:=@List.take_length
def Fal:=@Nat.le_refl
def Fam:=@List.length_take
def Fan:=@List.getElem?_cons_zero
def Fao:=@List.length_singleton
def Fap:=@List.getElem?_append_left
def Faq:=@List.getElem?_cons_succ
def Far:=@List.getElem?_map
def Fas:=@List.length_map
def Fat:=@List.mem_append
def Fau:=@Nat.not_lt_zero
def Fav:=@Int.mul_nonneg
def Faw:=@List.append_assoc
def Fax:=@List.getElem?_eq_some_iff
def Fay:=@Bool.and_eq_true
def Faz:=@Int.tdiv_eq_ediv_of_nonneg
def Fa0:=@Int.toNat_natCast
def Fa1:=@Nat.mul_le_mul_right
def Fa2:=@List.getElem?_append_right
def Fa3:=@List.mem_of_getElem?
def Fa4:=@List.eq_nil_of_length_eq_zero
def Fa5:=@List.findIdx?_eq_some_iff_getElem
def Fa6:=@List.mem_iff_getElem?
def Fa7:=@List.mem_cons
def Fa8:=@List.map_append
def Fa9:=@Int.mul_le_mul
def Fba:=@List.mem_cons_of_mem
def Fbb:=@List.getD_eq_getElem?_getD
def Fbc:=@Array.toList_append
def Fbd:=@List.mem_range
def Fbe:=@Array.getElem?_eq_getElem
def Fbf:=@Bool.and_eq_true_iff
def Fbg:=@Nat.zero_add
def Fbh:=@List.length_replicate
def Fbi:=@Array.getD_eq_getD_getElem?
def Fbj:=@Nat.le_of_ble_eq_true
def Fbk:=@List.length_filter_le
def Fbl:=@List.append_nil
def Fbm:=@List.getElem_set_self
def Fbn:=@List.findIdx?_eq_none_iff
def Fbo:=@List.mem_cons_self
def Fbp:=@List.getElem_map
def Fbq:=@Bool.eq_iff_iff
def Fbr:=@List.set_set
def Fbs:=@List.Nodup.length_le_of_subset
def Fbt:=@Array.getElem?_eq_some_iff
def Fbu:=@List.take_append_of_le_length
def Fbv:=@List.head?_drop
def Fbw:=@List.getElem?_replicate
def Fbx:=@Int.eq_ofNat_of_zero_le
def Fby:=@List.map_congr_left
def Fbz:=@List.length_cons
def Fb0:=@List.getElem_append_left
def Fb1:=@List.getElem?_take_of_lt
def Fb2:=@Int.ediv_nonneg
def Fb3:=@List.getElem?_eq_none
def Fb4:=@List.mem_filter
def Fb5:=@Bool.not_eq_true'
def Fb6:=@Nat.beq_refl
def Fb7:=@Int.add_zero
def Fb8:=@Int.ediv_eq_zero_of_lt
def Fb9:=@List.take_append_drop
def Fca:=@List.not_mem_nil
def Fcb:=@List.drop_zero
def Fcc:=@List.map_cons
def Fcd:=@List.ext_getElem?
def Fce:=@List.take_of_length_le
def Fcf:=@Int.emod_nonneg
def Fcg:=@List.length_drop
def Fch:=@Nat.add_mul
def Fci:=@Array.length_toList
def Fcj:=@List.take_zero
def Fck:=@List.all_eq_true
def Fcl:=@Int.tmod_eq_emod_of_nonneg
def Fcm:=@List.drop_of_length_le
def Fcn:=@List.pairwise_iff_getElem
def Fco:=@Nat.ble_eq_true_of_le
def Fcp:=@List.cons.injEq
def Fcq:=@List.getElem?_drop
def Fcr:=@List.filter_append
def Fcs:=@Int.emod_lt_of_pos
def Fct:=@Nat.lt_succ_self
def Fcu:=@Int.le_refl
def Fcv:=@Array.toList_map
def Fcw:=@Nat.mul_le_mul
def Fcx:=@Nat.le_trans
def Fcy:=@List.getElem_cons_zero
def Fcz:=@Int.fdiv_eq_ediv_of_nonneg
def Fc0:=@Int.ediv_le_self
def Fc1:=@Bool.cond_decide
def Fc2:=@List.pairwise_cons
def Fc3:=@List.mem_singleton
def Fc4:=@Bool.and_eq_false_iff
def Fc5:=@Array.getElem?_modify
def Fc6:=@List.nil_append
def Fc7:=@List.foldl_cons
def Fc8:=@Int.emod_eq_of_lt
def Fc9:=@List.getElem_set
def Fda:=@Int.mul_le_mul_of_nonneg_left
def Fdb:=@Nat.le_succ
def Fdc:=@List.range_succ
def Fdd:=@Int.emod_add_mul_ediv
def Fde:=@Array.getElem?_toList
def Fdf:=@List.nodup_append
def Fdg:=@List.any_eq_false
def Fdh:=@Array.getElem?_append_left
def Fdi:=@List.mem_append_left
def Fdj:=@List.drop_eq_getElem_cons
def Fdk:=@List.drop_drop
def Fdl:=@List.filter_cons
def Fdm:=@List.ext_getElem
def Fdn:=@List.any_eq_true
def Fdo:=@Nat.min_eq_left
def Fdp:=@Nat.lt_irrefl
def Fdq:=@Int.sub_eq_add_neg
def Fdr:=@Bool.false_or
def Fds:=@List.length_range
def Fdt:=@List.getElem_take
def Fdu:=@List.eraseIdx_eq_take_drop_succ
def Fdv:=@Int.mul_add
def Fdw:=@List.nodup_nil
def Fdx:=@Bool.false_and
def Fdy:=@Nat.succ_mul
def Fdz:=@Int.mul_ediv_add_emod
def Fd0:=@Int.ediv_lt_of_lt_mul
def Fd1:=@Int.add_mul_ediv_left
def Fd2:=@Array.mem_of_getElem?
def Fd3:=@List.map_eq_cons_iff
def Fd4:=@List.dropLast_concat_getLast
def Fd5:=@List.flatten_append
def Fd6:=@Int.add_mul_emod_self_left
def Fd7:=@Array.toList_setIfInBounds
def Fd8:=@Option.isSome_none
def Fd9:=@Nat.add_sub_cancel
def Fea:=@List.getElem?_take
def Feb:=@List.mem_of_find?_eq_some
def Fec:=@List.getElem_append_right
def Fed:=@Bool.and_false
def Fee:=@Array.mapM_eq_mapM_toList
def Fef:=@List.getElem?_set
def Feg:=@List.flatten_cons
def Feh:=@List.findIdx?_map
def Fei:=@List.filter_congr
def Fej:=@Nat.mul_one
def Fek:=@Int.pow_pos
def Fel:=@Bool.true_and
def qlt(a b:Int×Int):Prop:=a.1<b.1\/a.1=b.1/\a.2<b.2
instance(a b:Int×Int):Decidable (qlt a b):=by unfold qlt;exact inferInstance
def dl(a:Int×Int):¬qlt a a:=by unfold qlt;omega
theorem R0{a b c:Int×Int}(h:¬qlt b a)(k:¬qlt c b):¬qlt c a:=by unfold qlt at*;omega
theorem R1{a b:Int×Int}(h:qlt a b):¬qlt b a:=by unfold qlt at*;omega
def su{a b:Int×Int}(h:¬qlt b a):a.1<=b.1:=by unfold qlt at*;omega
def par(j:Nat):Nat:=(j-1)/2
def H1(f:Nat->Int×Int)(i k:Nat):Nat->Int×Int:=λj=>if j=k then f i else if j=i then f k else f j
def Ln(f:Nat->Int×Int)(n:Nat):Prop:=∀j,0<j->j<n->¬qlt (f j) (f (par j))
def UpF(f:Nat->Int×Int)(n i:Nat):Prop:=(∀j,0<j->j<n->j≠i->¬qlt (f j) (f (par j)))/\∀j,0<j->j<n->par j=i->0<i->¬qlt (f j) (f (par i))
def Hu(f:Nat->Int×Int)(n i:Nat):Prop:=(∀j,0<j->j<n->par j≠i->¬qlt (f j) (f (par j)))/\∀j,0<j->j<n->par j=i->0<i->¬qlt (f j) (f (par i))
theorem C0{j:Nat}(h:0<j):par j<j:=by unfold par;omega
def zf7{f:Nat->Int×Int}{n i:Nat}(h:UpF f n i)(hi:i=0\/¬qlt (f i) (f (par i))):Ln f n:=by
 intro j h0 hj;by_cases e:j=i
 ·grind
 ·exact h.1 j h0 hj e
def zf6{f:Nat->Int×Int}{n:Nat}(h:Ln f n):UpF f (n+1) n:=
 ⟨λj h0 hj hn=>h j h0 (by omega),λj h0 hj hp h1=>by have:=C0 h0;omega⟩
def zf5{f:Nat->Int×Int}{n i:Nat}(h:UpF f n i)(h0:0<i)(hi:i<n)(hl:qlt (f i) (f (par i))):UpF (H1 f i (par i)) n (par i):=by
 have hp:=C0 h0;refine⟨λj j0 jn jp=>?_,λj j0 jn jp p0=>?_⟩
 ·unfold H1;rw[if_neg jp];by_cases e:j=i
  ·simp_all[R1]
  ·rw[if_neg e];by_cases e2:par j=par i
   ·rw[if_pos e2];have h1:=h.1 j j0 jn e;grind[R0,R1]
   ·rw[if_neg e2];by_cases e3:par j=i
    ·rw[if_pos e3];exact h.2 j j0 jn e3 h0
    ·rw[if_neg e3];exact h.1 j j0 jn e
 ·have hpp:=C0 p0;unfold H1;rw[if_neg (show¬par (par i)=par i by omega),if_neg (show¬par (par i)=i by omega)];have h1:=h.1 (par i) p0 (by omega) (by omega);by_cases e:j=i
  ·grind
  ·have hjp:j≠par i:=by grind
   rw[if_neg hjp,if_neg e];have h2:=h.1 j j0 jn e;grind[R0]
def zcx{f:Nat->Int×Int}{n i:Nat}(h:Hu f n i)(hc:∀j,0<j->j<n->par j=i->¬qlt (f j) (f i)):Ln f n:=by
 intro j h0 hj;by_cases e:par j=i
 ·grind
 ·exact h.1 j h0 hj e
def ykp{f:Nat->Int×Int}{n i k:Nat}(h:Hu f n i)(hk0:0<k)(hk:k<n)(hki:par k=i)(hmin:∀j,0<j->j<n->par j=i->¬qlt (f j) (f k))(hl:qlt (f k) (f i)):Hu (H1 f i k) n k:=by
 have hik:i<k:=hki▸C0 hk0;refine⟨λj j0 jn jp=>?_,λj j0 jn jp _=>?_⟩
 ·unfold H1;rw[if_neg jp];by_cases e:j=k
  ·simp_all[R1]
  ·rw[if_neg e];by_cases e2:j=i
   ·subst e2;have hpj:par j≠j:=by have:=C0 j0;omega
    rw[if_pos rfl,if_neg hpj];exact h.2 k hk0 hk hki j0
   ·rw[if_neg e2];by_cases e3:par j=i
    ·grind
    ·rw[if_neg e3];exact h.1 j j0 jn e3
 ·have hjk:k<j:=jp▸C0 j0;unfold H1;rw[if_neg (show¬j=k by omega),if_neg (show¬j=i by omega),hki,if_neg (show¬i=k by omega),if_pos rfl];have h1:=h.1 j j0 jn (by omega);grind
def yhp{f:Nat->Int×Int}{n:Nat}(h:Ln f n):∀j,j<n->¬qlt (f j) (f 0):=by
 intro j;induction j using Nat.strongRecOn with
 |_ j ih=>
  intro hj;by_cases e:j=0
  ·subst e;exact dl _
  ·have hp:=C0 (Nat.pos_of_ne_zero e);exact R0 (ih _ hp (by omega)) (h j (by omega) hj)
def Oo{i j:Nat}(h:0<j):par j=i↔j=2*i+1\/j=2*i+2:=by unfold par;omega
def qat(l:List (Int×Int))(j:Nat):Int×Int:=l.getD j (0,0)
def wx(l:List (Int×Int)):Prop:=Ln (qat l) l.length
def wq(l:List (Int×Int))(i k:Nat):List (Int×Int):=(l.set i (qat l k)).set k (qat l i)
theorem L6(l:List (Int×Int))(i k:Nat):(wq l i k).length=l.length:=by simp[wq]
theorem R3{l:List (Int×Int)}{j:Nat}(h:j<l.length):qat l j=l[j]:=by grind[qat]
theorem ydr{l:List (Int×Int)}{i:Nat}(h:i<l.length)(x:Int×Int)(j:Nat):qat (l.set i x) j=if j=i then x else qat l j:=by unfold qat;grind
theorem sw{l:List (Int×Int)}{i k:Nat}(hi:i<l.length)(hk:k<l.length):qat (wq l i k)=H1 (qat l) i k:=by grind[wq,H1,ydr]
def oh{l:List (Int×Int)}{i k:Nat}(hi:i<l.length)(hk:k<l.length):(wq l i k).Perm l:=by grind[wq,R3]
theorem sx(l:List (Int×Int))(x:Int×Int)(j:Nat)(h:j<l.length):qat (l++[x]) j=qat l j:=by grind[qat]
structure FarOK(E:Nat->Nat->Int->Prop)(goal:Nat)(d:Nat->Int):Prop where
 lab:∀u,d u=-1\/0<=d u
 gl:d goal=0
 pre:∀u,u≠goal->0<=d u->∃t c,0<=d t/\E t u c/\d t+c<=d u
 rel:∀t u c,0<=d t->E t u c->0<=d u/\d u<=d t+c
section
variable {goal u n t:Nat} {cur c:Int}
def Vo{E:Nat->Nat->Int->Prop}(hE:∀t u c,E t u c->0<c){d e:Nat->Int}(h:FarOK E goal d)(k:FarOK E goal e):∀(n:Nat) (u:Nat),0<=e u->(e u).toNat=n->0<=d u/\d u<=e u:=by
 intro n;induction n using Nat.strongRecOn with
 |_ n ih=>
  intro u hu hn;by_cases hg:u=goal
  ·subst hg;have h1:=h.gl;omega
  ·obtain⟨t,c,ht,hE1,hc⟩:=k.pre u hg hu;have hp:=hE _ _ _ hE1;obtain⟨h1,h2⟩:=ih (e t).toNat θ t ht rfl;obtain⟨h3,h4⟩:=h.rel t u c h1 hE1;omega
def yjx{E:Nat->Nat->Int->Prop}(hE:∀t u c,E t u c->0<c){d e:Nat->Int}(h:FarOK E goal d)(k:FarOK E goal e):d=e:=by
 funext u
 rcases h.lab u with h1|h1
 ·rcases k.lab u with h2|h2
  ·omega
  ·have:=Vo hE h k _ u h2 rfl;omega
 ·rcases k.lab u with h2|h2
  ·have:=Vo hE k h _ u h1 rfl;omega
  ·have h3:=Vo hE h k _ u h2 rfl;have h4:=Vo hE k h _ u h1 rfl;omega
def z7{α:Type}(d:Nat->α)(u:Nat)(x:α):Nat->α:=λj=>if j=u then x else d j
theorem vl{α:Type}(d:Nat->α)(u:Nat)(x:α):z7 d u x u=x:=by simp[z7]
theorem jo{α:Type}{d:Nat->α}{j:Nat}{x:α}(h:j≠u):z7 d u x j=d j:=by simp[z7,h]
structure DJ(E:Nat->Nat->Int->Prop)(n goal:Nat)(d:Nat->Int)(dn:Nat->Bool)(q:List (Int×Int))(cur:Int)(O:Nat->Nat->Int->Prop):Prop where
 lab:∀u,d u=-1\/0<=d u
 gl:d goal=0
 pre:∀u,u≠goal->0<=d u->∃t c,dn t=true/\0<=d t/\E t u c/\d t+c<=d u
 rel:∀t u c,dn t=true->E t u c->¬O t u c->0<=d u/\d u<=d t+c
 mono:∀t,dn t=true->0<=d t/\d t<=cur
 ent:∀e∈q,∃u:Nat,e.2=(u:Int)/\u<n/\0<=d u/\d u<=e.1/\cur<=e.1
 wait:∀u,0<=d u->dn u=false->(d u,(u:Int))∈q
def Ds:Nat->Nat->Int->Prop:=λ_ _ _=>False
def ykz(E:Nat->Nat->Int->Prop)(hg:goal<n){d:Nat->Int}(hd:∀u,d u=if u=goal then 0 else -1):DJ E n goal d (λ_=>false) [(0,(goal:Int))] 0 Ds:=by
 refine⟨λu=>?_,by simp[hd],λu hu h=>?_,λt u c h=>?_,λt h=>?_,λe he=>?_,λu h _=>?_⟩
 ·grind
 ·grind
 ·cases h
 ·cases h
 ·grind
 grind
def ykx{E:Nat->Nat->Int->Prop}{d:Nat->Int}{dn:Nat->Bool}{q q':List (Int×Int)}(h:DJ E n goal d dn q cur Ds){x:Int×Int}{t:Nat}(ht:x.2=(t:Int))(hp:q.Perm (x::q'))(hd:dn t=true):DJ E n goal d dn q' cur Ds:=by
 refine⟨h.lab,h.gl,h.pre,h.rel,h.mono,λe he=>h.ent e (hp.mem_iff.2 (Fba _ he)),λu hu hn=>?_⟩;rcases Fa7.1 (hp.mem_iff.1 (h.wait u hu hn))with he|he
 ·grind
 omega
def ykw{E:Nat->Nat->Int->Prop}{d:Nat->Int}{dn:Nat->Bool}{q q':List (Int×Int)}(h:DJ E n goal d dn q cur Ds){x:Int×Int}{t:Nat}(ht:x.2=(t:Int))(hp:q.Perm (x::q'))(hm:∀e∈q,¬qlt e x)(hd:dn t=false):
  x.1=d t/\DJ E n goal d (z7 dn t true) q' x.1 (λa _ _=>a=t):=by
 have hx:x∈q:=hp.mem_iff.2 Fbo;obtain⟨u,hu,hun,hu0,hux,huc⟩:=h.ent x hx;have:u=t:=θ;subst this;have hk:x.1=d u:=by have:=su (hm _ (h.wait u hu0 hd));omega
 refine⟨hk,h.lab,h.gl,λv hv hl=>?_,λa b c ha hE hO=>?_,λa ha=>?_,λe he=>?_,λv hv hn=>?_⟩
 ·obtain⟨a,c,h1,h2,h3,h4⟩:=h.pre v hv hl;grind[z7]
 ·rw[jo hO]at ha;exact h.rel a b c ha hE λh=>h
 ·unfold z7 at ha;split at ha
  ·grind
  ·have:=h.mono a ha;omega
 ·have he2:=hp.mem_iff.2 (Fba x he);obtain⟨v,h1,h2,h3,h4,h5⟩:=h.ent e he2;exact⟨v,h1,h2,h3,h4,su (hm e he2)⟩
 ·unfold z7 at hn;split at hn
  ·cases hn
  ·rename_i hne;rcases Fa7.1 (hp.mem_iff.1 (h.wait v hv hn))with he|he
   ·grind
   omega
def ib{E:Nat->Nat->Int->Prop}{d:Nat->Int}{dn:Nat->Bool}{q:List (Int×Int)}{O O':Nat->Nat->Int->Prop}(h:DJ E n goal d dn q cur O)
  (ho:∀t u c,O t u c->¬O' t u c->E t u c->0<=d u/\d u<=d t+c):DJ E n goal d dn q cur O':=
 ⟨h.lab,h.gl,h.pre,λt u c ht hE hO=>by
  by_cases e:O t u c
  ·grind
  ·exact h.rel t u c ht hE e,h.mono,h.ent,h.wait⟩
def zcz{E:Nat->Nat->Int->Prop}(hE:∀t u c,E t u c->0<c){d:Nat->Int}{dn:Nat->Bool}{q q':List (Int×Int)}{O:Nat->Nat->Int->Prop}(h:DJ E n goal d dn q cur O){u:Nat}(ht:dn t=true)(htc:d t=cur)(hu:u<n)(hEu:E t u c)(hd:dn u=false)(hl:d u<0\/cur+c<d u)
  (hq:q'.Perm ((cur+c,(u:Int))::q)):DJ E n goal (z7 d u (cur+c)) dn q' cur O:=by
 have hc:=hE _ _ _ hEu;have hcur:0<=cur:=by have:=h.mono t ht;omega
 have htu:t≠u:=λe=>δ;have hdn:∀a,dn a=true->a≠u:=λa ha e=>δ;have hgu:goal≠u:=λe=>by subst e;have:=h.gl;omega
 refine⟨λv=>?_,by rw[jo hgu];exact h.gl,λv hv hl2=>?_,λa b k ha hE2 hO=>?_,λa ha=>?_,λe he=>?_,λv hv hn=>?_⟩
 ·unfold z7;split
  ·omega
  ·exact h.lab v
 ·by_cases e:v=u
  ·grind[jo,vl]
  ·rw[jo e]at hl2⊢;obtain⟨a,k,h1,h2,h3,h4⟩:=h.pre v hv hl2;grind[jo]
 ·rw[jo (hdn a ha)];obtain⟨h1,h2⟩:=h.rel a b k ha hE2 hO;grind[vl,jo]
 ·rw[jo (hdn a ha)];exact h.mono a ha
 ·rcases Fa7.1 (hq.mem_iff.1 he)with e1|e1
  ·subst e1;exact⟨u,rfl,hu,by rw[vl];omega,by rw[vl];simp,θ⟩
  ·obtain⟨v,h1,h2,h3,h4,h5⟩:=h.ent e e1;grind[vl,jo]
 ·by_cases e:v=u
  ·grind[vl]
  ·rw[jo e]at hv⊢;exact hq.mem_iff.2 (Fba _ (h.wait v hv hn))
def yk0{E:Nat->Nat->Int->Prop}{d:Nat->Int}{dn:Nat->Bool}(h:DJ E n goal d dn [] cur Ds):FarOK E goal d:=by
 have hdn:∀u,0<=d u->dn u=true:=λu hu=>by
  cases hb:dn u with
  |true=>rfl
  |false=>exact absurd (h.wait u hu hb) φ
 exact⟨h.lab,h.gl,λu hu hl=>by obtain⟨t,c,_,h2,h3,h4⟩:=h.pre u hu hl;grind,λt u c ht hE=>h.rel t u c (hdn t ht) hE λh=>h⟩
structure SP(E:Nat->Nat->Int->Prop)(goal:Nat)(d:Nat->Int)(W:Nat->Bool)(O:Nat->Nat->Int->Prop):Prop where
 lab:∀u,d u=-1\/0<=d u
 gl:d goal=0
 pre:∀u,u≠goal->0<=d u->∃t c,0<=d t/\E t u c/\d t+c<=d u
 rel:∀t u c,0<=d t->W t=false->E t u c->¬O t u c->0<=d u/\d u<=d t+c
 wl:∀t,W t=true->0<=d t
def zuq(E:Nat->Nat->Int->Prop){d:Nat->Int}(hd:∀u,d u=if u=goal then 0 else -1){W:Nat->Bool}(hW:∀u,W u=decide (u=goal)):SP E goal d W Ds:=by
 refine⟨λu=>?_,by simp[hd],λu hu h=>?_,λt u c h hw=>?_,λt h=>?_⟩
 ·grind
 ·grind
 ·grind
 grind
def zuo{E:Nat->Nat->Int->Prop}{d:Nat->Int}{W:Nat->Bool}(h:SP E goal d W Ds)(t:Nat):SP E goal d (z7 W t false) (λa _ _=>a=t):=
 ⟨h.lab,h.gl,h.pre,λa u c ha hw hE hO=>by
  rw[jo hO]at hw;exact h.rel a u c ha hw hE λh=>h,λa ha=>by
  unfold z7 at ha;split at ha
  ·cases ha
  ·exact h.wl a ha⟩
def bv{E:Nat->Nat->Int->Prop}{d:Nat->Int}{W:Nat->Bool}{O O':Nat->Nat->Int->Prop}(h:SP E goal d W O)(ho:∀t u c,O t u c->¬O' t u c->E t u c->0<=d u/\d u<=d t+c):SP E goal d W O':=
 ⟨h.lab,h.gl,h.pre,λt u c ht hw hE hO=>by
  by_cases e:O t u c
  ·grind
  ·exact h.rel t u c ht hw hE e,h.wl⟩
def zup{E:Nat->Nat->Int->Prop}(hE:∀t u c,E t u c->0<c){d:Nat->Int}{W:Nat->Bool}{O:Nat->Nat->Int->Prop}(h:SP E goal d W O)(ht:0<=d t)(htu:t≠u)(hEu:E t u c)(hl:d u<0\/d t+c<d u):SP E goal (z7 d u (d t+c)) (z7 W u true) O:=by
 have hc:=hE _ _ _ hEu;have hgu:goal≠u:=λe=>by subst e;have:=h.gl;omega
 have low:∀v,0<=d v->0<=z7 d u (d t+c) v/\z7 d u (d t+c) v<=d v:=λv hv=>by grind[z7]
 refine⟨λv=>?_,by rw[jo hgu];exact h.gl,λv hv hl2=>?_,λa b k ha hw hE2 hO=>?_,λa ha=>?_⟩
 ·unfold z7;split
  ·omega
  ·exact h.lab v
 ·by_cases e:v=u
  ·subst e;exact⟨t,c,δ,hEu,by simp_all[vl]⟩
  ·rw[jo e]at hl2⊢;obtain⟨a,k,h2,h3,h4⟩:=h.pre v hv hl2;grind
 ·by_cases e:a=u
  ·subst e;rw[vl]at hw;cases hw
  ·rw[jo e]at ha hw⊢;obtain⟨h1,h2⟩:=h.rel a b k ha hw hE2 hO;grind
 ·by_cases e:a=u
  ·subst e;rw[vl];omega
  ·rw[jo e]at ha⊢;exact h.wl a ha
def zur{E:Nat->Nat->Int->Prop}{d:Nat->Int}{W:Nat->Bool}(h:SP E goal d W Ds)(hw:∀u,W u=false):FarOK E goal d:=
 ⟨h.lab,h.gl,h.pre,λt u c ht hE=>h.rel t u c ht (hw t) hE λh=>h⟩
end
abbrev BB:=Nat->Nat->Prop
def κ{p:Prop}(h:p:=by kernel_rfl):p:=h
section
variable {w w':World} {v:Value}
def Tv:True:=trivial
inductive AV where
  |any
  |s (v:Value)
  |agg (cs:List AV)
  |tup (vs:List AV)
  |lst (k:Nat) (rows:List (List AV)) (tok:Option Nat)
  |cp (cells:List AV)
  |emp
  |clos (f:FuncId) (cap:List AV)
  deriving Inhabited
def xp:Value->Bool
  |.agg _=>false
  |.tuple _=>false
  |_=>true
inductive VRel(w:World)(T:BB):AV->Value->Prop
  |any (v:Value):VRel w T .any v
  |s (v:Value):VRel w T (.s v) v
  |agg (cs:List AV) (c:Array Value) (hl:cs.length=c.size) (h:∀(i:Nat) (x:AV) (y:Value),cs[i]?=some x->c[i]?=some y->VRel w T x y):VRel w T (.agg cs) (.agg c)
  |tup (cs:List AV) (c:Array Value) (hl:cs.length=c.size) (h:∀(i:Nat) (x:AV) (y:Value),cs[i]?=some x->c[i]?=some y->VRel w T x y):VRel w T (.tup cs) (.tuple c)
  |emp (a:Option Addr) (h:∀x,a=some x->x.spot=none):VRel w T .emp (.slice a 0 0)
  |nil (k:Nat) (a:Option Addr):VRel w T (.lst k [] none) (.slice a 0 0)
  |lst (rows:List (List AV)) (tok:Option Nat) (b off cap k:Nat) (c:Nat->Value) (hcap:rows.length<=cap)
      (hk:∀(i:Nat) (row:List AV),rows[i]?=some row->row.length=k)
      (htok:∀t,tok=some t->t=b/\off=0/\rows≠[]/\∃c e fr,w.heap[b]?=some (.cells c e fr)/\cap*k<=c.size)
      (hc:∀(i:Nat) (row:List AV) (j:Nat) (x:AV),rows[i]?=some row->row[j]?=some x->w.cell? ⟨b,off+(i*k+j),none⟩=some (c (i*k+j))/\¬T b (off+(i*k+j)))
      (h1:∀(i:Nat) (row:List AV) (j:Nat) (x:AV),rows[i]?=some row->row[j]?=some x->xp (c (i*k+j))=true)
      (hx:∀(i:Nat) (row:List AV) (j:Nat) (x:AV),rows[i]?=some row->row[j]?=some x->VRel w T x (c (i*k+j))):
      VRel w T (.lst k rows tok) (.slice (some ⟨b,off,none⟩) rows.length cap)
  |cp (cells:List AV) (b off:Nat) (c:Nat->Value)
      (hc:∀(j:Nat) (x:AV),cells[j]?=some x->w.cell? ⟨b,off+j,none⟩=some (c j)/\¬T b (off+j))
      (hx:∀(j:Nat) (x:AV),cells[j]?=some x->VRel w T x (c j)):
      VRel w T (.cp cells) (.pointer (some ⟨b,off,none⟩))
  |clos (f:FuncId) (cs:List AV) (c:Array Value) (hl:cs.length=c.size) (h:∀(i:Nat) (x:AV) (y:Value),cs[i]?=some x->c[i]?=some y->VRel w T x y):VRel w T (.clos f cs) (.func (.func f) #[] c)
structure Keeps(w:World)(T:BB)(w':World)(T':BB):Prop where
  cell:∀b o c,w.cell? ⟨b,o,none⟩=some c->¬T b o->w'.cell? ⟨b,o,none⟩=some c
  out:∀b o c,w.cell? ⟨b,o,none⟩=some c->¬T b o->¬T' b o
  shp:∀(b:Nat) c e fr,w.heap[b]?=some (.cells c e fr)->∃c' fr',w'.heap[b]?=some (.cells c' e fr')/\c'.size=c.size
theorem VRel.keep{T T':BB}(hk:Keeps w T w' T'){x:AV}(h:VRel w T x v):VRel w' T' x v:=by
  induction h with
  |any v=>exact .any v
  |s v=>exact .s v
  |agg cs c hl _ ih=>exact .agg cs c hl ih
  |tup cs c hl _ ih=>exact .tup cs c hl ih
  |emp a h=>exact .emp a h
  |nil k a=>exact .nil k a
  | lst rows tok b off cap k c hcap hkk htok hc h1 _ ih=>
    refine .lst rows tok b off cap k c hcap hkk (λt ht=>?_) (λi row j x h1 h2=>?_) h1 ih
    · obtain⟨h1,h2,h3,c,e,fr,h4,h5⟩:=htok t ht
      obtain⟨c',fr',h6,h7⟩:=hk.shp _ _ _ _ h4;grind
    · obtain⟨h3,h4⟩:=hc i row j x h1 h2
      exact⟨hk.cell _ _ _ h3 h4,hk.out _ _ _ h3 h4⟩
  | cp cells b off c hc _ ih=>
    refine .cp cells b off c (λj x h1=>?_) ih;obtain⟨h3,h4⟩:=hc j x h1;exact⟨hk.cell _ _ _ h3 h4,hk.out _ _ _ h3 h4⟩
  |clos f cs c hl _ ih=>exact .clos f cs c hl ih
def VRel.mono{T T':BB}(hs:∀b o,T' b o->T b o){x:AV}(h:VRel w T x v):VRel w T' x v:=
  h.keep ⟨λ_ _ _ h _=>h,λ_ _ _ _ h h'=>h (hs _ _ h'),λ_ _ _ _ h=>⟨_,_,h,rfl⟩⟩
def AV.le(x y:AV):Prop:=∀w T v,VRel w T x v->VRel w T y v
theorem AV.le_refl(x:AV):AV.le x x:=λ_ _ _ h=>h
def AV.le_trans{x y z:AV}(h:AV.le x y)(h':AV.le y z):AV.le x z:=λw T v k=>h' w T v (h w T v k)
theorem AV.le_any(x:AV):AV.le x .any:=λ_ _ v _=>.any v
def AV.le_tok(k:Nat)(rows:List (List AV))(tok:Option Nat):AV.le (.lst k rows tok) (.lst k rows none):=by
  intro w T v h;cases h with
  |nil _ a=>exact .nil k a
  |lst _ _ b off cap _ c hcap hk htok hc h1 hx=>exact .lst rows none b off cap k c hcap hk (λ_ h=>ω) hc h1 hx
def AV.le_nil(k:Nat):AV.le (.s (.slice none 0 0)) (.lst k [] none):=by intro w T v h;cases h;exact .nil k none
def AV.le_agg{cs ds:List AV}(hl:cs.length=ds.length)(h:∀(i:Nat) (x y:AV),cs[i]?=some x->ds[i]?=some y->AV.le x y):AV.le (.agg cs) (.agg ds):=by
  intro w T v hv;cases hv with
  | agg _ c hl' hc=>
    refine .agg ds c θ λi x y hx hy=>?_;have hi:i<cs.length:=δ;exact h i cs[i] x (Fac hi) hx w T y (hc i _ _ (Fac hi) hy)
inductive AObj where
  |cells (l:List AV)
  |map (es:List (AV×AV)) (bs:List Nat) (clock:Nat)
  |iter (m:Nat) (since:Nat) (seen:List Nat) (last:Nat)
  |ghost (o:Obj) (gh:List (AV×Value))
structure Store where
  obj:Nat->Option AObj
  tok:Nat->Option Nat
def Store.empty:Store:=⟨λ_=>none,λ_=>none⟩
def Store.sO(st:Store)(b:Nat)(x:AObj):Store:={st with obj:=λi=>bif Nat.beq i b then some x else st.obj i}
def Store.sT(st:Store)(b:Nat)(x:Option Nat):Store:={st with tok:=λi=>bif Nat.beq i b then x else st.tok i}
structure Store.Has(st st':Store):Prop where
  obj:∀b x,st'.obj b=some x->st.obj b=some x
  tok:∀b x,st'.tok b=some x->st.tok b=some x
def Store.Has.refl(st:Store):st.Has st:=⟨λ_ _ h=>h,λ_ _ h=>h⟩
theorem Store.Has.trans{a b c:Store}(h:a.Has b)(h':b.Has c):a.Has c:=⟨λ_ _ k=>h.obj _ _ (h'.obj _ _ k),λ_ _ k=>h.tok _ _ (h'.tok _ _ k)⟩
def D5(fr:Nat×Nat)(n:Nat):Prop:=fr.2=fr.1\/n<=fr.1
def CellsRel(w:World)(T:BB)(l:List AV)(b:Nat):Prop:=
  ∃ c e fr,w.heap[b]?=some (.cells c e fr)/\fr.2=fr.1/\l.length=c.size∧
    ∀(i:Nat) (x:AV) (y:Value),l[i]?=some x->c[i]?=some y->VRel w T x y
def yot(w:World)(T:BB)(es:List (AV×AV))(bs:List Nat)(clock:Nat)(b:Nat):Prop:=
  ∃ ms:Array MapEntry,w.heap[b]?=some (.map ms clock)/\es.length=ms.size∧
    (∀(i:Nat) (x:AV×AV) (y:MapEntry),es[i]?=some x->ms[i]?=some y->VRel w T x.1 y.key/\VRel w T x.2 y.val)∧
    bs=ms.toList.map (·.born)/\(∀t∈bs,t<clock)/\bs.Pairwise (·<·)
def Ov:Obj->Bool
  |.cells ..=>false
  |_=>true
def ObjRel(w:World)(T:BB):AObj->Nat->Prop
  |.cells l,b=>CellsRel w T l b
  |.map es bs clock,b=>yot w T es bs clock b
  |.iter m since seen last,b=>w.heap[b]?=some (.mapIter (some m) since seen.toArray last)
  |.ghost o gh,b=>(w.heap[b]?=some o/\Ov o=true)/\∀p∈gh,VRel w T p.1 p.2
structure StoreOK(st:Store)(Oth M:BB)(w:World):Prop where
  obj:∀b x,st.obj b=some x->ObjRel w (λb o=>M b o\/Oth b o) x b/\∀o,M b o
  tok:∀b top,st.tok b=some top->∃c e fr,w.heap[b]?=some (.cells c e fr)/\D5 fr c.size/\top<=c.size/\∀o,top<=o->M b o
  mlt:∀b o,M b o->b<w.heap.size
  olt:∀b o,Oth b o->b<w.heap.size
  dis:∀b o,Oth b o->¬M b o
def StoreOK.weaken{st st':Store}{Oth M:BB}(h:StoreOK st Oth M w)(hh:st.Has st'):StoreOK st' Oth M w:=
  ⟨λb x k=>h.obj b x (hh.obj b x k),λb x k=>h.tok b x (hh.tok b x k),h.mlt,h.olt,h.dis⟩
structure Chg(M:BB)(w:World)(M':BB)(w':World):Prop where
  size:w.heap.size<=w'.heap.size
  keep:∀b o,b<w.heap.size->¬M b o->w'.cell? ⟨b,o,none⟩=w.cell? ⟨b,o,none⟩
  blk:∀b,b<w.heap.size->(∀o,¬M b o)->w'.heap[b]?=w.heap[b]?
  shp:∀(b:Nat) c e fr,w.heap[b]?=some (.cells c e fr)->∃c' fr',w'.heap[b]?=some (.cells c' e fr')/\c'.size=c.size
  sub:∀b o,M' b o->b<w.heap.size->M b o
  tape:w'.tape=w.tape
  os:w'.os=w.os
  output:w'.output=w.output
def Chg.refl(M:BB)(w:World):Chg M w M w:=
  ⟨Fal _,λ_ _ _ _=>rfl,λ_ _ _=>rfl,λ_ _ _ _ h=>⟨_,_,h,rfl⟩,λ_ _ h _=>h,rfl,rfl,rfl⟩
theorem Fi{b:Nat}{x:Obj}(h:w.heap[b]?=some x):b<w.heap.size:=(Fbt.1 h).1
theorem Chg.trans{M M₁ M₂:BB}{w₁ w₂:World}(h:Chg M w M₁ w₁)(k:Chg M₁ w₁ M₂ w₂):Chg M w M₂ w₂ where
  size:=Fcx h.size k.size
  keep b o hb hm:=by rw[k.keep b o (Nat.lt_of_lt_of_le hb h.size) λhm'=>hm (h.sub b o hm' hb),h.keep b o hb hm]
  blk b hb hm:=by rw[k.blk b (Nat.lt_of_lt_of_le hb h.size) λo hm'=>hm o (h.sub b o hm' hb),h.blk b hb hm]
  shp b c e fr hw:=by obtain⟨c',fr',h1,h2⟩:=h.shp b c e fr hw;obtain⟨c'',fr'',h3,h4⟩:=k.shp b c' e fr' h1;grind
  sub b o hm hb:=h.sub b o (k.sub b o hm (Nat.lt_of_lt_of_le hb h.size)) hb
  tape:=k.tape.trans h.tape
  os:=k.os.trans h.os
  output:=k.output.trans h.output
theorem Lj{b o:Nat}{c:Value}(h:w.cell? ⟨b,o,none⟩=some c):b<w.heap.size:=World.block_lt_of_cell? _ _ h
def Chg.keeps{M M' Oth:BB}(h:Chg M w M' w'):
    Keeps w (λb o=>M b o\/Oth b o) w' (λb o=>M' b o\/Oth b o) where
  cell b o c hc hT:=by rw[h.keep b o (Lj hc) λhm=>hT (.inl hm)];exact hc
  out b o c hc hT hT':=hT (hT'.imp (λhm=>h.sub b o hm (Lj hc)) id)
  shp:=h.shp
abbrev Ja:=AV->Store->Prop
end
inductive LV where
  |any
  |und
  |av (x:AV)
  |bx (k off:Nat)
  deriving Inhabited
structure Fr where
  t:Nat->LV
  bx:Nat->Option (List AV)
section
variable {w w':World} {v:Value} {st:Store} {b:Nat}
def LV.kill(k:Nat):LV->LV
  |.bx k' o=>bif Nat.beq k' k then .any else .bx k' o
  |x=>x
def Fr.put(A:Fr)(d:Nat)(x:LV):Fr:={A with t:=λi=>bif Nat.beq i d then x else A.t i}
def Fr.setBx(A:Fr)(k:Nat)(l:List AV):Fr:={A with bx:=λi=>bif Nat.beq i k then some l else A.bx i}
def Fr.newBx(A:Fr)(d:Nat)(l:List AV):Fr:=
  {t:=λi=>bif Nat.beq i d then .bx d 0 else(A.t i).kill d,bx:=λi=>bif Nat.beq i d then some l else A.bx i}
def ylh(v:Value):AV:=.s v
def cst:Value->AV
  |.agg cs=>.agg (cs.toList.map ylh)
  |v=>.s v
def Fr.ev(A:Fr):Operand->LV
  |.tmp t=>A.t t
  |.const v=>.av (cst v)
  |.global g=>.av (.s (.pointer (some ⟨g,0,none⟩)))
  |.func f=>.av (.clos f [])
def LRel(w:World)(T:BB)(β:Nat->Nat):LV->Value->Prop
  |.any,_=>True
  |.und,v=>v=undef
  |.av x,v=>VRel w T x v
  |.bx k off,v=>v=.pointer (some ⟨β k,off,none⟩)
theorem LRel.keep{T T':BB}{β:Nat->Nat}(hk:Keeps w T w' T'){x:LV}(h:LRel w T β x v):LRel w' T' β x v:=by
  cases x with
  |any=>trivial
  |und=>exact h
  |av x=>exact VRel.keep hk h
  |bx k off=>exact h
def LV.le(x y:LV):Prop:=∀w T β v,LRel w T β x v->LRel w T β y v
theorem LV.le_refl(x:LV):LV.le x x:=λ_ _ _ _ h=>h
theorem LV.le_any(x:LV):LV.le x .any:=λ_ _ _ _ _=>trivial
structure Marks(Oth M:BB)(w:World)(ds:List Deferred):Prop where
  nd:ds.Pairwise λx y=>x.target≠y.target
  all:∀d∈ds,∃D,d={target:=.collected D,args:=#[]}/\w.heap[D]?=some (.deferred (some []))/\∀o,¬M D o/\¬Oth D o
theorem Marks.nil{Oth M:BB}:Marks Oth M w []:=⟨List.Pairwise.nil,λd h=>ω⟩
def Marks.step{Oth M M':BB}{ds:List Deferred}(h:Marks Oth M w ds)
    (hs:∀D,w.heap[D]?=some (.deferred (some []))->D<w.heap.size->(∀o,¬M D o/\¬Oth D o)->w'.heap[D]?=w.heap[D]?/\∀o,¬M' D o):Marks Oth M' w' ds:=
  ⟨h.nd,λd hd=>by obtain⟨D,e,h1,h2⟩:=h.all d hd;grind⟩
theorem Marks.sub{Oth M M':BB}{ds:List Deferred}(h:Marks Oth M w ds)(hs:∀b o,M' b o->M b o):Marks Oth M' w ds:=
  h.step λD _ _ h2=>⟨rfl,λo hm=>(h2 o).1 (hs D o hm)⟩
structure SN where
  sz:Nat
  D0:List Deferred:=[]
  /--it has no marks -/
  nm:Bool:=false
structure MarksD(Oth M:BB)(w:World)(n:SN)(ds:List Deferred):Prop where
  ex:∃ms,ds=ms++n.D0/\(n.nm=true->ms=[])/\Marks Oth M w ms
theorem MarksD.nil{Oth M:BB}{n:SN}(h:n.D0=[]):MarksD Oth M w n []:=⟨[],δ,λ_=>rfl,Marks.nil⟩
def MarksD.step{Oth M M':BB}{n:SN}{ds:List Deferred}(h:MarksD Oth M w n ds)
    (hs:∀D,w.heap[D]?=some (.deferred (some []))->D<w.heap.size->(∀o,¬M D o/\¬Oth D o)->w'.heap[D]?=w.heap[D]?/\∀o,¬M' D o):MarksD Oth M' w' n ds:=by
  obtain⟨ms,e,h0,hm⟩:=h.ex;exact⟨ms,e,h0,hm.step hs⟩
theorem MarksD.sub{Oth M M':BB}{n:SN}{ds:List Deferred}(h:MarksD Oth M w n ds)(hs:∀b o,M' b o->M b o):MarksD Oth M' w n ds:=by obtain⟨ms,e,h0,hm⟩:=h.ex;exact⟨ms,e,h0,hm.sub hs⟩
def MarksD.out{Oth M:BB}{n:SN}{ds:List Deferred}(h:MarksD Oth M w n ds)(h0:n.D0=[]):Marks Oth M w ds:=by obtain⟨ms,e,_,hm⟩:=h.ex;grind
theorem MarksD.known{Oth M:BB}{n:SN}{ds:List Deferred}(h:MarksD Oth M w n ds)(h0:n.nm=true):ds=n.D0:=by obtain⟨ms,e,h1,_⟩:=h.ex;grind
def MarksD.of{Oth M:BB}{n:SN}{ds:List Deferred}(h:Marks Oth M w ds)(h0:n.D0=[])(h1:n.nm=false):MarksD Oth M w n ds:=⟨ds,δ,λe=>δ,h⟩
structure SimB(n:SN)(Oth:BB)(β:Nat->Nat)(A:Fr)(st:Store)(M:BB)(a:Act)(w:World):Prop where
  tsz:a.tmps.size=n.sz
  dfr:MarksD Oth M w n a.defers
  tm:∀i,LRel w (λb o=>M b o\/Oth b o) β (A.t i) (a.tmps.getD i undef)
  bx:∀k l,A.bx k=some l->CellsRel w (λb o=>M b o\/Oth b o) l (β k)/\∀o,M (β k) o
  inj:∀k k',A.bx k≠none->A.bx k'≠none->β k=β k'->k=k'
  sep:∀k b,A.bx k≠none->(st.obj b≠none\/st.tok b≠none)->β k≠b
  sto:StoreOK st Oth M w
def Sim(n:SN)(Oth:BB)(A:Fr)(st:Store)(M:BB)(a:Act)(w:World):Prop:=∃β,SimB n Oth β A st M a w
theorem VRel.cst(w:World)(T:BB)(v:Value):VRel w T (cst v) v:=by
  cases v<;>simp only[V.cst]<;>first
    |exact .s _
    | (refine .agg _ _ φ λi x y hx hy=>?_
       simp only[Far]at hx;rw[Fde,hy]at hx;simp only[Option.map_some,Faj]at hx;subst hx;exact .s _)
theorem SimB.ev{n:SN}{Oth M:BB}{β:Nat->Nat}{A:Fr}{a:Act}(h:SimB n Oth β A st M a w)(x:Operand):
    LRel w (λb o=>M b o\/Oth b o) β (A.ev x) (a.eval x):=by
  cases x with
  |tmp t=>exact h.tm t
  |const v=>exact VRel.cst _ _ _
  |global g=>exact VRel.s _
  |func f=>exact VRel.clos f [] #[] rfl φ
theorem wj(i d:Nat):Nat.beq i d=true↔i=d:=φ
theorem SimB.put{n:SN}{Oth M:BB}{β:Nat->Nat}{A:Fr}{a:Act}(h:SimB n Oth β A st M a w)
    {d:Nat} (hd:d<n.sz) {x:LV} (hx:LRel w (λb o=>M b o\/Oth b o) β x v):SimB n Oth β (A.put d x) st M (a.put (some d) v) w where
  tsz:=by simp[Act.put,h.tsz]
  dfr:=h.dfr
  tm i:=by
    simp only[Fr.put,Act.put,Fbi];by_cases hi:i=d
    · subst hi
      have:i<a.tmps.size:=by rw[h.tsz];exact hd
      simp_all
    · have hb:Nat.beq i d=false:=by grind[wj]
      simp only[hb,cond_false];rw[Array.getElem?_setIfInBounds_ne (Ne.symm hi)];have:=h.tm i;simp_all
  bx:=h.bx
  inj:=h.inj
  sep:=h.sep
  sto:=h.sto
structure Grow(w w':World):Prop where
  size:w.heap.size<=w'.heap.size
  blk:∀b,b<w.heap.size->w'.heap[b]?=w.heap[b]?
  tape:w'.tape=w.tape
  os:w'.os=w.os
  output:w'.output=w.output
theorem Dv(w:World)(o:Obj)(k:Nat)(h:k<w.heap.size):(w.alloc o).heap[k]?=w.heap[k]?:=by show(w.heap.push o)[k]?=_;grind
def Grow.refl(w:World):Grow w w:=⟨Fal _,λ_ _=>rfl,rfl,rfl,rfl⟩
theorem Grow.alloc(w:World)(o:Obj):Grow w (w.alloc o):=⟨φ,λb hb=>Dv w o b hb,rfl,rfl,rfl⟩
def Grow.drew(w:World):Grow w w.drew:=⟨Fal _,λ_ _=>rfl,rfl,rfl,rfl⟩
theorem Fw(h:w'.heap[b]?=w.heap[b]?)(o:Nat):w'.cell? ⟨b,o,none⟩=w.cell? ⟨b,o,none⟩:=by simp only[World.cell?,h]
def Grow.chg(h:Grow w w')(M:BB):Chg M w M w' where
  size:=h.size
  keep b o hb _:=Fw (h.blk b hb) o
  blk b hb _:=h.blk b hb
  shp b c e fr hw:=⟨c,fr,by rw[h.blk b (Fi hw)];exact hw,rfl⟩
  sub _ _ hm _:=hm
  tape:=h.tape
  os:=h.os
  output:=h.output
def Grow.keeps(h:Grow w w')(T:BB):Keeps w T w' T where
  cell b o c hc _:=by rw[Fw (h.blk b (Lj hc))];exact hc
  out _ _ _ _ hT:=hT
  shp b c e fr hw:=⟨c,fr,by rw[h.blk b (Fi hw)];exact hw,rfl⟩
theorem CellsRel.same{T T':BB}{l:List AV}(h:CellsRel w T l b)(hk:Keeps w T w' T')(hb:w'.heap[b]?=w.heap[b]?):CellsRel w' T' l b:=by obtain⟨c,e,fr,h1,h2,h3,h4⟩:=h;exact⟨c,e,fr,δ,h2,h3,λi x y hx hy=>(h4 i x y hx hy).keep hk⟩
theorem ObjRel.same{T T':BB}{l:AObj}(h:ObjRel w T l b)(hk:Keeps w T w' T')(hb:w'.heap[b]?=w.heap[b]?):ObjRel w' T' l b:=by
  cases l with
  |cells l=>exact CellsRel.same h hk hb
  | iter m since seen last=>
    show _=_;rw[hb];exact h
  |ghost o gh=>exact⟨⟨by rw[hb];exact h.1.1,h.1.2⟩,λp hp=>(h.2 p hp).keep hk⟩
  | map es bs clock=>
    obtain⟨ms,h1,h2,h3,h4⟩:=h;exact⟨ms,δ,h2,λi x y hx hy=>⟨(h3 i x y hx hy).1.keep hk,(h3 i x y hx hy).2.keep hk⟩,h4⟩
def CellsRel.lt{T:BB}{l:List AV}(h:CellsRel w T l b):b<w.heap.size:=by obtain⟨c,e,fr,h1,_⟩:=h;grind
def ObjRel.lt{T:BB}{l:AObj}(h:ObjRel w T l b):b<w.heap.size:=by
  cases l with
  |cells l=>exact CellsRel.lt h
  |iter m since seen last=>exact Fi h
  |ghost o gh=>exact Fi h.1.1
  | map es bs clock=>
    obtain⟨ms,h1,_⟩:=h;grind
theorem StoreOK.grow{Oth M:BB}(h:StoreOK st Oth M w)(g:Grow w w'):StoreOK st Oth M w' where
  obj b x hx:=⟨ObjRel.same (h.obj b x hx).1 (g.keeps _) (g.blk b (h.obj b x hx).1.lt),(h.obj b x hx).2⟩
  tok b top ht:=by obtain⟨c,e,fr,h1,h2⟩:=h.tok b top ht;exact⟨c,e,fr,by rw[g.blk b (Fi h1)];exact h1,h2⟩
  mlt b o hm:=Nat.lt_of_lt_of_le (h.mlt b o hm) g.size
  olt b o hm:=Nat.lt_of_lt_of_le (h.olt b o hm) g.size
  dis:=h.dis
theorem SimB.grow{n:SN}{Oth M:BB}{β:Nat->Nat}{A:Fr}{a:Act}(h:SimB n Oth β A st M a w)(g:Grow w w'):SimB n Oth β A st M a w' where
  tsz:=h.tsz
  dfr:=h.dfr.step λD _ hl h2=>⟨g.blk D hl,λo=>(h2 o).1⟩
  tm i:=(h.tm i).keep (g.keeps _)
  bx k l hk:=⟨(h.bx k l hk).1.same (g.keeps _) (g.blk _ (h.bx k l hk).1.lt),(h.bx k l hk).2⟩
  inj:=h.inj
  sep:=h.sep
  sto:=h.sto.grow g
def Tq{x:LV}:LV.le x x:=LV.le_refl x
def Tt{x:AV}:AV.le x x:=AV.le_refl x
end
inductive Ty where
  |int (k:IntKind)
  |bool
  |str
  |slice (e:TypeId)
  |ptr (e:TypeId)
  |struct (fs:List (Nat×TypeId))
  |array (n:Nat) (e:TypeId)
  |map (k e:TypeId)
  |func
  |other
  deriving Inhabited,DecidableEq
structure TI where
  ty:Ty
  size:Nat
  bytes:Nat
  zero:List Value
  /--values of it may be held against one another -/
  eq:Bool:=false
  deriving Inhabited
abbrev Info:=Nat->Option TI
def Ci:TypeDesc->Ty
  |.int k=>.int k
  |.bool=>.bool
  |.string=>.str
  |.slice e=>.slice e
  |.pointer e=>.ptr e
  |.struct fs=>.struct (fs.toList.map λf=>(f.offset,f.type))
  |.array n e=>.array n e
  |.map k e=>.map k e
  |.func ..=>.func
  |_=>.other
def Cr:Ty->Bool
  |.struct _=>true
  |.array _ _=>true
  |_=>false
structure TIok(P:Program)(t:TypeId)(i:TI):Prop where
  info:∃inf,P.info? t=some inf/\inf.size=i.size/\inf.bytes=i.bytes/\∃z,inf.zero=some z/\z.cells.toList=i.zero
  und:∃d,P.underlying t=some d/\Ci d=i.ty
  zsz:i.zero.length=i.size
  zag:∀inf z,P.info? t=some inf->inf.zero=some z->(Cr i.ty=true/\∃cs,z=.agg cs)\/(Cr i.ty=false/\i.zero=[z])
  eqs : i.eq = true -> P.stoodInHeld t = false /\ P.eqGuardType P.depth t = false /\ ∀ fs, P.underlying t = some (.struct fs) -> ∀ f ∈ fs.toList, f.name ≠ "_"
def qe(P:Program)(I:Info):Prop:=∀t i,I t=some i->TIok P t i
structure Cfg where
  n:Nat
  I:Info
  /--temporaries whose 'alloc','box','buildSlice' make an object (a token) -/
  G:List Nat:=[]
  /--temporaries whose sums may wrap -/
  W:List Nat:=[]
  /--the loop whose round this is -/
  round:Option Nat:=none
  /--deferred calls that are known -/
  D0:List Deferred:=[]
  /--it ranges over no function -/
  nm:Bool:=false
def Cfg.F(c:Cfg):Fence:={Fence.wide with round:=c.round}
def optK{α:Type}(o:Option α)(K:α->Prop):Prop:=match o with|some x=>K x|none=>False
theorem za{α:Type}{o:Option α}{K:α->Prop}(x:α)(h:o=some x)(hk:K x):optK o K:=by subst h;exact hk
theorem zy{α:Type}{o:Option α}{K:α->Prop}(h:optK o K):∃x,o=some x/\K x:=by
  cases o with
  |none=>exact h.elim
  |some x=>exact⟨x,rfl,h⟩
def Cv(b:Bool)(p q:Prop):Prop:=match b with|true=>p|false=>q
theorem zh{b:Bool}{p q:Prop}(h:b=true->p)(h':b=false->q):Cv b p q:=by
  cases b with
  |true=>exact h rfl
  |false=>exact h' rfl
def ym(v:Int):Prop:=-9223372036854775808<=v/\v<=9223372036854775807
def jm(k:IntKind)(a:Int):LV:=.av (.s (.int k a))
def kl(b:Bool):LV:=.av (.s (.bool b))
def arK(wr:Bool)(k:IntKind)(v:Int)(K:LV->Prop):Prop:=
  match wr,k with
  |false,.i64=>ym v/\K (jm .i64 v)
  |_,k=>K (jm k (k.wrap v))
def jj(op:BinOp)(k:IntKind)(x y:Int):Int:=
  let a:=BitVec.ofInt k.bits x
  let b:=BitVec.ofInt k.bits y
  match op with
  |.and=>k.wrap (a &&& b).toNat
  |.or=>k.wrap (a ||| b).toNat
  |.xor=>k.wrap (a^^^b).toNat
  |_=>k.wrap (a &&& ~~~b).toNat
def K9(wr:Bool)(op:BinOp)(k:IntKind)(a b:Int)(K:LV->Prop):Prop:=
  match op with
  |.add=>arK wr k (a+b) K
  |.sub=>arK wr k (a-b) K
  |.mul=>arK wr k (a*b) K
  |.quo=>b≠0/\arK wr k (a.tdiv b) K
  |.rem=>b≠0/\K (jm k (a.tmod b))
  |.and=>K (jm k (jj .and k a b))
  |.or=>K (jm k (jj .or k a b))
  |.xor=>K (jm k (jj .xor k a b))
  |.andNot=>K (jm k (jj .andNot k a b))
  |.eql=>K (kl (a==b))
  |.neq=>K (kl (a != b))
  |.lss=>K (kl (decide (a<b)))
  |.leq=>K (kl (decide (a<=b)))
  |.gtr=>K (kl (decide (a>b)))
  |.geq=>K (kl (decide (a>=b)))
  |.shl=>0<=b/\K (jm k (k.wrap (a*2^(min b.toNat k.bits))))
  |.shr=>0<=b/\K (jm k (a.fdiv (2^(min b.toNat k.bits))))
theorem ze2{v:Int}(h:ym v):IntKind.i64.wrap v=v:=by obtain⟨h1,h2⟩:=h;grind[IntKind.wrap,IntKind.bits,IntKind.signed]
def Gn:List AV->(List AV->Prop)->Prop
  |[],K=>K []
  |x::l,K=>Gn l λl'=>K (x::l')
theorem Gm(l:List AV)(K:List AV->Prop):Gn l K=K l:=by
  induction l generalizing K with
  |nil=>rfl
  |cons x l ih=>simp only[Gn];rw[ih]
theorem Lb{l:List AV}{K:List AV->Prop}(h:K l):Gn l K:=by rw[Gm];exact h
def partK(i:TI)(cells:List AV)(K:LV->Prop):Prop:=
  bif Cr i.ty then(bif Nat.ble i.size cells.length then Gn (cells.take i.size) λl=>K (.av (.agg l))else False)
  else optK cells.head? λx=>K (.av x)
def Dm(i:TI)(cells:List AV):Option AV:=
  bif Cr i.ty then(bif Nat.ble i.size cells.length then some (.agg (cells.take i.size))else none)
  else cells.head?
def Fs(I:Info):Nat->TypeId->AV->AV->Option Bool
  |0,_,_,_=>none
  | d+1,t,x,y=>
    match I t with
    |none=>none
    | some i=>
      match i.ty,x,y with
      |.int _,.s (.int k a),.s (.int k' b)=>bif decide (k=k')then some (a==b)else none
      |.bool,.s (.bool a),.s (.bool b)=>some (a==b)
      |.str,.s (.string a),.s (.string b)=>some (a==b)
      | .struct fs,.agg xs,.agg ys=>
        bif i.eq then
          fs.foldr (λf acc=>match I f.2 with
            |none=>none
            | some j=>match Dm j (xs.drop f.1),Dm j (ys.drop f.1)with
              | some u,some v=>match Fs I d f.2 u v,acc with
                |some p,some q=>some (p&&q)
                |_,_=>none
              |_,_=>none) (some true)
        else none
      |.slice _,.s (.slice none 0 0),.s (.slice none 0 0)=>some true
      |.func,.s .nilFunc,.s .nilFunc=>some true
      |.func,.clos _ _,.s .nilFunc=>some false
      |.func,.s .nilFunc,.clos _ _=>some false
      |.ptr _,.s (.pointer none),.s (.pointer none)=>some true
      |.ptr _,.s (.pointer (some _)),.s (.pointer none)=>some false
      |.ptr _,.s (.pointer none),.s (.pointer (some _))=>some false
      |.slice _,.s (.slice (some _) _ _),.s (.slice none 0 0)=>some false
      |_,_,_=>none
def LV.toAV:LV->Option AV
  |.av x=>some x
  |_=>none
def LV.toV:LV->Option Value
  |.av (.s v)=>some v
  |_=>none
def zg4{x:LV}{v:Value}(h:x.toV=some v):x=.av (.s v):=by unfold LV.toV at h;grind
def Np{x:LV}{y:AV}(h:x.toAV=some y):x=.av y:=by cases x<;>simp[LV.toAV]at h;rw[h]
def Gf(ev:Operand->LV):Option Operand->Option (Option Int)
  |none=>some none
  | some x=>match ev x with
    |.av (.s (.int _ i))=>some (some i)
    |_=>none
def cellsOf:AV->Option (List AV)
  |.agg cs=>some cs
  |.any=>none
  |.tup _=>none
  | .s v=>match v with
    |.agg _=>none
    |.tuple _=>none
    |v=>some [.s v]
  |x=>some [x]
def zv(l:List AV)(off:Nat)(vs:List AV):List AV:=l.take off++vs++l.drop (off+vs.length)
def Iz(place:Nat->Option (Nat×Nat))(cells:List AV):List (Nat×LV)->Option (List AV)
  |[]=>some cells
  | (i,v)::rest=>
    match place i,v with
    | some (off,size),.av x=>match cellsOf x with
      |some xs=>bif Nat.beq xs.length size&&Nat.ble (off+size) cells.length then Iz place (zv cells off xs) rest else none
      |none=>none
    |_,_=>none
def zcc(I:Info)(fs:List (Nat×TypeId)):Option (List (Nat×Nat)):=
  fs.mapM λf=>(I f.2).map λj=>(f.1,j.size)
def Pr(x:LV)(d:Nat)(K:LV->Prop):Prop:=
  match x with
  |.bx k o=>K (.bx k (o+d))
  |.av (.cp cells)=>K (.av (.cp (cells.drop d)))
  |.av (.s (.pointer (some ⟨b,o,none⟩)))=>K (.av (.s (.pointer (some ⟨b,o+d,none⟩))))
  |_=>False
def Pj(bx:Nat->Option (List AV))(st:Store)(x:LV)(K:List AV->Prop):Prop:=
  match x with
  |.bx k o=>optK (bx k) λl=>K (l.drop o)
  |.av (.cp cells)=>K cells
  |.av (.s (.pointer (some ⟨b,o,none⟩)))=>optK (st.obj b) λx=>match x with|.cells l=>K (l.drop o)|_=>False
  |_=>False
def fh(x:LV)(st:Store)(ty:Ty)(K:LV->Prop):Prop:=
  match ty,x with
  |.slice _,.av (.lst _ rows _)=>K (jm .i64 rows.length)
  |.slice _,.av (.s (.slice _ n _))=>K (jm .i64 n)
  |.slice _,.av .emp=>K (jm .i64 (0:Nat))
  |.str,.av (.s (.string s))=>K (jm .i64 s.size)
  |.map _ _,.av (.s (.map none))=>K (jm .i64 0)
  |.map _ _,.av (.s (.map (some r)))=>optK (st.obj r) λx=>match x with|.map es _ _=>K (jm .i64 es.length)|_=>False
  |.array n _,_=>K (jm .i64 n)
  |_,_=>False
def min2(a b:Int):Int:=bif decide (b<a)then b else a
def max2(a b:Int):Int:=bif decide (b>a)then b else a
def Mn(f:Int->Int->Int)(xs:List LV)(K:LV->Prop):Prop:=
  match xs with
  |[.av (.s (.int k a)),.av (.s (.int _ b))]=>K (jm k (f a b))
  |[.av (.s (.int k a)),.av (.s (.int _ b)),.av (.s (.int _ c))]=>K (jm k (f (f a b) c))
  |[.av (.s (.int k a)),.av (.s (.int _ b)),.av (.s (.int _ c)),.av (.s (.int _ d))]=>K (jm k (f (f (f a b) c) d))
  |_=>False
def Hx(c:Cfg)(ev:Operand->LV)(st:Store)(cl:Call)(K:LV->Prop):Prop:=
  match cl.callee with
  | .builtin b=>match b with
    |.len=>optK cl.argTypes[0]? λt=>optK (c.I t) λi=>optK cl.args[0]? λx=>fh (ev x) st i.ty K
    | .cap=>optK cl.argTypes[0]? λt=>optK (c.I t) λi=>optK cl.args[0]? λx=>match i.ty,ev x with
      |.slice _,.av (.s (.slice _ _ n))=>K (jm .i64 n)
      |_,_=>False
    |.min=>Mn min2 (cl.args.toList.map ev) K
    |.max=>Mn max2 (cl.args.toList.map ev) K
    |_=>False
  |_=>False
def Vh(x:LV)(K:LV->Prop):Prop:=
  match x with
  |.any=>K .any
  |.und=>K .und
  |.av y=>K (.av y)
  |.bx k o=>K (.bx k o)
theorem Mw(x:LV)(K:LV->Prop):Vh x K=K x:=by cases x<;>rfl
def vcV(c:Cfg)(ev:Operand->LV)(bx:Nat->Option (List AV))(st:Store)(d:Nat)(op:Op)(K:LV->Prop):Prop:=
  match op with
  |.move x|.assign x=>Vh (ev x) K
  | .pick b x y=>match ev b with
    |.av (.s (.bool b))=>Cv b (Vh (ev x) K) (Vh (ev y) K)
    |_=>False
  | .nilCheck x=>match ev x with
    |.bx k o=>K (.bx k o)
    |.av (.cp l)=>K (.av (.cp l))
    |.av (.clos f l)=>K (.av (.clos f l))
    |.av (.s (.pointer (some a)))=>K (.av (.s (.pointer (some a))))
    |.av (.s (.iface t v))=>K (.av (.s (.iface t v)))
    |_=>False
  | .binOp op t x y _=>match ev x,ev y with
    | .av (.s (.int k a)),.av (.s (.int k' b))=>match op with
      |.shl|.shr=>K9 false op k a b K
      |_=>bif decide (k=k')then K9 (c.W.contains d) op k a b K else False
    | .av x,.av y=>match op with
      |.eql=>optK (Fs c.I 5 t x y) λb=>K (kl b)
      |.neq=>optK (Fs c.I 5 t x y) λb=>K (kl (!b))
      |_=>False
    |_,_=>False
  | .unOp op _ x=>match op,ev x with
    |.neg,.av (.s (.int k a))=>arK (c.W.contains d) k (0-a) K
    |.not,.av (.s (.bool b))=>K (kl (!b))
    |_,_=>False
  | .convert s t x=>optK (c.I s) λi=>optK (c.I t) λj=>match i.ty,j.ty,ev x with
    |.int _,.int k,.av (.s (.int _ n))=>arK (c.W.contains d) k n K
    |_,_,_=>False
  |.load t a=>optK (c.I t) λi=>Pj bx st (ev a) λl=>partK i l K
  | .fieldAddr s x f=>optK (c.I s) λi=>match i.ty with
    |.struct fs=>optK fs[f]? λg=>optK (c.I g.2) λj=>bif Nat.blt 0 j.size then Pr (ev x) g.1 K else False
    |_=>False
  | .field s x f=>optK (c.I s) λi=>match i.ty,ev x with
    |.struct fs,.av (.agg cs)=>optK fs[f]? λg=>optK (c.I g.2) λj=>partK j (cs.drop g.1) K
    |_,_=>False
  | .indexAddr t x ix=>optK (c.I t) λi=>match i.ty,ev x,ev ix with
    |.slice e,.av (.lst k rows _),.av (.s (.int _ j))=>optK (c.I e) λie=>bif Nat.beq k ie.size then∃m:Nat,j=(m:Int)/\optK rows[m]? λrow=>K (.av (.cp row))else False
    |.slice e,.av (.s (.slice (some ⟨b,o,none⟩) len _)),.av (.s (.int _ j))=>optK (c.I e) λie=>∃m:Nat,j=(m:Int)/\m<len/\K (.av (.s (.pointer (some ⟨b,o+m*ie.size,none⟩))))
    |.array n e,p,.av (.s (.int _ j))=>optK (c.I e) λie=>∃m:Nat,j=(m:Int)/\m<n/\Pr p (m*ie.size) K
    |_,_,_=>False
  | .index t x ix=>optK (c.I t) λi=>match i.ty,ev x,ev ix with
    |.array n e,.av (.agg cs),.av (.s (.int _ j))=>optK (c.I e) λie=>∃m:Nat,j=(m:Int)/\m<n/\partK ie (cs.drop (m*ie.size)) K
    |.str,.av (.s (.string s)),.av (.s (.int _ j))=>∃m:Nat,j=(m:Int)/\optK s[m]? λb=>K (jm .u8 b.toNat)
    |_,_,_=>False
  | .slice t x lo hi mx=>bif mx.isSome then False else optK (c.I t) λi=>match i.ty,ev x,Gf ev lo,Gf ev hi with
    |.slice e,.av (.lst k rows _),some l,some h=>optK (c.I e) λie=>bif Nat.beq k ie.size then∃p q:Nat,l.getD 0=(p:Int)/\h.getD (rows.length:Int)=(q:Int)/\p<=q/\q<=rows.length/\(K (.av (.lst k ((rows.take q).drop p) none)))else False
    |.slice e,.av (.s (.slice (some ⟨b,o,none⟩) len cap)),some l,some h=>optK (c.I e) λie=>∃p q:Nat,l.getD 0=(p:Int)/\h.getD (len:Int)=(q:Int)/\p<=q/\q<=cap/\((p<cap/\K (.av (.s (.slice (some ⟨b,o+p*ie.size,none⟩) (q-p) (cap-p)))))\/(p=cap/\K (.av (.s (.slice (some ⟨b,o,none⟩) 0 0)))))
    |.slice e,.av (.s (.slice none 0 0)),some l,some h=>optK (c.I e) λ_=>l.getD 0=0/\h.getD 0=0/\K (.av (.s (.slice none 0 0)))
    |.array n e,.av (.s (.pointer (some ⟨b,o,none⟩))),some none,some none=>optK (c.I e) λ_=>K (.av (.s (.slice (some ⟨b,o,none⟩) n n)))
    |_,_,_,_=>False
  | .extract x ix=>match ev x with
    |.av (.tup vs)=>optK vs[ix]? λx=>K (.av x)
    |_=>False
  | .build t parts=>optK (c.I t) λi=>match i.ty with
    |.struct fs=>optK (zcc c.I fs) λpl=>optK (Iz (λi=>pl[i]?) (i.zero.map AV.s) (parts.toList.map λp=>(p.1,ev p.2))) λcs=>Gn cs λcs=>K (.av (.agg cs))
    |.array _ e=>optK (c.I e) λie=>optK (Iz (λj=>some (j*ie.size,ie.size)) (i.zero.map AV.s) (parts.toList.map λp=>(p.1,ev p.2))) λcs=>Gn cs λcs=>K (.av (.agg cs))
    |_=>False
  | .makeFunc fn first cap=>match fn with
    |.func f=>bif first.isEmpty then optK (cap.toList.mapM λx=>(ev x).toAV) λl=>K (.av (.clos f l))else optK (first.toList.mapM λx=>(ev x).toV) λl=>bif cap.isEmpty then K (.av (.s (.func (.func f) l.toArray #[])))else False
    |_=>False
  |.call cl=>Hx c ev st cl K
  |_=>False
structure Env(w:World)(T:BB)(β:Nat->Nat)(ev:Operand->LV)(bx:Nat->Option (List AV))(st:Store)(ρ:Operand->Value):Prop where
  ev:∀x,LRel w T β (ev x) (ρ x)
  bx:∀k l,bx k=some l->CellsRel w T l (β k)
  obj:∀b x,st.obj b=some x->ObjRel w T x b
def Bb(P:Program)(c:Cfg)(ev:Operand->LV)(bx:Nat->Option (List AV))(st:Store)(d:Nat)(op:Op)(K:LV->Prop):Prop:=
  ∃ x,K x/\(∀K':LV->Prop,K' x->vcV c ev bx st d op K')∧
    ∀w T β ρ (o:Oper),o.op=op->Env w T β ev bx st ρ->∃v,(execOp ρ o).run P w=.ok (.value v) w/\LRel w T β x v
section
variable {P:Program} {c:Cfg} {ev:Operand->LV} {bx:Nat->Option (List AV)} {st:Store} {d:Nat} {K:LV->Prop}
variable {w:World} {T:BB} {β:Nat->Nat} {ρ:Operand->Value}
theorem VRel.eq_s{v u:Value}(h:VRel w T (.s v) u):u=v:=by generalize hx:AV.s v=x at h;cases h<;>cases hx;rfl
theorem Env.s(he:Env w T β ev bx st ρ){x:Operand}{v:Value}(h:ev x=.av (.s v)):ρ x=v:=by have:=he.ev x;rw[h]at this;exact VRel.eq_s this
def yib(x:Operand)(h:vcV c ev bx st d (.move x) K):Bb P c ev bx st d (.move x) K:=
  ⟨ev x,θ9,λ_ h=>θ9,λw T β ρ o ho he=>⟨ρ x,by simp[execOp,ho],he.ev x⟩⟩
def yin(x:Operand)(h:vcV c ev bx st d (.assign x) K):Bb P c ev bx st d (.assign x) K:=
  ⟨ev x,θ9,λ_ h=>θ9,λw T β ρ o ho he=>⟨ρ x,by simp[execOp,ho],he.ev x⟩⟩
def yh9(b x y:Operand)(h:vcV c ev bx st d (.pick b x y) K):Bb P c ev bx st d (.pick b x y) K:=by
  simp only[vcV]at h;split at h
  · rename_i t hb
    refine⟨bif t then ev x else ev y,?_,λK' h'=>?_,λw T β ρ o ho he=>⟨if t then ρ x else ρ y,?_,?_⟩⟩
    · simp only[Mw]at h
      cases t<;>exact h
    · simp only[vcV,hb,Mw]
      cases t<;>exact h'
    · have:=he.s hb
      simp[execOp,ho,this,asBool]
    · cases t<;>simp[he.ev]
  grind
def Nh{wr:Bool}{k:IntKind}{v:Int}(h:arK wr k v K):K (jm k (k.wrap v))/\∀K':LV->Prop,K' (jm k (k.wrap v))->arK wr k v K':=by grind[arK,ze2]
def yg1{wr:Bool}{op:BinOp}{k k':IntKind}{a b:Int}(h:K9 wr op k a b K)(hk:op≠.shl->op≠.shr->k=k'):
    ∃z:Value,K (.av (.s z))/\(∀K':LV->Prop,K' (.av (.s z))->K9 wr op k a b K')/\∀t w,(binOp op t (.int k a) (.int k' b)).run P w=.ok z w:=by
  cases op<;>simp only[K9]at h
  case add=>
    obtain⟨h1,h2⟩:=Nh h;obtain rfl:=hk φ φ;exact⟨_,h1,h2,λt w=>by simp[binOp,Op.intArith]⟩
  case sub=>
    obtain⟨h1,h2⟩:=Nh h;obtain rfl:=hk φ φ;exact⟨_,h1,h2,λt w=>by simp[binOp,Op.intArith]⟩
  case mul=>
    obtain⟨h1,h2⟩:=Nh h;obtain rfl:=hk φ φ;exact⟨_,h1,h2,λt w=>by simp[binOp,Op.intArith]⟩
  case quo=>
    obtain⟨hb,h⟩:=h;obtain⟨h1,h2⟩:=Nh h;obtain rfl:=hk φ φ;exact⟨_,h1,λK' h'=>⟨hb,h2 K' h'⟩,λt w=>by simp[binOp,Op.intDiv,hb]⟩
  case rem=>
    obtain⟨hb,h⟩:=h;obtain rfl:=hk φ φ;exact⟨_,h,λK' h'=>⟨hb,h'⟩,λt w=>by simp[binOp,Op.intDiv,hb]⟩
  case shl=>
    obtain⟨hb,h⟩:=h;exact⟨_,h,λK' h'=>⟨hb,h'⟩,λt w=>by simp[binOp,Op.shift,Int.not_lt.2 hb]⟩
  case shr=>
    obtain⟨hb,h⟩:=h;exact⟨_,h,λK' h'=>⟨hb,h'⟩,λt w=>by simp[binOp,Op.shift,Int.not_lt.2 hb]⟩
  all_goals
    obtain rfl:=hk φ φ;exact⟨_,h,λ_ h'=>h',λt w=>by simp[binOp,Op.intBits,Op.intCmp,jj]⟩
theorem yj9(op:BinOp)(t:TypeId)(x y:Operand)(k k':IntKind)(a b:Int)(w:World):(eqGuard op t x y (.int k a) (.int k' b)).run P w=.ok () w:=by cases op<;>rfl
end
section
variable {P:Program} {I:Info} {w:World} {T:BB}
theorem Lv{t:TypeId}{i:TI}{k:IntKind}(h:TIok P t i)(hy:i.ty=.int k):P.underlying t=some (.int k):=θv
theorem nj{t:TypeId}{i:TI}(h:TIok P t i)(hy:i.ty=.bool):P.underlying t=some .bool:=ψv
theorem W4{t:TypeId}{i:TI}(h:TIok P t i)(hy:i.ty=.str):P.underlying t=some .string:=ψv
theorem jv{t:TypeId}{i:TI}{e:TypeId}(h:TIok P t i)(hy:i.ty=.slice e):P.underlying t=some (.slice e):=θv
theorem P8{t:TypeId}{i:TI}{e:TypeId}(h:TIok P t i)(hy:i.ty=.ptr e):P.underlying t=some (.pointer e):=θv
theorem No{t:TypeId}{i:TI}{n:Nat}{e:TypeId}(h:TIok P t i)(hy:i.ty=.array n e):P.underlying t=some (.array n e):=θv
theorem Km{t:TypeId}{i:TI}{k e:TypeId}(h:TIok P t i)(hy:i.ty=.map k e):P.underlying t=some (.map k e):=θv
def W5{t:TypeId}{i:TI}(h:TIok P t i)(hy:i.ty=.func):∃a b c,P.underlying t=some (.func a b c):=θv
def Nn{t:TypeId}{i:TI}{fs:List (Nat×TypeId)}(h:TIok P t i)(hy:i.ty=.struct fs):
    ∃a:Array Field,P.underlying t=some (.struct a)/\(a.toList.map λf=>(f.offset,f.type))=fs:=by
  obtain⟨d,h1,h2⟩:=h.und;rw[hy]at h2;cases d<;>simp[Ci]at h2;grind
theorem vg{t:TypeId}{i:TI}(h:TIok P t i)(w:World):(sizeOf t).run P w=.ok i.size w:=by obtain⟨inf,h1,h2,_⟩:=h.info;simp_all[sizeOf,typeInfo]
theorem Rr{t:TypeId}{i:TI}(h:TIok P t i)(w:World):(isAgg t).run P w=.ok (Cr i.ty) w:=by obtain⟨d,h1,h2⟩:=h.und;cases d<;>simp[Ci]at h2<;>rw[<-h2]<;>simp_all[isAgg,underlying,Cr]
theorem yv{t:TypeId}{d:TypeDesc}(h:P.underlying t=some d)(w:World):(underlying t).run P w=.ok d w:=by simp[underlying,run_program,h]
def Me{t:TypeId}{i:TI}(h:TIok P t i)(w:World):∃z,(zeroValue t).run P w=.ok z w/\z.cells.toList=i.zero:=by obtain⟨inf,h1,_,_,z,h3,h4⟩:=h.info;simp_all[zeroValue,typeInfo]
def Reads(w:World)(T:BB)(l:List AV)(c:List Value):Prop:=l.length=c.length/\∀(i:Nat) (x:AV) (y:Value),l[i]?=some x->c[i]?=some y->VRel w T x y
theorem Reads.drop{l:List AV}{c:List Value}(h:Reads w T l c)(n:Nat):Reads w T (l.drop n) (c.drop n):=
  ⟨by simp[h.1],λi x y hx hy=>h.2 (n+i) x y δ δ⟩
theorem Reads.take{l:List AV}{c:List Value}(h:Reads w T l c)(n:Nat):Reads w T (l.take n) (c.take n):=
  ⟨by simp[h.1],λi x y hx hy=>by
    rw[Fea]at hx hy;split at hx
    · rename_i hi;simp only[hi,if_true]at hy;exact h.2 i x y hx hy
    grind⟩
theorem Reads.nil:Reads w T [] []:=⟨rfl,λ_ _ _ h _=>θj⟩
theorem Reads.cons{x:AV}{v:Value}{l:List AV}{c:List Value}(h:VRel w T x v)(hl:Reads w T l c):Reads w T (x::l) (v::c):=
  ⟨by simp[hl.1],λi a b ha hb=>by
    cases i with
    |zero=>grind
    |succ i=>exact hl.2 i a b δ δ⟩
def Reads.append{l l':List AV}{c c':List Value}(h:Reads w T l c)(h':Reads w T l' c'):Reads w T (l++l') (c++c'):=
  ⟨by simp[h.1,h'.1],λi x y hx hy=>by
    rcases Nat.lt_or_ge i l.length with hi|hi
    · rw[Fap hi]at hx
      rw[Fap (by rw[<-h.1];exact hi)]at hy;exact h.2 i x y hx hy
    · rw[Fa2 hi]at hx
      rw[Fa2 (by rw[<-h.1];exact hi)]at hy;rw[<-h.1]at hy;exact h'.2 _ x y hx hy⟩
theorem Reads.keep{w':World}{T':BB}{l:List AV}{c:List Value}(h:Reads w T l c)(hk:Keeps w T w' T'):Reads w' T' l c:=
  ⟨h.1,λi x y hx hy=>(h.2 i x y hx hy).keep hk⟩
theorem Reads.map_s(c:List Value):Reads w T (c.map AV.s) c:=
  ⟨φ,λi x y hx hy=>by rw[Far,hy]at hx;simp at hx;subst hx;exact .s _⟩
def Reads.getElem?{l:List AV}{c:List Value}(h:Reads w T l c){i:Nat}{x:AV}(hx:l[i]?=some x):∃v,c[i]?=some v/\VRel w T x v:=by
  have hi:=(Fax.1 hx).1;have hi':i<c.length:=by rw[<-h.1];exact hi
  exact⟨_,Fac hi',h.2 i x _ hx (Fac hi')⟩
def F0{l:List AV}{v:Value}(h:VRel w T (.agg l) v):∃c,v=.agg c/\Reads w T l c.toList:=by
  cases h with
  |agg _ c hl h=>exact⟨c,rfl,by simp[hl],λi x y hx hy=>h i x y hx δ⟩
theorem mj{l:List AV}{v:Value}(h:VRel w T (.tup l) v):∃c,v=.tuple c/\Reads w T l c.toList:=by
  cases h with
  |tup _ c hl h=>exact⟨c,rfl,by simp[hl],λi x y hx hy=>h i x y hx δ⟩
def Ls{l:List AV}{c:Array Value}(h:Reads w T l c.toList):VRel w T (.agg l) (.agg c):=
  .agg l c (by simpa using h.1) λi x y hx hy=>h.2 i x y hx δ
theorem wk{l:List AV}{c:Array Value}(h:Reads w T l c.toList):VRel w T (.tup l) (.tuple c):=
  .tup l c (by simpa using h.1) λi x y hx hy=>h.2 i x y hx δ
theorem Mh(i:TI)(l:List AV)(K:LV->Prop):partK i l K=optK (Dm i l) λx=>K (.av x):=by unfold partK Dm;cases Cr i.ty<;>simp only[cond_true,cond_false,Gm];cases Nat.ble i.size l.length<;>rfl
def Om{t:TypeId}{i:TI}(hi:TIok P t i){l:List AV}{cs:Array Value}(h:Reads w T l cs.toList){off:Nat}{x:AV}(hx:Dm i (l.drop off)=some x):
    ∃v,(part t cs off).run P w=.ok v w/\VRel w T x v:=by
  unfold Dm at hx;cases ha:Cr i.ty with
  | true=>
    simp only[ha,cond_true]at hx;cases hb:Nat.ble i.size (l.drop off).length with
    |false=>grind
    | true=>
      simp only[hb,cond_true,Faj]at hx;subst hx;refine⟨.agg (cs.extract off (off+i.size)),by simp[part,Rr hi,ha,vg hi],Ls ?_⟩;have:(cs.extract off (off+i.size)).toList=(cs.toList.drop off).take i.size:=φ;rw[this];exact(h.drop off).take i.size
  | false=>
    simp only[ha,cond_false]at hx;have hx':l[off]?=some x:=by simp_all
    obtain⟨v,hv,hr⟩:=h.getElem? hx';refine⟨v,?_,hr⟩;have:cs[off]?=some v:=δ;simp[part,Rr hi,ha,this]
def zcq(hI:qe P I):∀(d:Nat) (t:TypeId) (x y:AV) (b:Bool),Fs I d t x y=some b->∀(D:Nat),d<=D->∀u v,VRel w T x u->VRel w T y v->
    (Op.equalIn D t u v).run P w=.ok b w:=by
  intro d;induction d with
  |zero=>intro t x y b h;trivial
  | succ d ih=>
    intro t x y b h D hD u v hu hv;obtain⟨D,rfl⟩:∃D',D=D'+1:=⟨D-1,θ⟩
    rw[Fs]at h;cases hi:I t with
    |none=>grind
    | some i=>
      rw[hi]at h;have ht:=hI t i hi;simp only at h;split at h
      · rename_i k k1 a k2 a' hy
        by_cases hk:k1=k2
        · subst hk
          simp at h;subst h;rw[VRel.eq_s hu,VRel.eq_s hv];simp[Op.equalIn,yv (Lv ht hy)]
        grind
      · rename_i a a' hy
        simp at h;subst h;rw[VRel.eq_s hu,VRel.eq_s hv];simp[Op.equalIn,yv (nj ht hy)]
      · rename_i a a' hy
        simp at h;subst h;rw[VRel.eq_s hu,VRel.eq_s hv];simp[Op.equalIn,yv (W4 ht hy)]
      · rename_i fs xs ys hy
        cases he:i.eq with
        |false=>grind
        | true=>
          simp only[he,cond_true]at h;obtain⟨c1,rfl,h1⟩:=F0 hu;obtain⟨c2,rfl,h2⟩:=F0 hv;obtain⟨a,ha1,ha2⟩:=Nn ht hy;obtain⟨e1,_,e3⟩:=ht.eqs he;have hf:P.fieldsOf t=a:=by simp[Program.fieldsOf,ha1]
          rw[run_equalIn_struct w D t c1 c2 δ e1,hf];have hn:=e3 a ha1;subst ha2;clear hf e3 ha1 e1 he hy ht hi hu hv;generalize a.toList=fl at*;induction fl generalizing b with
          |nil=>simp at h;subst h;rfl
          | cons f fl ihf=>
            simp only[Fcc,List.foldr_cons]at h;cases hj:I f.type with
            |none=>grind
            | some j=>
              simp only[hj]at h;cases hp:Dm j (xs.drop f.offset)with
              |none=>grind
              | some u'=>
                cases hq:Dm j (ys.drop f.offset)with
                |none=>grind
                | some v'=>
                  simp only[hp,hq]at h;split at h
                  · rename_i p q hpp hqq
                    simp at h;subst h;obtain⟨vu,r1,r2⟩:=Om (hI _ _ hj) h1 hp;obtain⟨vv,r3,r4⟩:=Om (hI _ _ hj) h2 hq;have r5:=ih f.type u' v' p hpp D θ vu vv r2 r4;have r6:=ihf q (λg hg=>hn g (Fba _ hg)) hqq
                    have hne : f.name ≠ "_" := hn f (by simp)
                    rw[Op.eqFields,if_pos hne];simp only[Sem.run_bind,r1,r3,r5,Result.andThen_ok];cases p with
                    |true=>grind
                    |false=>simp
                  · cases h
      · rename_i e hy
        simp at h;subst h;rw[VRel.eq_s hu,VRel.eq_s hv];simp[Op.equalIn,yv (jv ht hy)]
      · rename_i hy
        obtain⟨_,_,_,hy⟩:=W5 ht hy;simp at h;subst h;rw[VRel.eq_s hu,VRel.eq_s hv];simp[Op.equalIn,yv hy]
      · rename_i hy
        obtain⟨_,_,_,hy⟩:=W5 ht hy;simp at h;subst h;rw[VRel.eq_s hv];cases hu;simp[Op.equalIn,yv hy]
      · rename_i hy
        obtain⟨_,_,_,hy⟩:=W5 ht hy;simp at h;subst h;rw[VRel.eq_s hu];cases hv;simp[Op.equalIn,yv hy]
      · rename_i hy
        simp at h;subst h;rw[VRel.eq_s hu,VRel.eq_s hv];simp[Op.equalIn,yv (P8 ht hy)]
      · rename_i hy
        simp at h;subst h;rw[VRel.eq_s hu,VRel.eq_s hv];simp[Op.equalIn,yv (P8 ht hy)]
      · rename_i hy
        simp at h;subst h;rw[VRel.eq_s hu,VRel.eq_s hv];simp[Op.equalIn,yv (P8 ht hy)]
      · rename_i hy
        simp at h;subst h;rw[VRel.eq_s hu,VRel.eq_s hv];simp[Op.equalIn,yv (jv ht hy)]
      · cases h
end
section
variable {P:Program} {c:Cfg} {ev:Operand->LV} {bx:Nat->Option (List AV)} {st:Store} {d:Nat} {K:LV->Prop}
def qq{w:World}{T:BB}{β:Nat->Nat}{ρ:Operand->Value}(he:Env w T β ev bx st ρ){x:Operand}{a:AV}(h:ev x=.av a):VRel w T a (ρ x):=by have:=he.ev x;rw[h]at this;exact this
theorem zt3(a b:ByteArray):(a==b)=(a.data.toList==b.data.toList):=by obtain⟨⟨a⟩⟩:=a;obtain⟨⟨b⟩⟩:=b;rw[Fbq];show(Array.mk a==Array.mk b)=true↔_;simp
def zcn(hI:qe P c.I){op:BinOp}(hop:op=.eql\/op=.neq){t:TypeId}{x y:AV}{b:Bool}{w:World}{T:BB}{u v:Value}(hx:VRel w T x u)(hy:VRel w T y v)
    (h:Fs c.I 5 t x y=some b) (hn:∀k p k' q,x=.s (.int k p)->y=.s (.int k' q)->False) (ox oy:Operand):
    (eqGuard op t ox oy u v).run P w=.ok () w/\(binOp op t u v).run P w=.ok (.bool (if op=.eql then b else !b)) w:=by
  have r:=zcq (P:=P) hI 5 t x y b h 10000 θ u v hx hy;rw[Fs]at h;cases hi:c.I t with
  |none=>grind
  | some i=>
    rw[hi]at h;have ht:=hI t i hi;simp only at h;split at h
    · grind
    · rw[VRel.eq_s hx,VRel.eq_s hy]at r⊢
      rcases hop with rfl|rfl<;>simp[eqGuard,binOp,Op.equal,Op.maxDepth,r]
    · rename_i a1 b1 hty
      rw[VRel.eq_s hx,VRel.eq_s hy]at r⊢;have hb:(a1.toList==b1.toList)=b:=by grind[Go.ByteArray.toList_eq,zt3]
      rcases hop with rfl|rfl<;>simp_all[eqGuard,binOp,Op.stringOp]
    · rename_i fs xs ys hty
      cases he:i.eq with
      |false=>grind
      | true=>
        obtain⟨c1,rfl,h1⟩:=F0 hx;obtain⟨c2,rfl,h2⟩:=F0 hy;obtain⟨_,e2,_⟩:=ht.eqs he;refine⟨run_eqGuard_agg w op t ox oy c1 c2 e2,?_⟩;rcases hop with rfl|rfl<;>simp[binOp,Op.equal,Op.maxDepth,r]
    · rw[VRel.eq_s hx,VRel.eq_s hy]at r⊢
      rcases hop with rfl|rfl<;>simp[eqGuard,binOp,Op.equal,Op.maxDepth,r]
    · rw[VRel.eq_s hx,VRel.eq_s hy]at r⊢
      rcases hop with rfl|rfl<;>simp[eqGuard,binOp,Op.equal,Op.maxDepth,r]
    · rw[VRel.eq_s hy]at r⊢
      cases hx;rcases hop with rfl|rfl<;>simp[eqGuard,binOp,Op.equal,Op.maxDepth,r]
    · rw[VRel.eq_s hx]at r⊢
      cases hy;rcases hop with rfl|rfl<;>simp[eqGuard,binOp,Op.equal,Op.maxDepth,r]
    · rw[VRel.eq_s hx,VRel.eq_s hy]at r⊢
      rcases hop with rfl|rfl<;>simp[eqGuard,binOp,Op.equal,Op.maxDepth,r]
    · rw[VRel.eq_s hx,VRel.eq_s hy]at r⊢
      rcases hop with rfl|rfl<;>simp[eqGuard,binOp,Op.equal,Op.maxDepth,r]
    · rw[VRel.eq_s hx,VRel.eq_s hy]at r⊢
      rcases hop with rfl|rfl<;>simp[eqGuard,binOp,Op.equal,Op.maxDepth,r]
    · rw[VRel.eq_s hx,VRel.eq_s hy]at r⊢
      rcases hop with rfl|rfl<;>simp[eqGuard,binOp,Op.equal,Op.maxDepth,r]
    · cases h
def yim(hI:qe P c.I)(op:BinOp)(t:TypeId)(x y:Operand)(yt:TypeId)(h:vcV c ev bx st d (.binOp op t x y yt) K):Bb P c ev bx st d (.binOp op t x y yt) K:=by
  simp only[vcV]at h;split at h
  · rename_i k a k' b hx hy
    have key:(∃wr,K9 wr op k a b K/\(op≠.shl->op≠.shr->k=k')/\∀K',K9 wr op k a b K'->vcV c ev bx st d (.binOp op t x y yt) K'):=by
      split at h
      · simp_all[vcV]
      · simp_all[vcV]
      · rename_i h1 h2
        by_cases hk:k=k'
        · refine⟨c.W.contains d,δ,λ_ _=>hk,λK' h'=>?_⟩
          simp_all[vcV]
        grind
    obtain⟨wr,h1,h2,h3⟩:=key;obtain⟨z,k1,k2,k3⟩:=yg1 (P:=P) h1 h2;refine⟨_,k1,λK' h'=>h3 K' (k2 K' h'),λw T β ρ o ho he=>⟨z,?_,VRel.s _⟩⟩;simp[execOp,ho,he.s hx,he.s hy,yj9,k3]
  · rename_i u v hn hx hy
    have hn':∀k p k' q,u=.s (.int k p)->v=.s (.int k' q)->False:=λk p k' q h1 h2=>hn k p k' q (by rw[h1]) (by rw[h2]);split at h
    · obtain⟨b,hb,hk⟩:=zy h
      refine⟨_,hk,λK' h'=>?_,λw T β ρ o ho he=>⟨.bool b,?_,VRel.s _⟩⟩
      · simp_all[vcV,za]
      · obtain⟨h1,h2⟩:=zcn hI (op:=.eql) (.inl rfl) (qq he hx) (qq he hy) hb hn' x y
        simp[execOp,ho,h1,h2]
    · obtain⟨b,hb,hk⟩:=zy h
      refine⟨_,hk,λK' h'=>?_,λw T β ρ o ho he=>⟨.bool !b,?_,VRel.s _⟩⟩
      · simp_all[vcV,za]
      · obtain⟨h1,h2⟩:=zcn hI (op:=.neq) (.inr rfl) (qq he hx) (qq he hy) hb hn' x y
        simp[execOp,ho,h1,h2]
    grind
  grind
def yia(x:Operand)(h:vcV c ev bx st d (.nilCheck x) K):Bb P c ev bx st d (.nilCheck x) K:=by
  simp only[vcV]at h;split at h
  · rename_i k o hx
    refine⟨_,h,λK' h'=>θw,λw T β ρ o ho he=>?_⟩;have:=he.ev x;rw[hx]at this;exact⟨ρ x,by rw[show ρ x=_ from this];simp[execOp,ho,show ρ x=_ from this],this⟩
  · rename_i l hx
    refine⟨_,h,λK' h'=>θw,λw T β ρ o ho he=>⟨ρ x,?_,qq he hx⟩⟩;have:=qq he hx;generalize hv:ρ x=v at*;cases this;simp[execOp,ho,hv]
  · rename_i f l hx
    refine⟨_,h,λK' h'=>θw,λw T β ρ o ho he=>⟨ρ x,?_,qq he hx⟩⟩;have:=qq he hx;generalize hv:ρ x=v at*;cases this;simp[execOp,ho,hv]
  · rename_i a hx
    refine⟨_,h,λK' h'=>θw,λw T β ρ o ho he=>⟨ρ x,?_,qq he hx⟩⟩;simp[execOp,ho,he.s hx]
  · rename_i t0 v0 hx
    refine⟨_,h,λK' h'=>θw,λw T β ρ o ho he=>⟨ρ x,?_,qq he hx⟩⟩;simp[execOp,ho,he.s hx]
  grind
def yh6(op:UnOp)(t:TypeId)(x:Operand)(h:vcV c ev bx st d (.unOp op t x) K):Bb P c ev bx st d (.unOp op t x) K:=by
  simp only[vcV]at h;split at h
  · rename_i k a hx
    obtain⟨h1,h2⟩:=Nh h;refine⟨_,h1,λK' h'=>by simp only[vcV,hx];grind,λw T β ρ o ho he=>⟨_,?_,VRel.s _⟩⟩;simp[execOp,ho,he.s hx,Op.unary,Op.intArith]
  · rename_i b hx
    refine⟨_,h,λK' h'=>θw,λw T β ρ o ho he=>⟨_,?_,VRel.s _⟩⟩;simp[execOp,ho,he.s hx,Op.unary]
  grind
def yij(hI:qe P c.I)(s t:TypeId)(x:Operand)(h:vcV c ev bx st d (.convert s t x) K):Bb P c ev bx st d (.convert s t x) K:=by
  simp only[vcV]at h;obtain⟨i,hi,h⟩:=zy h;obtain⟨j,hj,h⟩:=zy h;split at h
  · rename_i k1 k k2 n hy1 hy2 hx
    obtain⟨h1,h2⟩:=Nh h;refine⟨_,h1,λK' h'=>?_,λw T β ρ o ho he=>⟨_,?_,VRel.s _⟩⟩
    · simp only[vcV]
      grind[za]
    · simp[execOp,ho,he.s hx,convert,yv (Lv (hI _ _ hi) hy1),yv (Lv (hI _ _ hj) hy2),Conv.intToInt]
  grind
def yii(x:Operand)(ix:Nat)(h:vcV c ev bx st d (.extract x ix) K):Bb P c ev bx st d (.extract x ix) K:=by
  simp only[vcV]at h;split at h
  · rename_i vs hx
    obtain⟨y,hy,h⟩:=zy h;refine⟨_,h,λK' h'=>by simp_all[vcV,za],λw T β ρ o ho he=>?_⟩;obtain⟨cs,hc,hr⟩:=mj (qq he hx);obtain⟨v,hv,hvr⟩:=hr.getElem? hy;have hv':cs[ix]?=some v:=δ;exact⟨v,by simp_all[execOp,Instr.extract],hvr⟩
  grind
def Mo{α β:Type}{f:α->Option β}:∀{l:List α} {m:List β},l.mapM f=some m->m.length=l.length/\∀(i:Nat) (x:β),m[i]?=some x->∃a,l[i]?=some a/\f a=some x:=by
  intro l;induction l with
  |nil=>simp
  | cons a l ih=>
    intro m h;rw[List.mapM_cons]at h;cases hf:f a with
    |none=>grind
    | some b=>
      cases hl:l.mapM f with
      |none=>grind
      | some m'=>
        grind
def yic(fn:Fn)(first cap:Array Operand)(h:vcV c ev bx st d (.makeFunc fn first cap) K):Bb P c ev bx st d (.makeFunc fn first cap) K:=by
  cases fn<;>simp only[vcV]at h<;>try exact h.elim
  rename_i f;cases hf:first.isEmpty with
  | false=>
    rw[hf]at h;simp only[cond_false]at h;obtain⟨l,hl,h⟩:=zy h;cases hc:cap.isEmpty with
    |false=>grind
    | true=>
      have hcap:cap=#[]:=δ;subst hcap;replace h:K (.av (.s (.func (.func f) l.toArray #[]))):=h;refine⟨_,h,λK' h'=>by simp_all[vcV,za],λw T β ρ o ho he=>⟨.func (.func f) (first.map ρ) #[],?_,?_⟩⟩
      · simp[execOp,ho,Instr.makeFunc]
      · obtain⟨h1,h2⟩:=Mo hl
        have e:l.toArray=first.map ρ:=by
          apply Array.ext';apply Fcd;intro i;rw[Fcv,Far];cases hi:l[i]? with
          | none=>
            grind
          | some x=>
            obtain⟨a,ha,hfa⟩:=h2 i x hi;have:=VRel.eq_s (qq he (zg4 hfa));grind
        rw[e];exact .s _
  | true=>
    rw[hf]at h;simp only[cond_true]at h;obtain⟨l,hl,h⟩:=zy h;refine⟨_,h,λK' h'=>by simp_all[vcV,za],λw T β ρ o ho he=>⟨.func (.func f) #[] (cap.map ρ),?_,?_⟩⟩
    · simp_all[execOp,Instr.makeFunc]
    · obtain⟨h1,h2⟩:=Mo hl
      refine VRel.clos f l _ δ λi x y hx hy=>?_;obtain⟨a,ha,hfa⟩:=h2 i x hx;have ha':cap[i]?=some a:=δ;rw[Array.getElem?_map,ha']at hy;simp at hy;subst hy;exact qq he (Np hfa)
def Kt(a:Addr)(w:World)(f:Nat->Value):∀(n i:Nat) (acc:Array Value),(∀j,i<=j->j<i+n->w.cell? (a.add j)=some (f j))->
    (loadCellsFrom a i n acc).run P w=.ok (acc++((List.range' i n).map f).toArray) w:=by
  intro n;induction n with
  |zero=>intro i acc _;rfl
  | succ n ih=>
    intro i acc h;have h0:=h i (Fal _) θ;have:(load (a.add i)).run P w=.ok (f i) w:=by simp_all
    simp only[loadCellsFrom,Sem.run_bind,this,Result.andThen_ok];rw[ih (i+1) (acc.push (f i)) (λj h1 h2=>h j θ θ)];simp[List.range'_succ]
theorem vw(b off n:Nat):(Addr.add ⟨b,off,none⟩ n)=⟨b,off+n,none⟩:=by grind[Addr.add]
def lu(w:World)(T:BB)(l:List AV)(b off:Nat):Prop:=∃f:Nat->Value,∀j x,l[j]?=some x->w.cell? ⟨b,off+j,none⟩=some (f j)/\VRel w T x (f j)
def zar{w:World}{T:BB}{t:TypeId}{i:TI}(hi:TIok P t i){l:List AV}{b off:Nat}(h:lu w T l b off){x:AV}(hx:Dm i l=some x):
    ∃v,(loadVar t ⟨b,off,none⟩).run P w=.ok v w/\VRel w T x v:=by
  obtain⟨f,h⟩:=h;unfold Dm at hx;cases ha:Cr i.ty with
  | true=>
    simp only[ha,cond_true]at hx;cases hb:Nat.ble i.size l.length with
    |false=>grind
    | true=>
      simp only[hb,cond_true,Faj]at hx;subst hx;have hle:i.size<=l.length:=Fbj hb;have hr:(loadCells ⟨b,off,none⟩ i.size).run P w=.ok (#[]++((List.range' 0 i.size).map f).toArray) w:=by refine Kt _ w f i.size 0 #[] λj _ hj=>?_;rw[vw];exact(h j _ (Fac θ)).1
      refine⟨.agg (#[]++((List.range' 0 i.size).map f).toArray),by simp only[loadVar,Sem.run_bind,Rr hi,ha,Result.andThen_ok,if_true,vg hi,hr,Sem.run_pure],Ls ⟨δ,λj y v hy hv=>?_⟩⟩;grind
  | false=>
    simp only[ha,cond_false]at hx;have hx':l[0]?=some x:=by grind[List.head?_eq_getElem?]
    obtain⟨h1,h2⟩:=h 0 x hx';refine⟨f 0,?_,h2⟩;simp only[loadVar,Sem.run_bind,Rr hi,ha,Result.andThen_ok];simp_all
def CellsRel.avail{w:World}{T:BB}{l:List AV}{b:Nat}(h:CellsRel w T l b)(o:Nat):lu w T (l.drop o) b o:=by
  obtain⟨c,e,fr,h1,_,h3,h4⟩:=h;refine⟨λj=>c.getD (o+j) undef,λj x hx=>?_⟩;have hx':l[o+j]?=some x:=δ;have hlt:o+j<c.size:=δ;have hc:c[o+j]?=some (c.getD (o+j) undef):=by simp[hlt]
  grind[World.cell?]
def zdp{x:LV}{K:List AV->Prop}(h:Pj bx st x K):
    ∃l,K l/\(∀K':List AV->Prop,K' l->Pj bx st x K')/\∀w T β ρ,Env w T β ev bx st ρ->∀v,LRel w T β x v->∃b off,v=.pointer (some ⟨b,off,none⟩)/\lu w T l b off:=by
  unfold Pj at h;split at h
  · rename_i k o
    obtain⟨l,hl,h⟩:=zy h;exact⟨_,h,λK' h'=>za l hl h',λw T β ρ he v hv=>⟨β k,o,hv,(he.bx k l hl).avail o⟩⟩
  · rename_i cells
    refine⟨_,h,λK' h'=>h',λw T β ρ he v hv=>?_⟩;cases hv with
    |cp _ b off f hc hx=>exact⟨b,off,rfl,f,λj x hj=>⟨(hc j x hj).1,hx j x hj⟩⟩
  · rename_i b o
    obtain⟨y,hy,h⟩:=zy h;cases y with
    |cells l=>exact⟨_,h,λK' h'=>za _ hy h',λw T β ρ he v hv=>⟨b,o,VRel.eq_s hv,CellsRel.avail (he.obj b _ hy) o⟩⟩
    |map es bs clock=>grind
    |iter m since seen last=>grind
    |ghost o gh=>grind
  grind
def yid(hI:qe P c.I)(t:TypeId)(a:Operand)(h:vcV c ev bx st d (.load t a) K):Bb P c ev bx st d (.load t a) K:=by
  simp only[vcV]at h;obtain⟨i,hi,h⟩:=zy h;obtain⟨l,hl,hl',hs⟩:=zdp (ev:=ev) h;rw[Mh]at hl;obtain⟨x,hx,hk⟩:=zy hl;refine⟨_,hk,λK' h'=>?_,λw T β ρ o ho he=>?_⟩
  · simp only[vcV]
    grind[za,Mh]
  · obtain⟨b,off,hv,hav⟩:=hs w T β ρ he _ (he.ev a)
    obtain⟨v,hr,hvr⟩:=zar (hI _ _ hi) hav hx;exact⟨v,by simp_all[execOp,Instr.loadAt,Instr.sureAddr],hvr⟩
def zer{x:LV}{n:Nat}(h:Pr x n K):
    ∃y,K y/\(∀K':LV->Prop,K' y->Pr x n K')/\∀w T β v,LRel w T β x v->∃b off,v=.pointer (some ⟨b,off,none⟩)/\LRel w T β y (.pointer (some ⟨b,off+n,none⟩)):=by
  unfold Pr at h;split at h
  · exact⟨_,h,λ_ h=>h,λw T β v hv=>⟨_,_,hv,rfl⟩⟩
  · refine⟨_,h,λ_ h=>h,λw T β v hv=>?_⟩
    rename_i cells;cases hv with
    | cp _ b off f hc hx=>
      refine⟨b,off,rfl,VRel.cp _ _ _ (λj=>f (n+j)) (λj x hj=>?_) λj x hj=>?_⟩
      · grind
      grind
  · exact⟨_,h,λ_ h=>h,λw T β v hv=>⟨_,_,VRel.eq_s hv,VRel.s _⟩⟩
  grind
def yig(hI:qe P c.I)(s:TypeId)(x:Operand)(f:Nat)(h:vcV c ev bx st d (.fieldAddr s x f) K):Bb P c ev bx st d (.fieldAddr s x f) K:=by
  simp only[vcV]at h;obtain⟨i,hi,h⟩:=zy h;split at h
  · rename_i fs hty
    obtain⟨g,hg,h⟩:=zy h;obtain⟨j,hj,h⟩:=zy h;cases hjb:Nat.blt 0 j.size with
    |false=>grind
    |true=>
    rw[hjb]at h;simp only[cond_true]at h;obtain⟨y,hy,hy',hs⟩:=zer h;refine⟨y,hy,λK' h'=>?_,λw T β ρ o ho he=>?_⟩
    · simp only[vcV]
      grind[za]
    · obtain⟨b,off,hv,hr⟩:=hs w T β _ (he.ev x)
      obtain⟨a,ha1,ha2⟩:=Nn (hI _ _ hi) hty;refine⟨_,?_,hr⟩;subst ha2;simp only[Far]at hg;cases hfa:a.toList[f]? with
      |none=>grind
      | some fd=>
        rw[hfa]at hg;simp at hg;subst hg;have hfa':a[f]?=some fd:=δ;have hz:0<j.size:=Fbj hjb;have hz':¬j.size=0:=θ;simp[execOp,ho,hv,Instr.fieldAt,yv ha1,hfa',Instr.sureAddr,fieldPlace,vg (hI _ _ hj),hz',vw]
  grind
def yih(hI:qe P c.I)(s:TypeId)(x:Operand)(f:Nat)(h:vcV c ev bx st d (.field s x f) K):Bb P c ev bx st d (.field s x f) K:=by
  simp only[vcV]at h;obtain⟨i,hi,h⟩:=zy h;split at h
  · rename_i fs cs hty hx
    obtain⟨g,hg,h⟩:=zy h;obtain⟨j,hj,h⟩:=zy h;rw[Mh]at h;obtain⟨y,hy,h⟩:=zy h;refine⟨_,h,λK' h'=>?_,λw T β ρ o ho he=>?_⟩
    · simp only[vcV]
      grind[za,Mh]
    · obtain⟨a,ha1,ha2⟩:=Nn (hI _ _ hi) hty
      obtain⟨us,hu,hr⟩:=F0 (qq he hx);obtain⟨v,hv1,hv2⟩:=Om (P:=P) (hI _ _ hj) hr hy;refine⟨v,?_,hv2⟩;subst ha2;simp only[Far]at hg;cases hfa:a.toList[f]? with
      |none=>grind
      | some fd=>
        rw[hfa]at hg;simp at hg;subst hg;simp_all[execOp,Instr.field,yv,asAgg]
  grind
end
section
variable {P:Program} {c:Cfg} {ev:Operand->LV} {bx:Nat->Option (List AV)} {st:Store} {d:Nat} {K:LV->Prop}
def Nk{w:World}{T:BB}{k:Nat}{rows:List (List AV)}{tok:Option Nat}{v:Value}(h:VRel w T (.lst k rows tok) v):
    (∃(a:Option Addr) (cap:Nat),v=.slice a rows.length cap/\rows=[]/\tok=none/\cap=0)\/∃(b off cap:Nat),v=.slice (some ⟨b,off,none⟩) rows.length cap/\rows.length<=cap∧
      (∀(i:Nat) (row:List AV),rows[i]?=some row->row.length=k)/\∃f:Nat->Value,
      (∀(i:Nat) (row:List AV) (j:Nat) (x:AV),rows[i]?=some row->row[j]?=some x->w.cell? ⟨b,off+(i*k+j),none⟩=some (f (i*k+j))/\¬T b (off+(i*k+j))/\VRel w T x (f (i*k+j))/\xp (f (i*k+j))=true):=by
  cases h with
  |nil _ a=>simp
  |lst _ _ b off cap _ f hcap hk htok hc h0 hx=>exact .inr ⟨b,off,cap,rfl,hcap,hk,f,λi row j x h1 h2=>⟨(hc i row j x h1 h2).1,(hc i row j x h1 h2).2,hx i row j x h1 h2,h0 i row j x h1 h2⟩⟩
theorem VRel.empty(w:World)(T:BB)(k b off cap:Nat):VRel w T (.lst k [] none) (.slice (some ⟨b,off,none⟩) 0 cap):=
  VRel.lst [] none b off cap k (λ_=>undef) (Fad _) (λi row h=>θj) (λt ht=>by cases ht) (λi row j x h=>θj) (λi row j x h=>θj) λi row j x h=>θj
def yie(hI:qe P c.I)(t:TypeId)(x ix:Operand)(h:vcV c ev bx st d (.indexAddr t x ix) K):Bb P c ev bx st d (.indexAddr t x ix) K:=by
  simp only[vcV]at h;obtain⟨i,hi,h⟩:=zy h;split at h
  · rename_i e k' rows tok k j hty hx hix
    replace h:=zy h;obtain⟨ie,hie,h⟩:=h;cases hb:Nat.beq k' ie.size with
    |false=>grind
    | true=>
      rw[hb]at h;simp only[cond_true]at h;obtain rfl:k'=ie.size:=(wj _ _).1 hb;obtain⟨m,rfl,h⟩:=h;replace h:=zy h;obtain⟨row,hrow,h⟩:=h;refine⟨_,h,λK' h'=>?_,λw T β ρ o ho he=>?_⟩
      · simp only[vcV]
        refine za i hi ?_;simp only[hty,hx,hix];refine za ie hie ?_;rw[hb];exact⟨m,rfl,za row hrow h'⟩
      · have hm:m<rows.length:=(Fax.1 hrow).1
        rcases Nk (qq he hx)with⟨_,_,_,h2,_⟩|⟨b,off,cap,hv,hcap,hk,f,hf⟩
        · grind
        · refine⟨.pointer (some ⟨b,off+m*ie.size,none⟩),?_,VRel.cp _ _ _ (λj=>f (m*ie.size+j)) (λj y hy=>?_) λj y hy=>?_⟩
          · simp[execOp,ho,hv,he.s hix,Instr.indexAt,asIntOf,yv (jv (hI _ _ hi) hty),vg (hI _ _ hie),vw,hm]
          · grind
          grind
  · rename_i e b o len cap k j hty hx hix
    replace h:=zy h;obtain⟨ie,hie,m,rfl,hm,h⟩:=h;refine⟨_,h,λK' h'=>?_,λw T β ρ o ho he=>?_⟩
    · simp only[vcV]
      refine za i hi ?_;simp only[hty,hx,hix];exact za ie hie ⟨m,rfl,hm,h'⟩
    · refine⟨_,?_,VRel.s _⟩
      simp[execOp,ho,he.s hx,he.s hix,Instr.indexAt,asIntOf,yv (jv (hI _ _ hi) hty),vg (hI _ _ hie),vw,hm]
  · rename_i n e k j hty hix
    replace h:=zy h;obtain⟨ie,hie,m,rfl,hm,h⟩:=h;obtain⟨y,hy,hy',hs⟩:=zer h;refine⟨_,hy,λK' h'=>?_,λw T β ρ o ho he=>?_⟩
    · simp only[vcV]
      refine za i hi ?_;simp only[hty,hix];exact za ie hie ⟨m,rfl,hm,hy' _ h'⟩
    · obtain⟨b,off,hv,hr⟩:=hs w T β _ (he.ev x)
      refine⟨_,?_,hr⟩;simp[execOp,ho,hv,he.s hix,Instr.indexAt,asIntOf,yv (No (hI _ _ hi) hty),vg (hI _ _ hie),vw,hm,Instr.sureAddr]
  grind
def yif(hI:qe P c.I)(t:TypeId)(x ix:Operand)(h:vcV c ev bx st d (.index t x ix) K):Bb P c ev bx st d (.index t x ix) K:=by
  simp only[vcV]at h;obtain⟨i,hi,h⟩:=zy h;split at h
  · rename_i n e cs k j hty hx hix
    replace h:=zy h;obtain⟨ie,hie,m,rfl,hm,h⟩:=h;rw[Mh]at h;obtain⟨y,hy,h⟩:=zy h;refine⟨_,h,λK' h'=>?_,λw T β ρ o ho he=>?_⟩
    · simp only[vcV]
      refine za i hi ?_;simp only[hty,hx,hix];refine za ie hie ⟨m,rfl,hm,?_⟩;grind[Mh,za]
    · obtain⟨us,hu,hr⟩:=F0 (qq he hx)
      obtain⟨v,hv1,hv2⟩:=Om (P:=P) (hI _ _ hie) hr hy;refine⟨v,?_,hv2⟩;simp[execOp,ho,hu,he.s hix,Instr.index,asIntOf,yv (No (hI _ _ hi) hty),vg (hI _ _ hie),hm,hv1]
  · rename_i s k j hty hx hix
    obtain⟨m,rfl,h⟩:=h;replace h:=zy h;obtain⟨b,hb,h⟩:=h;refine⟨_,h,λK' h'=>?_,λw T β ρ o ho he=>?_⟩
    · simp only[vcV]
      refine za i hi ?_;simp only[hty,hx,hix];exact⟨m,rfl,za b hb h'⟩
    · refine⟨_,?_,VRel.s _⟩
      simp[execOp,ho,he.s hx,he.s hix,Instr.index,asIntOf,yv (W4 (hI _ _ hi) hty),hb]
  grind
def fe{α β:Type}{f:α->β}{l:List α}{a b:β}(h:l.map f=[a,b]):∃x y,l=[x,y]/\f x=a/\f y=b:=by obtain⟨x,l',rfl,h1,h2⟩:=Fd3.1 h;obtain⟨y,l'',rfl,h3,h4⟩:=Fd3.1 h2;rw[List.map_eq_nil_iff]at h4;grind
def fc{α β:Type}{f:α->β}{l:List α}{a b c:β}(h:l.map f=[a,b,c]):∃x y z,l=[x,y,z]/\f x=a/\f y=b/\f z=c:=by obtain⟨x,l',rfl,h1,h2⟩:=Fd3.1 h;obtain⟨y,z,rfl,h3,h4⟩:=fe h2;grind
def zan{α β:Type}{f:α->β}{l:List α}{a b c d:β}(h:l.map f=[a,b,c,d]):∃x y z u,l=[x,y,z,u]/\f x=a/\f y=b/\f z=c/\f u=d:=by obtain⟨x,l',rfl,h1,h2⟩:=Fd3.1 h;obtain⟨y,z,u,rfl,h3,h4,h5⟩:=fc h2;grind
def yik(hI:qe P c.I)(cl:Call)(h:vcV c ev bx st d (.call cl) K):Bb P c ev bx st d (.call cl) K:=by
  obtain⟨callee,args,argTypes⟩:=cl;simp only[vcV,Hx]at h;split at h
  · rename_i b
    cases b<;>simp only at h
    case len=>
      obtain⟨t,ht,h⟩:=zy h;obtain⟨i,hi,h⟩:=zy h;obtain⟨x,hx,h⟩:=zy h;have key:∃y,K y/\(∀K':LV->Prop,K' y->fh (ev x) st i.ty K')/\∀w T β ρ ty,Env w T β ev bx st ρ->∃v,(Builtin.len_ argTypes ty (args.map ρ)).run P w=.ok v w/\LRel w T β y v:=by
        have hargs:∀ρ:Operand->Value,(args.map ρ)[0]?=some (ρ x):=fun ρ=>δ;unfold fh at h⊢;split at h
        · rename_i e k rows tok hty hev
          refine⟨_,h,λK' h'=>h',λw T β ρ ty he=>?_⟩;rcases Nk (qq he hev)with⟨_,cap,hv,_⟩|⟨b,off,cap,hv,_⟩
          · exact⟨_,ψm,VRel.s _⟩
          · exact⟨_,ψm,VRel.s _⟩
        · rename_i e a n cap hty hev
          exact⟨_,h,λK' h'=>h',λw T β ρ ty he=>⟨_,by simp[Builtin.len_,goInt,ht,hargs,hx,he.s hev,yv (jv (hI _ _ hi) hty)],VRel.s _⟩⟩
        · rename_i e hty hev
          refine⟨_,h,λK' h'=>h',λw T β ρ ty he=>?_⟩;obtain⟨ad,hv⟩:∃ad,ρ x=.slice ad 0 0:=by
            have h1:=qq he hev;generalize ρ x=v at h1;cases h1 with
            |emp ad _=>simp
          exact⟨_,ψm,VRel.s _⟩
        · rename_i s hty hev
          exact⟨_,h,λK' h'=>h',λw T β ρ ty he=>⟨_,by simp[Builtin.len_,goInt,ht,hargs,hx,he.s hev,yv (W4 (hI _ _ hi) hty)],VRel.s _⟩⟩
        · rename_i k e hty hev
          exact⟨_,h,λK' h'=>h',λw T β ρ ty he=>⟨_,by simp[Builtin.len_,goInt,ht,hargs,hx,he.s hev,yv (Km (hI _ _ hi) hty)],VRel.s _⟩⟩
        · rename_i k e r hty hev
          obtain⟨ob,hob,h⟩:=zy h;cases ob with
          |cells l=>grind
          |iter m since seen last=>grind
          |ghost o gh=>grind
          | map es bs clock=>
            refine⟨_,h,λK' h'=>za _ hob h',λw T β ρ ty he=>?_⟩;obtain⟨ms,h1,h2,_⟩:=he.obj r _ hob;refine⟨_,?_,VRel.s _⟩;simp[Builtin.len_,goInt,ht,hargs,hx,he.s hev,yv (Km (hI _ _ hi) hty),getObj,Sem.run,h1,h2,goInt]
        · rename_i n e hty
          exact⟨_,h,λK' h'=>h',λw T β ρ ty he=>⟨_,by simp[Builtin.len_,goInt,ht,hargs,hx,yv (No (hI _ _ hi) hty)],VRel.s _⟩⟩
        grind
      obtain⟨y,hy,hy',hs⟩:=key;refine⟨y,hy,λK' h'=>?_,λw T β ρ o ho he=>?_⟩
      · simp only[vcV,Hx]
        grind[za]
      · obtain⟨v,h1,h2⟩:=hs w T β ρ o.type he
        simp_all[execOp,resolve,invoke,builtin]
    case cap=>
      obtain⟨t,ht,h⟩:=zy h;obtain⟨i,hi,h⟩:=zy h;obtain⟨x,hx,h⟩:=zy h;have hargs:∀ρ:Operand->Value,(args.map ρ)[0]?=some (ρ x):=fun ρ=>δ;split at h
      · rename_i e a n cap hty hev
        refine⟨_,h,λK' h'=>?_,λw T β ρ o ho he=>⟨_,?_,VRel.s _⟩⟩
        · simp only[vcV,Hx]
          grind[za]
        · simp[execOp,ho,resolve,invoke,builtin,Builtin.cap_,ht,hx,he.s hev,yv (jv (hI _ _ hi) hty),goInt]
      grind
    case min=>
      have key:∃z:Value,K (.av (.s z))/\(∀K':LV->Prop,K' (.av (.s z))->Mn min2 (args.toList.map ev) K')/\∀w T β ρ ty,Env w T β ev bx st ρ->(Builtin.min_ argTypes ty (args.map ρ)).run P w=.ok z w:=by
        unfold Mn at h⊢;split at h
        · rename_i k a k' b hev
          refine⟨_,h,λK' h'=>h',λw T β ρ ty he=>?_⟩;obtain⟨l⟩:=args;obtain⟨x,y,rfl,h1,h2⟩:=fe hev;simp[Builtin.min_,he.s h1,he.s h2,Builtin.min2,min2,Fc1]
        · rename_i k a k' b k'' c' hev
          refine⟨_,h,λK' h'=>h',λw T β ρ ty he=>?_⟩;obtain⟨l⟩:=args;obtain⟨x,y,z,rfl,h1,h2,h3⟩:=fc hev;simp[Builtin.min_,he.s h1,he.s h2,he.s h3,Builtin.min2,min2,Fc1]
        · rename_i k a k' b k'' c' k3 d' hev
          refine⟨_,h,λK' h'=>h',λw T β ρ ty he=>?_⟩;obtain⟨l⟩:=args;obtain⟨x,y,z,u,rfl,h1,h2,h3,h4⟩:=zan hev;simp[Builtin.min_,he.s h1,he.s h2,he.s h3,he.s h4,Builtin.min2,min2,Fc1]
        grind
      obtain⟨z,hz,hz',hs⟩:=key;exact⟨_,hz,λK' h'=>by simp_all[vcV,Hx],λw T β ρ o ho he=>⟨z,by simp[execOp,ho,resolve,invoke,builtin,hs w T β ρ o.type he],VRel.s _⟩⟩
    case max=>
      have key:∃z:Value,K (.av (.s z))/\(∀K':LV->Prop,K' (.av (.s z))->Mn max2 (args.toList.map ev) K')/\∀w T β ρ ty,Env w T β ev bx st ρ->(Builtin.max_ argTypes ty (args.map ρ)).run P w=.ok z w:=by
        unfold Mn at h⊢;split at h
        · rename_i k a k' b hev
          refine⟨_,h,λK' h'=>h',λw T β ρ ty he=>?_⟩;obtain⟨l⟩:=args;obtain⟨x,y,rfl,h1,h2⟩:=fe hev;simp[Builtin.max_,he.s h1,he.s h2,Builtin.max2,max2,Fc1]
        · rename_i k a k' b k'' c' hev
          refine⟨_,h,λK' h'=>h',λw T β ρ ty he=>?_⟩;obtain⟨l⟩:=args;obtain⟨x,y,z,rfl,h1,h2,h3⟩:=fc hev;simp[Builtin.max_,he.s h1,he.s h2,he.s h3,Builtin.max2,max2,Fc1]
        · rename_i k a k' b k'' c' k3 d' hev
          refine⟨_,h,λK' h'=>h',λw T β ρ ty he=>?_⟩;obtain⟨l⟩:=args;obtain⟨x,y,z,u,rfl,h1,h2,h3,h4⟩:=zan hev;simp[Builtin.max_,he.s h1,he.s h2,he.s h3,he.s h4,Builtin.max2,max2,Fc1]
        grind
      obtain⟨z,hz,hz',hs⟩:=key;exact⟨_,hz,λK' h'=>by simp_all[vcV,Hx],λw T β ρ o ho he=>⟨z,by simp[execOp,ho,resolve,invoke,builtin,hs w T β ρ o.type he],VRel.s _⟩⟩
  grind
theorem Sd{w:World}{T:BB}{β:Nat->Nat}{ρ:Operand->Value}(he:Env w T β ev bx st ρ){x:Option Operand}{l:Option Int}(h:Gf ev x=some l):
    (l=none/\x=none)\/∃k i o,l=some i/\x=some o/\ρ o=.int k i:=by
  cases x with
  |none=>simp_all[Gf]
  | some o=>
    simp only[Gf]at h;split at h
    · rename_i k i hev
      simp at h;exact .inr ⟨k,i,o,h.symm,rfl,he.s hev⟩
    · cases h
def Pm{w:World}{T:BB}{β:Nat->Nat}{ρ:Operand->Value}(he:Env w T β ev bx st ρ){lo hi:Option Operand}{l h:Option Int}(hl:Gf ev lo=some l)(hh:Gf ev hi=some h)
    (len cap p q:Nat) (hp:l.getD 0=(p:Int)) (hq:h.getD (len:Int)=(q:Int)) (hpq:p<=q) (hqc:q<=cap):
    (Instr.sliceBounds true len cap (lo.map ρ) (hi.map ρ) none).run P w=.ok (p,q,cap) w:=by
  rcases Sd he hl with⟨rfl,rfl⟩|⟨k,i,o,rfl,rfl,hlo⟩<;>rcases Sd he hh with⟨rfl,rfl⟩|⟨k',i',o',rfl,rfl,hhi⟩<;>simp at hp hq
  · have hp':p=0:=θ
    have hq':q=len:=θ;simp_all[Instr.sliceBounds]
  · have hp':p=0:=θ
    simp_all[Instr.sliceBounds,Instr.sliceBound,asIntOf]
  · have hq':q=len:=θ
    simp_all[Instr.sliceBounds,Instr.sliceBound,asIntOf]
  simp_all[Instr.sliceBounds,Instr.sliceBound,asIntOf]
def yh7(hI:qe P c.I)(t:TypeId)(x:Operand)(lo hi mx:Option Operand)(h:vcV c ev bx st d (.slice t x lo hi mx) K):Bb P c ev bx st d (.slice t x lo hi mx) K:=by
  simp only[vcV]at h;cases mx with
  |some m=>grind
  |none=>
  simp only[Fd8,cond_false]at h;replace h:=zy h;obtain⟨i,hi',h⟩:=h;split at h
  · rename_i e k rows tok l hh hty hx hl hh'
    replace h:=zy h;obtain⟨ie,hie,h⟩:=h;cases hb:Nat.beq k ie.size with
    |false=>grind
    |true=>
    rw[hb]at h;simp only[cond_true]at h;obtain rfl:k=ie.size:=(wj _ _).1 hb;obtain⟨p,q,hp,hq,hpq,hql,h⟩:=h;refine⟨_,h,λK' h'=>?_,λw T β ρ o ho he=>?_⟩
    · simp only[vcV,Fd8,cond_false]
      grind[za]
    · rcases Nk (qq he hx)with⟨ad,cap,hv,rfl,_,rfl⟩|⟨b,off,cap,hv,hcap,hk,f,hf⟩
      · have hq0:q=0:=by grind
        have hp0:p=0:=θ;subst hq0 hp0;refine⟨.slice ad 0 0,?_,VRel.nil _ _⟩;have hb:=Pm (P:=P) he hl hh' 0 0 0 0 hp hq (Fal _) (Fal _);cases ad<;>simp[execOp,ho,hv,Instr.sliceAt,Instr.slice,yv (jv (hI _ _ hi') hty),hb,vg (hI _ _ hie)]
      · have hbd:=Pm (P:=P) he hl hh' rows.length cap p q hp hq hpq θ
        have hlen:(List.drop p (List.take q rows)).length=q-p:=δ;by_cases hm:cap=p
        · have hqp:q=p:=θ
          have hnil:List.drop p (List.take q rows)=[]:=Fa4 θ;refine⟨.slice (some ⟨b,off,none⟩) 0 0,?_,?_⟩
          · subst hm
            subst hqp;simp[execOp,ho,hv,Instr.sliceAt,Instr.slice,yv (jv (hI _ _ hi') hty),hbd,vg (hI _ _ hie)]
          · show VRel w T (.lst _ (List.drop p (List.take q rows)) none) _
            grind[VRel.empty]
        · refine⟨.slice (some ⟨b,off+p*ie.size,none⟩) (q-p) (cap-p),?_,?_⟩
          · simp[execOp,ho,hv,Instr.sliceAt,Instr.slice,yv (jv (hI _ _ hi') hty),hbd,vg (hI _ _ hie),hm,vw]
          · show VRel w T (.lst _ (List.drop p (List.take q rows)) none) _
            rw[<-hlen];have hget:∀(i:Nat) (row:List AV),(List.drop p (List.take q rows))[i]?=some row->rows[p+i]?=some row:=δ;refine VRel.lst _ none b (off+p*ie.size) (cap-p) _ (λj=>f (p*ie.size+j)) θ (λi row h=>hk _ _ (hget i row h)) (λt ht=>by cases ht) (λi row j x h1 h2=>?_) (λi row j x h1 h2=>?_) λi row j x h1 h2=>?_
            · grind
            · grind
            grind
  · rename_i e b o len cap l hh hty hx hl hh'
    replace h:=zy h;obtain⟨ie,hie,p,q,hp,hq,hpq,hqc,hpc⟩:=h;rcases hpc with⟨hpc,h⟩|⟨hpc,h⟩
    · refine⟨_,h,λK' h'=>?_,λw T β ρ o ho he=>?_⟩
      · simp only[vcV,Fd8,cond_false]
        grind[za]
      · have hb:=Pm (P:=P) he hl hh' len cap p q hp hq hpq hqc
        have hm:¬cap=p:=θ;refine⟨_,?_,VRel.s _⟩;simp[execOp,ho,he.s hx,Instr.sliceAt,Instr.slice,yv (jv (hI _ _ hi') hty),hb,vg (hI _ _ hie),hm,vw]
    · refine⟨_,h,λK' h'=>?_,λw T β ρ o ho he=>?_⟩
      · simp only[vcV,Fd8,cond_false]
        grind[za]
      · have hb:=Pm (P:=P) he hl hh' len cap p q hp hq hpq hqc
        have hq2:q=cap:=θ;subst hq2 hpc;refine⟨_,?_,VRel.s _⟩;simp[execOp,ho,he.s hx,Instr.sliceAt,Instr.slice,yv (jv (hI _ _ hi') hty),hb,vg (hI _ _ hie)]
  · rename_i e l hh hty hx hl hh'
    replace h:=zy h;obtain⟨ie,hie,hp,hq,h⟩:=h;refine⟨_,h,λK' h'=>?_,λw T β ρ o ho he=>?_⟩
    · simp_all[vcV,za]
    · have hb:=Pm (P:=P) he hl hh' 0 0 0 0 hp hq (Fal _) (Fal _)
      refine⟨_,?_,VRel.s _⟩;simp[execOp,ho,he.s hx,Instr.sliceAt,Instr.slice,yv (jv (hI _ _ hi') hty),hb,vg (hI _ _ hie)]
  · rename_i n e b o hty hx hl hl'
    replace h:=zy h;obtain⟨ie,hie,h⟩:=h;refine⟨_,h,λK' h'=>?_,λw T β ρ o' ho he=>?_⟩
    · simp_all[vcV,za]
    · have e1:lo.map ρ=none:=by grind[Sd]
      have e2:hi.map ρ=none:=by grind[Sd]
      refine⟨_,?_,VRel.s _⟩;simp[execOp,ho,he.s hx,Instr.sliceAt,Instr.sureAddr,yv (No (hI _ _ hi') hty),e1,e2,Instr.sliceBounds,vg (hI _ _ hie),vw]
  grind
def i7{w:World}{T:BB}{x:AV}{v:Value}(h:VRel w T x v){l:List AV}(hl:cellsOf x=some l):Reads w T l v.cells.toList/\((∃c,v=.agg c)\/xp v=true/\v.cells.toList=[v]):=by
  cases h with
  |any v=>cases hl
  | agg cs c hl' h=>
    simp only[cellsOf,Faj]at hl;subst hl;exact⟨⟨by trivial,λi x y hx hy=>h i x y hx (by simpa [Value.cells]using hy)⟩,.inl ⟨c,rfl⟩⟩
  |s v=>cases v<;>simp only[cellsOf]at hl<;>cases hl<;>exact⟨Reads.cons (VRel.s _) Reads.nil,.inr ⟨rfl,rfl⟩⟩
  |tup cs c hl' h=>cases hl
  |emp a h=>cases hl;exact⟨Reads.cons (VRel.emp a h) Reads.nil,.inr ⟨rfl,rfl⟩⟩
  |nil k a=>cases hl;exact⟨Reads.cons (VRel.nil k a) Reads.nil,.inr ⟨rfl,rfl⟩⟩
  |lst rows tok b off cap k c hcap hk htok hc h1 hx=>cases hl;exact⟨Reads.cons (.lst rows tok b off cap k c hcap hk htok hc h1 hx) Reads.nil,.inr ⟨rfl,rfl⟩⟩
  |cp cells b off c hc hx=>cases hl;exact⟨Reads.cons (.cp cells b off c hc hx) Reads.nil,.inr ⟨rfl,rfl⟩⟩
  |clos f cs c hl' h=>cases hl;exact⟨Reads.cons (.clos f cs c hl' h) Reads.nil,.inr ⟨rfl,rfl⟩⟩
theorem zum(vs:List Value)(cells:Array Value)(off:Nat)(h:off+vs.length<=cells.size):
    ((vs.zipIdx.foldl (λcs (x:Value×Nat)=>cs.setIfInBounds (off+x.2) x.1) cells)).toList=cells.toList.take off++vs++cells.toList.drop (off+vs.length):=by
  suffices H:∀(vs:List Value) (n:Nat) (cells:Array Value),off+n+vs.length<=cells.size->
      ((vs.zipIdx n).foldl (λcs (x:Value×Nat)=>cs.setIfInBounds (off+x.2) x.1) cells).toList=cells.toList.take (off+n)++vs++cells.toList.drop (off+n+vs.length) by grind
  intro vs;induction vs with
  |nil=>simp
  | cons v vs ih=>
    intro n cells h;simp only[Fbz]at h;simp only[List.zipIdx_cons,Fc7];rw[ih (n+1) _ δ];have hlt:off+n<cells.toList.length:=δ;simp only[Fd7];apply Fcd;intro i;simp only[List.getElem?_append,Fea,Fcq,Fef,Fae,Fam,Faf,Fbz,Fcg,Fci];grind
def gr{w:World}{T:BB}{β:Nat->Nat}{place:Nat->Option (Nat×Nat)}:∀(parts:List (Nat×LV)) (vals:List (Nat×Value)) (cells:List AV) (cs:Array Value) (l:List AV),
    parts.length=vals.length->(∀(i:Nat) (p:Nat×LV) (v:Nat×Value),parts[i]?=some p->vals[i]?=some v->p.1=v.1/\LRel w T β p.2 v.2)->Reads w T cells cs.toList->Iz place cells parts=some l->
    ∃ds,Instr.fill place cs vals=some ds/\Reads w T l ds.toList:=by
  intro parts;induction parts with
  | nil=>
    intro vals cells cs l hlen _ hr h;cases vals with
    |nil=>simp_all[Iz,Instr.fill]
    |cons v vs=>grind
  | cons p parts ih=>
    intro vals cells cs l hlen hp hr h;cases vals with
    |nil=>grind
    | cons v vals=>
      obtain⟨i,x⟩:=p;obtain⟨i',u⟩:=v;obtain⟨rfl,hx⟩:=hp 0 _ _ rfl rfl;simp only[Iz]at h;cases hpl:place i with
      |none=>grind
      | some os=>
        obtain⟨off,size⟩:=os;rw[hpl]at h;cases x with
        | av x=>
          simp only at h;cases hc:cellsOf x with
          |none=>grind
          | some xs=>
            rw[hc]at h;simp only at h;cases hb:(Nat.beq xs.length size&&Nat.ble (off+size) cells.length)with
            |false=>grind
            | true=>
              rw[hb]at h;simp only[cond_true]at h;simp only[Fay]at hb;have h1:xs.length=size:=(wj _ _).1 hb.1;have h2:off+size<=cells.length:=Fbj hb.2;have hrx:=(i7 hx hc).1;have h3:u.cells.size=size:=by rw[<-h1,hrx.1];simp
              have h4:off+size<=cs.size:=by have:=hr.1;grind
              have hsp:Reads w T (zv cells off xs) (u.cells.zipIdx.foldl (λcs (x:Value×Nat)=>cs.setIfInBounds (off+x.2) x.1) cs).toList:=by
                have e:(u.cells.zipIdx.foldl (λcs (x:Value×Nat)=>cs.setIfInBounds (off+x.2) x.1) cs)=(u.cells.toList.zipIdx.foldl (λcs (x:Value×Nat)=>cs.setIfInBounds (off+x.2) x.1) cs):=by grind[Array.toList_zipIdx]
                rw[e,zum _ _ _ δ];unfold zv;refine((hr.take off).append hrx).append ?_;rw[hrx.1];exact hr.drop _
              obtain⟨ds,hd1,hd2⟩:=ih vals _ _ l δ (λj p v h1 h2=>hp (j+1) p v δ δ) hsp h;simp_all[Instr.fill]
        |_=>simp at h
def yak{α β:Type}{P:Program}{w:World}{f:α->Sem β}{g:α->Option β}(hf:∀a b,g a=some b->(f a).run P w=.ok b w):∀{l:List α} {m:List β},l.mapM g=some m->(l.mapM f).run P w=.ok m w:=by
  intro l;induction l with
  |nil=>simp
  | cons a l ih=>
    intro m h;rw[List.mapM_cons]at h;cases hg:g a with
    |none=>grind
    | some b=>
      cases hl:l.mapM g with
      |none=>grind
      | some m'=>
        simp_all
def yil(hI:qe P c.I)(t:TypeId)(parts:Array (Nat×Operand))(h:vcV c ev bx st d (.build t parts) K):Bb P c ev bx st d (.build t parts) K:=by
  simp only[vcV]at h;obtain⟨i,hi,h⟩:=zy h
  have hparts:∀(w:World) (T:BB) (β:Nat->Nat) (ρ:Operand->Value),Env w T β ev bx st ρ->
      (parts.toList.map λp=>(p.1,ev p.2)).length=(parts.map λ(p:Nat×Operand)=>(p.1,ρ p.2)).toList.length∧
      ∀(i:Nat) (p:Nat×LV) (v:Nat×Value),(parts.toList.map λp=>(p.1,ev p.2))[i]?=some p->(parts.map λ(p:Nat×Operand)=>(p.1,ρ p.2)).toList[i]?=some v->p.1=v.1/\LRel w T β p.2 v.2:=by
    intro w T β ρ he;refine⟨φ,λi p v hp hv=>?_⟩;rw[Fcv,Far]at hv;rw[Far]at hp;cases hq:parts.toList[i]? with
    |none=>grind
    | some q=>
      rw[hq]at hp hv;simp at hp hv;subst hp hv;exact⟨rfl,he.ev _⟩
  split at h
  · rename_i fs hty
    obtain⟨pl,hpl,h⟩:=zy h;obtain⟨l,hl,h⟩:=zy h;rw[Gm]at h;refine⟨_,h,λK' h'=>?_,λw T β ρ o ho he=>?_⟩
    · simp only[vcV]
      grind[za,Lb]
    · obtain⟨a,ha1,ha2⟩:=Nn (hI _ _ hi) hty
      obtain⟨z,hz1,hz2⟩:=Me (hI _ _ hi) w;obtain⟨h1,h2⟩:=hparts w T β ρ he;have hpl':(a.mapM (m:=Sem) λf=>do pure (f.offset,<-sizeOf f.type)).run P w=.ok pl.toArray w:=by
        rw[Fee];have:(a.toList.mapM (m:=Sem) λf=>do pure (f.offset,<-sizeOf f.type)).run P w=.ok pl w:=by
          refine yak (g:=λf=>(c.I f.type).map λj=>(f.offset,j.size)) ?_ ?_
          · intro f b hb
            cases hj:c.I f.type with
            |none=>grind
            | some j=>
              rw[hj]at hb;simp at hb;subst hb;simp[vg (hI _ _ hj)]
          · subst ha2
            rw[<-hpl];unfold zcc;rw[List.mapM_map];rfl
        simp_all
      have hr0:Reads w T (i.zero.map AV.s) z.cells.toList:=by rw[hz2];exact Reads.map_s _
      obtain⟨ds,hd1,hd2⟩:=gr (w:=w) (T:=T) (β:=β) _ _ _ z.cells l h1 h2 hr0 hl;have hd1':Instr.fill (λx=>pl.toArray[x]?) z.cells ((parts.map λ(p:Nat×Operand)=>(p.1,ρ p.2)).toList)=some ds:=by simp_all
      refine⟨.agg ds,?_,Ls hd2⟩;simp_all[execOp,Instr.build,yv]
  · rename_i n e hty
    obtain⟨ie,hie,h⟩:=zy h;obtain⟨l,hl,h⟩:=zy h;rw[Gm]at h;refine⟨_,h,λK' h'=>?_,λw T β ρ o ho he=>?_⟩
    · simp only[vcV]
      grind[za,Lb]
    · obtain⟨z,hz1,hz2⟩:=Me (hI _ _ hi) w
      obtain⟨h1,h2⟩:=hparts w T β ρ he;have hr0:Reads w T (i.zero.map AV.s) z.cells.toList:=by rw[hz2];exact Reads.map_s _
      obtain⟨ds,hd1,hd2⟩:=gr (w:=w) (T:=T) (β:=β) _ _ _ z.cells l h1 h2 hr0 hl;refine⟨.agg ds,?_,Ls hd2⟩;simp only[execOp,ho,Instr.build,Sem.run_bind,Result.andThen_ok,Sem.run_pure,hz1,yv (No (hI _ _ hi) hty),vg (hI _ _ hie),hd1]
  grind
end
end Go.V
