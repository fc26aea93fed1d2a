/- Ground of laws of thronglaw25: contracts and plain lemmas; no condition beyond the row's own. -/
import Derived.Orders
import Derived.Deep.LoopGhost
import Derived.Below
import Derived.Scope
import Derived.Sort.LoopGhostIn
import Derived.OrdersIn
import Derived.TacticsIn
import Derived.Laws.StructEq
import Derived.Laws.Wrap64
import Derived.IntWalk
set_option linter.unusedSimpArgs false
set_option linter.unusedVariables false
namespace Go.V
set_option linter.defProp false
def Faa:=@List.getElem_mem
def Fab:=@List.getElem?_eq_getElem
def Fac:=@List.mem_map
def Fad:=@Bool.false_eq_true
def Fae:=@List.take_succ_eq_append_getElem
def Faf:=@List.getElem?_eq_some_iff
def Fag:=@List.length_append
def Fah:=@Option.some.injEq
def Fai:=@List.getElem_of_mem
def Faj:=@Nat.zero_le
def Fak:=@Nat.le_refl
def Fal:=@List.mem_append
def Fam:=@List.getElem?_append_left
def Fan:=@List.getElem?_cons_zero
def Fao:=@List.length_take
def Fap:=@List.getElem?_map
def Faq:=@List.length_map
def Far:=@List.getElem?_cons_succ
def Fas:=@List.append_assoc
def Fat:=@List.mem_cons
def Fau:=@List.mem_of_getElem?
def Fav:=@Array.getD_eq_getD_getElem?
def Faw:=@List.getElem?_append_right
def Fax:=@Bool.and_eq_true
def Fay:=@Int.mul_nonneg
def Faz:=@List.take_length
def Fa0:=@List.eq_nil_of_length_eq_zero
def Fa1:=@List.length_singleton
def Fa2:=@List.mem_iff_getElem?
def Fa3:=@List.mem_cons_of_mem
def Fa4:=@List.mem_range
def Fa5:=@Array.getElem?_eq_getElem
def Fa6:=@List.getD_eq_getElem?_getD
def Fa7:=@Nat.mul_le_mul_right
def Fa8:=@List.length_set
def Fa9:=@Int.toNat_natCast
def Fba:=@Int.tdiv_eq_ediv_of_nonneg
def Fbb:=@Array.toList_append
def Fbc:=@Bool.and_eq_true_iff
def Fbd:=@Nat.zero_add
def Fbe:=@List.map_append
def Fbf:=@Nat.not_lt_zero
def Fbg:=@Nat.le_of_ble_eq_true
def Fbh:=@List.findIdx?_eq_some_iff_getElem
def Fbi:=@List.length_cons
def Fbj:=@List.mem_cons_self
def Fbk:=@Int.mul_le_mul
def Fbl:=@Array.getElem?_eq_some_iff
def Fbm:=@List.length_replicate
def Fbn:=@List.getElem?_eq_none
def Fbo:=@List.mem_filter
def Fbp:=@List.append_nil
def Fbq:=@List.findIdx?_eq_none_iff
def Fbr:=@Bool.eq_iff_iff
def Fbs:=@Nat.beq_refl
def Fbt:=@List.getElem_append_left
def Fbu:=@List.Nodup.length_le_of_subset
def Fbv:=@List.take_append_of_le_length
def Fbw:=@List.not_mem_nil
def Fbx:=@List.getElem_map
def Fby:=@Bool.not_eq_true'
def Fbz:=@List.length_filter_le
def Fb0:=@List.map_congr_left
def Fb1:=@Array.getElem?_toList
def Fb2:=@Nat.add_mul
def Fb3:=@List.getElem?_replicate
def Fb4:=@Array.length_toList
def Fb5:=@List.all_eq_true
def Fb6:=@List.map_cons
def Fb7:=@List.getElem?_take_of_lt
def Fb8:=@List.take_append_drop
def Fb9:=@List.ext_getElem?
def Fca:=@Int.eq_ofNat_of_zero_le
def Fcb:=@List.mem_singleton
def Fcc:=@Int.add_zero
def Fcd:=@List.take_of_length_le
def Fce:=@List.drop_zero
def Fcf:=@List.getElem_set
def Fcg:=@Nat.ble_eq_true_of_le
def Fch:=@List.take_zero
def Fci:=@List.head?_drop
def Fcj:=@List.getElem?_drop
def Fck:=@List.length_drop
def Fcl:=@List.any_eq_true
def Fcm:=@Int.mul_comm
def Fcn:=@List.getElem_cons_zero
def Fco:=@Array.getElem?_setIfInBounds_ne
def Fcp:=@List.pairwise_iff_getElem
def Fcq:=@List.foldl_cons
def Fcr:=@List.cons.injEq
def Fcs:=@Int.ediv_nonneg
def Fct:=@Array.getElem?_modify
def Fcu:=@List.find?_eq_none
def Fcv:=@Array.getElem?_map
def Fcw:=@List.filter_cons
def Fcx:=@Int.le_refl
def Fcy:=@Array.toList_map
def Fcz:=@List.flatten_cons
def Fc0:=@List.nil_append
def Fc1:=@List.drop_of_length_le
def Fc2:=@Array.getElem?_append_left
def Fc3:=@Option.isSome_none
def Fc4:=@List.pairwise_cons
def Fc5:=@List.filter_append
def Fc6:=@List.mem_of_find?_eq_some
def Fc7:=@List.mapM_cons
def Fc8:=@List.nodup_append
def Fc9:=@Int.emod_nonneg
def Fda:=@Nat.le_trans
def Fdb:=@Array.eq_empty_of_size_eq_zero
def Fdc:=@List.filter_cons_of_neg
def Fdd:=@Int.mul_le_mul_of_nonneg_left
def Fde:=@List.getElem?_take
def Fdf:=@List.find?_cons
def Fdg:=@Int.neg_mul_neg
def Fdh:=@Int.emod_add_mul_ediv
def Fdi:=@Array.getElem?_setIfInBounds_self_of_lt
def Fdj:=@List.length_range
def Fdk:=@List.getElem_take
def Fdl:=@List.getElem?_set
def Fdm:=@List.any_eq_false
def Fdn:=@Int.mul_assoc
def Fdo:=@Int.fdiv_eq_ediv_of_nonneg
def Fdp:=@List.getElem?_set_ne
def Fdq:=@List.getElem_append_right
def Fdr:=@List.ext_getElem
def Fds:=@Bool.cond_decide
def Fdt:=@Int.mul_add
def Fdu:=@Nat.min_eq_left
def Fdv:=@Nat.add_sub_cancel
def Fdw:=@List.nodup_cons
def Fdx:=@List.findIdx?_cons
def Fdy:=@Int.sub_eq_add_neg
def Fdz:=@Int.emod_lt_of_pos
def Fd0:=@List.getElem?_set_self
def Fd1:=@List.getElem?_eraseIdx
def Fd2:=@List.filter_eq_nil_iff
def Fd3:=@Int.ediv_eq_zero_of_lt
def Fd4:=@Nat.le_succ
def Fd5:=@Int.add_mul
def Fd6:=@Nat.mul_le_mul
def Fd7:=@List.nodup_nil
def Fd8:=@List.drop_left
def Fd9:=@Nat.succ_mul
def Fea:=@Int.ediv_lt_of_lt_mul
def Feb:=@Array.mem_of_getElem?
def Fec:=@List.map_eq_cons_iff
def Fed:=@List.dropLast_concat_getLast
def Fee:=@Option.map_some
def Fef:=@List.flatten_append
def Feg:=@List.find?_some
def Feh:=@Bool.or_eq_true
def Fei:=@Array.getElem?_append_right
def Fej:=@Int.tmod_eq_emod_of_nonneg
def Fek:=@Array.toList_setIfInBounds
def Fel:=@Nat.add_zero
def Fem:=@List.getLastD_eq_getLast?
def Fen:=@List.drop_eq_getElem_cons
def Feo:=@Array.mapM_eq_mapM_toList
def Fep:=@Nat.lt_trichotomy
def Feq:=@Int.emod_eq_of_lt
def Fer:=@Array.getElem?_replicate
def Fes:=@Nat.mul_one
def Fet:=@Nat.lt_irrefl
def Feu:=@List.filter_cons_of_pos
def Fev:=@Bool.or_false
def Few:=@Option.getD_some
def Fex:=@List.drop_append
def qlt(a b:Int×Int):Prop:=a.1<b.1\/a.1=b.1/\a.2<b.2
instance(a b:Int×Int):Decidable (qlt a b):=by unfold qlt;exact inferInstance
theorem Sx(a:Int×Int):¬qlt a a:=by unfold qlt;omega
theorem Nz{a b c:Int×Int}(h:¬qlt b a)(k:¬qlt c b):¬qlt c a:=by unfold qlt at*;omega
theorem N6{a b:Int×Int}(h:qlt a b):¬qlt b a:=by unfold qlt at*;omega
theorem i7{a b:Int×Int}(h:¬qlt b a):a.1<=b.1:=by unfold qlt at*;omega
def par(j:Nat):Nat:=(j-1)/2
def F4(f:Nat->Int×Int)(i k:Nat):Nat->Int×Int:=λj=>if j=k then f i else if j=i then f k else f j
def H5(f:Nat->Int×Int)(n:Nat):Prop:=∀j,0<j->j<n->¬qlt (f j) (f (par j))
def UpF(f:Nat->Int×Int)(n i:Nat):Prop:=(∀j,0<j->j<n->j≠i->¬qlt (f j) (f (par j)))/\∀j,0<j->j<n->par j=i->0<i->¬qlt (f j) (f (par i))
def Ft(f:Nat->Int×Int)(n i:Nat):Prop:=(∀j,0<j->j<n->par j≠i->¬qlt (f j) (f (par j)))/\∀j,0<j->j<n->par j=i->0<i->¬qlt (f j) (f (par i))
theorem Ar{j:Nat}(h:0<j):par j<j:=by unfold par;omega
theorem zb1{f:Nat->Int×Int}{n i:Nat}(h:UpF f n i)(hi:i=0\/¬qlt (f i) (f (par i))):H5 f n:=by
 intro j h0 hj
 by_cases e:j=i
 ·subst e
  rcases hi with hi|hi
  ·omega
  ·exact hi
 ·exact h.1 j h0 hj e
theorem zb0{f:Nat->Int×Int}{n:Nat}(h:H5 f n):UpF f (n+1) n:=
 ⟨λj h0 hj hn=>h j h0 (by omega),λj h0 hj hp h1=>by have:=Ar h0;omega⟩
theorem zbz{f:Nat->Int×Int}{n i:Nat}(h:UpF f n i)(h0:0<i)(hi:i<n)(hl:qlt (f i) (f (par i))):UpF (F4 f i (par i)) n (par i):=by
 have hp:=Ar h0
 refine⟨λj j0 jn jp=>?_,λj j0 jn jp p0=>?_⟩
 ·unfold F4
  rw[if_neg jp]
  by_cases e:j=i
  ·subst e
   rw[if_pos rfl,if_pos rfl]
   exact N6 hl
  ·rw[if_neg e]
   by_cases e2:par j=par i
   ·rw[if_pos e2]
    have h1:=h.1 j j0 jn e
    rw[e2]at h1
    exact Nz (N6 hl) h1
   ·rw[if_neg e2]
    by_cases e3:par j=i
    ·rw[if_pos e3]
     exact h.2 j j0 jn e3 h0
    ·rw[if_neg e3]
     exact h.1 j j0 jn e
 ·have hpp:=Ar p0
  unfold F4
  rw[if_neg (show¬par (par i)=par i by omega),if_neg (show¬par (par i)=i by omega)]
  have h1:=h.1 (par i) p0 (by omega) (by omega)
  by_cases e:j=i
  ·subst e
   rw[if_neg (show¬j=par j by omega),if_pos rfl]
   exact h1
  ·have hjp:j≠par i:=by have:=Ar j0;omega
   rw[if_neg hjp,if_neg e]
   have h2:=h.1 j j0 jn e
   rw[jp]at h2
   exact Nz h1 h2
theorem rq{f:Nat->Int×Int}{n i:Nat}(h:Ft f n i)(hc:∀j,0<j->j<n->par j=i->¬qlt (f j) (f i)):H5 f n:=by
 intro j h0 hj
 by_cases e:par j=i
 ·rw[e];exact hc j h0 hj e
 ·exact h.1 j h0 hj e
theorem ydx{f:Nat->Int×Int}{n i k:Nat}(h:Ft f n i)(hk0:0<k)(hk:k<n)(hki:par k=i)(hmin:∀j,0<j->j<n->par j=i->¬qlt (f j) (f k))(hl:qlt (f k) (f i)):Ft (F4 f i k) n k:=by
 have hik:i<k:=hki▸Ar hk0
 refine⟨λj j0 jn jp=>?_,λj j0 jn jp _=>?_⟩
 ·unfold F4
  rw[if_neg jp]
  by_cases e:j=k
  ·subst e
   rw[if_pos rfl,if_pos hki]
   exact N6 hl
  ·rw[if_neg e]
   by_cases e2:j=i
   ·subst e2
    have hpj:par j≠j:=by have:=Ar j0;omega
    rw[if_pos rfl,if_neg hpj]
    exact h.2 k hk0 hk hki j0
   ·rw[if_neg e2]
    by_cases e3:par j=i
    ·rw[if_pos e3]
     exact hmin j j0 jn e3
    ·rw[if_neg e3]
     exact h.1 j j0 jn e3
 ·have hjk:k<j:=jp▸Ar j0
  unfold F4
  rw[if_neg (show¬j=k by omega),if_neg (show¬j=i by omega),hki,if_neg (show¬i=k by omega),if_pos rfl]
  have h1:=h.1 j j0 jn (by omega)
  rw[jp]at h1
  exact h1
theorem ybb{f:Nat->Int×Int}{n:Nat}(h:H5 f n):∀j,j<n->¬qlt (f j) (f 0):=by
 intro j
 induction j using Nat.strongRecOn with
 |_ j ih=>
  intro hj
  by_cases e:j=0
  ·subst e;exact Sx _
  ·have hp:=Ar (Nat.pos_of_ne_zero e)
   exact Nz (ih _ hp (by omega)) (h j (by omega) hj)
theorem Lm{i j:Nat}(h:0<j):par j=i↔j=2*i+1\/j=2*i+2:=by unfold par;omega
def qat(l:List (Int×Int))(j:Nat):Int×Int:=l.getD j (0,0)
def vf(l:List (Int×Int)):Prop:=H5 (qat l) l.length
def kl(l:List (Int×Int))(i k:Nat):List (Int×Int):=(l.set i (qat l k)).set k (qat l i)
theorem Ii(l:List (Int×Int))(i k:Nat):(kl l i k).length=l.length:=by simp[kl]
theorem Lj{l:List (Int×Int)}{j:Nat}(h:j<l.length):qat l j=l[j]:=by simp[qat,List.getD,Fab h]
theorem i9{l:List (Int×Int)}{i:Nat}(h:i<l.length)(x:Int×Int)(j:Nat):qat (l.set i x) j=if j=i then x else qat l j:=by
 unfold qat
 simp only[List.getD,Fdl]
 by_cases e:i=j
 ·subst e;simp[h]
 ·simp[e,Ne.symm e]
theorem i8{l:List (Int×Int)}{i k:Nat}(hi:i<l.length)(hk:k<l.length):qat (kl l i k)=F4 (qat l) i k:=by
 funext j
 unfold kl F4
 rw[i9 (by simpa using hk),i9 hi]
theorem fh{l:List (Int×Int)}{i k:Nat}(hi:i<l.length)(hk:k<l.length):(kl l i k).Perm l:=by
 unfold kl
 rw[Lj hi,Lj hk]
 exact List.set_set_perm hi hk
theorem la(l:List (Int×Int))(x:Int×Int)(j:Nat)(h:j<l.length):qat (l++[x]) j=qat l j:=by
 unfold qat
 simp only[List.getD]
 rw[Fam h]
end Go.V
namespace Go.V
structure FarOK(E:Nat->Nat->Int->Prop)(goal:Nat)(d:Nat->Int):Prop where
 lab:∀u,d u=-1\/0<=d u
 gl:d goal=0
 pre:∀u,u≠goal->0<=d u->∃t c,0<=d t/\E t u c/\d t+c<=d u
 rel:∀t u c,0<=d t->E t u c->0<=d u/\d u<=d t+c
section
variable {goal u n t:Nat} {cur:Int}
theorem Pp{E:Nat->Nat->Int->Prop}(hE:∀t u c,E t u c->0<c){d e:Nat->Int}(h:FarOK E goal d)(k:FarOK E goal e):∀(n:Nat) (u:Nat),0<=e u->(e u).toNat=n->0<=d u/\d u<=e u:=by
 intro n
 induction n using Nat.strongRecOn with
 |_ n ih=>
  intro u hu hn
  by_cases hg:u=goal
  ·subst hg
   have h1:=h.gl
   have h2:=k.gl
   omega
  ·obtain⟨t,c,ht,hE1,hc⟩:=k.pre u hg hu
   have hp:=hE _ _ _ hE1
   obtain⟨h1,h2⟩:=ih (e t).toNat (by omega) t ht rfl
   obtain⟨h3,h4⟩:=h.rel t u c h1 hE1
   exact⟨h3,by omega⟩
theorem ydb{E:Nat->Nat->Int->Prop}(hE:∀t u c,E t u c->0<c){d e:Nat->Int}(h:FarOK E goal d)(k:FarOK E goal e):d=e:=by
 funext u
 rcases h.lab u with h1|h1
 ·rcases k.lab u with h2|h2
  ·omega
  ·have:=Pp hE h k _ u h2 rfl
   omega
 ·rcases k.lab u with h2|h2
  ·have:=Pp hE k h _ u h1 rfl
   omega
  ·have h3:=Pp hE h k _ u h2 rfl
   have h4:=Pp hE k h _ u h1 rfl
   omega
def yr{α:Type}(d:Nat->α)(u:Nat)(x:α):Nat->α:=λj=>if j=u then x else d j
theorem wz{α:Type}(d:Nat->α)(u:Nat)(x:α):yr d u x u=x:=by simp[yr]
theorem jq{α:Type}{d:Nat->α}{j:Nat}{x:α}(h:j≠u):yr d u x j=d j:=by simp[yr,h]
structure DJ(E:Nat->Nat->Int->Prop)(n goal:Nat)(d:Nat->Int)(dn:Nat->Bool)(q:List (Int×Int))(cur:Int)(O:Nat->Nat->Int->Prop):Prop where
 lab:∀u,d u=-1\/0<=d u
 gl:d goal=0
 pre:∀u,u≠goal->0<=d u->∃t c,dn t=true/\0<=d t/\E t u c/\d t+c<=d u
 rel:∀t u c,dn t=true->E t u c->¬O t u c->0<=d u/\d u<=d t+c
 mono:∀t,dn t=true->0<=d t/\d t<=cur
 ent:∀e∈q,∃u:Nat,e.2=(u:Int)/\u<n/\0<=d u/\d u<=e.1/\cur<=e.1
 wait:∀u,0<=d u->dn u=false->(d u,(u:Int))∈q
def Hj:Nat->Nat->Int->Prop:=λ_ _ _=>False
theorem yd8(E:Nat->Nat->Int->Prop)(hg:goal<n){d:Nat->Int}(hd:∀u,d u=if u=goal then 0 else -1):DJ E n goal d (λ_=>false) [(0,(goal:Int))] 0 Hj:=by
 refine⟨λu=>?_,by simp[hd],λu hu h=>?_,λt u c h=>?_,λt h=>?_,λe he=>?_,λu h _=>?_⟩
 ·rw[hd];split<;>simp
 ·rw[hd,if_neg hu]at h;omega
 ·cases h
 ·cases h
 ·simp only[Fcb]at he
  subst he
  exact⟨goal,rfl,hg,by simp[hd],by simp[hd],by simp⟩
 ·rw[hd]at h
  split at h
  ·rename_i e;subst e;simp[hd]
  ·omega
theorem yd6{E:Nat->Nat->Int->Prop}{d:Nat->Int}{dn:Nat->Bool}{q q':List (Int×Int)}(h:DJ E n goal d dn q cur Hj){x:Int×Int}{t:Nat}(ht:x.2=(t:Int))(hp:q.Perm (x::q'))(hd:dn t=true):DJ E n goal d dn q' cur Hj:=by
 refine⟨h.lab,h.gl,h.pre,h.rel,h.mono,λe he=>h.ent e (hp.mem_iff.2 (Fa3 _ he)),λu hu hn=>?_⟩
 rcases Fat.1 (hp.mem_iff.1 (h.wait u hu hn))with he|he
 ·have:(u:Int)=t:=by rw[<-ht,<-he]
  have:u=t:=by omega
  subst this
  rw[hd]at hn;cases hn
 ·exact he
theorem yd5{E:Nat->Nat->Int->Prop}{d:Nat->Int}{dn:Nat->Bool}{q q':List (Int×Int)}(h:DJ E n goal d dn q cur Hj){x:Int×Int}{t:Nat}(ht:x.2=(t:Int))(hp:q.Perm (x::q'))(hm:∀e∈q,¬qlt e x)(hd:dn t=false):
  x.1=d t/\DJ E n goal d (yr dn t true) q' x.1 (λa _ _=>a=t):=by
 have hx:x∈q:=hp.mem_iff.2 Fbj
 obtain⟨u,hu,hun,hu0,hux,huc⟩:=h.ent x hx
 have:u=t:=by omega
 subst this
 have hk:x.1=d u:=by
  have:=i7 (hm _ (h.wait u hu0 hd))
  simp only at this
  omega
 refine⟨hk,h.lab,h.gl,λv hv hl=>?_,λa b c ha hE hO=>?_,λa ha=>?_,λe he=>?_,λv hv hn=>?_⟩
 ·obtain⟨a,c,h1,h2,h3,h4⟩:=h.pre v hv hl
  exact⟨a,c,by unfold yr;split<;>simp_all,h2,h3,h4⟩
 ·rw[jq hO]at ha
  exact h.rel a b c ha hE (λh=>h)
 ·unfold yr at ha
  split at ha
  ·rename_i e;subst e;omega
  ·have:=h.mono a ha
   omega
 ·have he2:=hp.mem_iff.2 (Fa3 x he)
  obtain⟨v,h1,h2,h3,h4,h5⟩:=h.ent e he2
  exact⟨v,h1,h2,h3,h4,i7 (hm e he2)⟩
 ·unfold yr at hn
  split at hn
  ·cases hn
  ·rename_i hne
   rcases Fat.1 (hp.mem_iff.1 (h.wait v hv hn))with he|he
   ·have:(v:Int)=u:=by rw[<-ht,<-he]
    omega
   ·exact he
theorem Wx{E:Nat->Nat->Int->Prop}{d:Nat->Int}{dn:Nat->Bool}{q:List (Int×Int)}{O O':Nat->Nat->Int->Prop}(h:DJ E n goal d dn q cur O)
  (ho:∀t u c,O t u c->¬O' t u c->E t u c->0<=d u/\d u<=d t+c):DJ E n goal d dn q cur O':=
 ⟨h.lab,h.gl,h.pre,λt u c ht hE hO=>by
  by_cases e:O t u c
  ·exact ho t u c e hO hE
  ·exact h.rel t u c ht hE e,h.mono,h.ent,h.wait⟩
theorem ry{E:Nat->Nat->Int->Prop}(hE:∀t u c,E t u c->0<c){d:Nat->Int}{dn:Nat->Bool}{q q':List (Int×Int)}{O:Nat->Nat->Int->Prop}(h:DJ E n goal d dn q cur O){u:Nat}{c:Int}(ht:dn t=true)(htc:d t=cur)(hu:u<n)(hEu:E t u c)(hd:dn u=false)(hl:d u<0\/cur+c<d u)
  (hq:q'.Perm ((cur+c,(u:Int))::q)):DJ E n goal (yr d u (cur+c)) dn q' cur O:=by
 have hc:=hE _ _ _ hEu
 have hcur:0<=cur:=by have:=h.mono t ht;omega
 have htu:t≠u:=λe=>by subst e;rw[ht]at hd;cases hd
 have hdn:∀a,dn a=true->a≠u:=λa ha e=>by subst e;rw[ha]at hd;cases hd
 have hgu:goal≠u:=λe=>by subst e;have:=h.gl;omega
 refine⟨λv=>?_,by rw[jq hgu];exact h.gl,λv hv hl2=>?_,λa b k ha hE2 hO=>?_,λa ha=>?_,λe he=>?_,λv hv hn=>?_⟩
 ·unfold yr;split
  ·right;omega
  ·exact h.lab v
 ·by_cases e:v=u
  ·subst e
   exact⟨t,c,ht,by rw[jq htu];omega,hEu,by rw[jq htu,wz];omega⟩
  ·rw[jq e]at hl2⊢
   obtain⟨a,k,h1,h2,h3,h4⟩:=h.pre v hv hl2
   exact⟨a,k,h1,by rw[jq (hdn a h1)];exact h2,h3,by rw[jq (hdn a h1)];exact h4⟩
 ·rw[jq (hdn a ha)]
  obtain⟨h1,h2⟩:=h.rel a b k ha hE2 hO
  by_cases e:b=u
  ·subst e;rw[wz];omega
  ·rw[jq e];exact⟨h1,h2⟩
 ·rw[jq (hdn a ha)];exact h.mono a ha
 ·rcases Fat.1 (hq.mem_iff.1 he)with e1|e1
  ·subst e1
   exact⟨u,rfl,hu,by rw[wz];omega,by rw[wz];exact Fcx _,by omega⟩
  ·obtain⟨v,h1,h2,h3,h4,h5⟩:=h.ent e e1
   refine⟨v,h1,h2,?_⟩
   by_cases ev:v=u
   ·subst ev;rw[wz];omega
   ·rw[jq ev];exact⟨h3,h4,h5⟩
 ·by_cases e:v=u
  ·subst e;rw[wz];exact hq.mem_iff.2 Fbj
  ·rw[jq e]at hv⊢
   exact hq.mem_iff.2 (Fa3 _ (h.wait v hv hn))
theorem yd9{E:Nat->Nat->Int->Prop}{d:Nat->Int}{dn:Nat->Bool}(h:DJ E n goal d dn [] cur Hj):FarOK E goal d:=by
 have hdn:∀u,0<=d u->dn u=true:=λu hu=>by
  cases hb:dn u with
  |true=>rfl
  |false=>exact absurd (h.wait u hu hb) (by simp)
 exact⟨h.lab,h.gl,λu hu hl=>by obtain⟨t,c,_,h2,h3,h4⟩:=h.pre u hu hl;exact⟨t,c,h2,h3,h4⟩,λt u c ht hE=>h.rel t u c (hdn t ht) hE (λh=>h)⟩
end
section
variable {w w':World} {v:Value}
theorem Tv:True:=trivial
inductive AV where
  |any
  |s (v:Value)
  |agg (cs:List AV)
  |tup (vs:List AV)
  |lst (k:Nat) (rows:List (List AV)) (tok:Option Nat)
  |cp (cells:List AV)
  |emp
  |clos (f:FuncId) (cap:List AV)
  deriving Inhabited
def qo:Value->Bool
  |.agg _=>false
  |.tuple _=>false
  |_=>true
inductive VRel(w:World)(T:Nat->Nat->Prop):AV->Value->Prop
  |any (v:Value):VRel w T .any v
  |s (v:Value):VRel w T (.s v) v
  |agg (cs:List AV) (c:Array Value) (hl:cs.length=c.size) (h:∀(i:Nat) (x:AV) (y:Value),cs[i]?=some x->c[i]?=some y->VRel w T x y):VRel w T (.agg cs) (.agg c)
  |tup (cs:List AV) (c:Array Value) (hl:cs.length=c.size) (h:∀(i:Nat) (x:AV) (y:Value),cs[i]?=some x->c[i]?=some y->VRel w T x y):VRel w T (.tup cs) (.tuple c)
  |emp (a:Option Addr) (h:∀x,a=some x->x.spot=none):VRel w T .emp (.slice a 0 0)
  |nil (k:Nat) (a:Option Addr):VRel w T (.lst k [] none) (.slice a 0 0)
  |lst (rows:List (List AV)) (tok:Option Nat) (b off cap k:Nat) (c:Nat->Value) (hcap:rows.length<=cap)
      (hk:∀(i:Nat) (row:List AV),rows[i]?=some row->row.length=k)
      (htok:∀t,tok=some t->t=b/\off=0/\rows≠[]/\∃c e fr,w.heap[b]?=some (.cells c e fr)/\cap*k<=c.size)
      (hc:∀(i:Nat) (row:List AV) (j:Nat) (x:AV),rows[i]?=some row->row[j]?=some x->w.cell? ⟨b,off+(i*k+j),none⟩=some (c (i*k+j))/\¬T b (off+(i*k+j)))
      (h1:∀(i:Nat) (row:List AV) (j:Nat) (x:AV),rows[i]?=some row->row[j]?=some x->qo (c (i*k+j))=true)
      (hx:∀(i:Nat) (row:List AV) (j:Nat) (x:AV),rows[i]?=some row->row[j]?=some x->VRel w T x (c (i*k+j))):
      VRel w T (.lst k rows tok) (.slice (some ⟨b,off,none⟩) rows.length cap)
  |cp (cells:List AV) (b off:Nat) (c:Nat->Value)
      (hc:∀(j:Nat) (x:AV),cells[j]?=some x->w.cell? ⟨b,off+j,none⟩=some (c j)/\¬T b (off+j))
      (hx:∀(j:Nat) (x:AV),cells[j]?=some x->VRel w T x (c j)):
      VRel w T (.cp cells) (.pointer (some ⟨b,off,none⟩))
  |clos (f:FuncId) (cs:List AV) (c:Array Value) (hl:cs.length=c.size) (h:∀(i:Nat) (x:AV) (y:Value),cs[i]?=some x->c[i]?=some y->VRel w T x y):VRel w T (.clos f cs) (.func (.func f) #[] c)
structure Keeps(w:World)(T:Nat->Nat->Prop)(w':World)(T':Nat->Nat->Prop):Prop where
  cell:∀b o c,w.cell? ⟨b,o,none⟩=some c->¬T b o->w'.cell? ⟨b,o,none⟩=some c
  out:∀b o c,w.cell? ⟨b,o,none⟩=some c->¬T b o->¬T' b o
  shp:∀(b:Nat) c e fr,w.heap[b]?=some (.cells c e fr)->∃c' fr',w'.heap[b]?=some (.cells c' e fr')/\c'.size=c.size
theorem VRel.keep{T T':Nat->Nat->Prop}(hk:Keeps w T w' T'){x:AV}(h:VRel w T x v):VRel w' T' x v:=by
  induction h with
  |any v=>exact .any v
  |s v=>exact .s v
  |agg cs c hl _ ih=>exact .agg cs c hl ih
  |tup cs c hl _ ih=>exact .tup cs c hl ih
  |emp a h=>exact .emp a h
  |nil k a=>exact .nil k a
  | lst rows tok b off cap k c hcap hkk htok hc h1 _ ih=>
    refine .lst rows tok b off cap k c hcap hkk (λt ht=>?_) (λi row j x h1 h2=>?_) h1 ih
    · obtain⟨h1,h2,h3,c,e,fr,h4,h5⟩:=htok t ht
      obtain⟨c',fr',h6,h7⟩:=hk.shp _ _ _ _ h4
      exact⟨h1,h2,h3,c',e,fr',h6,by rw[h7];exact h5⟩
    · obtain⟨h3,h4⟩:=hc i row j x h1 h2
      exact⟨hk.cell _ _ _ h3 h4,hk.out _ _ _ h3 h4⟩
  | cp cells b off c hc _ ih=>
    refine .cp cells b off c (λj x h1=>?_) ih
    obtain⟨h3,h4⟩:=hc j x h1
    exact⟨hk.cell _ _ _ h3 h4,hk.out _ _ _ h3 h4⟩
  |clos f cs c hl _ ih=>exact .clos f cs c hl ih
theorem VRel.mono{T T':Nat->Nat->Prop}(hs:∀b o,T' b o->T b o){x:AV}(h:VRel w T x v):VRel w T' x v:=
  h.keep ⟨λ_ _ _ h _=>h,λ_ _ _ _ h h'=>h (hs _ _ h'),λ_ _ _ _ h=>⟨_,_,h,rfl⟩⟩
def AV.le(x y:AV):Prop:=∀w T v,VRel w T x v->VRel w T y v
theorem AV.le_refl(x:AV):AV.le x x:=λ_ _ _ h=>h
theorem AV.le_trans{x y z:AV}(h:AV.le x y)(h':AV.le y z):AV.le x z:=λw T v k=>h' w T v (h w T v k)
theorem AV.le_any(x:AV):AV.le x .any:=λ_ _ v _=>.any v
theorem AV.le_tok(k:Nat)(rows:List (List AV))(tok:Option Nat):AV.le (.lst k rows tok) (.lst k rows none):=by
  intro w T v h
  cases h with
  |nil _ a=>exact .nil k a
  |lst _ _ b off cap _ c hcap hk htok hc h1 hx=>exact .lst rows none b off cap k c hcap hk (λ_ h=>by cases h) hc h1 hx
theorem AV.le_nil(k:Nat):AV.le (.s (.slice none 0 0)) (.lst k [] none):=by
  intro w T v h
  cases h
  exact .nil k none
theorem AV.le_agg{cs ds:List AV}(hl:cs.length=ds.length)(h:∀(i:Nat) (x y:AV),cs[i]?=some x->ds[i]?=some y->AV.le x y):AV.le (.agg cs) (.agg ds):=by
  intro w T v hv
  cases hv with
  | agg _ c hl' hc=>
    refine .agg ds c (by omega) λi x y hx hy=>?_
    have hi:i<cs.length:=by
      have:=(Faf.1 hx).1
      omega
    exact h i cs[i] x (Fab hi) hx w T y (hc i _ _ (Fab hi) hy)
inductive AObj where
  |cells (l:List AV)
  |map (es:List (AV×AV)) (bs:List Nat) (clock:Nat)
  |iter (m:Nat) (since:Nat) (seen:List Nat) (last:Nat)
  |ghost (o:Obj) (gh:List (AV×Value))
structure Store where
  obj:Nat->Option AObj
  tok:Nat->Option Nat
def Store.empty:Store:=⟨λ_=>none,λ_=>none⟩
def Store.sO(st:Store)(b:Nat)(x:AObj):Store:={st with obj:=λi=>bif Nat.beq i b then some x else st.obj i}
def Store.sT(st:Store)(b:Nat)(x:Option Nat):Store:={st with tok:=λi=>bif Nat.beq i b then x else st.tok i}
structure Store.Has(st st':Store):Prop where
  obj:∀b x,st'.obj b=some x->st.obj b=some x
  tok:∀b x,st'.tok b=some x->st.tok b=some x
theorem Store.Has.refl(st:Store):st.Has st:=⟨λ_ _ h=>h,λ_ _ h=>h⟩
theorem Store.Has.trans{a b c:Store}(h:a.Has b)(h':b.Has c):a.Has c:=⟨λ_ _ k=>h.obj _ _ (h'.obj _ _ k),λ_ _ k=>h.tok _ _ (h'.tok _ _ k)⟩
def Ck(fr:Nat×Nat)(n:Nat):Prop:=fr.2=fr.1\/n<=fr.1
def CellsRel(w:World)(T:Nat->Nat->Prop)(l:List AV)(b:Nat):Prop:=
  ∃ c e fr,w.heap[b]?=some (.cells c e fr)/\fr.2=fr.1/\l.length=c.size∧
    ∀(i:Nat) (x:AV) (y:Value),l[i]?=some x->c[i]?=some y->VRel w T x y
def yhk(w:World)(T:Nat->Nat->Prop)(es:List (AV×AV))(bs:List Nat)(clock:Nat)(b:Nat):Prop:=
  ∃ ms:Array MapEntry,w.heap[b]?=some (.map ms clock)/\es.length=ms.size∧
    (∀(i:Nat) (x:AV×AV) (y:MapEntry),es[i]?=some x->ms[i]?=some y->VRel w T x.1 y.key/\VRel w T x.2 y.val)∧
    bs=ms.toList.map (·.born)/\(∀t∈bs,t<clock)/\bs.Pairwise (·<·)
def Lo:Obj->Bool
  |.cells ..=>false
  |_=>true
def ObjRel(w:World)(T:Nat->Nat->Prop):AObj->Nat->Prop
  |.cells l,b=>CellsRel w T l b
  |.map es bs clock,b=>yhk w T es bs clock b
  |.iter m since seen last,b=>w.heap[b]?=some (.mapIter (some m) since seen.toArray last)
  |.ghost o gh,b=>(w.heap[b]?=some o/\Lo o=true)/\∀p∈gh,VRel w T p.1 p.2
structure StoreOK(st:Store)(Oth M:Nat->Nat->Prop)(w:World):Prop where
  obj:∀b x,st.obj b=some x->ObjRel w (λb o=>M b o\/Oth b o) x b/\∀o,M b o
  tok:∀b top,st.tok b=some top->∃c e fr,w.heap[b]?=some (.cells c e fr)/\Ck fr c.size/\top<=c.size/\∀o,top<=o->M b o
  mlt:∀b o,M b o->b<w.heap.size
  olt:∀b o,Oth b o->b<w.heap.size
  dis:∀b o,Oth b o->¬M b o
theorem StoreOK.weaken{st st':Store}{Oth M:Nat->Nat->Prop}(h:StoreOK st Oth M w)(hh:st.Has st'):StoreOK st' Oth M w:=
  ⟨λb x k=>h.obj b x (hh.obj b x k),λb x k=>h.tok b x (hh.tok b x k),h.mlt,h.olt,h.dis⟩
structure Chg(M:Nat->Nat->Prop)(w:World)(M':Nat->Nat->Prop)(w':World):Prop where
  size:w.heap.size<=w'.heap.size
  keep:∀b o,b<w.heap.size->¬M b o->w'.cell? ⟨b,o,none⟩=w.cell? ⟨b,o,none⟩
  blk:∀b,b<w.heap.size->(∀o,¬M b o)->w'.heap[b]?=w.heap[b]?
  shp:∀(b:Nat) c e fr,w.heap[b]?=some (.cells c e fr)->∃c' fr',w'.heap[b]?=some (.cells c' e fr')/\c'.size=c.size
  sub:∀b o,M' b o->b<w.heap.size->M b o
  tape:w'.tape=w.tape
  os:w'.os=w.os
  output:w'.output=w.output
theorem Chg.refl(M:Nat->Nat->Prop)(w:World):Chg M w M w:=
  ⟨Fak _,λ_ _ _ _=>rfl,λ_ _ _=>rfl,λ_ _ _ _ h=>⟨_,_,h,rfl⟩,λ_ _ h _=>h,rfl,rfl,rfl⟩
theorem j4{b:Nat}{x:Obj}(h:w.heap[b]?=some x):b<w.heap.size:=(Fbl.1 h).1
theorem Chg.trans{M M₁ M₂:Nat->Nat->Prop}{w₁ w₂:World}(h:Chg M w M₁ w₁)(k:Chg M₁ w₁ M₂ w₂):Chg M w M₂ w₂ where
  size:=Fda h.size k.size
  keep b o hb hm:=by
    rw[k.keep b o (Nat.lt_of_lt_of_le hb h.size) (λhm'=>hm (h.sub b o hm' hb)),h.keep b o hb hm]
  blk b hb hm:=by
    rw[k.blk b (Nat.lt_of_lt_of_le hb h.size) (λo hm'=>hm o (h.sub b o hm' hb)),h.blk b hb hm]
  shp b c e fr hw:=by
    obtain⟨c',fr',h1,h2⟩:=h.shp b c e fr hw
    obtain⟨c'',fr'',h3,h4⟩:=k.shp b c' e fr' h1
    exact⟨c'',fr'',h3,by omega⟩
  sub b o hm hb:=h.sub b o (k.sub b o hm (Nat.lt_of_lt_of_le hb h.size)) hb
  tape:=k.tape.trans h.tape
  os:=k.os.trans h.os
  output:=k.output.trans h.output
theorem Kr{b o:Nat}{c:Value}(h:w.cell? ⟨b,o,none⟩=some c):b<w.heap.size:=World.block_lt_of_cell? _ _ h
theorem Chg.keeps{M M' Oth:Nat->Nat->Prop}(h:Chg M w M' w'):
    Keeps w (λb o=>M b o\/Oth b o) w' (λb o=>M' b o\/Oth b o) where
  cell b o c hc hT:=by rw[h.keep b o (Kr hc) λhm=>hT (.inl hm)];exact hc
  out b o c hc hT hT':=hT (hT'.imp (λhm=>h.sub b o hm (Kr hc)) id)
  shp:=h.shp
abbrev Ja:=AV->Store->Prop
end
inductive LV where
  |any
  |und
  |av (x:AV)
  |bx (k off:Nat)
  deriving Inhabited
structure Fr where
  t:Nat->LV
  bx:Nat->Option (List AV)
section
variable {w w':World} {v:Value} {st:Store}
def LV.kill(k:Nat):LV->LV
  |.bx k' o=>bif Nat.beq k' k then .any else .bx k' o
  |x=>x
def Fr.put(A:Fr)(d:Nat)(x:LV):Fr:={A with t:=λi=>bif Nat.beq i d then x else A.t i}
def Fr.setBx(A:Fr)(k:Nat)(l:List AV):Fr:={A with bx:=λi=>bif Nat.beq i k then some l else A.bx i}
def Fr.newBx(A:Fr)(d:Nat)(l:List AV):Fr:=
  {t:=λi=>bif Nat.beq i d then .bx d 0 else(A.t i).kill d,bx:=λi=>bif Nat.beq i d then some l else A.bx i}
def yem(v:Value):AV:=.s v
def cst:Value->AV
  |.agg cs=>.agg (cs.toList.map yem)
  |v=>.s v
def Fr.ev(A:Fr):Operand->LV
  |.tmp t=>A.t t
  |.const v=>.av (cst v)
  |.global g=>.av (.s (.pointer (some ⟨g,0,none⟩)))
  |.func f=>.av (.clos f [])
def LRel(w:World)(T:Nat->Nat->Prop)(β:Nat->Nat):LV->Value->Prop
  |.any,_=>True
  |.und,v=>v=undef
  |.av x,v=>VRel w T x v
  |.bx k off,v=>v=.pointer (some ⟨β k,off,none⟩)
theorem LRel.keep{T T':Nat->Nat->Prop}{β:Nat->Nat}(hk:Keeps w T w' T'){x:LV}(h:LRel w T β x v):LRel w' T' β x v:=by
  cases x with
  |any=>trivial
  |und=>exact h
  |av x=>exact VRel.keep hk h
  |bx k off=>exact h
def LV.le(x y:LV):Prop:=∀w T β v,LRel w T β x v->LRel w T β y v
theorem LV.le_refl(x:LV):LV.le x x:=λ_ _ _ _ h=>h
theorem LV.le_any(x:LV):LV.le x .any:=λ_ _ _ _ _=>trivial
structure Marks(Oth M:Nat->Nat->Prop)(w:World)(ds:List Deferred):Prop where
  nd:ds.Pairwise λx y=>x.target≠y.target
  all:∀d∈ds,∃D,d={target:=.collected D,args:=#[]}/\w.heap[D]?=some (.deferred (some []))/\∀o,¬M D o/\¬Oth D o
theorem Marks.nil{Oth M:Nat->Nat->Prop}:Marks Oth M w []:=⟨List.Pairwise.nil,λd h=>by cases h⟩
theorem Marks.step{Oth M M':Nat->Nat->Prop}{ds:List Deferred}(h:Marks Oth M w ds)
    (hs:∀D,w.heap[D]?=some (.deferred (some []))->D<w.heap.size->(∀o,¬M D o/\¬Oth D o)->w'.heap[D]?=w.heap[D]?/\∀o,¬M' D o):Marks Oth M' w' ds:=
  ⟨h.nd,λd hd=>by
    obtain⟨D,e,h1,h2⟩:=h.all d hd
    obtain⟨h3,h4⟩:=hs D h1 (j4 h1) h2
    exact⟨D,e,h3.trans h1,λo=>⟨h4 o,(h2 o).2⟩⟩⟩
theorem Marks.sub{Oth M M':Nat->Nat->Prop}{ds:List Deferred}(h:Marks Oth M w ds)(hs:∀b o,M' b o->M b o):Marks Oth M' w ds:=
  h.step λD _ _ h2=>⟨rfl,λo hm=>(h2 o).1 (hs D o hm)⟩
theorem Marks.chg{Oth M M':Nat->Nat->Prop}{ds:List Deferred}(h:Marks Oth M w ds)(hc:Chg M w M' w'):Marks Oth M' w' ds:=
  h.step λD _ hl h2=>⟨hc.blk D hl λo=>(h2 o).1,λo hm=>(h2 o).1 (hc.sub D o hm hl)⟩
structure SN where
  sz:Nat
  D0:List Deferred:=[]
  /--it has no marks -/
  nm:Bool:=false
structure MarksD(Oth M:Nat->Nat->Prop)(w:World)(n:SN)(ds:List Deferred):Prop where
  ex:∃ms,ds=ms++n.D0/\(n.nm=true->ms=[])/\Marks Oth M w ms
theorem MarksD.nil{Oth M:Nat->Nat->Prop}{n:SN}(h:n.D0=[]):MarksD Oth M w n []:=⟨[],by rw[h];rfl,λ_=>rfl,Marks.nil⟩
theorem MarksD.step{Oth M M':Nat->Nat->Prop}{n:SN}{ds:List Deferred}(h:MarksD Oth M w n ds)
    (hs:∀D,w.heap[D]?=some (.deferred (some []))->D<w.heap.size->(∀o,¬M D o/\¬Oth D o)->w'.heap[D]?=w.heap[D]?/\∀o,¬M' D o):MarksD Oth M' w' n ds:=by
  obtain⟨ms,e,h0,hm⟩:=h.ex
  exact⟨ms,e,h0,hm.step hs⟩
theorem MarksD.sub{Oth M M':Nat->Nat->Prop}{n:SN}{ds:List Deferred}(h:MarksD Oth M w n ds)(hs:∀b o,M' b o->M b o):MarksD Oth M' w n ds:=by
  obtain⟨ms,e,h0,hm⟩:=h.ex
  exact⟨ms,e,h0,hm.sub hs⟩
theorem MarksD.out{Oth M:Nat->Nat->Prop}{n:SN}{ds:List Deferred}(h:MarksD Oth M w n ds)(h0:n.D0=[]):Marks Oth M w ds:=by
  obtain⟨ms,e,_,hm⟩:=h.ex
  rw[h0,Fbp]at e
  exact e▸hm
theorem MarksD.known{Oth M:Nat->Nat->Prop}{n:SN}{ds:List Deferred}(h:MarksD Oth M w n ds)(h0:n.nm=true):ds=n.D0:=by
  obtain⟨ms,e,h1,_⟩:=h.ex
  rw[h1 h0]at e
  exact e
theorem MarksD.of{Oth M:Nat->Nat->Prop}{n:SN}{ds:List Deferred}(h:Marks Oth M w ds)(h0:n.D0=[])(h1:n.nm=false):MarksD Oth M w n ds:=⟨ds,by rw[h0,Fbp],λe=>(by rw[h1]at e;cases e),h⟩
structure SimB(n:SN)(Oth:Nat->Nat->Prop)(β:Nat->Nat)(A:Fr)(st:Store)(M:Nat->Nat->Prop)(a:Act)(w:World):Prop where
  tsz:a.tmps.size=n.sz
  dfr:MarksD Oth M w n a.defers
  tm:∀i,LRel w (λb o=>M b o\/Oth b o) β (A.t i) (a.tmps.getD i undef)
  bx:∀k l,A.bx k=some l->CellsRel w (λb o=>M b o\/Oth b o) l (β k)/\∀o,M (β k) o
  inj:∀k k',A.bx k≠none->A.bx k'≠none->β k=β k'->k=k'
  sep:∀k b,A.bx k≠none->(st.obj b≠none\/st.tok b≠none)->β k≠b
  sto:StoreOK st Oth M w
def Sim(n:SN)(Oth:Nat->Nat->Prop)(A:Fr)(st:Store)(M:Nat->Nat->Prop)(a:Act)(w:World):Prop:=∃β,SimB n Oth β A st M a w
theorem VRel.cst(w:World)(T:Nat->Nat->Prop)(v:Value):VRel w T (cst v) v:=by
  cases v<;>simp only[V.cst]<;>first
    |exact .s _
    | (refine .agg _ _ (by simp) λi x y hx hy=>?_
       simp only[Fap]at hx
       rw[Fb1,hy]at hx
       simp only[Fee,Fah]at hx
       subst hx
       exact .s _)
theorem SimB.ev{n:SN}{Oth M:Nat->Nat->Prop}{β:Nat->Nat}{A:Fr}{a:Act}(h:SimB n Oth β A st M a w)(x:Operand):
    LRel w (λb o=>M b o\/Oth b o) β (A.ev x) (a.eval x):=by
  cases x with
  |tmp t=>exact h.tm t
  |const v=>exact VRel.cst _ _ _
  |global g=>exact VRel.s _
  |func f=>exact VRel.clos f [] #[] rfl (by simp)
theorem xe(i d:Nat):Nat.beq i d=true↔i=d:=by
  rw[Nat.beq_eq]
theorem SimB.put{n:SN}{Oth M:Nat->Nat->Prop}{β:Nat->Nat}{A:Fr}{a:Act}(h:SimB n Oth β A st M a w)
    {d:Nat} (hd:d<n.sz) {x:LV} (hx:LRel w (λb o=>M b o\/Oth b o) β x v):SimB n Oth β (A.put d x) st M (a.put (some d) v) w where
  tsz:=by simp[Act.put,h.tsz]
  dfr:=h.dfr
  tm i:=by
    simp only[Fr.put,Act.put,Fav]
    by_cases hi:i=d
    · subst hi
      have:i<a.tmps.size:=by rw[h.tsz];exact hd
      simp only[Fbs,cond_true]
      rw[Fdi this]
      exact hx
    · have hb:Nat.beq i d=false:=by
        cases hb:Nat.beq i d with
        |false=>rfl
        |true=>exact absurd ((xe _ _).1 hb) hi
      simp only[hb,cond_false]
      rw[Fco (Ne.symm hi)]
      have:=h.tm i
      rwa [Fav]at this
  bx:=h.bx
  inj:=h.inj
  sep:=h.sep
  sto:=h.sto
structure Grow(w w':World):Prop where
  size:w.heap.size<=w'.heap.size
  blk:∀b,b<w.heap.size->w'.heap[b]?=w.heap[b]?
  tape:w'.tape=w.tape
  os:w'.os=w.os
  output:w'.output=w.output
theorem Cb(w:World)(o:Obj)(k:Nat)(h:k<w.heap.size):(w.alloc o).heap[k]?=w.heap[k]?:=by
  show(w.heap.push o)[k]?=_
  rw[Array.getElem?_push,if_neg (by omega)]
theorem Grow.refl(w:World):Grow w w:=⟨Fak _,λ_ _=>rfl,rfl,rfl,rfl⟩
theorem Grow.trans{a b c:World}(h:Grow a b)(k:Grow b c):Grow a c:=
  ⟨Fda h.size k.size,λi hi=>(k.blk i (Nat.lt_of_lt_of_le hi h.size)).trans (h.blk i hi),k.tape.trans h.tape,k.os.trans h.os,k.output.trans h.output⟩
theorem Grow.alloc(w:World)(o:Obj):Grow w (w.alloc o):=⟨by simp,λb hb=>Cb w o b hb,rfl,rfl,rfl⟩
theorem Grow.drew(w:World):Grow w w.drew:=⟨Fak _,λ_ _=>rfl,rfl,rfl,rfl⟩
theorem Ch{b:Nat}(h:w'.heap[b]?=w.heap[b]?)(o:Nat):w'.cell? ⟨b,o,none⟩=w.cell? ⟨b,o,none⟩:=by
  simp only[World.cell?,h]
theorem Grow.chg(h:Grow w w')(M:Nat->Nat->Prop):Chg M w M w' where
  size:=h.size
  keep b o hb _:=Ch (h.blk b hb) o
  blk b hb _:=h.blk b hb
  shp b c e fr hw:=⟨c,fr,by rw[h.blk b (j4 hw)];exact hw,rfl⟩
  sub _ _ hm _:=hm
  tape:=h.tape
  os:=h.os
  output:=h.output
theorem Grow.keeps(h:Grow w w')(T:Nat->Nat->Prop):Keeps w T w' T where
  cell b o c hc _:=by rw[Ch (h.blk b (Kr hc))];exact hc
  out _ _ _ _ hT:=hT
  shp b c e fr hw:=⟨c,fr,by rw[h.blk b (j4 hw)];exact hw,rfl⟩
theorem CellsRel.same{T T':Nat->Nat->Prop}{l:List AV}{b:Nat}(h:CellsRel w T l b)(hk:Keeps w T w' T')(hb:w'.heap[b]?=w.heap[b]?):CellsRel w' T' l b:=by
  obtain⟨c,e,fr,h1,h2,h3,h4⟩:=h
  exact⟨c,e,fr,by rw[hb];exact h1,h2,h3,λi x y hx hy=>(h4 i x y hx hy).keep hk⟩
theorem ObjRel.same{T T':Nat->Nat->Prop}{l:AObj}{b:Nat}(h:ObjRel w T l b)(hk:Keeps w T w' T')(hb:w'.heap[b]?=w.heap[b]?):ObjRel w' T' l b:=by
  cases l with
  |cells l=>exact CellsRel.same h hk hb
  | iter m since seen last=>
    show _=_
    rw[hb];exact h
  |ghost o gh=>exact⟨⟨by rw[hb];exact h.1.1,h.1.2⟩,λp hp=>(h.2 p hp).keep hk⟩
  | map es bs clock=>
    obtain⟨ms,h1,h2,h3,h4⟩:=h
    exact⟨ms,by rw[hb];exact h1,h2,λi x y hx hy=>⟨(h3 i x y hx hy).1.keep hk,(h3 i x y hx hy).2.keep hk⟩,h4⟩
theorem CellsRel.lt{T:Nat->Nat->Prop}{l:List AV}{b:Nat}(h:CellsRel w T l b):b<w.heap.size:=by
  obtain⟨c,e,fr,h1,_⟩:=h
  exact j4 h1
theorem ObjRel.lt{T:Nat->Nat->Prop}{l:AObj}{b:Nat}(h:ObjRel w T l b):b<w.heap.size:=by
  cases l with
  |cells l=>exact CellsRel.lt h
  |iter m since seen last=>exact j4 h
  |ghost o gh=>exact j4 h.1.1
  | map es bs clock=>
    obtain⟨ms,h1,_⟩:=h
    exact j4 h1
theorem StoreOK.grow{Oth M:Nat->Nat->Prop}(h:StoreOK st Oth M w)(g:Grow w w'):StoreOK st Oth M w' where
  obj b x hx:=⟨ObjRel.same (h.obj b x hx).1 (g.keeps _) (g.blk b (h.obj b x hx).1.lt),(h.obj b x hx).2⟩
  tok b top ht:=by
    obtain⟨c,e,fr,h1,h2⟩:=h.tok b top ht
    exact⟨c,e,fr,by rw[g.blk b (j4 h1)];exact h1,h2⟩
  mlt b o hm:=Nat.lt_of_lt_of_le (h.mlt b o hm) g.size
  olt b o hm:=Nat.lt_of_lt_of_le (h.olt b o hm) g.size
  dis:=h.dis
theorem SimB.grow{n:SN}{Oth M:Nat->Nat->Prop}{β:Nat->Nat}{A:Fr}{a:Act}(h:SimB n Oth β A st M a w)(g:Grow w w'):SimB n Oth β A st M a w' where
  tsz:=h.tsz
  dfr:=h.dfr.step λD _ hl h2=>⟨g.blk D hl,λo=>(h2 o).1⟩
  tm i:=(h.tm i).keep (g.keeps _)
  bx k l hk:=⟨(h.bx k l hk).1.same (g.keeps _) (g.blk _ (h.bx k l hk).1.lt),(h.bx k l hk).2⟩
  inj:=h.inj
  sep:=h.sep
  sto:=h.sto.grow g
theorem Tq{x:LV}:LV.le x x:=LV.le_refl x
theorem Tt{x:AV}:AV.le x x:=AV.le_refl x
end
inductive Ty where
  |int (k:IntKind)
  |bool
  |str
  |slice (e:TypeId)
  |ptr (e:TypeId)
  |struct (fs:List (Nat×TypeId))
  |array (n:Nat) (e:TypeId)
  |map (k e:TypeId)
  |func
  |other
  deriving Inhabited,DecidableEq
structure TI where
  ty:Ty
  size:Nat
  bytes:Nat
  zero:List Value
  /--values of it may be held against one another -/
  eq:Bool:=false
  deriving Inhabited
abbrev Info:=Nat->Option TI
def Ak:TypeDesc->Ty
  |.int k=>.int k
  |.bool=>.bool
  |.string=>.str
  |.slice e=>.slice e
  |.pointer e=>.ptr e
  |.struct fs=>.struct (fs.toList.map λf=>(f.offset,f.type))
  |.array n e=>.array n e
  |.map k e=>.map k e
  |.func ..=>.func
  |_=>.other
def Au:Ty->Bool
  |.struct _=>true
  |.array _ _=>true
  |_=>false
structure TIok(P:Program)(t:TypeId)(i:TI):Prop where
  info:∃inf,P.info? t=some inf/\inf.size=i.size/\inf.bytes=i.bytes/\∃z,inf.zero=some z/\z.cells.toList=i.zero
  und:∃d,P.underlying t=some d/\Ak d=i.ty
  zsz:i.zero.length=i.size
  zag:∀inf z,P.info? t=some inf->inf.zero=some z->(Au i.ty=true/\∃cs,z=.agg cs)\/(Au i.ty=false/\i.zero=[z])
  eqs : i.eq = true -> P.stoodInHeld t = false /\ P.eqGuardType P.depth t = false /\ ∀ fs, P.underlying t = some (.struct fs) -> ∀ f ∈ fs.toList, f.name ≠ "_"
def yp(P:Program)(I:Info):Prop:=∀t i,I t=some i->TIok P t i
structure Cfg where
  n:Nat
  I:Info
  /--temporaries whose 'alloc','box','buildSlice' make an object (a token) -/
  G:List Nat:=[]
  /--temporaries whose sums may wrap -/
  W:List Nat:=[]
  /--the loop whose round this is -/
  round:Option Nat:=none
  /--deferred calls that are known -/
  D0:List Deferred:=[]
  /--it ranges over no function -/
  nm:Bool:=false
def Cfg.F(c:Cfg):Fence:={Fence.wide with round:=c.round}
def optK{α:Type}(o:Option α)(K:α->Prop):Prop:=match o with|some x=>K x|none=>False
theorem za{α:Type}{o:Option α}{K:α->Prop}(x:α)(h:o=some x)(hk:K x):optK o K:=by subst h;exact hk
theorem zl{α:Type}{o:Option α}{K:α->Prop}(h:optK o K):∃x,o=some x/\K x:=by
  cases o with
  |none=>exact h.elim
  |some x=>exact⟨x,rfl,h⟩
def Bb(b:Bool)(p q:Prop):Prop:=match b with|true=>p|false=>q
theorem zj{b:Bool}{p q:Prop}(h:b=true->p)(h':b=false->q):Bb b p q:=by
  cases b with
  |true=>exact h rfl
  |false=>exact h' rfl
def ya(v:Int):Prop:=-9223372036854775808<=v/\v<=9223372036854775807
def qz(k:IntKind)(a:Int):LV:=.av (.s (.int k a))
def xr(b:Bool):LV:=.av (.s (.bool b))
def arK(wr:Bool)(k:IntKind)(v:Int)(K:LV->Prop):Prop:=
  match wr,k with
  |false,.i64=>ya v/\K (qz .i64 v)
  |_,k=>K (qz k (k.wrap v))
def xp(op:BinOp)(k:IntKind)(x y:Int):Int:=
  let a:=BitVec.ofInt k.bits x
  let b:=BitVec.ofInt k.bits y
  match op with
  |.and=>k.wrap (a &&& b).toNat
  |.or=>k.wrap (a ||| b).toNat
  |.xor=>k.wrap (a^^^b).toNat
  |_=>k.wrap (a &&& ~~~b).toNat
def Hs(wr:Bool)(op:BinOp)(k:IntKind)(a b:Int)(K:LV->Prop):Prop:=
  match op with
  |.add=>arK wr k (a+b) K
  |.sub=>arK wr k (a-b) K
  |.mul=>arK wr k (a*b) K
  |.quo=>b≠0/\arK wr k (a.tdiv b) K
  |.rem=>b≠0/\K (qz k (a.tmod b))
  |.and=>K (qz k (xp .and k a b))
  |.or=>K (qz k (xp .or k a b))
  |.xor=>K (qz k (xp .xor k a b))
  |.andNot=>K (qz k (xp .andNot k a b))
  |.eql=>K (xr (a==b))
  |.neq=>K (xr (a != b))
  |.lss=>K (xr (decide (a<b)))
  |.leq=>K (xr (decide (a<=b)))
  |.gtr=>K (xr (decide (a>b)))
  |.geq=>K (xr (decide (a>=b)))
  |.shl=>0<=b/\K (qz k (k.wrap (a*2^(min b.toNat k.bits))))
  |.shr=>0<=b/\K (qz k (a.fdiv (2^(min b.toNat k.bits))))
theorem zao{v:Int}(h:ya v):IntKind.i64.wrap v=v:=by
  obtain⟨h1,h2⟩:=h
  simp only[IntKind.wrap,IntKind.bits,IntKind.signed]
  simp
  omega
def Du:List AV->(List AV->Prop)->Prop
  |[],K=>K []
  |x::l,K=>Du l λl'=>K (x::l')
theorem Dt(l:List AV)(K:List AV->Prop):Du l K=K l:=by
  induction l generalizing K with
  |nil=>rfl
  |cons x l ih=>simp only[Du];rw[ih]
theorem Hv{l:List AV}{K:List AV->Prop}(h:K l):Du l K:=by rw[Dt];exact h
def partK(i:TI)(cells:List AV)(K:LV->Prop):Prop:=
  bif Au i.ty then(bif Nat.ble i.size cells.length then Du (cells.take i.size) λl=>K (.av (.agg l))else False)
  else optK cells.head? λx=>K (.av x)
def Bt(i:TI)(cells:List AV):Option AV:=
  bif Au i.ty then(bif Nat.ble i.size cells.length then some (.agg (cells.take i.size))else none)
  else cells.head?
def Cf(I:Info):Nat->TypeId->AV->AV->Option Bool
  |0,_,_,_=>none
  | d+1,t,x,y=>
    match I t with
    |none=>none
    | some i=>
      match i.ty,x,y with
      |.int _,.s (.int k a),.s (.int k' b)=>bif decide (k=k')then some (a==b)else none
      |.bool,.s (.bool a),.s (.bool b)=>some (a==b)
      |.str,.s (.string a),.s (.string b)=>some (a==b)
      | .struct fs,.agg xs,.agg ys=>
        bif i.eq then
          fs.foldr (λf acc=>match I f.2 with
            |none=>none
            | some j=>match Bt j (xs.drop f.1),Bt j (ys.drop f.1)with
              | some u,some v=>match Cf I d f.2 u v,acc with
                |some p,some q=>some (p&&q)
                |_,_=>none
              |_,_=>none) (some true)
        else none
      |.slice _,.s (.slice none 0 0),.s (.slice none 0 0)=>some true
      |.func,.s .nilFunc,.s .nilFunc=>some true
      |.func,.clos _ _,.s .nilFunc=>some false
      |.func,.s .nilFunc,.clos _ _=>some false
      |.ptr _,.s (.pointer none),.s (.pointer none)=>some true
      |.ptr _,.s (.pointer (some _)),.s (.pointer none)=>some false
      |.ptr _,.s (.pointer none),.s (.pointer (some _))=>some false
      |.slice _,.s (.slice (some _) _ _),.s (.slice none 0 0)=>some false
      |_,_,_=>none
def LV.toAV:LV->Option AV
  |.av x=>some x
  |_=>none
def LV.toV:LV->Option Value
  |.av (.s v)=>some v
  |_=>none
theorem zc0{x:LV}{v:Value}(h:x.toV=some v):x=.av (.s v):=by
  unfold LV.toV at h
  split at h
  · cases h;rfl
  · cases h
theorem K5{x:LV}{y:AV}(h:x.toAV=some y):x=.av y:=by
  cases x<;>simp[LV.toAV]at h
  rw[h]
def Dn(ev:Operand->LV):Option Operand->Option (Option Int)
  |none=>some none
  | some x=>match ev x with
    |.av (.s (.int _ i))=>some (some i)
    |_=>none
def cellsOf:AV->Option (List AV)
  |.agg cs=>some cs
  |.any=>none
  |.tup _=>none
  | .s v=>match v with
    |.agg _=>none
    |.tuple _=>none
    |v=>some [.s v]
  |x=>some [x]
def zu(l:List AV)(off:Nat)(vs:List AV):List AV:=l.take off++vs++l.drop (off+vs.length)
def Gn(place:Nat->Option (Nat×Nat))(cells:List AV):List (Nat×LV)->Option (List AV)
  |[]=>some cells
  | (i,v)::rest=>
    match place i,v with
    | some (off,size),.av x=>match cellsOf x with
      |some xs=>bif Nat.beq xs.length size&&Nat.ble (off+size) cells.length then Gn place (zu cells off xs) rest else none
      |none=>none
    |_,_=>none
def p6(I:Info)(fs:List (Nat×TypeId)):Option (List (Nat×Nat)):=
  fs.mapM λf=>(I f.2).map λj=>(f.1,j.size)
def Mq(x:LV)(d:Nat)(K:LV->Prop):Prop:=
  match x with
  |.bx k o=>K (.bx k (o+d))
  |.av (.cp cells)=>K (.av (.cp (cells.drop d)))
  |.av (.s (.pointer (some ⟨b,o,none⟩)))=>K (.av (.s (.pointer (some ⟨b,o+d,none⟩))))
  |_=>False
def Mk(bx:Nat->Option (List AV))(st:Store)(x:LV)(K:List AV->Prop):Prop:=
  match x with
  |.bx k o=>optK (bx k) λl=>K (l.drop o)
  |.av (.cp cells)=>K cells
  |.av (.s (.pointer (some ⟨b,o,none⟩)))=>optK (st.obj b) λx=>match x with|.cells l=>K (l.drop o)|_=>False
  |_=>False
def Vx(x:LV)(st:Store)(ty:Ty)(K:LV->Prop):Prop:=
  match ty,x with
  |.slice _,.av (.lst _ rows _)=>K (qz .i64 rows.length)
  |.slice _,.av (.s (.slice _ n _))=>K (qz .i64 n)
  |.slice _,.av .emp=>K (qz .i64 (0:Nat))
  |.str,.av (.s (.string s))=>K (qz .i64 s.size)
  |.map _ _,.av (.s (.map none))=>K (qz .i64 0)
  |.map _ _,.av (.s (.map (some r)))=>optK (st.obj r) λx=>match x with|.map es _ _=>K (qz .i64 es.length)|_=>False
  |.array n _,_=>K (qz .i64 n)
  |_,_=>False
def min2(a b:Int):Int:=bif decide (b<a)then b else a
def max2(a b:Int):Int:=bif decide (b>a)then b else a
def I6(f:Int->Int->Int)(xs:List LV)(K:LV->Prop):Prop:=
  match xs with
  |[.av (.s (.int k a)),.av (.s (.int _ b))]=>K (qz k (f a b))
  |[.av (.s (.int k a)),.av (.s (.int _ b)),.av (.s (.int _ c))]=>K (qz k (f (f a b) c))
  |[.av (.s (.int k a)),.av (.s (.int _ b)),.av (.s (.int _ c)),.av (.s (.int _ d))]=>K (qz k (f (f (f a b) c) d))
  |_=>False
def Fv(c:Cfg)(ev:Operand->LV)(st:Store)(cl:Call)(K:LV->Prop):Prop:=
  match cl.callee with
  | .builtin b=>match b with
    |.len=>optK cl.argTypes[0]? λt=>optK (c.I t) λi=>optK cl.args[0]? λx=>Vx (ev x) st i.ty K
    | .cap=>optK cl.argTypes[0]? λt=>optK (c.I t) λi=>optK cl.args[0]? λx=>match i.ty,ev x with
      |.slice _,.av (.s (.slice _ _ n))=>K (qz .i64 n)
      |_,_=>False
    |.min=>I6 min2 (cl.args.toList.map ev) K
    |.max=>I6 max2 (cl.args.toList.map ev) K
    |_=>False
  |_=>False
def Pi(x:LV)(K:LV->Prop):Prop:=
  match x with
  |.any=>K .any
  |.und=>K .und
  |.av y=>K (.av y)
  |.bx k o=>K (.bx k o)
theorem Ki(x:LV)(K:LV->Prop):Pi x K=K x:=by cases x<;>rfl
def vcV(c:Cfg)(ev:Operand->LV)(bx:Nat->Option (List AV))(st:Store)(d:Nat)(op:Op)(K:LV->Prop):Prop:=
  match op with
  |.move x|.assign x=>Pi (ev x) K
  | .pick b x y=>match ev b with
    |.av (.s (.bool b))=>Bb b (Pi (ev x) K) (Pi (ev y) K)
    |_=>False
  | .nilCheck x=>match ev x with
    |.bx k o=>K (.bx k o)
    |.av (.cp l)=>K (.av (.cp l))
    |.av (.clos f l)=>K (.av (.clos f l))
    |.av (.s (.pointer (some a)))=>K (.av (.s (.pointer (some a))))
    |.av (.s (.iface t v))=>K (.av (.s (.iface t v)))
    |_=>False
  | .binOp op t x y _=>match ev x,ev y with
    | .av (.s (.int k a)),.av (.s (.int k' b))=>match op with
      |.shl|.shr=>Hs false op k a b K
      |_=>bif decide (k=k')then Hs (c.W.contains d) op k a b K else False
    | .av x,.av y=>match op with
      |.eql=>optK (Cf c.I 5 t x y) λb=>K (xr b)
      |.neq=>optK (Cf c.I 5 t x y) λb=>K (xr (!b))
      |_=>False
    |_,_=>False
  | .unOp op _ x=>match op,ev x with
    |.neg,.av (.s (.int k a))=>arK (c.W.contains d) k (0-a) K
    |.not,.av (.s (.bool b))=>K (xr (!b))
    |_,_=>False
  | .convert s t x=>optK (c.I s) λi=>optK (c.I t) λj=>match i.ty,j.ty,ev x with
    |.int _,.int k,.av (.s (.int _ n))=>arK (c.W.contains d) k n K
    |_,_,_=>False
  |.load t a=>optK (c.I t) λi=>Mk bx st (ev a) λl=>partK i l K
  | .fieldAddr s x f=>optK (c.I s) λi=>match i.ty with
    |.struct fs=>optK fs[f]? λg=>optK (c.I g.2) λj=>bif Nat.blt 0 j.size then Mq (ev x) g.1 K else False
    |_=>False
  | .field s x f=>optK (c.I s) λi=>match i.ty,ev x with
    |.struct fs,.av (.agg cs)=>optK fs[f]? λg=>optK (c.I g.2) λj=>partK j (cs.drop g.1) K
    |_,_=>False
  | .indexAddr t x ix=>optK (c.I t) λi=>match i.ty,ev x,ev ix with
    |.slice e,.av (.lst k rows _),.av (.s (.int _ j))=>optK (c.I e) λie=>bif Nat.beq k ie.size then∃m:Nat,j=(m:Int)/\optK rows[m]? λrow=>K (.av (.cp row))else False
    |.slice e,.av (.s (.slice (some ⟨b,o,none⟩) len _)),.av (.s (.int _ j))=>optK (c.I e) λie=>∃m:Nat,j=(m:Int)/\m<len/\K (.av (.s (.pointer (some ⟨b,o+m*ie.size,none⟩))))
    |.array n e,p,.av (.s (.int _ j))=>optK (c.I e) λie=>∃m:Nat,j=(m:Int)/\m<n/\Mq p (m*ie.size) K
    |_,_,_=>False
  | .index t x ix=>optK (c.I t) λi=>match i.ty,ev x,ev ix with
    |.array n e,.av (.agg cs),.av (.s (.int _ j))=>optK (c.I e) λie=>∃m:Nat,j=(m:Int)/\m<n/\partK ie (cs.drop (m*ie.size)) K
    |.str,.av (.s (.string s)),.av (.s (.int _ j))=>∃m:Nat,j=(m:Int)/\optK s[m]? λb=>K (qz .u8 b.toNat)
    |_,_,_=>False
  | .slice t x lo hi mx=>bif mx.isSome then False else optK (c.I t) λi=>match i.ty,ev x,Dn ev lo,Dn ev hi with
    |.slice e,.av (.lst k rows _),some l,some h=>optK (c.I e) λie=>bif Nat.beq k ie.size then∃p q:Nat,l.getD 0=(p:Int)/\h.getD (rows.length:Int)=(q:Int)/\p<=q/\q<=rows.length/\(K (.av (.lst k ((rows.take q).drop p) none)))else False
    |.slice e,.av (.s (.slice (some ⟨b,o,none⟩) len cap)),some l,some h=>optK (c.I e) λie=>∃p q:Nat,l.getD 0=(p:Int)/\h.getD (len:Int)=(q:Int)/\p<=q/\q<=cap/\((p<cap/\K (.av (.s (.slice (some ⟨b,o+p*ie.size,none⟩) (q-p) (cap-p)))))\/(p=cap/\K (.av (.s (.slice (some ⟨b,o,none⟩) 0 0)))))
    |.slice e,.av (.s (.slice none 0 0)),some l,some h=>optK (c.I e) λ_=>l.getD 0=0/\h.getD 0=0/\K (.av (.s (.slice none 0 0)))
    |.array n e,.av (.s (.pointer (some ⟨b,o,none⟩))),some none,some none=>optK (c.I e) λ_=>K (.av (.s (.slice (some ⟨b,o,none⟩) n n)))
    |_,_,_,_=>False
  | .extract x ix=>match ev x with
    |.av (.tup vs)=>optK vs[ix]? λx=>K (.av x)
    |_=>False
  | .build t parts=>optK (c.I t) λi=>match i.ty with
    |.struct fs=>optK (p6 c.I fs) λpl=>optK (Gn (λi=>pl[i]?) (i.zero.map AV.s) (parts.toList.map λp=>(p.1,ev p.2))) λcs=>Du cs λcs=>K (.av (.agg cs))
    |.array _ e=>optK (c.I e) λie=>optK (Gn (λj=>some (j*ie.size,ie.size)) (i.zero.map AV.s) (parts.toList.map λp=>(p.1,ev p.2))) λcs=>Du cs λcs=>K (.av (.agg cs))
    |_=>False
  | .makeFunc fn first cap=>match fn with
    |.func f=>bif first.isEmpty then optK (cap.toList.mapM λx=>(ev x).toAV) λl=>K (.av (.clos f l))else optK (first.toList.mapM λx=>(ev x).toV) λl=>bif cap.isEmpty then K (.av (.s (.func (.func f) l.toArray #[])))else False
    |_=>False
  |.call cl=>Fv c ev st cl K
  |_=>False
structure Env(w:World)(T:Nat->Nat->Prop)(β:Nat->Nat)(ev:Operand->LV)(bx:Nat->Option (List AV))(st:Store)(ρ:Operand->Value):Prop where
  ev:∀x,LRel w T β (ev x) (ρ x)
  bx:∀k l,bx k=some l->CellsRel w T l (β k)
  obj:∀b x,st.obj b=some x->ObjRel w T x b
def wd(P:Program)(c:Cfg)(ev:Operand->LV)(bx:Nat->Option (List AV))(st:Store)(d:Nat)(op:Op)(K:LV->Prop):Prop:=
  ∃ x,K x/\(∀K':LV->Prop,K' x->vcV c ev bx st d op K')∧
    ∀w T β ρ (o:Oper),o.op=op->Env w T β ev bx st ρ->∃v,(execOp ρ o).run P w=.ok (.value v) w/\LRel w T β x v
section
variable {P:Program} {c:Cfg} {ev:Operand->LV} {bx:Nat->Option (List AV)} {st:Store} {d:Nat} {K:LV->Prop}
variable {w:World} {T:Nat->Nat->Prop} {β:Nat->Nat} {ρ:Operand->Value}
theorem VRel.eq_s{v u:Value}(h:VRel w T (.s v) u):u=v:=by
  generalize hx:AV.s v=x at h
  cases h<;>cases hx
  rfl
theorem Env.s(he:Env w T β ev bx st ρ){x:Operand}{v:Value}(h:ev x=.av (.s v)):ρ x=v:=by
  have:=he.ev x
  rw[h]at this
  exact VRel.eq_s this
theorem ybq(x:Operand)(h:vcV c ev bx st d (.move x) K):wd P c ev bx st d (.move x) K:=
  ⟨ev x,by simpa only[vcV,Ki]using h,λ_ h=>by simpa only[vcV,Ki]using h,λw T β ρ o ho he=>⟨ρ x,by simp[execOp,ho],he.ev x⟩⟩
theorem yb2(x:Operand)(h:vcV c ev bx st d (.assign x) K):wd P c ev bx st d (.assign x) K:=
  ⟨ev x,by simpa only[vcV,Ki]using h,λ_ h=>by simpa only[vcV,Ki]using h,λw T β ρ o ho he=>⟨ρ x,by simp[execOp,ho],he.ev x⟩⟩
theorem ybo(b x y:Operand)(h:vcV c ev bx st d (.pick b x y) K):wd P c ev bx st d (.pick b x y) K:=by
  simp only[vcV]at h
  split at h
  · rename_i t hb
    refine⟨bif t then ev x else ev y,?_,λK' h'=>?_,λw T β ρ o ho he=>⟨if t then ρ x else ρ y,?_,?_⟩⟩
    · simp only[Ki]at h
      cases t<;>exact h
    · simp only[vcV,hb,Ki]
      cases t<;>exact h'
    · have:=he.s hb
      simp[execOp,ho,this,asBool]
    · cases t<;>simp[he.ev]
  · exact h.elim
theorem Ku{wr:Bool}{k:IntKind}{v:Int}(h:arK wr k v K):K (qz k (k.wrap v))/\∀K':LV->Prop,K' (qz k (k.wrap v))->arK wr k v K':=by
  unfold arK at h⊢
  split at h
  · obtain⟨h1,h2⟩:=h
    rw[zao h1]
    exact⟨h2,λK' h'=>⟨h1,h'⟩⟩
  · exact⟨h,λ_ h'=>h'⟩
theorem yam{wr:Bool}{op:BinOp}{k k':IntKind}{a b:Int}(h:Hs wr op k a b K)(hk:op≠.shl->op≠.shr->k=k'):
    ∃z:Value,K (.av (.s z))/\(∀K':LV->Prop,K' (.av (.s z))->Hs wr op k a b K')/\∀t w,(binOp op t (.int k a) (.int k' b)).run P w=.ok z w:=by
  cases op<;>simp only[Hs]at h
  case add=>
    obtain⟨h1,h2⟩:=Ku h
    obtain rfl:=hk (by simp) (by simp)
    exact⟨_,h1,h2,λt w=>by simp[binOp,Op.intArith]⟩
  case sub=>
    obtain⟨h1,h2⟩:=Ku h
    obtain rfl:=hk (by simp) (by simp)
    exact⟨_,h1,h2,λt w=>by simp[binOp,Op.intArith]⟩
  case mul=>
    obtain⟨h1,h2⟩:=Ku h
    obtain rfl:=hk (by simp) (by simp)
    exact⟨_,h1,h2,λt w=>by simp[binOp,Op.intArith]⟩
  case quo=>
    obtain⟨hb,h⟩:=h
    obtain⟨h1,h2⟩:=Ku h
    obtain rfl:=hk (by simp) (by simp)
    exact⟨_,h1,λK' h'=>⟨hb,h2 K' h'⟩,λt w=>by simp[binOp,Op.intDiv,hb]⟩
  case rem=>
    obtain⟨hb,h⟩:=h
    obtain rfl:=hk (by simp) (by simp)
    exact⟨_,h,λK' h'=>⟨hb,h'⟩,λt w=>by simp[binOp,Op.intDiv,hb]⟩
  case shl=>
    obtain⟨hb,h⟩:=h
    exact⟨_,h,λK' h'=>⟨hb,h'⟩,λt w=>by simp[binOp,Op.shift,Int.not_lt.2 hb]⟩
  case shr=>
    obtain⟨hb,h⟩:=h
    exact⟨_,h,λK' h'=>⟨hb,h'⟩,λt w=>by simp[binOp,Op.shift,Int.not_lt.2 hb]⟩
  all_goals
    obtain rfl:=hk (by simp) (by simp)
    exact⟨_,h,λ_ h'=>h',λt w=>by simp[binOp,Op.intBits,Op.intCmp,xp]⟩
theorem ydj(op:BinOp)(t:TypeId)(x y:Operand)(k k':IntKind)(a b:Int)(w:World):(eqGuard op t x y (.int k a) (.int k' b)).run P w=.ok () w:=by
  cases op<;>simp[eqGuard]
end
section
variable {P:Program} {I:Info} {w:World} {T:Nat->Nat->Prop}
theorem Ic{t:TypeId}{i:TI}{k:IntKind}(h:TIok P t i)(hy:i.ty=.int k):P.underlying t=some (.int k):=by
  obtain⟨d,h1,h2⟩:=h.und
  rw[hy]at h2
  cases d<;>simp[Ak]at h2
  subst h2
  exact h1
theorem ed{t:TypeId}{i:TI}(h:TIok P t i)(hy:i.ty=.bool):P.underlying t=some .bool:=by
  obtain⟨d,h1,h2⟩:=h.und
  rw[hy]at h2
  cases d<;>simp[Ak]at h2
  exact h1
theorem R1{t:TypeId}{i:TI}(h:TIok P t i)(hy:i.ty=.str):P.underlying t=some .string:=by
  obtain⟨d,h1,h2⟩:=h.und
  rw[hy]at h2
  cases d<;>simp[Ak]at h2
  exact h1
theorem xf{t:TypeId}{i:TI}{e:TypeId}(h:TIok P t i)(hy:i.ty=.slice e):P.underlying t=some (.slice e):=by
  obtain⟨d,h1,h2⟩:=h.und
  rw[hy]at h2
  cases d<;>simp[Ak]at h2
  subst h2
  exact h1
theorem M9{t:TypeId}{i:TI}{e:TypeId}(h:TIok P t i)(hy:i.ty=.ptr e):P.underlying t=some (.pointer e):=by
  obtain⟨d,h1,h2⟩:=h.und
  rw[hy]at h2
  cases d<;>simp[Ak]at h2
  subst h2
  exact h1
theorem K4{t:TypeId}{i:TI}{n:Nat}{e:TypeId}(h:TIok P t i)(hy:i.ty=.array n e):P.underlying t=some (.array n e):=by
  obtain⟨d,h1,h2⟩:=h.und
  rw[hy]at h2
  cases d<;>simp[Ak]at h2
  obtain⟨rfl,rfl⟩:=h2
  exact h1
theorem G5{t:TypeId}{i:TI}{k e:TypeId}(h:TIok P t i)(hy:i.ty=.map k e):P.underlying t=some (.map k e):=by
  obtain⟨d,h1,h2⟩:=h.und
  rw[hy]at h2
  cases d<;>simp[Ak]at h2
  obtain⟨rfl,rfl⟩:=h2
  exact h1
theorem R2{t:TypeId}{i:TI}(h:TIok P t i)(hy:i.ty=.func):∃a b c,P.underlying t=some (.func a b c):=by
  obtain⟨d,h1,h2⟩:=h.und
  rw[hy]at h2
  cases d<;>simp[Ak]at h2
  exact⟨_,_,_,h1⟩
theorem K3{t:TypeId}{i:TI}{fs:List (Nat×TypeId)}(h:TIok P t i)(hy:i.ty=.struct fs):
    ∃a:Array Field,P.underlying t=some (.struct a)/\(a.toList.map λf=>(f.offset,f.type))=fs:=by
  obtain⟨d,h1,h2⟩:=h.und
  rw[hy]at h2
  cases d<;>simp[Ak]at h2
  exact⟨_,h1,by simpa using h2⟩
theorem jh{t:TypeId}{i:TI}(h:TIok P t i)(w:World):(sizeOf t).run P w=.ok i.size w:=by
  obtain⟨inf,h1,h2,_⟩:=h.info
  simp[sizeOf,typeInfo,run_program,h1,h2]
theorem Np{t:TypeId}{i:TI}(h:TIok P t i)(w:World):(isAgg t).run P w=.ok (Au i.ty) w:=by
  obtain⟨d,h1,h2⟩:=h.und
  cases d<;>simp[Ak]at h2<;>rw[<-h2]<;>simp[isAgg,underlying,run_program,h1,Au]
theorem yf{t:TypeId}{d:TypeDesc}(h:P.underlying t=some d)(w:World):(underlying t).run P w=.ok d w:=by
  simp[underlying,run_program,h]
theorem Iq{t:TypeId}{i:TI}(h:TIok P t i)(w:World):∃z,(zeroValue t).run P w=.ok z w/\z.cells.toList=i.zero:=by
  obtain⟨inf,h1,_,_,z,h3,h4⟩:=h.info
  exact⟨z,by simp[zeroValue,typeInfo,run_program,h1,h3],h4⟩
def Reads(w:World)(T:Nat->Nat->Prop)(l:List AV)(c:List Value):Prop:=l.length=c.length/\∀(i:Nat) (x:AV) (y:Value),l[i]?=some x->c[i]?=some y->VRel w T x y
theorem Reads.drop{l:List AV}{c:List Value}(h:Reads w T l c)(n:Nat):Reads w T (l.drop n) (c.drop n):=
  ⟨by simp[h.1],λi x y hx hy=>h.2 (n+i) x y (by simpa using hx) (by simpa using hy)⟩
theorem Reads.take{l:List AV}{c:List Value}(h:Reads w T l c)(n:Nat):Reads w T (l.take n) (c.take n):=
  ⟨by simp[h.1],λi x y hx hy=>by
    rw[Fde]at hx hy
    split at hx
    · rename_i hi;simp only[hi,if_true]at hy;exact h.2 i x y hx hy
    · cases hx⟩
theorem Reads.nil:Reads w T [] []:=⟨rfl,λ_ _ _ h _=>by simp at h⟩
theorem Reads.cons{x:AV}{v:Value}{l:List AV}{c:List Value}(h:VRel w T x v)(hl:Reads w T l c):Reads w T (x::l) (v::c):=
  ⟨by simp[hl.1],λi a b ha hb=>by
    cases i with
    |zero=>simp at ha hb;subst ha;subst hb;exact h
    |succ i=>exact hl.2 i a b (by simpa using ha) (by simpa using hb)⟩
theorem Reads.append{l l':List AV}{c c':List Value}(h:Reads w T l c)(h':Reads w T l' c'):Reads w T (l++l') (c++c'):=
  ⟨by simp[h.1,h'.1],λi x y hx hy=>by
    rcases Nat.lt_or_ge i l.length with hi|hi
    · rw[Fam hi]at hx
      rw[Fam (by rw[<-h.1];exact hi)]at hy
      exact h.2 i x y hx hy
    · rw[Faw hi]at hx
      rw[Faw (by rw[<-h.1];exact hi)]at hy
      rw[<-h.1]at hy
      exact h'.2 _ x y hx hy⟩
theorem Reads.keep{w':World}{T':Nat->Nat->Prop}{l:List AV}{c:List Value}(h:Reads w T l c)(hk:Keeps w T w' T'):Reads w' T' l c:=
  ⟨h.1,λi x y hx hy=>(h.2 i x y hx hy).keep hk⟩
theorem Reads.map_s(c:List Value):Reads w T (c.map AV.s) c:=
  ⟨by simp,λi x y hx hy=>by
    rw[Fap,hy]at hx
    simp at hx
    subst hx
    exact .s _⟩
theorem Reads.getElem?{l:List AV}{c:List Value}(h:Reads w T l c){i:Nat}{x:AV}(hx:l[i]?=some x):∃v,c[i]?=some v/\VRel w T x v:=by
  have hi:=(Faf.1 hx).1
  have hi':i<c.length:=by rw[<-h.1];exact hi
  exact⟨_,Fab hi',h.2 i x _ hx (Fab hi')⟩
theorem Dz{l:List AV}{v:Value}(h:VRel w T (.agg l) v):∃c,v=.agg c/\Reads w T l c.toList:=by
  cases h with
  |agg _ c hl h=>exact⟨c,rfl,by simp[hl],λi x y hx hy=>h i x y hx (by simpa using hy)⟩
theorem cz{l:List AV}{v:Value}(h:VRel w T (.tup l) v):∃c,v=.tuple c/\Reads w T l c.toList:=by
  cases h with
  |tup _ c hl h=>exact⟨c,rfl,by simp[hl],λi x y hx hy=>h i x y hx (by simpa using hy)⟩
theorem K0{l:List AV}{c:Array Value}(h:Reads w T l c.toList):VRel w T (.agg l) (.agg c):=
  .agg l c (by simpa using h.1) λi x y hx hy=>h.2 i x y hx (by simpa using hy)
theorem j8{l:List AV}{c:Array Value}(h:Reads w T l c.toList):VRel w T (.tup l) (.tuple c):=
  .tup l c (by simpa using h.1) λi x y hx hy=>h.2 i x y hx (by simpa using hy)
theorem I0(i:TI)(l:List AV)(K:LV->Prop):partK i l K=optK (Bt i l) λx=>K (.av x):=by
  unfold partK Bt
  cases Au i.ty<;>simp only[cond_true,cond_false,Dt]
  cases Nat.ble i.size l.length<;>rfl
theorem Ll{t:TypeId}{i:TI}(hi:TIok P t i){l:List AV}{cs:Array Value}(h:Reads w T l cs.toList){off:Nat}{x:AV}(hx:Bt i (l.drop off)=some x):
    ∃v,(part t cs off).run P w=.ok v w/\VRel w T x v:=by
  unfold Bt at hx
  cases ha:Au i.ty with
  | true=>
    simp only[ha,cond_true]at hx
    cases hb:Nat.ble i.size (l.drop off).length with
    |false=>rw[hb]at hx;cases hx
    | true=>
      simp only[hb,cond_true,Fah]at hx
      subst hx
      refine⟨.agg (cs.extract off (off+i.size)),by simp[part,Np hi,ha,jh hi],K0 ?_⟩
      have:(cs.extract off (off+i.size)).toList=(cs.toList.drop off).take i.size:=by
        simp[List.extract_eq_take_drop]
      rw[this]
      exact(h.drop off).take i.size
  | false=>
    simp only[ha,cond_false]at hx
    have hx':l[off]?=some x:=by
      rw[Fci]at hx
      exact hx
    obtain⟨v,hv,hr⟩:=h.getElem? hx'
    refine⟨v,?_,hr⟩
    have:cs[off]?=some v:=by simpa using hv
    simp[part,Np hi,ha,this]
theorem rl(hI:yp P I):∀(d:Nat) (t:TypeId) (x y:AV) (b:Bool),Cf I d t x y=some b->∀(D:Nat),d<=D->∀u v,VRel w T x u->VRel w T y v->
    (Op.equalIn D t u v).run P w=.ok b w:=by
  intro d
  induction d with
  |zero=>intro t x y b h;simp[Cf]at h
  | succ d ih=>
    intro t x y b h D hD u v hu hv
    obtain⟨D,rfl⟩:∃D',D=D'+1:=⟨D-1,by omega⟩
    rw[Cf]at h
    cases hi:I t with
    |none=>rw[hi]at h;cases h
    | some i=>
      rw[hi]at h
      have ht:=hI t i hi
      simp only at h
      split at h
      · rename_i k k1 a k2 a' hy
        by_cases hk:k1=k2
        · subst hk
          simp at h
          subst h
          rw[VRel.eq_s hu,VRel.eq_s hv]
          simp[Op.equalIn,yf (Ic ht hy)]
        · simp[hk]at h
      · rename_i a a' hy
        simp at h
        subst h
        rw[VRel.eq_s hu,VRel.eq_s hv]
        simp[Op.equalIn,yf (ed ht hy)]
      · rename_i a a' hy
        simp at h
        subst h
        rw[VRel.eq_s hu,VRel.eq_s hv]
        simp[Op.equalIn,yf (R1 ht hy)]
      · rename_i fs xs ys hy
        cases he:i.eq with
        |false=>simp[he]at h
        | true=>
          simp only[he,cond_true]at h
          obtain⟨c1,rfl,h1⟩:=Dz hu
          obtain⟨c2,rfl,h2⟩:=Dz hv
          obtain⟨a,ha1,ha2⟩:=K3 ht hy
          obtain⟨e1,_,e3⟩:=ht.eqs he
          have hf:P.fieldsOf t=a:=by simp[Program.fieldsOf,ha1]
          rw[run_equalIn_struct w D t c1 c2 (by rw[hf];exact ha1) e1,hf]
          have hn:=e3 a ha1
          subst ha2
          clear hf e3 ha1 e1 he hy ht hi hu hv
          generalize a.toList=fl at*
          induction fl generalizing b with
          |nil=>simp at h;subst h;simp[Op.eqFields]
          | cons f fl ihf=>
            simp only[Fb6,List.foldr_cons]at h
            cases hj:I f.type with
            |none=>simp[hj]at h
            | some j=>
              simp only[hj]at h
              cases hp:Bt j (xs.drop f.offset)with
              |none=>simp[hp]at h
              | some u'=>
                cases hq:Bt j (ys.drop f.offset)with
                |none=>simp[hp,hq]at h
                | some v'=>
                  simp only[hp,hq]at h
                  split at h
                  · rename_i p q hpp hqq
                    simp at h
                    subst h
                    obtain⟨vu,r1,r2⟩:=Ll (hI _ _ hj) h1 hp
                    obtain⟨vv,r3,r4⟩:=Ll (hI _ _ hj) h2 hq
                    have r5:=ih f.type u' v' p hpp D (by omega) vu vv r2 r4
                    have r6:=ihf q (λg hg=>hn g (Fa3 _ hg)) hqq
                    have hne : f.name ≠ "_" := hn f (by simp)
                    rw[Op.eqFields,if_pos hne]
                    simp only[Sem.run_bind,r1,r3,r5,Result.andThen_ok]
                    cases p with
                    |true=>simpa using r6
                    |false=>simp
                  · cases h
      · rename_i e hy
        simp at h
        subst h
        rw[VRel.eq_s hu,VRel.eq_s hv]
        simp[Op.equalIn,yf (xf ht hy)]
      · rename_i hy
        obtain⟨_,_,_,hy⟩:=R2 ht hy
        simp at h
        subst h
        rw[VRel.eq_s hu,VRel.eq_s hv]
        simp[Op.equalIn,yf hy]
      · rename_i hy
        obtain⟨_,_,_,hy⟩:=R2 ht hy
        simp at h
        subst h
        rw[VRel.eq_s hv]
        cases hu
        simp[Op.equalIn,yf hy]
      · rename_i hy
        obtain⟨_,_,_,hy⟩:=R2 ht hy
        simp at h
        subst h
        rw[VRel.eq_s hu]
        cases hv
        simp[Op.equalIn,yf hy]
      · rename_i hy
        simp at h
        subst h
        rw[VRel.eq_s hu,VRel.eq_s hv]
        simp[Op.equalIn,yf (M9 ht hy)]
      · rename_i hy
        simp at h
        subst h
        rw[VRel.eq_s hu,VRel.eq_s hv]
        simp[Op.equalIn,yf (M9 ht hy)]
      · rename_i hy
        simp at h
        subst h
        rw[VRel.eq_s hu,VRel.eq_s hv]
        simp[Op.equalIn,yf (M9 ht hy)]
      · rename_i hy
        simp at h
        subst h
        rw[VRel.eq_s hu,VRel.eq_s hv]
        simp[Op.equalIn,yf (xf ht hy)]
      · cases h
end
section
variable {P:Program} {c:Cfg} {ev:Operand->LV} {bx:Nat->Option (List AV)} {st:Store} {d:Nat} {K:LV->Prop}
theorem yz{w:World}{T:Nat->Nat->Prop}{β:Nat->Nat}{ρ:Operand->Value}(he:Env w T β ev bx st ρ){x:Operand}{a:AV}(h:ev x=.av a):VRel w T a (ρ x):=by
  have:=he.ev x
  rw[h]at this
  exact this
theorem zq7(a b:ByteArray):(a==b)=(a.data.toList==b.data.toList):=by
  obtain⟨⟨a⟩⟩:=a
  obtain⟨⟨b⟩⟩:=b
  rw[Fbr]
  show(Array.mk a==Array.mk b)=true↔_
  simp
theorem rj(hI:yp P c.I){op:BinOp}(hop:op=.eql\/op=.neq){t:TypeId}{x y:AV}{b:Bool}{w:World}{T:Nat->Nat->Prop}{u v:Value}(hx:VRel w T x u)(hy:VRel w T y v)
    (h:Cf c.I 5 t x y=some b) (hn:∀k p k' q,x=.s (.int k p)->y=.s (.int k' q)->False) (ox oy:Operand):
    (eqGuard op t ox oy u v).run P w=.ok () w/\(binOp op t u v).run P w=.ok (.bool (if op=.eql then b else !b)) w:=by
  have r:=rl (P:=P) hI 5 t x y b h 10000 (by omega) u v hx hy
  rw[Cf]at h
  cases hi:c.I t with
  |none=>rw[hi]at h;cases h
  | some i=>
    rw[hi]at h
    have ht:=hI t i hi
    simp only at h
    split at h
    · exact(hn _ _ _ _ rfl rfl).elim
    · rw[VRel.eq_s hx,VRel.eq_s hy]at r⊢
      rcases hop with rfl|rfl<;>simp[eqGuard,binOp,Op.equal,Op.maxDepth,r]
    · rename_i a1 b1 hty
      rw[VRel.eq_s hx,VRel.eq_s hy]at r⊢
      have hb:(a1.toList==b1.toList)=b:=by
        rw[Go.ByteArray.toList_eq,Go.ByteArray.toList_eq,<-zq7]
        simpa using h
      rcases hop with rfl|rfl<;>simp[eqGuard,binOp,Op.equal,Op.maxDepth,Op.stringOp,hb]
    · rename_i fs xs ys hty
      cases he:i.eq with
      |false=>rw[he]at h;cases h
      | true=>
        obtain⟨c1,rfl,h1⟩:=Dz hx
        obtain⟨c2,rfl,h2⟩:=Dz hy
        obtain⟨_,e2,_⟩:=ht.eqs he
        refine⟨run_eqGuard_agg w op t ox oy c1 c2 e2,?_⟩
        rcases hop with rfl|rfl<;>simp[binOp,Op.equal,Op.maxDepth,r]
    · rw[VRel.eq_s hx,VRel.eq_s hy]at r⊢
      rcases hop with rfl|rfl<;>simp[eqGuard,binOp,Op.equal,Op.maxDepth,r]
    · rw[VRel.eq_s hx,VRel.eq_s hy]at r⊢
      rcases hop with rfl|rfl<;>simp[eqGuard,binOp,Op.equal,Op.maxDepth,r]
    · rw[VRel.eq_s hy]at r⊢
      cases hx
      rcases hop with rfl|rfl<;>simp[eqGuard,binOp,Op.equal,Op.maxDepth,r]
    · rw[VRel.eq_s hx]at r⊢
      cases hy
      rcases hop with rfl|rfl<;>simp[eqGuard,binOp,Op.equal,Op.maxDepth,r]
    · rw[VRel.eq_s hx,VRel.eq_s hy]at r⊢
      rcases hop with rfl|rfl<;>simp[eqGuard,binOp,Op.equal,Op.maxDepth,r]
    · rw[VRel.eq_s hx,VRel.eq_s hy]at r⊢
      rcases hop with rfl|rfl<;>simp[eqGuard,binOp,Op.equal,Op.maxDepth,r]
    · rw[VRel.eq_s hx,VRel.eq_s hy]at r⊢
      rcases hop with rfl|rfl<;>simp[eqGuard,binOp,Op.equal,Op.maxDepth,r]
    · rw[VRel.eq_s hx,VRel.eq_s hy]at r⊢
      rcases hop with rfl|rfl<;>simp[eqGuard,binOp,Op.equal,Op.maxDepth,r]
    · cases h
theorem yb1(hI:yp P c.I)(op:BinOp)(t:TypeId)(x y:Operand)(yt:TypeId)(h:vcV c ev bx st d (.binOp op t x y yt) K):wd P c ev bx st d (.binOp op t x y yt) K:=by
  simp only[vcV]at h
  split at h
  · rename_i k a k' b hx hy
    have key:(∃wr,Hs wr op k a b K/\(op≠.shl->op≠.shr->k=k')/\∀K',Hs wr op k a b K'->vcV c ev bx st d (.binOp op t x y yt) K'):=by
      split at h
      · exact⟨false,h,λh1=>absurd rfl h1,λK' h'=>by simp only[vcV,hx,hy];exact h'⟩
      · exact⟨false,h,λ_ h1=>absurd rfl h1,λK' h'=>by simp only[vcV,hx,hy];exact h'⟩
      · rename_i h1 h2
        by_cases hk:k=k'
        · refine⟨c.W.contains d,by simpa [hk]using h,λ_ _=>hk,λK' h'=>?_⟩
          simp only[vcV,hx,hy]
          simpa [hk]using h'
        · simp[hk]at h
    obtain⟨wr,h1,h2,h3⟩:=key
    obtain⟨z,k1,k2,k3⟩:=yam (P:=P) h1 h2
    refine⟨_,k1,λK' h'=>h3 K' (k2 K' h'),λw T β ρ o ho he=>⟨z,?_,VRel.s _⟩⟩
    simp[execOp,ho,he.s hx,he.s hy,ydj,k3]
  · rename_i u v hn hx hy
    have hn':∀k p k' q,u=.s (.int k p)->v=.s (.int k' q)->False:=λk p k' q h1 h2=>hn k p k' q (by rw[h1]) (by rw[h2])
    split at h
    · obtain⟨b,hb,hk⟩:=zl h
      refine⟨_,hk,λK' h'=>?_,λw T β ρ o ho he=>⟨.bool b,?_,VRel.s _⟩⟩
      · simp only[vcV,hx,hy]
        exact za b hb h'
      · obtain⟨h1,h2⟩:=rj hI (op:=.eql) (.inl rfl) (yz he hx) (yz he hy) hb hn' x y
        simp[execOp,ho,h1,h2]
    · obtain⟨b,hb,hk⟩:=zl h
      refine⟨_,hk,λK' h'=>?_,λw T β ρ o ho he=>⟨.bool !b,?_,VRel.s _⟩⟩
      · simp only[vcV,hx,hy]
        exact za b hb h'
      · obtain⟨h1,h2⟩:=rj hI (op:=.neq) (.inr rfl) (yz he hx) (yz he hy) hb hn' x y
        simp[execOp,ho,h1,h2]
    · exact h.elim
  · exact h.elim
theorem ybp(x:Operand)(h:vcV c ev bx st d (.nilCheck x) K):wd P c ev bx st d (.nilCheck x) K:=by
  simp only[vcV]at h
  split at h
  · rename_i k o hx
    refine⟨_,h,λK' h'=>by simp only[vcV,hx];exact h',λw T β ρ o ho he=>?_⟩
    have:=he.ev x
    rw[hx]at this
    exact⟨ρ x,by rw[show ρ x=_ from this];simp[execOp,ho,show ρ x=_ from this],this⟩
  · rename_i l hx
    refine⟨_,h,λK' h'=>by simp only[vcV,hx];exact h',λw T β ρ o ho he=>⟨ρ x,?_,yz he hx⟩⟩
    have:=yz he hx
    generalize hv:ρ x=v at*
    cases this
    simp[execOp,ho,hv]
  · rename_i f l hx
    refine⟨_,h,λK' h'=>by simp only[vcV,hx];exact h',λw T β ρ o ho he=>⟨ρ x,?_,yz he hx⟩⟩
    have:=yz he hx
    generalize hv:ρ x=v at*
    cases this
    simp[execOp,ho,hv]
  · rename_i a hx
    refine⟨_,h,λK' h'=>by simp only[vcV,hx];exact h',λw T β ρ o ho he=>⟨ρ x,?_,yz he hx⟩⟩
    simp[execOp,ho,he.s hx]
  · rename_i t0 v0 hx
    refine⟨_,h,λK' h'=>by simp only[vcV,hx];exact h',λw T β ρ o ho he=>⟨ρ x,?_,yz he hx⟩⟩
    simp[execOp,ho,he.s hx]
  · exact h.elim
theorem ybl(op:UnOp)(t:TypeId)(x:Operand)(h:vcV c ev bx st d (.unOp op t x) K):wd P c ev bx st d (.unOp op t x) K:=by
  simp only[vcV]at h
  split at h
  · rename_i k a hx
    obtain⟨h1,h2⟩:=Ku h
    refine⟨_,h1,λK' h'=>by simp only[vcV,hx];exact h2 K' h',λw T β ρ o ho he=>⟨_,?_,VRel.s _⟩⟩
    simp[execOp,ho,he.s hx,Op.unary,Op.intArith]
  · rename_i b hx
    refine⟨_,h,λK' h'=>by simp only[vcV,hx];exact h',λw T β ρ o ho he=>⟨_,?_,VRel.s _⟩⟩
    simp[execOp,ho,he.s hx,Op.unary]
  · exact h.elim
theorem yby(hI:yp P c.I)(s t:TypeId)(x:Operand)(h:vcV c ev bx st d (.convert s t x) K):wd P c ev bx st d (.convert s t x) K:=by
  simp only[vcV]at h
  obtain⟨i,hi,h⟩:=zl h
  obtain⟨j,hj,h⟩:=zl h
  split at h
  · rename_i k1 k k2 n hy1 hy2 hx
    obtain⟨h1,h2⟩:=Ku h
    refine⟨_,h1,λK' h'=>?_,λw T β ρ o ho he=>⟨_,?_,VRel.s _⟩⟩
    · simp only[vcV]
      refine za i hi (za j hj ?_)
      simp only[hy1,hy2,hx]
      exact h2 K' h'
    · simp[execOp,ho,he.s hx,convert,yf (Ic (hI _ _ hi) hy1),yf (Ic (hI _ _ hj) hy2),Conv.intToInt]
  · exact h.elim
theorem ybx(x:Operand)(ix:Nat)(h:vcV c ev bx st d (.extract x ix) K):wd P c ev bx st d (.extract x ix) K:=by
  simp only[vcV]at h
  split at h
  · rename_i vs hx
    obtain⟨y,hy,h⟩:=zl h
    refine⟨_,h,λK' h'=>by simp only[vcV,hx];exact za y hy h',λw T β ρ o ho he=>?_⟩
    obtain⟨cs,hc,hr⟩:=cz (yz he hx)
    obtain⟨v,hv,hvr⟩:=hr.getElem? hy
    have hv':cs[ix]?=some v:=by simpa using hv
    exact⟨v,by simp[execOp,ho,hc,Instr.extract,hv'],hvr⟩
  · exact h.elim
theorem I7{α β:Type}{f:α->Option β}:∀{l:List α} {m:List β},l.mapM f=some m->m.length=l.length/\∀(i:Nat) (x:β),m[i]?=some x->∃a,l[i]?=some a/\f a=some x:=by
  intro l
  induction l with
  |nil=>intro m h;simp at h;subst h;simp
  | cons a l ih=>
    intro m h
    rw[Fc7]at h
    cases hf:f a with
    |none=>rw[hf]at h;cases h
    | some b=>
      cases hl:l.mapM f with
      |none=>rw[hf,hl]at h;cases h
      | some m'=>
        rw[hf,hl]at h
        simp at h
        subst h
        obtain⟨h1,h2⟩:=ih hl
        refine⟨by simp[h1],λi x hx=>?_⟩
        cases i with
        |zero=>simp at hx;subst hx;exact⟨a,rfl,hf⟩
        |succ i=>simpa using h2 i x (by simpa using hx)
theorem ybr(fn:Fn)(first cap:Array Operand)(h:vcV c ev bx st d (.makeFunc fn first cap) K):wd P c ev bx st d (.makeFunc fn first cap) K:=by
  cases fn<;>simp only[vcV]at h<;>try exact h.elim
  rename_i f
  cases hf:first.isEmpty with
  | false=>
    rw[hf]at h
    simp only[cond_false]at h
    obtain⟨l,hl,h⟩:=zl h
    cases hc:cap.isEmpty with
    |false=>rw[hc]at h;exact h.elim
    | true=>
      have hcap:cap=#[]:=by simpa using hc
      subst hcap
      replace h:K (.av (.s (.func (.func f) l.toArray #[]))):=h
      refine⟨_,h,λK' h'=>by simp only[vcV,hf];exact za l hl h',λw T β ρ o ho he=>⟨.func (.func f) (first.map ρ) #[],?_,?_⟩⟩
      · simp[execOp,ho,Instr.makeFunc]
      · obtain⟨h1,h2⟩:=I7 hl
        have e:l.toArray=first.map ρ:=by
          apply Array.ext'
          apply Fb9
          intro i
          rw[Fcy,Fap]
          cases hi:l[i]? with
          | none=>
            have:first.toList[i]?=none:=by
              rw[List.getElem?_eq_none_iff]at hi⊢
              omega
            rw[this];simp[hi]
          | some x=>
            obtain⟨a,ha,hfa⟩:=h2 i x hi
            have:=VRel.eq_s (yz he (zc0 hfa))
            rw[ha]
            simp[hi,this]
        rw[e];exact .s _
  | true=>
    rw[hf]at h
    simp only[cond_true]at h
    obtain⟨l,hl,h⟩:=zl h
    refine⟨_,h,λK' h'=>by simp only[vcV,hf];exact za l hl h',λw T β ρ o ho he=>⟨.func (.func f) #[] (cap.map ρ),?_,?_⟩⟩
    · have:first=#[]:=by simpa using hf
      subst this
      simp[execOp,ho,Instr.makeFunc]
    · obtain⟨h1,h2⟩:=I7 hl
      refine VRel.clos f l _ (by simpa using h1) λi x y hx hy=>?_
      obtain⟨a,ha,hfa⟩:=h2 i x hx
      have ha':cap[i]?=some a:=by simpa using ha
      rw[Fcv,ha']at hy
      simp at hy
      subst hy
      exact yz he (K5 hfa)
theorem Ir(a:Addr)(w:World)(f:Nat->Value):∀(n i:Nat) (acc:Array Value),(∀j,i<=j->j<i+n->w.cell? (a.add j)=some (f j))->
    (loadCellsFrom a i n acc).run P w=.ok (acc++((List.range' i n).map f).toArray) w:=by
  intro n
  induction n with
  |zero=>intro i acc _;simp[loadCellsFrom]
  | succ n ih=>
    intro i acc h
    have h0:=h i (Fak _) (by omega)
    have:(load (a.add i)).run P w=.ok (f i) w:=by simp[load,Sem.run,h0]
    simp only[loadCellsFrom,Sem.run_bind,this,Result.andThen_ok]
    rw[ih (i+1) (acc.push (f i)) (λj h1 h2=>h j (by omega) (by omega))]
    simp[List.range'_succ]
theorem ve(b off n:Nat):(Addr.add ⟨b,off,none⟩ n)=⟨b,off+n,none⟩:=by
  unfold Addr.add
  split
  · rename_i h;subst h;rfl
  · rfl
def cg(w:World)(T:Nat->Nat->Prop)(l:List AV)(b off:Nat):Prop:=∃f:Nat->Value,∀j x,l[j]?=some x->w.cell? ⟨b,off+j,none⟩=some (f j)/\VRel w T x (f j)
theorem nn{w:World}{T:Nat->Nat->Prop}{t:TypeId}{i:TI}(hi:TIok P t i){l:List AV}{b off:Nat}(h:cg w T l b off){x:AV}(hx:Bt i l=some x):
    ∃v,(loadVar t ⟨b,off,none⟩).run P w=.ok v w/\VRel w T x v:=by
  obtain⟨f,h⟩:=h
  unfold Bt at hx
  cases ha:Au i.ty with
  | true=>
    simp only[ha,cond_true]at hx
    cases hb:Nat.ble i.size l.length with
    |false=>rw[hb]at hx;cases hx
    | true=>
      simp only[hb,cond_true,Fah]at hx
      subst hx
      have hle:i.size<=l.length:=Fbg hb
      have hr:(loadCells ⟨b,off,none⟩ i.size).run P w=.ok (#[]++((List.range' 0 i.size).map f).toArray) w:=by
        refine Ir _ w f i.size 0 #[] λj _ hj=>?_
        rw[ve]
        exact(h j _ (Fab (by omega))).1
      refine⟨.agg (#[]++((List.range' 0 i.size).map f).toArray),by simp only[loadVar,Sem.run_bind,Np hi,ha,Result.andThen_ok,if_true,jh hi,hr,Sem.run_pure],K0 ?_⟩
      refine⟨by simp;omega,λj y v hy hv=>?_⟩
      rw[Fde]at hy
      split at hy
      · rename_i hj
        simp[hj]at hv
        subst hv
        exact(h j y hy).2
      · cases hy
  | false=>
    simp only[ha,cond_false]at hx
    have hx':l[0]?=some x:=by rw[<-List.head?_eq_getElem?];exact hx
    obtain⟨h1,h2⟩:=h 0 x hx'
    refine⟨f 0,?_,h2⟩
    simp only[loadVar,Sem.run_bind,Np hi,ha,Result.andThen_ok]
    simp only[Fel]at h1
    simp[load,Sem.run,h1]
theorem CellsRel.avail{w:World}{T:Nat->Nat->Prop}{l:List AV}{b:Nat}(h:CellsRel w T l b)(o:Nat):cg w T (l.drop o) b o:=by
  obtain⟨c,e,fr,h1,_,h3,h4⟩:=h
  refine⟨λj=>c.getD (o+j) undef,λj x hx=>?_⟩
  have hx':l[o+j]?=some x:=by simpa using hx
  have hlt:o+j<c.size:=by rw[<-h3];exact(Faf.1 hx').1
  have hc:c[o+j]?=some (c.getD (o+j) undef):=by simp[hlt]
  exact⟨by simp[World.cell?,h1,hlt],h4 _ _ _ hx' hc⟩
theorem te{x:LV}{K:List AV->Prop}(h:Mk bx st x K):
    ∃l,K l/\(∀K':List AV->Prop,K' l->Mk bx st x K')/\∀w T β ρ,Env w T β ev bx st ρ->∀v,LRel w T β x v->∃b off,v=.pointer (some ⟨b,off,none⟩)/\cg w T l b off:=by
  unfold Mk at h
  split at h
  · rename_i k o
    obtain⟨l,hl,h⟩:=zl h
    exact⟨_,h,λK' h'=>za l hl h',λw T β ρ he v hv=>⟨β k,o,hv,(he.bx k l hl).avail o⟩⟩
  · rename_i cells
    refine⟨_,h,λK' h'=>h',λw T β ρ he v hv=>?_⟩
    cases hv with
    |cp _ b off f hc hx=>exact⟨b,off,rfl,f,λj x hj=>⟨(hc j x hj).1,hx j x hj⟩⟩
  · rename_i b o
    obtain⟨y,hy,h⟩:=zl h
    cases y with
    |cells l=>exact⟨_,h,λK' h'=>za _ hy h',λw T β ρ he v hv=>⟨b,o,VRel.eq_s hv,CellsRel.avail (he.obj b _ hy) o⟩⟩
    |map es bs clock=>exact h.elim
    |iter m since seen last=>exact h.elim
    |ghost o gh=>exact h.elim
  · exact h.elim
theorem ybs(hI:yp P c.I)(t:TypeId)(a:Operand)(h:vcV c ev bx st d (.load t a) K):wd P c ev bx st d (.load t a) K:=by
  simp only[vcV]at h
  obtain⟨i,hi,h⟩:=zl h
  obtain⟨l,hl,hl',hs⟩:=te (ev:=ev) h
  rw[I0]at hl
  obtain⟨x,hx,hk⟩:=zl hl
  refine⟨_,hk,λK' h'=>?_,λw T β ρ o ho he=>?_⟩
  · simp only[vcV]
    exact za i hi (hl' _ (by rw[I0];exact za x hx h'))
  · obtain⟨b,off,hv,hav⟩:=hs w T β ρ he _ (he.ev a)
    obtain⟨v,hr,hvr⟩:=nn (hI _ _ hi) hav hx
    exact⟨v,by simp[execOp,ho,hv,Instr.loadAt,Instr.sureAddr,hr],hvr⟩
theorem zad{x:LV}{n:Nat}(h:Mq x n K):
    ∃y,K y/\(∀K':LV->Prop,K' y->Mq x n K')/\∀w T β v,LRel w T β x v->∃b off,v=.pointer (some ⟨b,off,none⟩)/\LRel w T β y (.pointer (some ⟨b,off+n,none⟩)):=by
  unfold Mq at h
  split at h
  · exact⟨_,h,λ_ h=>h,λw T β v hv=>⟨_,_,hv,rfl⟩⟩
  · refine⟨_,h,λ_ h=>h,λw T β v hv=>?_⟩
    rename_i cells
    cases hv with
    | cp _ b off f hc hx=>
      refine⟨b,off,rfl,VRel.cp _ _ _ (λj=>f (n+j)) (λj x hj=>?_) (λj x hj=>?_)⟩
      · have hj':cells[n+j]?=some x:=by simpa using hj
        have:=hc _ _ hj'
        rw[<-Nat.add_assoc]at this
        exact this
      · exact hx _ _ (by simpa using hj)
  · exact⟨_,h,λ_ h=>h,λw T β v hv=>⟨_,_,VRel.eq_s hv,VRel.s _⟩⟩
  · exact h.elim
theorem ybv(hI:yp P c.I)(s:TypeId)(x:Operand)(f:Nat)(h:vcV c ev bx st d (.fieldAddr s x f) K):wd P c ev bx st d (.fieldAddr s x f) K:=by
  simp only[vcV]at h
  obtain⟨i,hi,h⟩:=zl h
  split at h
  · rename_i fs hty
    obtain⟨g,hg,h⟩:=zl h
    obtain⟨j,hj,h⟩:=zl h
    cases hjb:Nat.blt 0 j.size with
    |false=>rw[hjb]at h;exact h.elim
    |true=>
    rw[hjb]at h
    simp only[cond_true]at h
    obtain⟨y,hy,hy',hs⟩:=zad h
    refine⟨y,hy,λK' h'=>?_,λw T β ρ o ho he=>?_⟩
    · simp only[vcV]
      refine za i hi ?_
      simp only[hty]
      refine za g hg (za j hj ?_)
      rw[hjb]
      exact hy' _ h'
    · obtain⟨b,off,hv,hr⟩:=hs w T β _ (he.ev x)
      obtain⟨a,ha1,ha2⟩:=K3 (hI _ _ hi) hty
      refine⟨_,?_,hr⟩
      subst ha2
      simp only[Fap]at hg
      cases hfa:a.toList[f]? with
      |none=>rw[hfa]at hg;cases hg
      | some fd=>
        rw[hfa]at hg
        simp at hg
        subst hg
        have hfa':a[f]?=some fd:=by simpa using hfa
        have hz:0<j.size:=Fbg hjb
        have hz':¬j.size=0:=by omega
        simp[execOp,ho,hv,Instr.fieldAt,yf ha1,hfa',Instr.sureAddr,fieldPlace,jh (hI _ _ hj),hz',ve]
  · exact h.elim
theorem ybw(hI:yp P c.I)(s:TypeId)(x:Operand)(f:Nat)(h:vcV c ev bx st d (.field s x f) K):wd P c ev bx st d (.field s x f) K:=by
  simp only[vcV]at h
  obtain⟨i,hi,h⟩:=zl h
  split at h
  · rename_i fs cs hty hx
    obtain⟨g,hg,h⟩:=zl h
    obtain⟨j,hj,h⟩:=zl h
    rw[I0]at h
    obtain⟨y,hy,h⟩:=zl h
    refine⟨_,h,λK' h'=>?_,λw T β ρ o ho he=>?_⟩
    · simp only[vcV]
      refine za i hi ?_
      simp only[hty,hx]
      refine za g hg (za j hj ?_)
      rw[I0]
      exact za y hy h'
    · obtain⟨a,ha1,ha2⟩:=K3 (hI _ _ hi) hty
      obtain⟨us,hu,hr⟩:=Dz (yz he hx)
      obtain⟨v,hv1,hv2⟩:=Ll (P:=P) (hI _ _ hj) hr hy
      refine⟨v,?_,hv2⟩
      subst ha2
      simp only[Fap]at hg
      cases hfa:a.toList[f]? with
      |none=>rw[hfa]at hg;cases hg
      | some fd=>
        rw[hfa]at hg
        simp at hg
        subst hg
        have hfa':a[f]?=some fd:=by simpa using hfa
        simp[execOp,ho,hu,Instr.field,yf ha1,hfa',asAgg,hv1]
  · exact h.elim
end
section
variable {P:Program} {c:Cfg} {ev:Operand->LV} {bx:Nat->Option (List AV)} {st:Store} {d:Nat} {K:LV->Prop}
theorem Kz{w:World}{T:Nat->Nat->Prop}{k:Nat}{rows:List (List AV)}{tok:Option Nat}{v:Value}(h:VRel w T (.lst k rows tok) v):
    (∃(a:Option Addr) (cap:Nat),v=.slice a rows.length cap/\rows=[]/\tok=none/\cap=0)\/∃(b off cap:Nat),v=.slice (some ⟨b,off,none⟩) rows.length cap/\rows.length<=cap∧
      (∀(i:Nat) (row:List AV),rows[i]?=some row->row.length=k)/\∃f:Nat->Value,
      (∀(i:Nat) (row:List AV) (j:Nat) (x:AV),rows[i]?=some row->row[j]?=some x->w.cell? ⟨b,off+(i*k+j),none⟩=some (f (i*k+j))/\¬T b (off+(i*k+j))/\VRel w T x (f (i*k+j))/\qo (f (i*k+j))=true):=by
  cases h with
  |nil _ a=>exact .inl ⟨a,0,rfl,rfl,rfl,rfl⟩
  |lst _ _ b off cap _ f hcap hk htok hc h0 hx=>exact .inr ⟨b,off,cap,rfl,hcap,hk,f,λi row j x h1 h2=>⟨(hc i row j x h1 h2).1,(hc i row j x h1 h2).2,hx i row j x h1 h2,h0 i row j x h1 h2⟩⟩
theorem VRel.empty(w:World)(T:Nat->Nat->Prop)(k b off cap:Nat):VRel w T (.lst k [] none) (.slice (some ⟨b,off,none⟩) 0 cap):=
  VRel.lst [] none b off cap k (λ_=>undef) (Faj _) (λi row h=>by simp at h) (λt ht=>by cases ht) (λi row j x h=>by simp at h) (λi row j x h=>by simp at h) (λi row j x h=>by simp at h)
theorem ybt(hI:yp P c.I)(t:TypeId)(x ix:Operand)(h:vcV c ev bx st d (.indexAddr t x ix) K):wd P c ev bx st d (.indexAddr t x ix) K:=by
  simp only[vcV]at h
  obtain⟨i,hi,h⟩:=zl h
  split at h
  · rename_i e k' rows tok k j hty hx hix
    replace h:=zl h
    obtain⟨ie,hie,h⟩:=h
    cases hb:Nat.beq k' ie.size with
    |false=>rw[hb]at h;exact h.elim
    | true=>
      rw[hb]at h
      simp only[cond_true]at h
      obtain rfl:k'=ie.size:=(xe _ _).1 hb
      obtain⟨m,rfl,h⟩:=h
      replace h:=zl h
      obtain⟨row,hrow,h⟩:=h
      refine⟨_,h,λK' h'=>?_,λw T β ρ o ho he=>?_⟩
      · simp only[vcV]
        refine za i hi ?_
        simp only[hty,hx,hix]
        refine za ie hie ?_
        rw[hb]
        exact⟨m,rfl,za row hrow h'⟩
      · have hm:m<rows.length:=(Faf.1 hrow).1
        rcases Kz (yz he hx)with⟨_,_,_,h2,_⟩|⟨b,off,cap,hv,hcap,hk,f,hf⟩
        · subst h2;simp at hm
        · refine⟨.pointer (some ⟨b,off+m*ie.size,none⟩),?_,VRel.cp _ _ _ (λj=>f (m*ie.size+j)) (λj y hy=>?_) (λj y hy=>?_)⟩
          · simp[execOp,ho,hv,he.s hix,Instr.indexAt,asIntOf,yf (xf (hI _ _ hi) hty),jh (hI _ _ hie),ve,hm]
          · have:=hf m row j y hrow hy
            rw[Nat.add_assoc]
            exact⟨this.1,this.2.1⟩
          · exact(hf m row j y hrow hy).2.2.1
  · rename_i e b o len cap k j hty hx hix
    replace h:=zl h
    obtain⟨ie,hie,m,rfl,hm,h⟩:=h
    refine⟨_,h,λK' h'=>?_,λw T β ρ o ho he=>?_⟩
    · simp only[vcV]
      refine za i hi ?_
      simp only[hty,hx,hix]
      exact za ie hie ⟨m,rfl,hm,h'⟩
    · refine⟨_,?_,VRel.s _⟩
      simp[execOp,ho,he.s hx,he.s hix,Instr.indexAt,asIntOf,yf (xf (hI _ _ hi) hty),jh (hI _ _ hie),ve,hm]
  · rename_i n e k j hty hix
    replace h:=zl h
    obtain⟨ie,hie,m,rfl,hm,h⟩:=h
    obtain⟨y,hy,hy',hs⟩:=zad h
    refine⟨_,hy,λK' h'=>?_,λw T β ρ o ho he=>?_⟩
    · simp only[vcV]
      refine za i hi ?_
      simp only[hty,hix]
      exact za ie hie ⟨m,rfl,hm,hy' _ h'⟩
    · obtain⟨b,off,hv,hr⟩:=hs w T β _ (he.ev x)
      refine⟨_,?_,hr⟩
      simp[execOp,ho,hv,he.s hix,Instr.indexAt,asIntOf,yf (K4 (hI _ _ hi) hty),jh (hI _ _ hie),ve,hm,Instr.sureAddr]
  · exact h.elim
theorem ybu(hI:yp P c.I)(t:TypeId)(x ix:Operand)(h:vcV c ev bx st d (.index t x ix) K):wd P c ev bx st d (.index t x ix) K:=by
  simp only[vcV]at h
  obtain⟨i,hi,h⟩:=zl h
  split at h
  · rename_i n e cs k j hty hx hix
    replace h:=zl h
    obtain⟨ie,hie,m,rfl,hm,h⟩:=h
    rw[I0]at h
    obtain⟨y,hy,h⟩:=zl h
    refine⟨_,h,λK' h'=>?_,λw T β ρ o ho he=>?_⟩
    · simp only[vcV]
      refine za i hi ?_
      simp only[hty,hx,hix]
      refine za ie hie ⟨m,rfl,hm,?_⟩
      rw[I0]
      exact za y hy h'
    · obtain⟨us,hu,hr⟩:=Dz (yz he hx)
      obtain⟨v,hv1,hv2⟩:=Ll (P:=P) (hI _ _ hie) hr hy
      refine⟨v,?_,hv2⟩
      simp[execOp,ho,hu,he.s hix,Instr.index,asIntOf,yf (K4 (hI _ _ hi) hty),jh (hI _ _ hie),hm,hv1]
  · rename_i s k j hty hx hix
    obtain⟨m,rfl,h⟩:=h
    replace h:=zl h
    obtain⟨b,hb,h⟩:=h
    refine⟨_,h,λK' h'=>?_,λw T β ρ o ho he=>?_⟩
    · simp only[vcV]
      refine za i hi ?_
      simp only[hty,hx,hix]
      exact⟨m,rfl,za b hb h'⟩
    · refine⟨_,?_,VRel.s _⟩
      simp[execOp,ho,he.s hx,he.s hix,Instr.index,asIntOf,yf (R1 (hI _ _ hi) hty),hb]
  · exact h.elim
theorem Vv{α β:Type}{f:α->β}{l:List α}{a b:β}(h:l.map f=[a,b]):∃x y,l=[x,y]/\f x=a/\f y=b:=by
  obtain⟨x,l',rfl,h1,h2⟩:=Fec.1 h
  obtain⟨y,l'',rfl,h3,h4⟩:=Fec.1 h2
  rw[List.map_eq_nil_iff]at h4
  subst h4
  exact⟨x,y,rfl,h1,h3⟩
theorem Vu{α β:Type}{f:α->β}{l:List α}{a b c:β}(h:l.map f=[a,b,c]):∃x y z,l=[x,y,z]/\f x=a/\f y=b/\f z=c:=by
  obtain⟨x,l',rfl,h1,h2⟩:=Fec.1 h
  obtain⟨y,z,rfl,h3,h4⟩:=Vv h2
  exact⟨x,y,z,rfl,h1,h3,h4⟩
theorem ni{α β:Type}{f:α->β}{l:List α}{a b c d:β}(h:l.map f=[a,b,c,d]):∃x y z u,l=[x,y,z,u]/\f x=a/\f y=b/\f z=c/\f u=d:=by
  obtain⟨x,l',rfl,h1,h2⟩:=Fec.1 h
  obtain⟨y,z,u,rfl,h3,h4,h5⟩:=Vu h2
  exact⟨x,y,z,u,rfl,h1,h3,h4,h5⟩
theorem ybz(hI:yp P c.I)(cl:Call)(h:vcV c ev bx st d (.call cl) K):wd P c ev bx st d (.call cl) K:=by
  obtain⟨callee,args,argTypes⟩:=cl
  simp only[vcV,Fv]at h
  split at h
  · rename_i b
    cases b<;>simp only at h
    case len=>
      obtain⟨t,ht,h⟩:=zl h
      obtain⟨i,hi,h⟩:=zl h
      obtain⟨x,hx,h⟩:=zl h
      have key:∃y,K y/\(∀K':LV->Prop,K' y->Vx (ev x) st i.ty K')/\∀w T β ρ ty,Env w T β ev bx st ρ->∃v,(Builtin.len_ argTypes ty (args.map ρ)).run P w=.ok v w/\LRel w T β y v:=by
        have hargs:∀ρ:Operand->Value,(args.map ρ)[0]?=some (ρ x):=fun ρ=>by rw[Fcv,hx];rfl
        unfold Vx at h⊢
        split at h
        · rename_i e k rows tok hty hev
          refine⟨_,h,λK' h'=>h',λw T β ρ ty he=>?_⟩
          rcases Kz (yz he hev)with⟨_,cap,hv,_⟩|⟨b,off,cap,hv,_⟩
          · exact⟨_,by simp[Builtin.len_,goInt,ht,hargs,hx,hv,yf (xf (hI _ _ hi) hty)],VRel.s _⟩
          · exact⟨_,by simp[Builtin.len_,goInt,ht,hargs,hx,hv,yf (xf (hI _ _ hi) hty)],VRel.s _⟩
        · rename_i e a n cap hty hev
          exact⟨_,h,λK' h'=>h',λw T β ρ ty he=>⟨_,by simp[Builtin.len_,goInt,ht,hargs,hx,he.s hev,yf (xf (hI _ _ hi) hty)],VRel.s _⟩⟩
        · rename_i e hty hev
          refine⟨_,h,λK' h'=>h',λw T β ρ ty he=>?_⟩
          obtain⟨ad,hv⟩:∃ad,ρ x=.slice ad 0 0:=by
            have h1:=yz he hev
            generalize ρ x=v at h1
            cases h1 with
            |emp ad _=>exact⟨ad,rfl⟩
          exact⟨_,by simp[Builtin.len_,goInt,ht,hargs,hx,hv,yf (xf (hI _ _ hi) hty)],VRel.s _⟩
        · rename_i s hty hev
          exact⟨_,h,λK' h'=>h',λw T β ρ ty he=>⟨_,by simp[Builtin.len_,goInt,ht,hargs,hx,he.s hev,yf (R1 (hI _ _ hi) hty)],VRel.s _⟩⟩
        · rename_i k e hty hev
          exact⟨_,h,λK' h'=>h',λw T β ρ ty he=>⟨_,by simp[Builtin.len_,goInt,ht,hargs,hx,he.s hev,yf (G5 (hI _ _ hi) hty)],VRel.s _⟩⟩
        · rename_i k e r hty hev
          obtain⟨ob,hob,h⟩:=zl h
          cases ob with
          |cells l=>exact h.elim
          |iter m since seen last=>exact h.elim
          |ghost o gh=>exact h.elim
          | map es bs clock=>
            refine⟨_,h,λK' h'=>za _ hob h',λw T β ρ ty he=>?_⟩
            obtain⟨ms,h1,h2,_⟩:=he.obj r _ hob
            refine⟨_,?_,VRel.s _⟩
            simp[Builtin.len_,goInt,ht,hargs,hx,he.s hev,yf (G5 (hI _ _ hi) hty),getObj,Sem.run,h1,h2,goInt]
        · rename_i n e hty
          exact⟨_,h,λK' h'=>h',λw T β ρ ty he=>⟨_,by simp[Builtin.len_,goInt,ht,hargs,hx,yf (K4 (hI _ _ hi) hty)],VRel.s _⟩⟩
        · exact h.elim
      obtain⟨y,hy,hy',hs⟩:=key
      refine⟨y,hy,λK' h'=>?_,λw T β ρ o ho he=>?_⟩
      · simp only[vcV,Fv]
        exact za t ht (za i hi (za x hx (hy' _ h')))
      · obtain⟨v,h1,h2⟩:=hs w T β ρ o.type he
        exact⟨v,by simp[execOp,ho,resolve,invoke,builtin,h1],h2⟩
    case cap=>
      obtain⟨t,ht,h⟩:=zl h
      obtain⟨i,hi,h⟩:=zl h
      obtain⟨x,hx,h⟩:=zl h
      have hargs:∀ρ:Operand->Value,(args.map ρ)[0]?=some (ρ x):=fun ρ=>by rw[Fcv,hx];rfl
      split at h
      · rename_i e a n cap hty hev
        refine⟨_,h,λK' h'=>?_,λw T β ρ o ho he=>⟨_,?_,VRel.s _⟩⟩
        · simp only[vcV,Fv]
          refine za t ht (za i hi (za x hx ?_))
          simp only[hty,hev]
          exact h'
        · simp[execOp,ho,resolve,invoke,builtin,Builtin.cap_,ht,hx,he.s hev,yf (xf (hI _ _ hi) hty),goInt]
      · exact h.elim
    case min=>
      have key:∃z:Value,K (.av (.s z))/\(∀K':LV->Prop,K' (.av (.s z))->I6 min2 (args.toList.map ev) K')/\∀w T β ρ ty,Env w T β ev bx st ρ->(Builtin.min_ argTypes ty (args.map ρ)).run P w=.ok z w:=by
        unfold I6 at h⊢
        split at h
        · rename_i k a k' b hev
          refine⟨_,h,λK' h'=>h',λw T β ρ ty he=>?_⟩
          obtain⟨l⟩:=args
          obtain⟨x,y,rfl,h1,h2⟩:=Vv hev
          simp[Builtin.min_,he.s h1,he.s h2,Builtin.min2,min2,Fds]
        · rename_i k a k' b k'' c' hev
          refine⟨_,h,λK' h'=>h',λw T β ρ ty he=>?_⟩
          obtain⟨l⟩:=args
          obtain⟨x,y,z,rfl,h1,h2,h3⟩:=Vu hev
          simp[Builtin.min_,he.s h1,he.s h2,he.s h3,Builtin.min2,min2,Fds]
        · rename_i k a k' b k'' c' k3 d' hev
          refine⟨_,h,λK' h'=>h',λw T β ρ ty he=>?_⟩
          obtain⟨l⟩:=args
          obtain⟨x,y,z,u,rfl,h1,h2,h3,h4⟩:=ni hev
          simp[Builtin.min_,he.s h1,he.s h2,he.s h3,he.s h4,Builtin.min2,min2,Fds]
        · exact h.elim
      obtain⟨z,hz,hz',hs⟩:=key
      exact⟨_,hz,λK' h'=>by simp only[vcV,Fv];exact hz' _ h',λw T β ρ o ho he=>⟨z,by simp[execOp,ho,resolve,invoke,builtin,hs w T β ρ o.type he],VRel.s _⟩⟩
    case max=>
      have key:∃z:Value,K (.av (.s z))/\(∀K':LV->Prop,K' (.av (.s z))->I6 max2 (args.toList.map ev) K')/\∀w T β ρ ty,Env w T β ev bx st ρ->(Builtin.max_ argTypes ty (args.map ρ)).run P w=.ok z w:=by
        unfold I6 at h⊢
        split at h
        · rename_i k a k' b hev
          refine⟨_,h,λK' h'=>h',λw T β ρ ty he=>?_⟩
          obtain⟨l⟩:=args
          obtain⟨x,y,rfl,h1,h2⟩:=Vv hev
          simp[Builtin.max_,he.s h1,he.s h2,Builtin.max2,max2,Fds]
        · rename_i k a k' b k'' c' hev
          refine⟨_,h,λK' h'=>h',λw T β ρ ty he=>?_⟩
          obtain⟨l⟩:=args
          obtain⟨x,y,z,rfl,h1,h2,h3⟩:=Vu hev
          simp[Builtin.max_,he.s h1,he.s h2,he.s h3,Builtin.max2,max2,Fds]
        · rename_i k a k' b k'' c' k3 d' hev
          refine⟨_,h,λK' h'=>h',λw T β ρ ty he=>?_⟩
          obtain⟨l⟩:=args
          obtain⟨x,y,z,u,rfl,h1,h2,h3,h4⟩:=ni hev
          simp[Builtin.max_,he.s h1,he.s h2,he.s h3,he.s h4,Builtin.max2,max2,Fds]
        · exact h.elim
      obtain⟨z,hz,hz',hs⟩:=key
      exact⟨_,hz,λK' h'=>by simp only[vcV,Fv];exact hz' _ h',λw T β ρ o ho he=>⟨z,by simp[execOp,ho,resolve,invoke,builtin,hs w T β ρ o.type he],VRel.s _⟩⟩
  · exact h.elim
theorem Oh{w:World}{T:Nat->Nat->Prop}{β:Nat->Nat}{ρ:Operand->Value}(he:Env w T β ev bx st ρ){x:Option Operand}{l:Option Int}(h:Dn ev x=some l):
    (l=none/\x=none)\/∃k i o,l=some i/\x=some o/\ρ o=.int k i:=by
  cases x with
  |none=>simp[Dn]at h;exact .inl ⟨h.symm,rfl⟩
  | some o=>
    simp only[Dn]at h
    split at h
    · rename_i k i hev
      simp at h
      exact .inr ⟨k,i,o,h.symm,rfl,he.s hev⟩
    · cases h
theorem Ml{w:World}{T:Nat->Nat->Prop}{β:Nat->Nat}{ρ:Operand->Value}(he:Env w T β ev bx st ρ){lo hi:Option Operand}{l h:Option Int}(hl:Dn ev lo=some l)(hh:Dn ev hi=some h)
    (len cap p q:Nat) (hp:l.getD 0=(p:Int)) (hq:h.getD (len:Int)=(q:Int)) (hpq:p<=q) (hqc:q<=cap):
    (Instr.sliceBounds true len cap (lo.map ρ) (hi.map ρ) none).run P w=.ok (p,q,cap) w:=by
  rcases Oh he hl with⟨rfl,rfl⟩|⟨k,i,o,rfl,rfl,hlo⟩<;>rcases Oh he hh with⟨rfl,rfl⟩|⟨k',i',o',rfl,rfl,hhi⟩<;>simp at hp hq
  · have hp':p=0:=by omega
    have hq':q=len:=by omega
    subst hp' hq'
    simp[Instr.sliceBounds]
  · have hp':p=0:=by omega
    subst hp' hq
    simp[Instr.sliceBounds,Instr.sliceBound,hhi,asIntOf,hqc]
  · have hq':q=len:=by omega
    subst hp hq'
    simp[Instr.sliceBounds,Instr.sliceBound,hlo,asIntOf,hpq]
  · subst hp hq
    simp[Instr.sliceBounds,Instr.sliceBound,hlo,hhi,asIntOf,hpq,hqc]
theorem ybm(hI:yp P c.I)(t:TypeId)(x:Operand)(lo hi mx:Option Operand)(h:vcV c ev bx st d (.slice t x lo hi mx) K):wd P c ev bx st d (.slice t x lo hi mx) K:=by
  simp only[vcV]at h
  cases mx with
  |some m=>exact h.elim
  |none=>
  simp only[Fc3,cond_false]at h
  replace h:=zl h
  obtain⟨i,hi',h⟩:=h
  split at h
  · rename_i e k rows tok l hh hty hx hl hh'
    replace h:=zl h
    obtain⟨ie,hie,h⟩:=h
    cases hb:Nat.beq k ie.size with
    |false=>rw[hb]at h;exact h.elim
    |true=>
    rw[hb]at h
    simp only[cond_true]at h
    obtain rfl:k=ie.size:=(xe _ _).1 hb
    obtain⟨p,q,hp,hq,hpq,hql,h⟩:=h
    refine⟨_,h,λK' h'=>?_,λw T β ρ o ho he=>?_⟩
    · simp only[vcV,Fc3,cond_false]
      refine za i hi' ?_
      simp only[hty,hx,hl,hh']
      refine za ie hie ?_
      rw[hb]
      exact⟨p,q,hp,hq,hpq,hql,h'⟩
    · rcases Kz (yz he hx)with⟨ad,cap,hv,rfl,_,rfl⟩|⟨b,off,cap,hv,hcap,hk,f,hf⟩
      · have hq0:q=0:=by simpa using hql
        have hp0:p=0:=by omega
        subst hq0 hp0
        refine⟨.slice ad 0 0,?_,VRel.nil _ _⟩
        have hb:=Ml (P:=P) he hl hh' 0 0 0 0 hp hq (Fak _) (Fak _)
        cases ad<;>simp[execOp,ho,hv,Instr.sliceAt,Instr.slice,yf (xf (hI _ _ hi') hty),hb,jh (hI _ _ hie)]
      · have hbd:=Ml (P:=P) he hl hh' rows.length cap p q hp hq hpq (by omega)
        have hlen:(List.drop p (List.take q rows)).length=q-p:=by simp;omega
        by_cases hm:cap=p
        · have hqp:q=p:=by omega
          have hnil:List.drop p (List.take q rows)=[]:=Fa0 (by rw[hlen];omega)
          refine⟨.slice (some ⟨b,off,none⟩) 0 0,?_,?_⟩
          · subst hm
            subst hqp
            simp[execOp,ho,hv,Instr.sliceAt,Instr.slice,yf (xf (hI _ _ hi') hty),hbd,jh (hI _ _ hie)]
          · show VRel w T (.lst _ (List.drop p (List.take q rows)) none) _
            rw[hnil]
            exact VRel.empty _ _ _ _ _ _
        · refine⟨.slice (some ⟨b,off+p*ie.size,none⟩) (q-p) (cap-p),?_,?_⟩
          · simp[execOp,ho,hv,Instr.sliceAt,Instr.slice,yf (xf (hI _ _ hi') hty),hbd,jh (hI _ _ hie),hm,ve]
          · show VRel w T (.lst _ (List.drop p (List.take q rows)) none) _
            rw[<-hlen]
            have hget:∀(i:Nat) (row:List AV),(List.drop p (List.take q rows))[i]?=some row->rows[p+i]?=some row:=by
              intro i row h
              rw[Fcj,Fde]at h
              split at h
              · exact h
              · cases h
            refine VRel.lst _ none b (off+p*ie.size) (cap-p) _ (λj=>f (p*ie.size+j)) (by rw[hlen];omega) (λi row h=>hk _ _ (hget i row h)) (λt ht=>by cases ht) (λi row j x h1 h2=>?_) (λi row j x h1 h2=>?_) (λi row j x h1 h2=>?_)
            · have:=hf _ row j x (hget i row h1) h2
              have e1:off+p*ie.size+(i*ie.size+j)=off+((p+i)*ie.size+j):=by rw[Fb2];omega
              have e2:p*ie.size+(i*ie.size+j)=(p+i)*ie.size+j:=by rw[Fb2];omega
              simp only[e1,e2]
              exact⟨this.1,this.2.1⟩
            · have:=hf _ row j x (hget i row h1) h2
              have e2:p*ie.size+(i*ie.size+j)=(p+i)*ie.size+j:=by rw[Fb2];omega
              simp only[e2]
              exact this.2.2.2
            · have:=hf _ row j x (hget i row h1) h2
              have e2:p*ie.size+(i*ie.size+j)=(p+i)*ie.size+j:=by rw[Fb2];omega
              simp only[e2]
              exact this.2.2.1
  · rename_i e b o len cap l hh hty hx hl hh'
    replace h:=zl h
    obtain⟨ie,hie,p,q,hp,hq,hpq,hqc,hpc⟩:=h
    rcases hpc with⟨hpc,h⟩|⟨hpc,h⟩
    · refine⟨_,h,λK' h'=>?_,λw T β ρ o ho he=>?_⟩
      · simp only[vcV,Fc3,cond_false]
        refine za i hi' ?_
        simp only[hty,hx,hl,hh']
        exact za ie hie ⟨p,q,hp,hq,hpq,hqc,.inl ⟨hpc,h'⟩⟩
      · have hb:=Ml (P:=P) he hl hh' len cap p q hp hq hpq hqc
        have hm:¬cap=p:=by omega
        refine⟨_,?_,VRel.s _⟩
        simp[execOp,ho,he.s hx,Instr.sliceAt,Instr.slice,yf (xf (hI _ _ hi') hty),hb,jh (hI _ _ hie),hm,ve]
    · refine⟨_,h,λK' h'=>?_,λw T β ρ o ho he=>?_⟩
      · simp only[vcV,Fc3,cond_false]
        refine za i hi' ?_
        simp only[hty,hx,hl,hh']
        exact za ie hie ⟨p,q,hp,hq,hpq,hqc,.inr ⟨hpc,h'⟩⟩
      · have hb:=Ml (P:=P) he hl hh' len cap p q hp hq hpq hqc
        have hq2:q=cap:=by omega
        subst hq2 hpc
        refine⟨_,?_,VRel.s _⟩
        simp[execOp,ho,he.s hx,Instr.sliceAt,Instr.slice,yf (xf (hI _ _ hi') hty),hb,jh (hI _ _ hie)]
  · rename_i e l hh hty hx hl hh'
    replace h:=zl h
    obtain⟨ie,hie,hp,hq,h⟩:=h
    refine⟨_,h,λK' h'=>?_,λw T β ρ o ho he=>?_⟩
    · simp only[vcV,Fc3,cond_false]
      refine za i hi' ?_
      simp only[hty,hx,hl,hh']
      exact za ie hie ⟨hp,hq,h'⟩
    · have hb:=Ml (P:=P) he hl hh' 0 0 0 0 hp hq (Fak _) (Fak _)
      refine⟨_,?_,VRel.s _⟩
      simp[execOp,ho,he.s hx,Instr.sliceAt,Instr.slice,yf (xf (hI _ _ hi') hty),hb,jh (hI _ _ hie)]
  · rename_i n e b o hty hx hl hl'
    replace h:=zl h
    obtain⟨ie,hie,h⟩:=h
    refine⟨_,h,λK' h'=>?_,λw T β ρ o' ho he=>?_⟩
    · simp only[vcV,Fc3,cond_false]
      refine za i hi' ?_
      simp only[hty,hx,hl,hl']
      exact za ie hie h'
    · have e1:lo.map ρ=none:=by
        rcases Oh he hl with⟨_,h3⟩|⟨_,_,_,h3,_,_⟩
        · rw[h3];rfl
        · cases h3
      have e2:hi.map ρ=none:=by
        rcases Oh he hl' with⟨_,h3⟩|⟨_,_,_,h3,_,_⟩
        · rw[h3];rfl
        · cases h3
      refine⟨_,?_,VRel.s _⟩
      simp[execOp,ho,he.s hx,Instr.sliceAt,Instr.sureAddr,yf (K4 (hI _ _ hi') hty),e1,e2,Instr.sliceBounds,jh (hI _ _ hie),ve]
  · exact h.elim
theorem bd{w:World}{T:Nat->Nat->Prop}{x:AV}{v:Value}(h:VRel w T x v){l:List AV}(hl:cellsOf x=some l):Reads w T l v.cells.toList/\((∃c,v=.agg c)\/qo v=true/\v.cells.toList=[v]):=by
  cases h with
  |any v=>cases hl
  | agg cs c hl' h=>
    simp only[cellsOf,Fah]at hl
    subst hl
    exact⟨⟨by simp[Value.cells,hl'],λi x y hx hy=>h i x y hx (by simpa [Value.cells]using hy)⟩,.inl ⟨c,rfl⟩⟩
  |s v=>cases v<;>simp only[cellsOf]at hl<;>cases hl<;>exact⟨Reads.cons (VRel.s _) Reads.nil,.inr ⟨rfl,rfl⟩⟩
  |tup cs c hl' h=>cases hl
  |emp a h=>cases hl;exact⟨Reads.cons (VRel.emp a h) Reads.nil,.inr ⟨rfl,rfl⟩⟩
  |nil k a=>cases hl;exact⟨Reads.cons (VRel.nil k a) Reads.nil,.inr ⟨rfl,rfl⟩⟩
  |lst rows tok b off cap k c hcap hk htok hc h1 hx=>cases hl;exact⟨Reads.cons (.lst rows tok b off cap k c hcap hk htok hc h1 hx) Reads.nil,.inr ⟨rfl,rfl⟩⟩
  |cp cells b off c hc hx=>cases hl;exact⟨Reads.cons (.cp cells b off c hc hx) Reads.nil,.inr ⟨rfl,rfl⟩⟩
  |clos f cs c hl' h=>cases hl;exact⟨Reads.cons (.clos f cs c hl' h) Reads.nil,.inr ⟨rfl,rfl⟩⟩
theorem zrj(vs:List Value)(cells:Array Value)(off:Nat)(h:off+vs.length<=cells.size):
    ((vs.zipIdx.foldl (λcs (x:Value×Nat)=>cs.setIfInBounds (off+x.2) x.1) cells)).toList=cells.toList.take off++vs++cells.toList.drop (off+vs.length):=by
  suffices H:∀(vs:List Value) (n:Nat) (cells:Array Value),off+n+vs.length<=cells.size->
      ((vs.zipIdx n).foldl (λcs (x:Value×Nat)=>cs.setIfInBounds (off+x.2) x.1) cells).toList=cells.toList.take (off+n)++vs++cells.toList.drop (off+n+vs.length) by
    have:=H vs 0 cells (by simpa using h)
    simpa using this
  intro vs
  induction vs with
  |nil=>intro n cells _;simp
  | cons v vs ih=>
    intro n cells h
    simp only[Fbi]at h
    simp only[List.zipIdx_cons,Fcq]
    rw[ih (n+1) _ (by simp;omega)]
    have hlt:off+n<cells.toList.length:=by simp;omega
    simp only[Fek]
    apply Fb9
    intro i
    simp only[List.getElem?_append,Fde,Fcj,Fdl,Fag,Fao,Fa8,Fbi,Fck,Fb4]
    have hsz:off+n+(vs.length+1)<=cells.size:=h
    rcases Fep i (off+n)with hi|hi|hi
    · have h1:i<off+(n+1):=by omega
      have h2:i<min (off+(n+1)) cells.size:=by omega
      have h3:i<min (off+n) cells.size:=by omega
      have h4:i<min (off+n) cells.size+(vs.length+1):=by omega
      have h5:i<min (off+(n+1)) cells.size+vs.length:=by omega
      have h6:¬off+n=i:=by omega
      simp[h1,h2,h3,h4,h5,h6,hi]
    · subst hi
      have h1:off+n<min (off+(n+1)) cells.size:=by omega
      have h2:¬off+n<min (off+n) cells.size:=by omega
      have h3:off+n-min (off+n) cells.size=0:=by omega
      have h4:off+n<min (off+n) cells.size+(vs.length+1):=by omega
      have h5:off+n<min (off+(n+1)) cells.size+vs.length:=by omega
      have h6:off+n<off+(n+1):=by omega
      have h7:off+n<cells.size:=by omega
      simp[h1,h2,h3,h4,h5,h6,h7]
    · have h2:¬i<min (off+(n+1)) cells.size:=by omega
      have h3:¬i<min (off+n) cells.size:=by omega
      have h6:¬off+n=off+(n+1)+vs.length+(i-(min (off+(n+1)) cells.size+vs.length)):=by omega
      have e1:i-min (off+n) cells.size=(i-min (off+(n+1)) cells.size)+1:=by omega
      have e2:(i<min (off+n) cells.size+(vs.length+1))↔(i<min (off+(n+1)) cells.size+vs.length):=by omega
      have e3:off+(n+1)+vs.length+(i-(min (off+(n+1)) cells.size+vs.length))=off+n+(vs.length+1)+(i-(min (off+n) cells.size+(vs.length+1))):=by omega
      simp only[h2,h3,if_false,e1,Far,e2,e3]
      have h8:¬off+n=off+n+(vs.length+1)+(i-(min (off+n) cells.size+(vs.length+1))):=by omega
      simp[h8]
theorem Wp{w:World}{T:Nat->Nat->Prop}{β:Nat->Nat}{place:Nat->Option (Nat×Nat)}:∀(parts:List (Nat×LV)) (vals:List (Nat×Value)) (cells:List AV) (cs:Array Value) (l:List AV),
    parts.length=vals.length->(∀(i:Nat) (p:Nat×LV) (v:Nat×Value),parts[i]?=some p->vals[i]?=some v->p.1=v.1/\LRel w T β p.2 v.2)->Reads w T cells cs.toList->Gn place cells parts=some l->
    ∃ds,Instr.fill place cs vals=some ds/\Reads w T l ds.toList:=by
  intro parts
  induction parts with
  | nil=>
    intro vals cells cs l hlen _ hr h
    cases vals with
    |nil=>simp[Gn]at h;subst h;exact⟨cs,by simp[Instr.fill],hr⟩
    |cons v vs=>simp at hlen
  | cons p parts ih=>
    intro vals cells cs l hlen hp hr h
    cases vals with
    |nil=>simp at hlen
    | cons v vals=>
      obtain⟨i,x⟩:=p
      obtain⟨i',u⟩:=v
      obtain⟨rfl,hx⟩:=hp 0 _ _ rfl rfl
      simp only[Gn]at h
      cases hpl:place i with
      |none=>rw[hpl]at h;cases h
      | some os=>
        obtain⟨off,size⟩:=os
        rw[hpl]at h
        cases x with
        | av x=>
          simp only at h
          cases hc:cellsOf x with
          |none=>rw[hc]at h;cases h
          | some xs=>
            rw[hc]at h
            simp only at h
            cases hb:(Nat.beq xs.length size&&Nat.ble (off+size) cells.length)with
            |false=>rw[hb]at h;cases h
            | true=>
              rw[hb]at h
              simp only[cond_true]at h
              simp only[Fax]at hb
              have h1:xs.length=size:=(xe _ _).1 hb.1
              have h2:off+size<=cells.length:=Fbg hb.2
              have hrx:=(bd hx hc).1
              have h3:u.cells.size=size:=by rw[<-h1,hrx.1];simp
              have h4:off+size<=cs.size:=by have:=hr.1;simp at this;omega
              have hsp:Reads w T (zu cells off xs) (u.cells.zipIdx.foldl (λcs (x:Value×Nat)=>cs.setIfInBounds (off+x.2) x.1) cs).toList:=by
                have e:(u.cells.zipIdx.foldl (λcs (x:Value×Nat)=>cs.setIfInBounds (off+x.2) x.1) cs)=(u.cells.toList.zipIdx.foldl (λcs (x:Value×Nat)=>cs.setIfInBounds (off+x.2) x.1) cs):=by
                  rw[<-Array.foldl_toList,Array.toList_zipIdx]
                rw[e,zrj _ _ _ (by simp;omega)]
                unfold zu
                refine((hr.take off).append hrx).append ?_
                rw[hrx.1]
                exact hr.drop _
              obtain⟨ds,hd1,hd2⟩:=ih vals _ _ l (by simpa using hlen) (λj p v h1 h2=>hp (j+1) p v (by simpa using h1) (by simpa using h2)) hsp h
              refine⟨ds,?_,hd2⟩
              rw[Instr.fill,hpl]
              have h5:¬u.cells.size≠size:=by simp[h3]
              have h6:¬off+u.cells.size>cs.size:=by rw[h3];omega
              simp only[h5,h6,decide_false,Bool.or_self,Fad,if_false]
              exact hd1
        |_=>simp at h
theorem zvp{α β:Type}{P:Program}{w:World}{f:α->Sem β}{g:α->Option β}(hf:∀a b,g a=some b->(f a).run P w=.ok b w):∀{l:List α} {m:List β},l.mapM g=some m->(l.mapM f).run P w=.ok m w:=by
  intro l
  induction l with
  |nil=>intro m h;simp at h;subst h;simp
  | cons a l ih=>
    intro m h
    rw[Fc7]at h
    cases hg:g a with
    |none=>rw[hg]at h;cases h
    | some b=>
      cases hl:l.mapM g with
      |none=>rw[hg,hl]at h;cases h
      | some m'=>
        rw[hg,hl]at h
        simp at h
        subst h
        simp[Fc7,hf a b hg,ih hl]
theorem yb0(hI:yp P c.I)(t:TypeId)(parts:Array (Nat×Operand))(h:vcV c ev bx st d (.build t parts) K):wd P c ev bx st d (.build t parts) K:=by
  simp only[vcV]at h
  obtain⟨i,hi,h⟩:=zl h
  have hparts:∀(w:World) (T:Nat->Nat->Prop) (β:Nat->Nat) (ρ:Operand->Value),Env w T β ev bx st ρ->
      (parts.toList.map λp=>(p.1,ev p.2)).length=(parts.map λ(p:Nat×Operand)=>(p.1,ρ p.2)).toList.length∧
      ∀(i:Nat) (p:Nat×LV) (v:Nat×Value),(parts.toList.map λp=>(p.1,ev p.2))[i]?=some p->(parts.map λ(p:Nat×Operand)=>(p.1,ρ p.2)).toList[i]?=some v->p.1=v.1/\LRel w T β p.2 v.2:=by
    intro w T β ρ he
    refine⟨by simp,λi p v hp hv=>?_⟩
    rw[Fcy,Fap]at hv
    rw[Fap]at hp
    cases hq:parts.toList[i]? with
    |none=>rw[hq]at hp;cases hp
    | some q=>
      rw[hq]at hp hv
      simp at hp hv
      subst hp hv
      exact⟨rfl,he.ev _⟩
  split at h
  · rename_i fs hty
    obtain⟨pl,hpl,h⟩:=zl h
    obtain⟨l,hl,h⟩:=zl h
    rw[Dt]at h
    refine⟨_,h,λK' h'=>?_,λw T β ρ o ho he=>?_⟩
    · simp only[vcV]
      refine za i hi ?_
      simp only[hty]
      exact za pl hpl (za l hl (Hv h'))
    · obtain⟨a,ha1,ha2⟩:=K3 (hI _ _ hi) hty
      obtain⟨z,hz1,hz2⟩:=Iq (hI _ _ hi) w
      obtain⟨h1,h2⟩:=hparts w T β ρ he
      have hpl':(a.mapM (m:=Sem) λf=>do pure (f.offset,<-sizeOf f.type)).run P w=.ok pl.toArray w:=by
        rw[Feo]
        have:(a.toList.mapM (m:=Sem) λf=>do pure (f.offset,<-sizeOf f.type)).run P w=.ok pl w:=by
          refine zvp (g:=λf=>(c.I f.type).map λj=>(f.offset,j.size)) ?_ ?_
          · intro f b hb
            cases hj:c.I f.type with
            |none=>rw[hj]at hb;cases hb
            | some j=>
              rw[hj]at hb
              simp at hb
              subst hb
              simp[jh (hI _ _ hj)]
          · subst ha2
            rw[<-hpl]
            unfold p6
            rw[List.mapM_map]
            rfl
        simp only[Sem.run_map,this,Result.andThen_ok]
      have hr0:Reads w T (i.zero.map AV.s) z.cells.toList:=by rw[hz2];exact Reads.map_s _
      obtain⟨ds,hd1,hd2⟩:=Wp (w:=w) (T:=T) (β:=β) _ _ _ z.cells l h1 h2 hr0 hl
      have hd1':Instr.fill (λx=>pl.toArray[x]?) z.cells ((parts.map λ(p:Nat×Operand)=>(p.1,ρ p.2)).toList)=some ds:=by simpa using hd1
      refine⟨.agg ds,?_,K0 hd2⟩
      simp only[execOp,ho,Instr.build,Sem.run_bind,Result.andThen_ok,Sem.run_pure,hz1,yf ha1,hpl',hd1']
  · rename_i n e hty
    obtain⟨ie,hie,h⟩:=zl h
    obtain⟨l,hl,h⟩:=zl h
    rw[Dt]at h
    refine⟨_,h,λK' h'=>?_,λw T β ρ o ho he=>?_⟩
    · simp only[vcV]
      refine za i hi ?_
      simp only[hty]
      exact za ie hie (za l hl (Hv h'))
    · obtain⟨z,hz1,hz2⟩:=Iq (hI _ _ hi) w
      obtain⟨h1,h2⟩:=hparts w T β ρ he
      have hr0:Reads w T (i.zero.map AV.s) z.cells.toList:=by rw[hz2];exact Reads.map_s _
      obtain⟨ds,hd1,hd2⟩:=Wp (w:=w) (T:=T) (β:=β) _ _ _ z.cells l h1 h2 hr0 hl
      refine⟨.agg ds,?_,K0 hd2⟩
      simp only[execOp,ho,Instr.build,Sem.run_bind,Result.andThen_ok,Sem.run_pure,hz1,yf (K4 (hI _ _ hi) hty),jh (hI _ _ hie),hd1]
  · exact h.elim
end
end Go.V
