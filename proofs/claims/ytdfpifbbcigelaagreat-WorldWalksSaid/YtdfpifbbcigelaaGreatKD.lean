/- Ground of laws of thronglaw25: contracts and plain lemmas; no condition beyond the row's own. -/
import Derived.MapKept
import Derived.Shelf.Sort.Plain
import Derived.Shelf.Slices.SearchI
import Derived.Shelf.Slices.Empties
import Derived.Shelf.Slices.Delete
import Derived.Shelf.Slices.In.SortNone
import Derived.Shelf.Spec.SlicesInsertGrow
import Derived.Shelf.Spec.BitsCarry
import Derived.Test.YtdfpifbbcigelaaGreatKC
set_option linter.unusedSimpArgs false
set_option linter.unusedVariables false
namespace Go.V
theorem mg(a q m:Nat)(h:a<2^m):a ||| q*2^m=a+q*2^m:=by
 have:=Nat.two_pow_add_eq_or_of_lt h q
 rw[Nat.or_comm,Nat.mul_comm q,<-this,Nat.add_comm]
theorem ue(a b:Nat)(ha:a<2^64)(hb:b<2^64):xp .or .i64 a b=IntKind.i64.wrap ((a ||| b:Nat):Int)/\xp .or .u64 a b=IntKind.u64.wrap ((a ||| b:Nat):Int):=by
 have h:∀a:Nat,a<2^64->(BitVec.ofInt 64 (a:Int)).toNat=a:=by
  intro a ha
  rw[BitVec.ofInt_natCast,BitVec.toNat_ofNat,Nat.mod_eq_of_lt ha]
 constructor
 ·show IntKind.i64.wrap ((BitVec.ofInt 64 (a:Int) ||| BitVec.ofInt 64 (b:Int)).toNat:Int)=_
  rw[BitVec.toNat_or,h a ha,h b hb]
 ·show IntKind.u64.wrap ((BitVec.ofInt 64 (a:Int) ||| BitVec.ofInt 64 (b:Int)).toNat:Int)=_
  rw[BitVec.toNat_or,h a ha,h b hb]
theorem Bc{v:Int}(h:0<=v)(h2:v<18446744073709551616):IntKind.u64.wrap v=v:=by
 have:IntKind.u64.wrap v=v%18446744073709551616:=by simp[IntKind.wrap,IntKind.bits,IntKind.signed]
 rw[this];omega
theorem zx6{n:Int}{q m:Nat}(h0:0<=n)(h1:n<2^m)(h2:n+q*2^m<18446744073709551616):xp .or .u64 n (q*2^m)=n+q*2^m:=by
 obtain⟨a,rfl⟩:=Fca h0
 have e:((q:Int)*2^m)=((q*2^m:Nat):Int):=by simp
 have h1':a<2^m:=by exact_mod_cast h1
 rw[e]at h2⊢
 have h3:a+q*2^m<18446744073709551616:=by omega
 rw[(ue a (q*2^m) (by omega) (by omega)).2,mg a q m h1',Bc (by omega) (by omega)]
 simp
def o9:List UInt8->Nat->Int->Int×Nat×Int
 |[],_,_=>(0,0,11)
 |c::l,i,n=>
  if(128<=c.toNat/\i=8)\/(c.toNat=0/\0<i)then(0,0,1)
  else if c.toNat<128 then(n+(c.toNat%128:Nat)*128^i,i+1,0)
  else o9 l (i+1) (n+(c.toNat%128:Nat)*128^i)
def Bk(b:List UInt8):Int×Nat×Int:=o9 b 0 0
def zig(n:Int):Int:=if n%2=0 then n/2 else -(n/2)-1
def yb8(b:List UInt8):Int×Nat×Int:=(zig (Bk b).1,(Bk b).2.1,(Bk b).2.2)
def Wa(b:List UInt8):List UInt8×Nat×Int:=
 if(Bk b).2.2≠0 then([],0,(Bk b).2.2)
 else if(Bk b).1>1048576 then([],0,1)
 else if(Bk b).1>(b.length:Int)-(Bk b).2.1 then([],0,11)
 else((b.drop (Bk b).2.1).take (Bk b).1.toNat,(Bk b).2.1+(Bk b).1.toNat,0)
structure Rd where
 b:List UInt8
 e:Int
 deriving DecidableEq
def Rd.fail(s:Rd)(e:Int):Rd:=if s.e=0 then⟨s.b,e⟩else s
def Rd.must(s:Rd)(ok:Bool):Rd:=if ok then s else s.fail 1
def Rd.take(s:Rd)(n:Int)(k:Nat)(e:Int):Int×Rd:=if(s.fail e).e≠0 then(0,s.fail e)else(n,⟨s.b.drop k,0⟩)
def inB(n lo hi:Int):Bool:=decide (lo<=n/\n<=hi)
def Rd.got(s:Rd)(g:Int×Nat×Int)(lo hi:Int):Int×Rd:=
 if s.e≠0 then(0,s)else((s.take g.1 g.2.1 g.2.2).1,(s.take g.1 g.2.1 g.2.2).2.must (inB (s.take g.1 g.2.1 g.2.2).1 lo hi))
def Rd.num(s:Rd)(lo hi:Int):Int×Rd:=s.got (Bk s.b) lo hi
def Rd.int(s:Rd)(lo hi:Int):Int×Rd:=s.got (yb8 s.b) lo hi
def Rd.byte(s:Rd):UInt8×Rd:=
 if s.e≠0 then(0,s)else match s.b with|[]=>(0,⟨[],11⟩)|c::l=>(c,⟨l,0⟩)
def Rd.same(s:Rd)(l:List UInt8):Rd:=l.foldl (λs c=>s.byte.2.must (s.byte.1==c)) s
def Rd.raw(s:Rd):List UInt8×Rd:=if s.e≠0 then([],s)else((Wa s.b).1,(s.take 0 (Wa s.b).2.1 (Wa s.b).2.2).2)
def Rd.fin(s:Rd):Rd:=s.must (s.b.length==0)
def Rd.idsGo:Nat->Rd->Int->List Int->List Int×Rd
 |0,s,_,l=>(l,s)
 |n+1,s,last,l=>if s.e≠0 then(l,s)else idsGo n (s.num (last+1) 1099511627776).2 (s.num (last+1) 1099511627776).1 (l++[(s.num (last+1) 1099511627776).1])
def Rd.ids(s:Rd):List Int×Rd:=idsGo (s.num 1 64).1.toNat (s.num 1 64).2 0 []
end Go.V
namespace Go.V
end Go.V
namespace Go.V
end Go.V
namespace Go.V
end Go.V
namespace Go.V
end Go.V
namespace Go.V
end Go.V
namespace Go.V
structure Ask29 where
 R:Rep
 X:List UInt8
def Cmd.sized(c:Cmd):Prop:=c.U.length<=140737488355328
def Frm.sized(f:Frm):Prop:=f.C.length<=140737488355328/\∀c∈f.C,c.sized
def Rep.sized(r:Rep):Prop:=r.G.T.length<=140737488355328/\r.F.length<=140737488355328/\∀f∈r.F,f.sized
def Ask29.sized(a:Ask29):Prop:=a.R.sized/\a.X.length<=140737488355328
end Go.V
namespace Go.V
end Go.V
namespace Go.V
section
variable {n a:Int}
def nrm(a:Int):Int:=if a< -9223372036854775807 then -9223372036854775807 else a
theorem zyi(n:Int):max2 n (Int.negSucc 9223372036854775806)=nrm n:=by
 have e:Int.negSucc 9223372036854775806=-9223372036854775807:=rfl
 unfold max2 nrm
 rw[e]
 by_cases h:n< -9223372036854775807
 ·simp[h]
 ·simp[h]
theorem j2(h:ya n):-9223372036854775807<=nrm n/\nrm n<=9223372036854775807:=by
 unfold ya at h
 unfold nrm
 split<;>omega
theorem ji(h:-9223372036854775807<=n):nrm n=n:=by unfold nrm;rw[if_neg (by omega)]
theorem zyh(n:Int):nrm (nrm n)=nrm n:=by unfold nrm;split<;>simp_all
def xo(s:Int):Int:=if s>9223372036854775807 then 9223372036854775807 else if s< -9223372036854775807 then -9223372036854775807 else s
def yy(a b:Int):Int:=xo (nrm a+nrm b)
def yn(a b:Int):Int:=yy a (-nrm b)
theorem Pz(s:Int):-9223372036854775807<=xo s/\xo s<=9223372036854775807:=by
 unfold xo;split
 ·omega
 ·split<;>omega
theorem Hx(a b:Int):-9223372036854775807<=yy a b/\yy a b<=9223372036854775807:=Pz _
theorem Kf(a b:Int):-9223372036854775807<=yn a b/\yn a b<=9223372036854775807:=Pz _
theorem Pq(a b:Int):ya (yy a b):=by have:=Hx a b;unfold ya;omega
theorem Gl(a b:Int):ya (yn a b):=by have:=Kf a b;unfold ya;omega
def asz(a:Int):Int:=if nrm a<0 then -nrm a else nrm a
theorem Gr(h:ya n):0<=asz n/\asz n<=9223372036854775807:=by
 have:=j2 h
 unfold asz;split<;>omega
def xz(n:Int):List AV:=[u64 (n/18446744073709551616),u64 (n%18446744073709551616)]
theorem Ky(v:Int):IntKind.u64.wrap v=v%18446744073709551616:=by simp[IntKind.wrap,IntKind.bits,IntKind.signed]
theorem Kw(h:0<=a):xp .and .u64 a 4294967295=a%4294967296:=by
 obtain⟨n,rfl⟩:=Fca h
 show IntKind.u64.wrap ((BitVec.ofInt 64 (n:Int) &&& BitVec.ofInt 64 (4294967295:Int)).toNat:Int)=_
 rw[Ky]
 have e1:BitVec.ofInt 64 (n:Int)=BitVec.ofNat 64 n:=BitVec.ofInt_natCast ..
 have e2:BitVec.ofInt 64 (4294967295:Int)=BitVec.ofNat 64 4294967295:=rfl
 rw[e1,e2,BitVec.toNat_and,BitVec.toNat_ofNat,BitVec.toNat_ofNat]
 have e3:(4294967295:Nat)%2^64=2^32-1:=by decide
 rw[e3,Nat.and_two_pow_sub_one_eq_mod]
 omega
theorem zry(a:Int):a.fdiv (2^(min (32:Int).toNat IntKind.u64.bits))=a/4294967296:=by
 have:(min (32:Int).toNat IntKind.u64.bits)=32:=by decide
 rw[this]
 rw[Fdo _ (by decide)]
 rfl
theorem zxr:(2:Int)^(min (32:Int).toNat IntKind.u64.bits)=4294967296:=by decide
theorem yda(a:Int):a.fdiv 4294967296=a/4294967296:=Fdo _ (by decide)
theorem Mx{hi lo:Int}(h1:hi=n/18446744073709551616)(h2:lo=n%18446744073709551616):[AV.s (.int .u64 hi),AV.s (.int .u64 lo)]=xz n:=by subst h1 h2;rfl
theorem zx8{b:Int}(ha:0<=a)(hb:0<=b)(hb2:b<4294967296):xp .or .u64 ((a*4294967296)%18446744073709551616) b=(a*4294967296)%18446744073709551616+b:=by
 have e:(a*4294967296)%18446744073709551616=(a%4294967296)*2^32:=by
  have:(2:Int)^32=4294967296:=by decide
  rw[this];omega
 obtain⟨q,hq⟩:=Fca (show 0<=a%4294967296 by omega)
 have e2:=@zx6 b q 32 hb (by simpa using hb2) (by rw[show(2:Int)^32=4294967296 by decide];omega)
 have comm:∀x y:Int,xp .or .u64 x y=xp .or .u64 y x:=by
  intro x y
  unfold xp
  simp only
  rw[BitVec.or_comm]
 rw[e,comm,hq,e2]
 omega
theorem eo(x y:Int)(hx:0<=x)(hx2:x<18446744073709551616)(hy:0<=y)(hy2:y<18446744073709551616):
  ∃p00 p10 p01 p11:Int,p00=(x%4294967296)*(y%4294967296)/\p10=(x/4294967296)*(y%4294967296)/\p01=(x%4294967296)*(y/4294967296)/\p11=(x/4294967296)*(y/4294967296)∧
   x*y=p11*18446744073709551616+(p10+p01)*4294967296+p00/\0<=p00/\p00<=18446744065119617025/\0<=p10/\p10<=18446744065119617025/\0<=p01/\p01<=18446744065119617025/\0<=p11/\p11<=18446744065119617025:=by
 have b:∀u v:Int,0<=u->u<=4294967295->0<=v->v<=4294967295->0<=u*v/\u*v<=18446744065119617025:=by
  intro u v h1 h2 h3 h4
  refine⟨Fay h1 h3,?_⟩
  have h5:u*v<=4294967295*4294967295:=Fbk h2 h4 h3 (by decide)
  exact h5
 refine⟨_,_,_,_,rfl,rfl,rfl,rfl,?_,?_⟩
 ·have h1:x=(x/4294967296)*4294967296+x%4294967296:=by omega
  have h2:y=(y/4294967296)*4294967296+y%4294967296:=by omega
  generalize x/4294967296=a at*
  generalize x%4294967296=b at*
  generalize y/4294967296=c at*
  generalize y%4294967296=d at*
  rw[h1,h2]
  simp only[Fd5,Fdt]
  have e1:a*4294967296*(c*4294967296)=a*c*18446744073709551616:=by
   rw[Fdn,Fcm 4294967296,Fdn c,<-Fdn a c];rfl
  have e2:a*4294967296*d=a*d*4294967296:=by rw[Fdn,Fcm 4294967296,Fdn]
  have e3:b*(c*4294967296)=b*c*4294967296:=by rw[Fdn]
  rw[e1,e2,e3]
  omega
 ·obtain⟨h1,h2⟩:=b (x%4294967296) (y%4294967296) (by omega) (by omega) (by omega) (by omega)
  obtain⟨h3,h4⟩:=b (x/4294967296) (y%4294967296) (by omega) (by omega) (by omega) (by omega)
  obtain⟨h5,h6⟩:=b (x%4294967296) (y/4294967296) (by omega) (by omega) (by omega) (by omega)
  obtain⟨h7,h8⟩:=b (x/4294967296) (y/4294967296) (by omega) (by omega) (by omega) (by omega)
  exact⟨h1,h2,h3,h4,h5,h6,h7,h8⟩
abbrev Vc:=Int×Int
def zy(p:Vc):List AV:=[int p.1,int p.2]
def Vc.ok(p:Vc):Prop:=ya p.1/\ya p.2
def qq(a b:Vc):Vc:=(yn a.1 b.1,yn a.2 b.2)
def sqr(v:Vc):Int:=asz v.1*asz v.1+asz v.2*asz v.2
def near(a b:Vc)(r:Int):Bool:=decide (0<r/\sqr (qq a b)<r*r)
end
end Go.V
namespace Go.V
def Store.un(a g:Store):Store:=
  ⟨λb=>match g.obj b with|some x=>some x|none=>a.obj b,λb=>match g.tok b with|some x=>some x|none=>a.tok b⟩
def Store.has(g:Store)(b:Nat):Prop:=g.obj b≠none\/g.tok b≠none
def zh(a g:Store):Prop:=∀b,a.has b->¬g.has b
theorem ww{g:Store}{b:Nat}(h:¬g.has b):g.obj b=none/\g.tok b=none:=by
  constructor
  · cases h1:g.obj b with
    |none=>rfl
    |some x=>exact absurd (Or.inl (by rw[h1];simp)) h
  · cases h1:g.tok b with
    |none=>rfl
    |some x=>exact absurd (Or.inr (by rw[h1];simp)) h
theorem jb{g:Store}{b:Nat}{x:AObj}(h:g.obj b=some x):g.has b:=.inl (by rw[h];simp)
theorem Hu{g:Store}{b:Nat}{x:Nat}(h:g.tok b=some x):g.has b:=.inr (by rw[h];simp)
theorem fresh_iff{g:Store}{b:Nat}:Fresh g b↔¬g.has b:=
  ⟨λ⟨h1,h2⟩ h=>h.elim (λh=>h h1) (λh=>h h2),ww⟩
theorem zf{a g:Store}{b:Nat}{x:AObj}(h:g.obj b=some x):(a.un g).obj b=some x:=by simp[Store.un,h]
theorem z8{a g:Store}{b:Nat}{x:AObj}(hd:zh a g)(h:a.obj b=some x):(a.un g).obj b=some x:=by
  simp[Store.un,(ww (hd b (jb h))).1,h]
theorem K1{a g:Store}{b:Nat}{x:Nat}(hd:zh a g)(h:a.tok b=some x):(a.un g).tok b=some x:=by
  simp[Store.un,(ww (hd b (Hu h))).2,h]
theorem D2{a g:Store}{b:Nat}{x:Nat}(h:g.tok b=some x):(a.un g).tok b=some x:=by simp[Store.un,h]
theorem dz{a g:Store}{b:Nat}{x:AObj}(h:(a.un g).obj b=some x):g.obj b=some x\/(g.obj b=none/\a.obj b=some x):=by
  simp only[Store.un]at h
  cases h1:g.obj b with
  |none=>rw[h1]at h;exact .inr ⟨rfl,h⟩
  |some y=>rw[h1]at h;exact .inl h
theorem dw{a g:Store}{b:Nat}{x:Nat}(h:(a.un g).tok b=some x):g.tok b=some x\/(g.tok b=none/\a.tok b=some x):=by
  simp only[Store.un]at h
  cases h1:g.tok b with
  |none=>rw[h1]at h;exact .inr ⟨rfl,h⟩
  |some y=>rw[h1]at h;exact .inl h
theorem un_has{a g:Store}{b:Nat}:(a.un g).has b↔a.has b\/g.has b:=by
  unfold Store.has Store.un
  simp only
  cases g.obj b<;>cases g.tok b<;>simp
section
variable {P:Program}
theorem ACalls.frame{f:FuncId}{xs:List AV}{a g:Store}{R R':Ja}(hd:zh a g)(h:ACalls P f xs a R)(hR:∀r a',R r a'->zh a' g->R' r (a'.un g)):ACalls P f xs (a.un g) R':=by
  refine⟨λOth M w vs sto hr=>?_⟩
  let gM:Nat->Nat->Prop:=λb o=>M b o/\g.has b
  let M1:Nat->Nat->Prop:=λb o=>M b o/\¬g.has b
  let O1:Nat->Nat->Prop:=λb o=>Oth b o\/gM b o
  have hT:(λ(b o:Nat)=>M1 b o\/O1 b o)=λb o=>M b o\/Oth b o:=by
    funext b o
    apply propext
    constructor
    · rintro(h|h|h)
      · exact .inl h.1
      · exact .inr h
      · exact .inl h.1
    · rintro(h|h)
      · by_cases hg:g.has b
        · exact .inr (.inr ⟨h,hg⟩)
        · exact .inl ⟨h,hg⟩
      · exact .inr (.inl h)
  have sto1:StoreOK a O1 M1 w:=
    { obj:=λb x hx=>by
        rw[hT]
        have:=sto.obj b x (z8 hd hx)
        exact⟨this.1,λo=>⟨this.2 o,hd b (jb hx)⟩⟩
      tok:=λb top hx=>by
        obtain⟨c,e,fr,h1,h2,h3,h4⟩:=sto.tok b top (K1 hd hx)
        exact⟨c,e,fr,h1,h2,h3,λo ho=>⟨h4 o ho,hd b (Hu hx)⟩⟩
      mlt:=λb o hm=>sto.mlt b o hm.1
      olt:=λb o hm=>by
        rcases hm with h|h
        · exact sto.olt b o h
        · exact sto.mlt b o h.1
      dis:=λb o hO hM=>by
        rcases hO with h|h
        · exact sto.dis b o h hM.1
        · exact hM.2 h.2}
  have h1:=h.out O1 M1 w vs sto1 (by rw[hT];exact hr)
  have key:∀v w',qn a R O1 M1 w v w'->qn (a.un g) R' Oth M w v w':=by
    rintro v w' ⟨r,a',M2,hRr,hv,hsto,hchg⟩
    let M':Nat->Nat->Prop:=λb o=>M2 b o\/gM b o
    have hT2:(λ(b o:Nat)=>M2 b o\/O1 b o)=λb o=>M' b o\/Oth b o:=by
      funext b o
      apply propext
      constructor
      · rintro(h|h|h)
        · exact .inl (.inl h)
        · exact .inr h
        · exact .inl (.inr h)
      · rintro((h|h)|h)
        · exact .inl h
        · exact .inr (.inr h)
        · exact .inr (.inl h)
    have hglt:∀b,g.has b->b<w.heap.size:=by
      intro b hb
      rcases hb with hb|hb
      · cases hx:g.obj b with
        |none=>exact absurd hx hb
        |some x=>exact sto.mlt b 0 ((sto.obj b x (zf hx)).2 0)
      · cases hx:g.tok b with
        |none=>exact absurd hx hb
        | some x=>
          obtain⟨c,e,fr,h1,_⟩:=sto.tok b x (D2 hx)
          exact j4 h1
    have hno:∀b o,M2 b o->¬g.has b:=λb o hm hg=>(hchg.sub b o hm (hglt b hg)).2 hg
    have hd':zh a' g:=by
      intro b hb
      rcases hb with hb|hb
      · cases hx:a'.obj b with
        |none=>exact absurd hx hb
        |some x=>exact hno b 0 ((hsto.obj b x hx).2 0)
      · cases hx:a'.tok b with
        |none=>exact absurd hx hb
        | some x=>
          obtain⟨c,e,fr,h1,h2,h3,h4⟩:=hsto.tok b x hx
          exact hno b x (h4 x (Fak _))
    have hblk:∀b,g.has b->w'.heap[b]?=w.heap[b]?:=λb hg=>hchg.blk b (hglt b hg) λo hm=>hm.2 hg
    refine⟨r,a'.un g,M',hR r a' hRr hd',by rw[hT2]at hv;exact hv,?_,?_⟩
    · refine{obj:=λb x hx=>?_,tok:=λb top hx=>?_,mlt:=λb o hm=>?_,olt:=λb o hm=>Nat.lt_of_lt_of_le (sto.olt b o hm) hchg.size,dis:=λb o hO hM=>?_}
      · rcases dz hx with hx|⟨_,hx⟩
        · have h5:=sto.obj b x (zf hx)
          have hk:=hchg.keeps (Oth:=O1)
          rw[hT,hT2]at hk
          exact⟨ObjRel.same h5.1 hk (hblk b (jb hx)),λo=>.inr ⟨h5.2 o,jb hx⟩⟩
        · have h5:=hsto.obj b x hx
          rw[hT2]at h5
          exact⟨h5.1,λo=>.inl (h5.2 o)⟩
      · rcases dw hx with hx|⟨_,hx⟩
        · obtain⟨c,e,fr,h1,h2,h3,h4⟩:=sto.tok b top (D2 hx)
          exact⟨c,e,fr,by rw[hblk b (Hu hx)];exact h1,h2,h3,λo ho=>.inr ⟨h4 o ho,Hu hx⟩⟩
        · obtain⟨c,e,fr,h1,h2,h3,h4⟩:=hsto.tok b top hx
          exact⟨c,e,fr,h1,h2,h3,λo ho=>.inl (h4 o ho)⟩
      · rcases hm with h|h
        · exact hsto.mlt b o h
        · exact Nat.lt_of_lt_of_le (sto.mlt b o h.1) hchg.size
      · rcases hM with h|h
        · exact hsto.dis b o (.inl hO) h
        · exact sto.dis b o hO h.1
    · exact
        { size:=hchg.size
          keep:=λb o hb hm=>hchg.keep b o hb λh=>hm h.1
          blk:=λb hb hm=>hchg.blk b hb λo h=>hm o h.1
          shp:=hchg.shp
          sub:=λb o hm hb=>by
            rcases hm with h|h
            · exact(hchg.sub b o h hb).1
            · exact h.1
          tape:=hchg.tape
          os:=hchg.os
          output:=hchg.output}
  generalize(callFunc f vs).run P w=res at h1
  cases res with
  | ok n w'=>
    cases n with
    |enter f' args=>exact Calls.mono h1 λe w'' ⟨v,he,hv⟩=>⟨v,he,key _ _ hv⟩
    |value v=>exact key _ _ h1
    |_=>exact h1
  |_=>exact h1
def flat(r:AV):Prop:=∀w T w' T' v,VRel w T r v->VRel w' T' r v
theorem Pm(v:Value):flat (.s v):=λ_ _ _ _ _ h=>by cases h;exact .s _
theorem ACalls.read{f:FuncId}{xs ys:List AV}{g:Store}{Q:AV->Prop}{R:Ja}
    (hb:∀Oth M w vs,StoreOK g Oth M w->Reads w (λb o=>M b o\/Oth b o) xs vs->Reads w (λb o=>(M b o\/Oth b o)/\g.obj b=none) ys vs)
    (h:ACalls P f ys Store.empty λr _=>Q r) (hf:∀r,Q r->flat r) (hR:∀r,Q r->R r g):ACalls P f xs g R:=by
  refine⟨λOth M w vs sto hr=>?_⟩
  let O1:Nat->Nat->Prop:=λb o=>(M b o\/Oth b o)/\g.obj b=none
  have sto0:StoreOK Store.empty O1 (λ_ _=>False) w:=
    {obj:=λb x hx=>(by cases hx),tok:=λb x hx=>(by cases hx),mlt:=λ_ _ h=>h.elim,olt:=λb o h=>Or.elim h.1 (sto.mlt b o) (sto.olt b o),dis:=λ_ _ _ h=>h}
  have h1:=h.out O1 (λ_ _=>False) w vs sto0 (by
    have e:(λ(b o:Nat)=>False\/O1 b o)=O1:=by funext b o;simp
    rw[e];exact hb Oth M w vs.toList sto hr)
  have key:∀v w',qn Store.empty (λr _=>Q r) O1 (λ_ _=>False) w v w'->qn g R Oth M w v w':=by
    rintro v w' ⟨r,a',M2,hQ,hv,hsto,hchg⟩
    have hg:Grow w w':=⟨hchg.size,λb hb=>hchg.blk b hb λ_ h=>h,hchg.tape,hchg.os,hchg.output⟩
    exact⟨r,g,M,hR r hQ,hf r hQ _ _ _ _ _ hv,sto.grow hg,hg.chg M⟩
  generalize(callFunc f vs).run P w=res at h1
  cases res with
  | ok n w'=>
    cases n with
    |enter f' args=>exact Calls.mono h1 λe w'' ⟨v,he,hv⟩=>⟨v,he,key _ _ hv⟩
    |value v=>exact key _ _ h1
    |_=>exact h1
  |_=>exact h1
theorem tu{w:World}{T:Nat->Nat->Prop}{b n cap k:Nat}{rows:List (List AV)}{pad:List AV}(ho:CellsRel w T (rows.flatten++pad) b){T':Nat->Nat->Prop}(hT:∀o,¬T' b o)(hn:rows.length=n)(hcap:n<=cap)
    (hk:∀row∈rows,row.length=k) (hall:∀row∈rows,∀x∈row,∃v,x=AV.s v/\qo v=true):VRel w T' (.lst k rows none) (.slice (some ⟨b,0,none⟩) n cap):=by
  obtain⟨cs,e0,fr,hb0,huf,hlen,hrel⟩:=ho
  subst hn
  have at1:∀(i:Nat) (row:List AV) (j:Nat) (x:AV),rows[i]?=some row->row[j]?=some x->∃v,x=.s v/\qo v=true/\cs[i*k+j]?=some v:=by
    intro i row j x hi hj
    obtain⟨v,rfl,hv⟩:=hall row (Fau hi) x (Fau hj)
    have h5:=Hw hk hi hj
    have hlt:=(Faf.1 h5).1
    have h6:(rows.flatten++pad)[i*k+j]?=some (.s v):=by rw[Fam hlt];exact h5
    have hlt2:i*k+j<cs.size:=by rw[<-hlen,Fag];omega
    have h7:=hrel _ _ cs[i*k+j] h6 (by simp[hlt2])
    have:cs[i*k+j]=v:=by generalize cs[i*k+j]=y at h7;cases h7;rfl
    exact⟨v,rfl,hv,by rw[<-this];simp[hlt2]⟩
  refine VRel.lst rows none b 0 cap k (λp=>cs.getD p undef) hcap (λi row hi=>hk row (Fau hi)) (λ_ h=>by cases h) (λi row j x hi hj=>?_) (λi row j x hi hj=>?_) (λi row j x hi hj=>?_)
  · obtain⟨v,rfl,hv,h5⟩:=at1 i row j x hi hj
    refine⟨?_,hT _⟩
    rw[Fbd]
    simp only[World.cell?,hb0]
    rw[Fav,h5]
    simp[h5]
  · obtain⟨v,rfl,hv,h5⟩:=at1 i row j x hi hj
    rw[Fav,h5];exact hv
  · obtain⟨v,rfl,hv,h5⟩:=at1 i row j x hi hj
    rw[Fav,h5];exact .s _
def AObj.le(x y:AObj):Prop:=∀w T b,ObjRel w T x b->ObjRel w T y b
structure Store.Le(st st':Store):Prop where
  obj:∀b y,st'.obj b=some y->∃x,st.obj b=some x/\AObj.le x y
  tok:∀b x,st'.tok b=some x->st.tok b=some x
theorem AObj.le_refl(x:AObj):AObj.le x x:=λ_ _ _ h=>h
theorem Store.Le.refl(st:Store):st.Le st:=⟨λb y h=>⟨y,h,AObj.le_refl y⟩,λ_ _ h=>h⟩
theorem Store.Has.toLe{st st':Store}(h:st.Has st'):st.Le st':=⟨λb y hy=>⟨y,h.obj b y hy,AObj.le_refl y⟩,h.tok⟩
theorem Store.Le.trans{a b c:Store}(h:a.Le b)(h':b.Le c):a.Le c:=
  ⟨λi z hz=>by
    obtain⟨y,hy,h2⟩:=h'.obj i z hz
    obtain⟨x,hx,h3⟩:=h.obj i y hy
    exact⟨x,hx,λw T b k=>h2 w T b (h3 w T b k)⟩,λi x hx=>h.tok i x (h'.tok i x hx)⟩
theorem AObj.le_cells{l l':List AV}(hl:l.length=l'.length)(h:∀(i:Nat) (x y:AV),l[i]?=some x->l'[i]?=some y->AV.le x y):AObj.le (.cells l) (.cells l'):=by
  rintro w T b ⟨c,e,fr,h1,h2,h3,h4⟩
  refine⟨c,e,fr,h1,h2,by omega,λi y v hy hv=>?_⟩
  have hi:i<l.length:=by have:=(Faf.1 hy).1;omega
  exact h i _ y (Fab hi) hy w T v (h4 i _ v (Fab hi) hv)
theorem StoreOK.weakenLe{st st':Store}{Oth M:Nat->Nat->Prop}{w:World}(h:StoreOK st Oth M w)(hh:st.Le st'):StoreOK st' Oth M w:=
  ⟨λb y k=>by
    obtain⟨x,hx,hle⟩:=hh.obj b y k
    exact⟨hle _ _ _ (h.obj b x hx).1,(h.obj b x hx).2⟩,λb x k=>h.tok b x (hh.tok b x k),h.mlt,h.olt,h.dis⟩
theorem ACalls.post{f:FuncId}{xs:List AV}{st st0:Store}{R R':Ja}(h:ACalls P f xs st0 R)(h0:st.Le st0)(hR:∀r st',R r st'->∃r' st'',AV.le r r'/\st'.Le st''/\R' r' st''):ACalls P f xs st R':=by
  refine⟨λOth M w vs sto hr=>?_⟩
  have h1:=h.out Oth M w vs (sto.weakenLe h0) hr
  have key:∀v w',qn st0 R Oth M w v w'->qn st R' Oth M w v w':=by
    rintro v w' ⟨r,a',M2,hQ,hv,hsto,hchg⟩
    obtain⟨r',st'',h2,h3,h4⟩:=hR r a' hQ
    exact⟨r',st'',M2,h4,h2 _ _ _ hv,hsto.weakenLe h3,hchg⟩
  generalize(callFunc f vs).run P w=res at h1
  cases res with
  | ok n w'=>
    cases n with
    |enter f' args=>exact Calls.mono h1 λe w'' ⟨v,he,hv⟩=>⟨v,he,key _ _ hv⟩
    |value v=>exact key _ _ h1
    |_=>exact h1
  |_=>exact h1
theorem ACalls.imp{f:FuncId}{xs:List AV}{st:Store}{R R':Ja}(h:ACalls P f xs st R)(hR:∀r st',R r st'->R' r st'):ACalls P f xs st R':=
  h.post (Store.Le.refl st) λr st' hr=>⟨r,st',AV.le_refl r,Store.Le.refl st',hR r st' hr⟩
theorem ACalls.of_calls {f : FuncId} {fn : Func} {code : Code} {xs : List AV} {st : Store} {R : Ja} (hf : P.funcs[f]? = some fn) (hb : fn.body = some code) (hname : (fn.name == "runtime.NumGoroutine") = false)
    (h:∀(Oth M:Nat->Nat->Prop) (w:World) (vs:Array Value),StoreOK st Oth M w->Reads w (λb o=>M b o\/Oth b o) xs vs.toList->Calls P f vs w λe w'=>∃v,e=.returned v/\qn st R Oth M w v w'):ACalls P f xs st R:=by
  refine⟨λOth M w vs sto hr=>?_⟩
  have hrun:(callFunc f vs).run P w=.ok (.enter f vs) w:=by
    have hne : ¬ fn.name = "runtime.NumGoroutine" := by simpa using hname
    simp[callFunc,run_program,hf,hne,hb]
  rw[hrun]
  exact h Oth M w vs sto hr
theorem ACalls.of_value{f:FuncId}{xs:List AV}{st:Store}{R:Ja}
    (h:∀(Oth M:Nat->Nat->Prop) (w:World) (vs:Array Value),StoreOK st Oth M w->Reads w (λb o=>M b o\/Oth b o) xs vs.toList->∃v w',(callFunc f vs).run P w=.ok (.value v) w'/\qn st R Oth M w v w'):ACalls P f xs st R:=by
  refine⟨λOth M w vs sto hr=>?_⟩
  obtain⟨v,w',h1,h2⟩:=h Oth M w vs sto hr
  rw[h1]
  exact h2
end
theorem AWp.meetA{P:Program}{c:Cfg}{σ:Type}(H:Meet σ){x y:Code}{Q:Exit->Fr->Store->Prop}{A:Fr}{st:Store}(hx:AWp P c x (Nd H.at Q) A st)
    (hy:∀s st',H.inv s st'->AWp P c y Q (Bz (H.t s) (H.bx s)) st'):AWp P c (.seq x y) Q A st:=by
  refine AWp.seq (hx.mono λe A' st' h=>?_)
  cases e with
  | normal=>
    obtain⟨s,h1,h2,h3⟩:=h
    exact AWp.weaken (hy s st' h1) h2 h3 (Store.Has.refl st')
  |_=>exact h
theorem AWp.cond{P:Program}{c:Cfg}{x:Operand}{p q:Code}{Q:Exit->Fr->Store->Prop}{A:Fr}{st:Store}(t:Bool)(ht:A.ev x=.av (.s (.bool t)))(h:Bb t (AWp P c p Q A st) (AWp P c q Q A st)):AWp P c (.cond x p q) Q A st:=by
  refine⟨λOth M a w sim=>?_⟩
  have hv:a.eval x=.bool t:=by
    obtain⟨β,s⟩:=sim
    exact VRel.eq_s (yz s.env ht)
  refine wpIn_cond hv ?_
  cases t with
  |true=>exact(AWp.out (show AWp P c p Q A st from h)) Oth M a w sim
  |false=>exact(AWp.out (show AWp P c q Q A st from h)) Oth M a w sim
section
variable {P:Program} {c:Cfg} {I:Info} {w:World} {T:Nat->Nat->Prop}
def od:Ty->Bool
  |.int _=>true
  |_=>false
def Ls(I:Info)(kt:TypeId)(k:AV):Bool:=
  match I kt with
  |none=>false
  | some i=>match i.ty,k with
    |.int _,_=>true
    |.bool,_=>true
    |.struct fs,.agg cs=>fs.all λf=>match I f.2 with|some j=>od j.ty&&(Bt j (cs.drop f.1)).isSome|none=>false
    |_,_=>false
theorem s9{kt:TypeId}{k:IntKind}(h:P.underlying kt=some (.int k))(v:Value)(e:Bool)(n:Nat):(Instr.checkKey e (n+1) kt v).run P w=.ok () w:=by
  unfold Instr.checkKey
  simp only[Sem.run_bind,yf h,Result.andThen_ok]
  cases v<;>simp
theorem yfj{kt:TypeId}(h:P.underlying kt=some .bool)(v:Value)(e:Bool)(n:Nat):(Instr.checkKey e (n+1) kt v).run P w=.ok () w:=by
  unfold Instr.checkKey
  simp only[Sem.run_bind,yf h,Result.andThen_ok]
  cases v<;>simp
theorem bc(hI:yp P I){kt:TypeId}{k:AV}{kv:Value}(h:Ls I kt k=true)(hv:VRel w T k kv)(e:Bool):(Instr.checkKey e 10000 kt kv).run P w=.ok () w:=by
  unfold Ls at h
  cases hi:I kt with
  |none=>rw[hi]at h;cases h
  | some i=>
    rw[hi]at h
    have ht:=hI kt i hi
    simp only at h
    split at h
    · rename_i k' hy;exact s9 (Ic ht hy) kv e 9999
    · rename_i hy;exact yfj (ed ht hy) kv e 9999
    · rename_i fs cs hy
      obtain⟨cv,rfl,hr⟩:=Dz hv
      obtain⟨a,ha1,ha2⟩:=K3 ht hy
      rw[show(10000:Nat)=9999+1 from rfl,Instr.checkKey]
      simp only[Sem.run_bind,yf ha1,Result.andThen_ok]
      rw[<-Array.forIn_toList]
      subst ha2
      clear ha1 hy
      generalize a.toList=L at h
      induction L with
      |nil=>simp
      | cons f L ih=>
        simp only[Fb6,List.all_cons,Fax]at h
        obtain⟨h1,h2⟩:=h
        cases hj:I f.type with
        |none=>simp[hj]at h1
        | some j=>
          simp only[hj,Fax]at h1
          obtain⟨h3,h4⟩:=h1
          obtain⟨x,hx⟩:=Option.isSome_iff_exists.1 h4
          obtain⟨v,r1,r2⟩:=Ll (hI _ _ hj) hr hx
          have hk:∃k,j.ty=.int k:=by
            unfold od at h3
            split at h3
            · rename_i k hk;exact⟨k,hk⟩
            · cases h3
          obtain⟨k,hk⟩:=hk
          have r3:=s9 (w:=w) (Ic (hI _ _ hj) hk) v e 9998
          by_cases hn : f.name = "_"
          · simp only[List.forIn_cons,Sem.run_bind,hn,ne_eq,not_true_eq_false,if_false,Result.andThen_ok,Sem.run_pure]
            exact ih h2
          · simp only[List.forIn_cons,Sem.run_bind,hn,ne_eq,not_false_eq_true,if_true,Result.andThen_ok,r1,r3,Sem.run_pure]
            exact ih h2
    · cases h
theorem zvh{kt:TypeId}{d:TypeDesc}(hd:P.underlying kt=some d){a b:Value}{r:Bool}(h:Instr.sameNow d a b=some r)(D:Nat):(Op.equalIn (D+1) kt a b).run P w=.ok r w:=by
  unfold Instr.sameNow at h
  split at h
  · split at h
    · rename_i hk
      cases h
      subst hk
      simp[Op.equalIn,yf hd]
    · cases h
  · cases h
    simp[Op.equalIn,yf hd]
  · cases h
    simp[Op.equalIn,yf hd]
  · cases h
theorem Wn(hI:yp P I){kt:TypeId}{k:AV}{kv:Value}(hv:VRel w T k kv)(q:AV×AV->Bool){es:List (AV×AV)}{ms:List MapEntry}(hl:es.length=ms.length)
    (hr:∀(i:Nat) (x:AV×AV) (y:MapEntry),es[i]?=some x->ms[i]?=some y->VRel w T x.1 y.key) (hq:∀e∈es,Cf I 5 kt k e.1=some (q e)) (hkt:(I kt).isSome):
    ∃r,(Instr.findKey kt kv ms).run P w=.ok r w/\((r=none/\es.findIdx? q=none)\/∃i e m,r=some (i,m.val)/\es.findIdx? q=some i/\es[i]?=some e/\ms[i]?=some m/\q e=true):=by
  have eqrun:∀(i:Nat) (e:AV×AV) (m:MapEntry),es[i]?=some e->ms[i]?=some m->(Op.equal kt kv m.key).run P w=.ok (q e) w:=λi e m he hm=>
    rl hI 5 kt k e.1 (q e) (hq e (Fau he)) 10000 (by omega) kv m.key hv (hr i e m he hm)
  obtain⟨ik,hik⟩:=Option.isSome_iff_exists.1 hkt
  obtain⟨d,hd,_⟩:=(hI kt ik hik).und
  have same:∀(i:Nat) (e:AV×AV) (m:MapEntry) (b:Bool),es[i]?=some e->ms[i]?=some m->Instr.sameNow d kv m.key=some b->b=q e:=by
    intro i e m b he hm hs
    have h1:=eqrun i e m he hm
    have h2:(Op.equal kt kv m.key).run P w=.ok b w:=zvh hd hs 9999
    rw[h1]at h2
    cases h2;rfl
  have res:∀(es:List (AV×AV)) (ms:List MapEntry) (i0:Nat),es.length=ms.length->
      (∀(i:Nat) (e:AV×AV) (m:MapEntry),es[i]?=some e->ms[i]?=some m->(Op.equal kt kv m.key).run P w=.ok (q e) w/\∀b,Instr.sameNow d kv m.key=some b->b=q e)->
      ∃ r,((r=none/\es.findIdx? q=none)\/∃i e m,r=some (i0+i,m.val)/\es.findIdx? q=some i/\es[i]?=some e/\ms[i]?=some m/\q e=true)/\(Instr.findAsking kt kv ms i0).run P w=.ok r w∧
        ∀r',Instr.findNow d kv ms i0=some r'->r'=r:=by
    intro es
    induction es with
    | nil=>
      intro ms i0 hl _
      cases ms with
      |cons m ms=>simp at hl
      |nil=>exact⟨none,.inl ⟨rfl,by simp⟩,by simp[Instr.findAsking],λr' h=>by simp[Instr.findNow]at h;exact h.symm⟩
    | cons e es ih=>
      intro ms i0 hl hall
      cases ms with
      |nil=>simp at hl
      | cons m ms=>
        obtain⟨h1,h2⟩:=hall 0 e m rfl rfl
        cases hqe:q e with
        | true=>
          rw[hqe]at h1 h2
          refine⟨some (i0,m.val),.inr ⟨0,e,m,rfl,by simp[Fdx,hqe],rfl,rfl,hqe⟩,?_,λr' h=>?_⟩
          · rw[Instr.findAsking]
            simp[h1]
          · unfold Instr.findNow at h
            cases hs:Instr.sameNow d kv m.key with
            |none=>rw[hs]at h;cases h
            | some b=>
              obtain rfl:=h2 b hs
              rw[hs]at h
              simp at h
              exact h.symm
        | false=>
          rw[hqe]at h1 h2
          obtain⟨r,h3,h4,h5⟩:=ih ms (i0+1) (by simpa using hl) λi e' m' he hm=>hall (i+1) e' m' he hm
          refine⟨r,?_,?_,λr' h=>?_⟩
          · rcases h3 with⟨h6,h7⟩|⟨i,e',m',h6,h7,h8,h9,h10⟩
            · exact .inl ⟨h6,by simp[Fdx,hqe,h7]⟩
            · exact .inr ⟨i+1,e',m',by rw[h6];simp;omega,by simp[Fdx,hqe,h7],h8,h9,h10⟩
          · rw[Instr.findAsking]
            simp[h1,h4]
          · unfold Instr.findNow at h
            cases hs:Instr.sameNow d kv m.key with
            |none=>rw[hs]at h;cases h
            | some b=>
              obtain rfl:=h2 b hs
              rw[hs]at h
              exact h5 r' h
  obtain⟨r,h1,h2,h3⟩:=res es ms 0 hl λi e m he hm=>⟨eqrun i e m he hm,λb=>same i e m b he hm⟩
  refine⟨r,?_,?_⟩
  · unfold Instr.findKey
    simp only[Sem.run_bind,yf hd,Result.andThen_ok]
    cases hf:Instr.findNow d kv ms 0 with
    |none=>exact h2
    |some r'=>rw[h3 r' hf];rfl
  · rcases h1 with h1|⟨i,e,m,h4,h5⟩
    · exact .inl h1
    · exact .inr ⟨i,e,m,by rw[h4];simp,h5⟩
def Bo(i:TI):AV:=bif Au i.ty then .agg (i.zero.map AV.s)else match i.zero with|v::_=>.s v|[]=>.any
theorem zai{t:TypeId}{i:TI}(h:TIok P t i)(w:World)(T:Nat->Nat->Prop):∃z,(zeroValue t).run P w=.ok z w/\VRel w T (Bo i) z:=by
  obtain⟨inf,h1,_,_,z,h2,h3⟩:=h.info
  refine⟨z,by simp[zeroValue,typeInfo,h1,h2],?_⟩
  unfold Bo
  rcases h.zag inf z h1 h2 with⟨h4,cs,rfl⟩|⟨h4,h5⟩
  · rw[h4]
    refine K0 ?_
    have:i.zero=cs.toList:=h3.symm
    rw[this]
    exact Reads.map_s _
  · rw[h4,h5]
    exact .s _
end
section
variable {P:Program} {c:Cfg} {w:World} {st:Store} {Oth M:Nat->Nat->Prop}
theorem Ht{b:Nat}{old:Obj}(new:Obj)(hb:w.heap[b]?=some old):(w.heap.setIfInBounds b new)[b]?=some new:=by
  have hlt:b<w.heap.size:=(Fbl.1 hb).1
  simp[hlt]
theorem Lx{b b':Nat}(new:Obj)(h:b'≠b):(w.heap.setIfInBounds b new)[b']?=w.heap[b']?:=by
  simp[Ne.symm h]
theorem Bf{r:Nat}{es:Array MapEntry}{clock:Nat}(hb:w.heap[r]?=some (.map es clock)):(getObj r).run P w=.ok (.map es clock) w:=by
  simp[getObj,Sem.run,hb]
theorem Lc{r:Nat}{es:Array MapEntry}{clock:Nat}(o:Obj)(hb:w.heap[r]?=some (.map es clock)):(setObj r o).run P w=.ok () {w with heap:=w.heap.setIfInBounds r o}:=by
  simp[setObj,Sem.run,hb]
def H2:Obj->Prop
  |.cells ..=>False
  |_=>True
theorem tf{b:Nat}{old new:Obj}(hb:w.heap[b]?=some old)(ho:H2 old)(hn:H2 new)(a:Addr):World.cell? {w with heap:=w.heap.setIfInBounds b new} a=w.cell? a:=by
  simp only[World.cell?]
  by_cases h:a.block=b
  · rw[h,Ht new hb,hb]
    cases old<;>cases new<;>simp_all [H2]
  · rw[Lx new h]
theorem Hq{b:Nat}{old new:Obj}(hb:w.heap[b]?=some old)(ho:H2 old)(hn:H2 new)(T:Nat->Nat->Prop):Keeps w T {w with heap:=w.heap.setIfInBounds b new} T where
  cell b' o c hc _:=by rw[tf hb ho hn];exact hc
  out _ _ _ _ h:=h
  shp b' c e fr h:=by
    by_cases hbb:b'=b
    · subst hbb;rw[hb]at h;cases h;exact ho.elim
    · exact⟨c,fr,by rw[<-h];exact Lx new hbb,rfl⟩
theorem Ih(sto:StoreOK st Oth M w){b:Nat}{old new:Obj}{x y:AObj}(hx:st.obj b=some x)(hb:w.heap[b]?=some old)(ho:H2 old)(hn:H2 new)
    (hy:ObjRel {w with heap:=w.heap.setIfInBounds b new} (λb o=>M b o\/Oth b o) y b):
    StoreOK (st.sO b y) Oth M {w with heap:=w.heap.setIfInBounds b new}/\Chg M w M {w with heap:=w.heap.setIfInBounds b new}:=by
  have hk:=Hq hb ho hn (λb o=>M b o\/Oth b o)
  have hM:=(sto.obj b x hx).2
  refine⟨{obj:=λb' z hz=>?_,tok:=λb' top ht=>?_,mlt:=λb' o hm=>?_,olt:=λb' o hm=>?_,dis:=sto.dis},?_⟩
  · by_cases hbb:b'=b
    · subst hbb
      rw[zd]at hz
      cases hz
      exact⟨hy,hM⟩
    · rw[zg hbb]at hz
      exact⟨ObjRel.same (sto.obj b' z hz).1 hk (Lx new hbb),(sto.obj b' z hz).2⟩
  · obtain⟨c,e,fr,h1,h2⟩:=sto.tok b' top ht
    have hbb:b'≠b:=λe=>by rw[e,hb]at h1;cases h1;exact ho.elim
    exact⟨c,e,fr,by rw[<-h1];exact Lx new hbb,h2⟩
  · have:=sto.mlt b' o hm;simpa using this
  · have:=sto.olt b' o hm;simpa using this
  · exact { size:=by simp
            keep:=λb' o hb' _=>tf hb ho hn _
            blk:=λb' hb' hm=>by
              have hbb:b'≠b:=λe=>hm 0 (e▸hM 0)
              exact Lx new hbb
            shp:=λb' c e fr h=>(Hq hb ho hn (λ_ _=>False)).shp b' c e fr h
            sub:=λ_ _ h _=>h
            tape:=rfl,os:=rfl,output:=rfl}
theorem pt{α:Type}{q:α->Bool}:∀{l:List α} {i:Nat} {e:α},l.findIdx? q=some i->l[i]?=some e->l.find? q=some e:=by
  intro l
  induction l with
  |nil=>intro i e h;simp at h
  | cons a l ih=>
    intro i e h he
    rw[Fdx]at h
    cases hq:q a with
    |true=>rw[hq]at h;simp at h;subst h;simp at he;subst he;simp[Fdf,hq]
    | false=>
      rw[hq]at h
      simp only[Fad,if_false,Option.map_eq_some_iff]at h
      obtain⟨j,hj,rfl⟩:=h
      rw[Fdf,hq]
      exact ih hj (by simpa using he)
theorem pr{α:Type}{q:α->Bool}{l:List α}(h:l.findIdx? q=none):l.find? q=none:=by
  rw[Fbq]at h
  rw[Fcu]
  intro x hx
  simp[h x hx]
def Ct(ok:Bool)(z:AV)(r:Option (AV×AV)):AV:=
  match ok,r with
  |true,some e=>.tup [e.2,.s (.bool true)]
  |true,none=>.tup [z,.s (.bool false)]
  |false,some e=>e.2
  |false,none=>z
theorem dc{T:Nat->Nat->Prop}{x:AV}{v:Value}(b:Bool)(h:VRel w T x v):VRel w T (.tup [x,.s (.bool b)]) (.tuple #[v,.bool b]):=
  j8 (Reads.cons h (Reads.cons (.s _) Reads.nil))
theorem Lg{T:Nat->Nat->Prop}{x y:AV}{vs:List Value}(h:Reads w T [x,y] vs):∃u v,vs=[u,v]/\VRel w T x u/\VRel w T y v:=by
  obtain⟨h1,h2⟩:=h
  match vs,h1 with
  |[u,v],_=>exact⟨u,v,rfl,h2 0 x u rfl rfl,h2 1 y v rfl rfl⟩
theorem iz{T:Nat->Nat->Prop}{x y z:AV}{vs:List Value}(h:Reads w T [x,y,z] vs):∃u v t,vs=[u,v,t]/\VRel w T x u/\VRel w T y v/\VRel w T z t:=by
  obtain⟨h1,h2⟩:=h
  match vs,h1 with
  |[u,v,t],_=>exact⟨u,v,t,rfl,h2 0 x u rfl rfl,h2 1 y v rfl rfl,h2 2 z t rfl rfl⟩
theorem Iz{T:Nat->Nat->Prop}{x:AV}{vs:List Value}(h:Reads w T [x] vs):∃u,vs=[u]/\VRel w T x u:=by
  obtain⟨h1,h2⟩:=h
  match vs,h1 with
  |[u],_=>exact⟨u,rfl,h2 0 x u rfl rfl⟩
theorem vo{o:Oper}{t kt e:TypeId}{x ix:Operand}{ok:Bool}(ho:o.op=.lookup t x ix ok){it ie ik:TI}(hit:c.I t=some it)(hty:it.ty=.map kt e)(hie:c.I e=some ie)(hik:c.I kt=some ik)
    {m clk:Nat} {es:List (AV×AV)} {bs:List Nat} {k:AV} (hm:st.obj m=some (.map es bs clk)) (hk:Ls c.I kt k=true) (q:AV×AV->Bool) (hq:∀e∈es,Cf c.I 5 kt k e.1=some (q e))
    {R:Ja} (h:R (Ct ok (Bo ie) (es.find? q)) st):AEff P c o [.s (.map (some m)),k] st R:=by
  refine⟨λOth M w ρ hI sto hr=>?_⟩
  rw[ho]at hr
  have hr:Reads w (λb o=>M b o\/Oth b o) [.s (.map (some m)),k] [ρ x,ρ ix]:=by simpa [Op.operands]using hr
  obtain⟨u,v,he,h1,h2⟩:=Lg hr
  simp only[Fcr,and_true]at he
  obtain⟨hu,hv⟩:=he
  rw[<-hu]at h1
  rw[<-hv]at h2
  have h1:=VRel.eq_s h1
  obtain⟨⟨ms,g1,g2,g3,g4⟩,hM⟩:=sto.obj m _ hm
  obtain⟨r,r1,r2⟩:=Wn (kt:=kt) (k:=k) (kv:=ρ ix) hI h2 q (es:=es) (ms:=ms.toList) (by simpa using g2) (λi x y hx hy=>(g3 i x y hx (by simpa using hy)).1) hq (by rw[hik];rfl)
  obtain⟨z,z1,z2⟩:=zai (hI _ _ hie) w (λb o=>M b o\/Oth b o)
  have hck:=bc hI hk h2 ms.isEmpty
  have hu:=yf (P:=P) (G5 (hI _ _ hit) hty)
  have done:∀val:Value,VRel w (λb o=>M b o\/Oth b o) (Ct ok (Bo ie) (es.find? q)) val->(execOp ρ o).run P w=.ok (.value val) w->
      match(execOp ρ o).run P w with
      |.ok (.value v) w'=>qn st R Oth M w v w'
      |.ok .skip w'=>o.dst=none/\qn st R Oth M w (.tuple #[]) w'
      |_=>False:=by
    intro val hval hrun
    rw[hrun]
    exact⟨_,st,M,h,hval,sto,Chg.refl _ _⟩
  rcases r2 with⟨rfl,r3⟩|⟨i,en,me,rfl,r3,r4,r5,r6⟩
  · rw[pr r3]at done
    cases ok with
    |true=>exact done _ (dc false z2) (by simp[execOp,ho,Instr.lookup,hu,h1,Bf g1,hck,r1,z1])
    |false=>exact done _ z2 (by simp[execOp,ho,Instr.lookup,hu,h1,Bf g1,hck,r1,z1])
  · have hval:=(g3 i en me r4 (by simpa using r5)).2
    rw[pt r3 r4]at done
    cases ok with
    |true=>exact done _ (dc true hval) (by simp[execOp,ho,Instr.lookup,hu,h1,Bf g1,hck,r1])
    |false=>exact done _ hval (by simp[execOp,ho,Instr.lookup,hu,h1,Bf g1,hck,r1])
def V1:AV->Bool
  |.s (.int _ _)=>true
  |.s (.bool _)=>true
  |.agg cs=>cs.all λ|.s (.int _ _)=>true|_=>false
  |_=>false
theorem ny{T T':Nat->Nat->Prop}{w':World}{k:AV}{u v:Value}(hk:V1 k=true)(hu:VRel w T k u)(hv:VRel w' T' k v):u=v/\∀n,Instr.sameBits (n+1) u u=true:=by
  unfold V1 at hk
  split at hk
  · rw[VRel.eq_s hu,VRel.eq_s hv];exact⟨rfl,λn=>by simp[Instr.sameBits]⟩
  · rw[VRel.eq_s hu,VRel.eq_s hv];exact⟨rfl,λn=>by simp[Instr.sameBits]⟩
  · rename_i cs
    obtain⟨c1,rfl,h1⟩:=Dz hu
    obtain⟨c2,rfl,h2⟩:=Dz hv
    have hint:∀(i:Nat) (y:AV),cs[i]?=some y->∃k n,y=.s (.int k n):=by
      intro i y hy
      have:=Fb5.1 hk y (Fau hy)
      split at this
      · exact⟨_,_,rfl⟩
      · cases this
    have heq:c1=c2:=by
      apply Array.ext_getElem?
      intro i
      have e1:=h1.1
      have e2:=h2.1
      simp only[Fb4]at e1 e2
      by_cases hi:i<cs.length
      · obtain⟨k,n,hy⟩:=hint i cs[i] (Fab hi)
        have h3:=h1.2 i cs[i] c1[i] (Fab hi) (by simp)
        have h4:=h2.2 i cs[i] c2[i] (Fab hi) (by simp)
        rw[hy]at h3 h4
        rw[Fa5 (by omega),Fa5 (by omega),VRel.eq_s h3,VRel.eq_s h4]
      · rw[Array.getElem?_eq_none (by omega),Array.getElem?_eq_none (by omega)]
    refine⟨by rw[heq],λn=>?_⟩
    have hall:∀y∈c1.toList,∃k n,y=.int k n:=by
      intro y hy
      obtain⟨i,hi,rfl⟩:=Fai hy
      have hi':i<cs.length:=by rw[h1.1];exact hi
      obtain⟨k,n,hx⟩:=hint i cs[i] (Fab hi')
      have h3:=h1.2 i cs[i] _ (Fab hi') (Fab hi)
      rw[hx]at h3
      exact⟨k,n,VRel.eq_s h3⟩
    rw[Instr.sameBits]
    simp only[beq_self_eq_true,Bool.true_and]
    generalize c1.toList=L at hall
    clear heq h1 h2 hu hv
    induction L with
    |nil=>simp
    | cons a L ih=>
      obtain⟨k,m,rfl⟩:=hall a (by simp)
      simp only[List.zip_cons_cons,List.all_cons,Fax]
      refine⟨?_,ih λy hy=>hall y (by simp[hy])⟩
      cases n<;>simp[Instr.sameBits]
  · cases hk
def j3(es:List (AV×AV))(bs:List Nat)(clk:Nat)(q:AV×AV->Bool)(k v:AV):AObj:=
  match es.findIdx? q with
  |some i=>.map (es.set i (k,v)) bs clk
  |none=>.map (es++[(k,v)]) (bs++[clk]) (clk+1)
theorem Ci{o:Oper}{t kt e:TypeId}{x ix y:Operand}(ho:o.op=.mapUpdate t x ix y\/o.op=.insert t x ix y)(hd:o.dst=none){it ik:TI}(hit:c.I t=some it)(hty:it.ty=.map kt e)(hik:c.I kt=some ik)
    {m clk:Nat} {es:List (AV×AV)} {bs:List Nat} {k v:AV} (hm:st.obj m=some (.map es bs clk)) (hk:Ls c.I kt k=true) (hdet:V1 k=true) (q:AV×AV->Bool) (hq:∀e∈es,Cf c.I 5 kt k e.1=some (q e))
    (hsame:∀e∈es,q e=true->e.1=k) {R:Ja} (h:R (.tup []) (st.sO m (j3 es bs clk q k v))):AEff P c o [.s (.map (some m)),k,v] st R:=by
  refine⟨λOth M w ρ hI sto hr=>?_⟩
  have hops:o.op.operands=#[x,ix,y]:=by rcases ho with ho|ho<;>rw[ho]<;>rfl
  rw[hops]at hr
  have hr:Reads w (λb o=>M b o\/Oth b o) [.s (.map (some m)),k,v] [ρ x,ρ ix,ρ y]:=by simpa using hr
  obtain⟨u,v',t',he,h1,h2,h3⟩:=iz hr
  simp only[Fcr,and_true]at he
  obtain⟨hu,hv,ht'⟩:=he
  rw[<-hu]at h1
  rw[<-hv]at h2
  rw[<-ht']at h3
  have h1:=VRel.eq_s h1
  obtain⟨⟨ms,g1,g2,g3,g4,g5,g6⟩,hM⟩:=sto.obj m _ hm
  obtain⟨r,r1,r2⟩:=Wn (kt:=kt) (k:=k) (kv:=ρ ix) hI h2 q (es:=es) (ms:=ms.toList) (by simpa using g2) (λi x y hx hy=>(g3 i x y hx (by simpa using hy)).1) hq (by rw[hik];rfl)
  have hck:=bc hI hk h2 false
  have hund:=yf (P:=P) (G5 (hI _ _ hit) hty)
  have done:∀w',(execOp ρ o).run P w=.ok .skip w'->(StoreOK (st.sO m (j3 es bs clk q k v)) Oth M w'/\Chg M w M w')->
      match(execOp ρ o).run P w with
      |.ok (.value v) w'=>qn st R Oth M w v w'
      |.ok .skip w'=>o.dst=none/\qn st R Oth M w (.tuple #[]) w'
      |_=>False:=by
    intro w' hrun hok
    rw[hrun]
    exact⟨hd,_,_,M,h,j8 Reads.nil,hok.1,hok.2⟩
  have hexec:(execOp ρ o).run P w=((Instr.mapUpdate t (ρ x) (ρ ix) (ρ y)).run P w).andThen λ_ w'=>.ok .skip w':=by
    rcases ho with ho|ho<;>simp[execOp,ho]
  rcases r2 with⟨rfl,r3⟩|⟨i,en,me,rfl,r3,r4,r5,r6⟩
  · refine done {w with heap:=w.heap.setIfInBounds m (.map (ms.push {key:=ρ ix,val:=ρ y,born:=clk}) (clk+1))} ?_ ?_
    · rw[hexec]
      simp[Instr.mapUpdate,hund,h1,Bf g1,hck,r1,Lc _ g1]
    · refine Ih sto hm g1 trivial trivial ?_
      unfold j3
      rw[r3]
      have hkp:=Hq (new:=.map (ms.push {key:=ρ ix,val:=ρ y,born:=clk}) (clk+1)) g1 trivial trivial (λb o=>M b o\/Oth b o)
      refine⟨_,Ht _ g1,by simp[g2],λi x' y' hx hy=>?_,by simp[g4],λt ht=>?_,?_⟩
      · by_cases hi:i<es.length
        · rw[Fam hi]at hx
          rw[Array.getElem?_push_lt (by omega)]at hy
          have hy:ms[i]?=some y':=by rw[<-hy];simp
          exact⟨(g3 i x' y' hx hy).1.keep hkp,(g3 i x' y' hx hy).2.keep hkp⟩
        · rw[Faw (by omega)]at hx
          have hi2:i=es.length:=by
            have:=(Faf.1 hx).1
            simp at this;omega
          subst hi2
          rw[g2,Array.getElem?_push_size]at hy
          simp at hx hy
          subst hx hy
          exact⟨h2.keep hkp,h3.keep hkp⟩
      · rcases Fal.1 ht with ht|ht
        · have:=g5 t ht;omega
        · simp at ht;omega
      · rw[List.pairwise_append]
        refine⟨g6,by simp,λa ha b hb=>?_⟩
        simp at hb
        subst hb
        exact g5 a ha
  · have hme:ms[i]?=some me:=by simpa using r5
    have hkey:me.key=ρ ix:=by
      have:=(g3 i en me r4 hme).1
      rw[hsame en (Fau r4) r6]at this
      exact(ny hdet this h2).1
    have hsb:=(ny hdet h2 h2).2 9999
    have hstay:(Instr.keyThatStays (((ms[i]?).map (·.key)).getD (ρ ix)) (ρ ix)).run P w=.ok (ρ ix) w:=by
      rw[hme]
      simp only[Fee,Few,hkey,Instr.keyThatStays]
      rw[if_pos hsb];rfl
    refine done {w with heap:=w.heap.setIfInBounds m (.map (ms.modify i λe=>{e with key:=ρ ix,val:=ρ y}) clk)} ?_ ?_
    · rw[hexec]
      simp only[Instr.mapUpdate,Sem.run_bind,hund,Result.andThen_ok,h1,Bf g1,hck,r1,hstay,Lc _ g1]
    · refine Ih sto hm g1 trivial trivial ?_
      unfold j3
      rw[r3]
      have hkp:=Hq (new:=.map (ms.modify i λe=>{e with key:=ρ ix,val:=ρ y}) clk) g1 trivial trivial (λb o=>M b o\/Oth b o)
      refine⟨_,Ht _ g1,by simp[g2],λj x' y' hx hy=>?_,?_,g5,g6⟩
      · rw[Fct]at hy
        by_cases hij:i=j
        · subst hij
          rw[if_pos rfl,hme]at hy
          simp at hy
          rw[Fd0 (Faf.1 r4).1]at hx
          simp at hx
          subst hx hy
          exact⟨h2.keep hkp,h3.keep hkp⟩
        · rw[if_neg hij]at hy
          rw[Fdp hij]at hx
          exact⟨(g3 j x' y' hx hy).1.keep hkp,(g3 j x' y' hx hy).2.keep hkp⟩
      · rw[g4]
        apply Fb9
        intro j
        simp only[Fap,Fb1,Fct]
        by_cases hij:i=j
        · subst hij;rw[if_pos rfl];cases ms[i]?<;>rfl
        · rw[if_neg hij]
end
section
variable {P:Program} {c:Cfg} {w:World} {st:Store} {Oth M:Nat->Nat->Prop}
theorem Vi(sto:StoreOK st Oth M w)(new:Obj){y:AObj}(hy:ObjRel (w.alloc new) (λb o=>jm M w.heap.size b o\/Oth b o) y w.heap.size):
    Fresh st w.heap.size/\StoreOK (st.sO w.heap.size y) Oth (jm M w.heap.size) (w.alloc new)/\Chg M w (jm M w.heap.size) (w.alloc new):=by
  refine⟨sto.fresh (Fak _),?_,Gp w new M⟩
  have h:=sto.alloc new
  refine{obj:=λb z hz=>?_,tok:=h.tok,mlt:=h.mlt,olt:=h.olt,dis:=h.dis}
  by_cases hb:b=w.heap.size
  · subst hb
    rw[zd]at hz
    cases hz
    exact⟨hy,λo=>.inr rfl⟩
  · rw[zg hb]at hz
    exact h.obj b z hz
theorem Fs{o:Oper}{t:TypeId}(ho:o.op=.makeMap t none){R:Ja}
    (h:∀b,Fresh st b->R (.s (.map (some b))) (st.sO b (.map [] [] 0))):AEff P c o [] st R:=by
  refine⟨λOth M w ρ hI sto hr=>?_⟩
  have hrun:(execOp ρ o).run P w=.ok (.value (.map (some w.heap.size))) (w.alloc (.map #[] 0)):=by
    simp[execOp,ho,Instr.makeMap]
  rw[hrun]
  obtain⟨h1,h2,h3⟩:=Vi sto (.map #[] 0) (y:=.map [] [] 0) ⟨#[],Gi w _,rfl,λi x y hx=>by simp at hx,rfl,by simp,List.Pairwise.nil⟩
  exact⟨_,_,_,h _ h1,.s _,h2,h3⟩
def Ca(es:List (AV×AV))(bs:List Nat)(clk:Nat)(q:AV×AV->Bool):AObj:=
  match es.findIdx? q with
  |some i=>.map (es.eraseIdx i) (bs.eraseIdx i) clk
  |none=>.map es bs clk
theorem getElem?_eraseIdx'{α:Type}(l:List α)(i j:Nat):(l.eraseIdx i)[j]?=if j<i then l[j]? else l[j+1]?:=Fd1
theorem Pr{α β:Type}(f:α->β):∀(l:List α) (i:Nat),(l.map f).eraseIdx i=(l.eraseIdx i).map f
  |[],_=>rfl
  |_::_,0=>rfl
  |a::l,i+1=>by simp[Pr f l i]
theorem Rf{o:Oper}{cl:Call}{t kt e:TypeId}{x ix:Operand}(ho:o.op=.call cl)(hcl:cl.callee=.builtin .delete)(hargs:cl.args=#[x,ix])(hat:cl.argTypes[0]?=some t)
    {it ik:TI} (hit:c.I t=some it) (hty:it.ty=.map kt e) (hik:c.I kt=some ik)
    {m clk:Nat} {es:List (AV×AV)} {bs:List Nat} {k:AV} (hm:st.obj m=some (.map es bs clk)) (hk:Ls c.I kt k=true) (q:AV×AV->Bool) (hq:∀e∈es,Cf c.I 5 kt k e.1=some (q e))
    {R:Ja} (h:R (.tup []) (st.sO m (Ca es bs clk q))):AEff P c o [.s (.map (some m)),k] st R:=by
  refine⟨λOth M w ρ hI sto hr=>?_⟩
  have hops:o.op.operands=#[x,ix]:=by rw[ho];simp[Op.operands,Call.operands,hcl,hargs]
  rw[hops]at hr
  have hr:Reads w (λb o=>M b o\/Oth b o) [.s (.map (some m)),k] [ρ x,ρ ix]:=by simpa using hr
  obtain⟨u,v',he,h1,h2⟩:=Lg hr
  simp only[Fcr,and_true]at he
  obtain⟨hu,hv⟩:=he
  rw[<-hu]at h1
  rw[<-hv]at h2
  have h1:=VRel.eq_s h1
  obtain⟨⟨ms,g1,g2,g3,g4,g5,g6⟩,hM⟩:=sto.obj m _ hm
  obtain⟨r,r1,r2⟩:=Wn (kt:=kt) (k:=k) (kv:=ρ ix) hI h2 q (es:=es) (ms:=ms.toList) (by simpa using g2) (λi x y hx hy=>(g3 i x y hx (by simpa using hy)).1) hq (by rw[hik];rfl)
  have hck:=bc hI hk h2 ms.isEmpty
  have hund:=yf (P:=P) (G5 (hI _ _ hit) hty)
  have hexec:(execOp ρ o).run P w=((Builtin.delete_ cl.argTypes o.type #[ρ x,ρ ix]).run P w).andThen λv w'=>.ok (.value v) w':=by
    simp[execOp,ho,resolve,hcl,invoke,builtin,hargs]
  have done:∀w',(execOp ρ o).run P w=.ok (.value (.tuple #[])) w'->(StoreOK (st.sO m (Ca es bs clk q)) Oth M w'/\Chg M w M w')->
      match(execOp ρ o).run P w with
      |.ok (.value v) w'=>qn st R Oth M w v w'
      |.ok .skip w'=>o.dst=none/\qn st R Oth M w (.tuple #[]) w'
      |_=>False:=by
    intro w' hrun hok
    rw[hrun]
    exact⟨_,_,M,h,j8 Reads.nil,hok.1,hok.2⟩
  rcases r2 with⟨rfl,r3⟩|⟨i,en,me,rfl,r3,r4,r5,r6⟩
  · refine done {w with heap:=w.heap.setIfInBounds m (.map ms clk)} ?_ ?_
    · rw[hexec]
      simp[Builtin.delete_,hat,hund,h1,Bf g1,hck,r1,Lc _ g1]
    · refine Ih sto hm g1 trivial trivial ?_
      unfold Ca
      rw[r3]
      have hkp:=Hq (new:=.map ms clk) g1 trivial trivial (λb o=>M b o\/Oth b o)
      exact⟨_,Ht _ g1,g2,λi x' y' hx hy=>⟨(g3 i x' y' hx hy).1.keep hkp,(g3 i x' y' hx hy).2.keep hkp⟩,g4,g5,g6⟩
  · refine done {w with heap:=w.heap.setIfInBounds m (.map (ms.eraseIdxIfInBounds i) clk)} ?_ ?_
    · rw[hexec]
      simp[Builtin.delete_,hat,hund,h1,Bf g1,hck,r1,Lc _ g1]
    · refine Ih sto hm g1 trivial trivial ?_
      unfold Ca
      rw[r3]
      have hkp:=Hq (new:=.map (ms.eraseIdxIfInBounds i) clk) g1 trivial trivial (λb o=>M b o\/Oth b o)
      have hi:i<ms.size:=by have:=(Faf.1 r4).1;omega
      have htl:(ms.eraseIdxIfInBounds i).toList=ms.toList.eraseIdx i:=by
        simp[Array.eraseIdxIfInBounds,hi]
      have hsub:(bs.eraseIdx i).Sublist bs:=List.eraseIdx_sublist ..
      refine⟨_,Ht _ g1,?_,λj x' y' hx hy=>?_,?_,λt ht=>g5 t (hsub.subset ht),g6.sublist hsub⟩
      · have:(ms.eraseIdxIfInBounds i).size=(ms.toList.eraseIdx i).length:=by rw[<-htl,Fb4]
        rw[this,List.length_eraseIdx,List.length_eraseIdx]
        simp[g2]
      · have hy:(ms.toList.eraseIdx i)[j]?=some y':=by rw[<-htl,Fb1];exact hy
        rw[getElem?_eraseIdx']at hx hy
        by_cases hj:j<i
        · rw[if_pos hj]at hx hy
          have:=g3 j x' y' hx (by simpa using hy)
          exact⟨this.1.keep hkp,this.2.keep hkp⟩
        · rw[if_neg hj]at hx hy
          have:=g3 (j+1) x' y' hx (by simpa using hy)
          exact⟨this.1.keep hkp,this.2.keep hkp⟩
      · rw[htl,g4,Pr]
theorem yg6{o:Oper}{t kt e:TypeId}{x:Operand}(ho:o.op=.range t x){it:TI}(hit:c.I t=some it)(hty:it.ty=.map kt e)
    {m clk:Nat} {es:List (AV×AV)} {bs:List Nat} (hm:st.obj m=some (.map es bs clk)) {R:Ja}
    (h:∀b,Fresh st b->R (.s (.pointer (some ⟨b,0,none⟩))) (st.sO b (.iter m clk [] clk))):AEff P c o [.s (.map (some m))] st R:=by
  refine⟨λOth M w ρ hI sto hr=>?_⟩
  rw[ho]at hr
  have hr:Reads w (λb o=>M b o\/Oth b o) [.s (.map (some m))] [ρ x]:=by simpa [Op.operands]using hr
  obtain⟨u,he,h1⟩:=Iz hr
  simp only[Fcr,and_true]at he
  rw[<-he]at h1
  have h1:=VRel.eq_s h1
  obtain⟨⟨ms,g1,g2⟩,hM⟩:=sto.obj m _ hm
  have hund:=yf (P:=P) (G5 (hI _ _ hit) hty)
  have hrun:(execOp ρ o).run P w=.ok (.value (.pointer (some ⟨w.heap.size,0,none⟩))) (w.alloc (.mapIter (some m) clk #[] clk)):=by
    simp[execOp,ho,Instr.range,hund,h1,Bf g1]
  rw[hrun]
  obtain⟨h2,h3,h4⟩:=Vi sto (.mapIter (some m) clk #[] clk) (y:=.iter m clk [] clk) (Gi w _)
  exact⟨_,_,_,h _ h2,.s _,h3,h4⟩
theorem zvq(n:Nat)(hn:0<n)(w:World):∃i w',i<n/\Grow w w'/\w'.heap=w.heap/\(choose (.mapNext n)).run P w=.ok i w':=by
  by_cases h1:n<=1
  · refine⟨0,w,hn,Grow.refl w,rfl,?_⟩
    simp only[choose,Sem.run]
    rw[if_pos (by simpa [Question.forced]using h1)]
  · refine⟨w.tape w.drawn (.mapNext n)%n,w.drew,Nat.mod_lt _ hn,Grow.drew w,rfl,?_⟩
    simp only[choose,Sem.run]
    rw[if_neg (by simpa [Question.forced]using h1)]
    rfl
theorem yg7{o:Oper}{x:Operand}(ho:o.op=.next x false)
    {b m clk:Nat} {es:List (AV×AV)} {bs seen:List Nat} (hb:st.obj b=some (.iter m clk seen clk)) (hm:st.obj m=some (.map es bs clk)) {R:Ja}
    (h1:(∀t∈bs,t∈seen)->R (.tup [.s (.bool false)]) st)
    (h2:∀(i:Nat) (e:AV×AV) (t:Nat),es[i]?=some e->bs[i]?=some t->t∉seen->R (.tup [.s (.bool true),e.1,e.2]) (st.sO b (.iter m clk (seen++[t]) clk))):AEff P c o [.s (.pointer (some ⟨b,0,none⟩))] st R:=by
  refine⟨λOth M w ρ hI sto hr=>?_⟩
  rw[ho]at hr
  have hr:Reads w (λb o=>M b o\/Oth b o) [.s (.pointer (some ⟨b,0,none⟩))] [ρ x]:=by simpa [Op.operands]using hr
  obtain⟨u,he,hx⟩:=Iz hr
  simp only[Fcr,and_true]at he
  rw[<-he]at hx
  have hx:=VRel.eq_s hx
  obtain⟨⟨ms,g1,g2,g3,g4,g5,g6⟩,hM⟩:=sto.obj m _ hm
  obtain⟨hit,hMb⟩:=sto.obj b _ hb
  have hit:w.heap[b]?=some (.mapIter (some m) clk seen.toArray clk):=hit
  have born:∀y∈ms,y.born<clk:=λy hy=>g5 _ (by rw[g4];exact List.mem_map_of_mem (Array.mem_toList_iff.2 hy))
  have hall:(!seen.toArray.isEmpty&& !ms.isEmpty&&ms.all (λe=>decide (e.born>=clk)))=false:=by
    cases hms:ms.isEmpty with
    |true=>simp
    | false=>
      have hne:0<ms.size:=by
        have:ms≠#[]:=λe=>by rw[e]at hms;simp at hms
        cases hs:ms.size with
        |zero=>exact absurd (Fdb hs) this
        |succ n=>omega
      have:ms.all (λe=>decide (e.born>=clk))=false:=by
        rw[Array.all_eq_false']
        exact⟨ms[0],by simp,by have:=born ms[0] (by simp);simp;omega⟩
      rw[this];simp
  have hnew:(Array.filter (λe=> !seen.toArray.contains e.born) ms).filter (λe=>decide (e.born>=clk))=#[]:=by
    rw[Array.filter_eq_empty_iff]
    intro y hy
    have:=born y (by rw[Array.mem_filter]at hy;exact hy.1)
    simp;omega
  have hold:(Array.filter (λe=> !seen.toArray.contains e.born) ms).filter (λe=>decide (e.born<clk))=Array.filter (λe=> !seen.toArray.contains e.born) ms:=by
    rw[Array.filter_eq_self]
    intro y hy
    have:=born y (by rw[Array.mem_filter]at hy;exact hy.1)
    simpa using this
  have hgo:(getObj b).run P w=.ok (.mapIter (some m) clk seen.toArray clk) w:=by simp[getObj,Sem.run,hit]
  generalize hleft:Array.filter (λe=> !seen.toArray.contains e.born) ms=left at hnew hold
  have hlm:∀y∈left,y∈ms/\y.born∉seen:=by
    intro y hy
    rw[<-hleft,Array.mem_filter]at hy
    exact⟨hy.1,by simpa using hy.2⟩
  let cands:Array (Option MapEntry):=(if left.isEmpty then #[none]else #[])++(left++#[]).map some
  have hcs:0<cands.size:=by
    cases hl:left.isEmpty with
    |true=>simp[cands,hl];omega
    | false=>
      have:left≠#[]:=λe=>by rw[e]at hl;simp at hl
      have:left.size≠0:=λe=>this (Fdb e)
      simp[cands,hl]
      omega
  obtain⟨i,w1,hi,hg,hheap,hch⟩:=zvq (P:=P) cands.size hcs w
  have hexec:(execOp ρ o).run P w=((Instr.next (ρ x) false o.type).run P w).andThen λv w'=>.ok (.value v) w':=by
    simp[execOp,ho]
  cases hl:left.isEmpty with
  | true=>
    have hc0:cands=#[none]:=by
      have:left=#[]:=by simpa using hl
      simp[cands,this]
    have hi0:i=0:=by rw[hc0]at hi;simpa using hi
    have hrun:(execOp ρ o).run P w=.ok (.value (.tuple #[.bool false])) w1:=by
      rw[hexec]
      simp only[Instr.next,hx,Sem.run_bind,hgo,Result.andThen_ok,Bf g1,hall,Fad,if_false,hleft,hold,hnew,Sem.run_pure]
      show((((choose (.mapNext cands.size)).run P w).andThen _).andThen _)=_
      rw[hch]
      simp only[Result.andThen_ok]
      rw[show((if left.isEmpty=true then #[none]else #[])++Array.map some (left++#[]):Array (Option MapEntry))=cands from rfl,hc0,hi0]
      simp
    rw[hrun]
    refine⟨_,st,M,h1 λt ht=>?_,j8 (Reads.cons (.s _) Reads.nil),sto.grow hg,hg.chg M⟩
    rw[g4]at ht
    obtain⟨y,hy,rfl⟩:=Fac.1 ht
    have hle:left=#[]:=by simpa using hl
    rw[<-hleft,Array.filter_eq_empty_iff]at hle
    have:=hle _ (Array.mem_toList_iff.1 hy)
    simpa using this
  | false=>
    have hce:cands=left.map some:=by simp[cands,hl]
    have hil:i<left.size:=by rw[hce]at hi;simpa using hi
    have hcg:cands[i]?=some (some left[i]):=by rw[hce];simp[hil]
    have hgo1:w1.heap[b]?=some (.mapIter (some m) clk seen.toArray clk):=by rw[hheap];exact hit
    have hset:∀ob:Obj,(setObj b ob).run P w1=.ok () {w1 with heap:=w1.heap.setIfInBounds b ob}:=λob=>by simp[setObj,Sem.run,hgo1]
    have hrun:(execOp ρ o).run P w=.ok (.value (.tuple #[.bool true,left[i].key,left[i].val])) {w1 with heap:=w1.heap.setIfInBounds b (.mapIter (some m) clk (seen.toArray.push left[i].born) clk)}:=by
      rw[hexec]
      simp only[Instr.next,hx,Sem.run_bind,hgo,Result.andThen_ok,Bf g1,hall,Fad,if_false,hleft,hold,hnew,Sem.run_pure]
      show((((choose (.mapNext cands.size)).run P w).andThen _).andThen _)=_
      rw[hch]
      simp only[Result.andThen_ok]
      rw[show((if left.isEmpty=true then #[none]else #[])++Array.map some (left++#[]):Array (Option MapEntry))=cands from rfl,hcg]
      simp only[Sem.run_bind,hset,Result.andThen_ok,Sem.run_pure]
    rw[hrun]
    obtain⟨hlm1,hlm2⟩:=hlm left[i] (by simp)
    obtain⟨j,hj,hje⟩:=Array.mem_iff_getElem.1 hlm1
    have hjs:j<es.length:=by omega
    have hms:ms[j]?=some left[i]:=by rw[Fa5 hj,hje]
    have hrel:=g3 j es[j] left[i] (Fab hjs) hms
    have hbs:bs[j]?=some left[i].born:=by
      rw[g4,Fap,Fb1,hms];rfl
    have sto1:=sto.grow hg
    have hk1:=hg.keeps (λb o=>M b o\/Oth b o)
    have hk2:=Hq (new:=.mapIter (some m) clk (seen.toArray.push left[i].born) clk) hgo1 trivial trivial (λb o=>M b o\/Oth b o)
    obtain⟨s1,s2⟩:=Ih (y:=.iter m clk (seen++[left[i].born]) clk) sto1 hb hgo1 trivial trivial (new:=.mapIter (some m) clk (seen.toArray.push left[i].born) clk) (by
      show _=_
      rw[Ht _ hgo1]
      simp)
    exact⟨_,_,M,h2 j es[j] left[i].born (Fab hjs) hbs hlm2,
      j8 (Reads.cons (.s _) (Reads.cons ((hrel.1.keep hk1).keep hk2) (Reads.cons ((hrel.2.keep hk1).keep hk2) Reads.nil))),s1,(hg.chg M).trans s2⟩
end
section
variable {P:Program} {c:Cfg} {w:World} {st:Store} {Oth M:Nat->Nat->Prop}
theorem Ai(sto:StoreOK st Oth M w){b o:Nat}{l xs:List AV}{vs:List Value}{w':World}(hk:st.obj b=some (.cells l))
    (hx:Reads w (λb o=>M b o\/Oth b o) xs vs) (hw:Wrote w b o vs w'):StoreOK (st.sO b (.cells (zu l o xs))) Oth M w'/\Chg M w M w':=by
  have hM:=(sto.obj b _ hk).2
  have hT:∀o,M b o\/Oth b o:=λo=>.inl (hM o)
  refine⟨{obj:=λb' x hx'=>?_,tok:=λb' top ht=>?_,mlt:=λb' o' hm=>?_,olt:=λb' o' hm=>?_,dis:=sto.dis},hw.chg hM⟩
  · by_cases he:b'=b
    · subst he
      rw[zd]at hx'
      cases hx'
      exact⟨CellsRel.wrote hw hT (sto.obj b' _ hk).1 hx,hM⟩
    · rw[zg he]at hx'
      exact⟨ObjRel.same (sto.obj b' x hx').1 (hw.keeps hT) (hw.other b' he),(sto.obj b' x hx').2⟩
  · obtain⟨c,e,fr,h1,h2,h3,h4⟩:=sto.tok b' top ht
    by_cases he:b'=b
    · subst he
      obtain⟨c',h5,_,h6⟩:=hw.blk c e fr h1
      exact⟨c',e,fr,h5,by rw[h6];exact h2,by rw[h6];exact h3,h4⟩
    · exact⟨c,e,fr,by rw[hw.other b' he];exact h1,h2,h3,h4⟩
  · rw[hw.size];exact sto.mlt b' o' hm
  · rw[hw.size];exact sto.olt b' o' hm
theorem D8(sto:StoreOK st Oth M w)(cs:Array Value)(e:TypeId){l:List AV}(h:Reads w (λb o=>M b o\/Oth b o) l cs.toList):
    Fresh st w.heap.size/\StoreOK (st.sO w.heap.size (.cells l)) Oth (jm M w.heap.size) (w.alloc (.cells cs e))/\Chg M w (jm M w.heap.size) (w.alloc (.cells cs e)):=
  Vi sto (.cells cs e) (y:=.cells l) (Mj w e M Oth h)
theorem pp{T:Nat->Nat->Prop}{b n cap k:Nat}{l:List AV}(h:CellsRel w T l b)(hn:n*k<=l.length):
    ∃new:Array Value,Reads w T (l.take (n*k)) new.toList/\new.size=n*k/\∀w',w'.heap=w.heap->(Builtin.firstCells k n (.slice (some ⟨b,0,none⟩) n cap)).run P w'=.ok new w':=by
  obtain⟨c,e,fr,h1,h2,h3,h4⟩:=h
  have hsz:n*k<=c.size:=by omega
  refine⟨((List.range' 0 (n*k)).map λi=>c.getD i undef).toArray,?_,by simp,λw' hw=>?_⟩
  · refine⟨by simp;omega,λi x y hx hy=>?_⟩
    have hi:i<n*k:=by
      have:=(Faf.1 hx).1
      simp at this;omega
    rw[Fb7 hi]at hx
    simp[hi]at hy
    subst hy
    refine h4 i x _ hx ?_
    rw[Fa5 (by omega)]
    simp[show i<c.size by omega]
  · have:=Ir (P:=P) ⟨b,0,none⟩ w' (λi=>c.getD i undef) (n*k) 0 #[] (λp _ hp=>by
      rw[ve,V8 hw]
      simp only[World.cell?,h1]
      have:p<c.size:=by omega
      simp[this])
    simp only[Builtin.firstCells,loadCells]
    simpa using this
theorem lw{T:Nat->Nat->Prop}{xs:List AV}{vs:List Value}(h:Reads w T xs vs)(h1:∀x∈xs,x.one=true):∀v∈vs,qo v=true:=by
  intro v hv
  obtain⟨i,hi⟩:=Fa2.1 hv
  have hlt:i<xs.length:=by rw[h.1];exact(Faf.1 hi).1
  exact Vf (h.2 i xs[i] v (Fab hlt) hi) (h1 _ (Faa hlt))
theorem b7{e:TypeId}{ie:TI}(hie:c.I e=some ie){b n cap:Nat}{l:List AV}{x:AV}{rows:List (List AV)}(ho:st.obj b=some (.cells l))(hcap:cap*ie.size<=l.length)(hn:n<=cap)
    (hx:vi ie.size (.av x)=some rows) (hroom:room (n+rows.length) ie.bytes) {K:Ja}
    (h1:n+rows.length<=cap->K (.s (.slice (some ⟨b,0,none⟩) (n+rows.length) cap)) (st.sO b (.cells (zu l (n*ie.size) rows.flatten))))
    (h2:cap<n+rows.length->∀b' cap',Fresh st b'->n+rows.length<=cap'->cap'<=9223372036854775807->K (.s (.slice (some ⟨b',0,none⟩) (n+rows.length) cap')) (st.sO b' (.cells (l.take (n*ie.size)++rows.flatten++List.replicate ((cap'-(n+rows.length))*ie.size) .any)))):
    AppX P c st e (.s (.slice (some ⟨b,0,none⟩) n cap)) x K:=by
  refine⟨⟨ie,hie⟩,λie' hie' Oth M w sv xv argTypes ty args t sto hs hxv hat ht1 hu hti h0 h1'=>?_⟩
  rw[hie]at hie'
  cases hie'
  have hs:=VRel.eq_s hs
  subst hs
  have A:AppArgs P c argTypes args t e ie (some ⟨b,0,none⟩) n cap xv:=⟨hat,ht1,hu,hti,h0,h1'⟩
  obtain⟨hl1,hl2,new,hnew,hone,hnsz,hfc⟩:=Ij (P:=P) (β:=λ_=>0) (k:=ie.size) (x:=.av x) hxv hx
  have hnn:n*ie.size<=l.length:=Fda (Fa7 _ hn) hcap
  by_cases hc:n+rows.length<=cap
  · obtain⟨⟨cs,e0,fr,hb0,huf,hlen,hrel⟩,hM⟩:=sto.obj b _ ho
    have hfit:n*ie.size+new.toList.length<=cs.size:=by
      rw[Fb4,hnsz,<-Fb2,<-hlen]
      exact Fda (Fa7 _ hc) hcap
    obtain⟨w',hw1,hw2⟩:=Hd (P:=P) w b (n*ie.size) new.toList 0 w cs e0 fr hb0 (.inl huf) hfit hone
    have hrun:=Kv (w':=w') ty A hl1 (hfc w rfl) hc (λa ha=>by
      cases ha
      rw[ve,Fbd];exact hw1) (λh=>by cases h)
    obtain⟨k1,k2⟩:=Ai sto ho hnew hw2
    exact⟨_,_,hrun,_,_,M,h1 hc,.s _,k1,k2⟩
  · have hc:cap<n+rows.length:=by omega
    obtain⟨old,hold1,hold2,hold3⟩:=pp (P:=P) (cap:=cap) (sto.obj b _ ho).1 hnn
    obtain⟨newCap,rest,g1,g0,g2,g3⟩:=H3 ty A hl1 (hfc w.drew rfl) (hold3 w.drew rfl) hc hroom
    have gd:Grow w w.drew:=Grow.drew w
    have sto1:=sto.grow gd
    obtain⟨f1,f2,f3⟩:=D8 sto1 (old++new++rest) e (l:=l.take (n*ie.size)++rows.flatten++List.replicate rest.size .any) (by
      rw[Fbb,Fbb]
      refine((hold1.append hnew).append ⟨by simp,λi x y hx hy=>?_⟩).keep (gd.keeps _)
      rw[Fb3]at hx
      split at hx
      · cases hx;exact .any _
      · cases hx)
    have e1:w.drew.heap.size=w.heap.size:=rfl
    rw[g2]at f2
    exact⟨_,_,g3,_,_,_,h2 hc _ newCap f1 g1 g0,.s _,f2,(gd.chg M).trans f3⟩
theorem uw{e:TypeId}{ie:TI}(hie:c.I e=some ie){x:AV}{rows:List (List AV)}(hx:vi ie.size (.av x)=some rows)(hroom:room rows.length ie.bytes)(hne:0<rows.length){K:Ja}
    (h2:∀b' cap',Fresh st b'->rows.length<=cap'->cap'<=9223372036854775807->K (.s (.slice (some ⟨b',0,none⟩) rows.length cap')) (st.sO b' (.cells (rows.flatten++List.replicate ((cap'-rows.length)*ie.size) .any)))):
    AppX P c st e (.s (.slice none 0 0)) x K:=by
  refine⟨⟨ie,hie⟩,λie' hie' Oth M w sv xv argTypes ty args t sto hs hxv hat ht1 hu hti h0 h1'=>?_⟩
  rw[hie]at hie'
  cases hie'
  have hs:=VRel.eq_s hs
  subst hs
  have A:AppArgs P c argTypes args t e ie none 0 0 xv:=⟨hat,ht1,hu,hti,h0,h1'⟩
  obtain⟨hl1,hl2,new,hnew,hone,hnsz,hfc⟩:=Ij (P:=P) (β:=λ_=>0) (k:=ie.size) (x:=.av x) hxv hx
  obtain⟨newCap,rest,g1,g0,g2,g3⟩:=H3 (old:=#[]) ty A hl1 (hfc w.drew rfl) (by simp[Builtin.firstCells]) (by omega) (by simpa using hroom)
  have gd:Grow w w.drew:=Grow.drew w
  have sto1:=sto.grow gd
  obtain⟨f1,f2,f3⟩:=D8 sto1 (#[]++new++rest) e (l:=rows.flatten++List.replicate rest.size .any) (by
    rw[Fbb,Fbb]
    refine((show Reads w _ rows.flatten ([]++new.toList)from hnew).append ⟨by simp,λi x y hx hy=>?_⟩).keep (gd.keeps _)
    rw[Fb3]at hx
    split at hx
    · cases hx;exact .any _
    · cases hx)
  rw[g2]at f2
  simp only[Fbd]at g1 g3 f2
  exact⟨_,_,g3,_,_,_,h2 _ newCap f1 g1 g0,.s _,f2,(gd.chg M).trans f3⟩
def Ints(st:Store)(v:AV)(ns:List Int):Prop:=
  (v=.s (.slice none 0 0)/\ns=[])\/∃b cap L,v=.s (.slice (some ⟨b,0,none⟩) ns.length cap)/\st.obj b=some (.cells (ns.map (λn=>AV.s (.int .i64 n))++L))/\ns.length<=cap/\cap<=ns.length+L.length/\cap<=9223372036854775807
end
open Go.Proofs Go.Shelf Go.Sort Go.RowKit
section
variable {P:Program} {ρ:Ren} {w:World} {st:Store} {Oth M:Nat->Nat->Prop}
def vI(n:Int):Value:=.int .i64 n
def aI(n:Int):AV:=.s (.int .i64 n)
theorem Dl(T:Nat->Nat->Prop)(ns:List Int):Reads w T (ns.map aI) (ns.map vI):=by
  have:=Reads.map_s (w:=w) (T:=T) (ns.map vI)
  rwa [List.map_map]at this
theorem cj{w:World}{b q:Nat}{c:Array Value}{e:TypeId}{fr:Nat×Nat}(hb:w.heap[b]?=some (.cells c e fr))(ns:List Int)(hl:ns.length<=c.size):
    Wrote w b 0 (ns.map vI) (putRow (Value.int .i64) (Sort.ahead w q) b 0 ns.toArray) where
  size:=by simp[putRow,mapBlock,Sort.ahead]
  other b' hne:=by
    simp only[putRow,mapBlock,Sort.ahead,Fct]
    rw[if_neg (Ne.symm hne)]
  blk c' e' fr' h:=by
    rw[hb]at h
    cases h
    refine⟨putCells (Value.int .i64) 0 ns.toArray c,?_,?_,by simp[putCells]⟩
    · simp only[putRow,mapBlock,Sort.ahead,Fct,if_true,hb,Fee,onCells]
    · apply Fb9
      intro i
      simp only[putCells,Fb1,Fch,Fc0,Fbd,Faq,Array.getElem?_mapIdx]
      by_cases hi:i<ns.length
      · rw[Fam (by simpa using hi),Fap,Fab hi]
        rw[Fa5 (by omega)]
        simp[hi,vI]
      · rw[Faw (by simpa using(by omega:ns.length<=i)),Faq,Fcj,Fb1,show ns.length+(i-ns.length)=i by omega]
        cases c[i]? with
        |none=>rfl
        |some v=>simp[hi]
  tape:=rfl
  os:=rfl
  output:=rfl
theorem ybg(w:World)(os:Array Obj):Grow w (Sort.grow w os) where
  size:=by simp[Sort.grow]
  blk b hb:=by simp[Sort.grow,Fc2 hb]
  tape:=rfl
  os:=rfl
  output:=rfl
theorem Kb{T:Nat->Nat->Prop}{b:Nat}{ns:List Int}{L:List AV}(h:CellsRel w T (ns.map aI++L) b):
    ∃c e fr,w.heap[b]?=some (.cells c e fr)/\fr.2=fr.1/\ns.length+L.length=c.size/\∀j,j<ns.length->c[j]?=some (vI (ns.getD j 0)):=by
  obtain⟨c,e,fr,h1,h2,h3,h4⟩:=h
  refine⟨c,e,fr,h1,h2,by simpa using h3,λj hj=>?_⟩
  have hlt:j<c.size:=by rw[<-h3];simp;omega
  have h5:=h4 j (aI ns[j]) c[j] (by rw[Fam (by simpa using hj)];simp[hj]) (by simp[hlt])
  rw[Fa5 hlt,VRel.eq_s h5]
  simp[hj,vI]
theorem oo{T:Nat->Nat->Prop}{b:Nat}{ns:List Int}{L:List AV}(h:CellsRel w T (ns.map aI++L) b):Holds (Value.int .i64) w b 0 ns.toArray:=by
  obtain⟨c,e,fr,h1,h2,h3,h4⟩:=Kb h
  intro j hj
  have hj:j<ns.length:=by simpa using hj
  constructor
  · rw[Fbd]
    simp only[World.cell?,h1]
    have:=h4 j hj
    simp only[Fc3,Fad,if_false,this,vI]
    simp[hj]
  · simp only[World.frozen?,h1]
    obtain⟨lo,hi⟩:=fr
    simp only at h2
    subst h2
    simp
theorem f0{xs l L:List AV}(h:xs.length=l.length):zu (l++L) 0 xs=xs++L:=by
  unfold zu
  rw[Fch,Fc0,Fbd,h,Fd8]
theorem Cn{A B xs:List AV}{o:Nat}(h:A.length=o):zu (A++B) o xs=A++xs++B.drop xs.length:=by
  subst h
  unfold zu
  rw[List.take_left,Fex]
  simp
theorem ur{x:AV}{vs:Array Value}{T:Nat->Nat->Prop}(h:Reads w T [x] vs.toList):∃v,vs=#[v]/\VRel w T x v:=by
  obtain⟨u,h1,h2⟩:=Iz h
  exact⟨u,by apply Array.ext';rw[h1],h2⟩
theorem ygi{x y:AV}{vs:Array Value}{T:Nat->Nat->Prop}(h:Reads w T [x,y] vs.toList):∃u v,vs=#[u,v]/\VRel w T x u/\VRel w T y v:=by
  obtain⟨u,v,h1,h2⟩:=Lg h
  exact⟨u,v,by apply Array.ext';rw[h1],h2⟩
theorem bt{x y z:AV}{vs:Array Value}{T:Nat->Nat->Prop}(h:Reads w T [x,y,z] vs.toList):∃u v t,vs=#[u,v,t]/\VRel w T x u/\VRel w T y v/\VRel w T z t:=by
  obtain⟨u,v,t,h1,h2⟩:=iz h
  exact⟨u,v,t,by apply Array.ext';rw[h1],h2⟩
theorem Lt{v:AV}{ns:List Int}(h:Ints st v ns):(v=.s (.slice none 0 0)/\ns=[])\/∃b cap L,v=.s (.slice (some ⟨b,0,none⟩) ns.length cap)/\st.obj b=some (.cells (ns.map aI++L))/\ns.length<=cap/\cap<=ns.length+L.length/\cap<=9223372036854775807:=h
theorem zrp (Ly : Lays.n189 P ρ) {fn : Func} {code : Code} (hf : P.funcs[ρ.f 189]? = some fn) (hb : fn.body = some code) (hname : (fn.name == "runtime.NumGoroutine") = false) {b cap : Nat} {ns : List Int} {L : List AV} (ho : st.obj b = some (.cells (ns.map aI ++ L)))
    (hlen:ns.length<4611686018427387904) {R:Ja} (h:R (.tup []) (st.sO b (.cells ((ns.mergeSort λx y=>decide (x<=y)).map aI++L)))):
    ACalls P (ρ.f 189) [.s (.slice (some ⟨b,0,none⟩) ns.length cap)] st R:=by
  refine ACalls.of_calls hf hb hname λOth M w vs sto hr=>?_
  obtain⟨v,rfl,hv⟩:=ur hr
  cases hv
  have hobj:=(sto.obj b _ ho).1
  obtain⟨c,e,fr,h1,h2,h3,h4⟩:=Kb hobj
  refine Calls.mono (Any.slices_Sort_int Ly b 0 cap ns w (oo hobj) (j4 h1) hlen) λe' w' ⟨he,n,os,hw'⟩=>⟨_,he,?_⟩
  subst hw'
  have hsl:(ns.mergeSort λx y=>decide (x<=y)).length=ns.length:=List.length_mergeSort ns
  have hw:=cj (q:=n) h1 (ns.mergeSort λx y=>decide (x<=y)) (by omega)
  obtain⟨k1,k2⟩:=Ai sto ho (Dl _ _) hw
  have hg:=ybg (putRow (Value.int .i64) (Sort.ahead w n) b 0 (ns.mergeSort λx y=>decide (x<=y)).toArray) os
  refine⟨.tup [],_,M,h,j8 Reads.nil,?_,k2.trans (hg.chg M)⟩
  rw[f0 (by simp)]at k1
  exact k1.grow hg
theorem zro (Ly : Lays.n189 P ρ) {fn : Func} {code : Code} (hf : P.funcs[ρ.f 189]? = some fn) (hb : fn.body = some code) (hname : (fn.name == "runtime.NumGoroutine") = false) {R : Ja} (h : R (.tup []) st) :
    ACalls P (ρ.f 189) [.s (.slice none 0 0)] st R:=by
  refine ACalls.of_calls hf hb hname λOth M w vs sto hr=>?_
  obtain⟨v,rfl,hv⟩:=ur hr
  cases hv
  refine Calls.mono (Any.slices_Sort_int_none Ly none 0 w) λe' w' ⟨he,hw'⟩=>⟨_,he,?_⟩
  subst hw'
  exact⟨.tup [],st,M,h,j8 Reads.nil,sto,Chg.refl _ _⟩
theorem zr6 (Ly : Lays2.n25 P ρ) {fn : Func} {code : Code} (hf : P.funcs[ρ.f 25]? = some fn) (hb : fn.body = some code) (hname : (fn.name == "runtime.NumGoroutine") = false) {v : AV} {ns : List Int} (hv : Ints st v ns) (x : Int)
    (hlen:ns.length<4611686018427387904) (hs:ns.Pairwise (·<=·)) {R:Ja} (h:R (.tup [aI (ns.countP (·<x):Nat),.s (.bool (ns.contains x))]) st):
    ACalls P (ρ.f 25) [v,aI x] st R:=by
  refine ACalls.of_calls hf hb hname λOth M w vs sto hr=>?_
  obtain⟨u,t,rfl,hu,ht⟩:=ygi hr
  cases ht
  rcases Lt hv with⟨rfl,rfl⟩|⟨b,cap,L,rfl,ho,hc1,hc2⟩
  · cases hu
    refine Calls.mono (Any.slices_BinarySearch_int_empty Ly none 0 x w) λe' w' ⟨he,hw'⟩=>⟨_,he,?_⟩
    subst hw'
    refine⟨_,st,M,h,j8 (Reads.cons (.s _) (Reads.cons (.s _) Reads.nil)),sto,Chg.refl _ _⟩
  · cases hu
    have hobj:=(sto.obj b _ ho).1
    obtain⟨c,e,fr,h1,h2,h3,h4⟩:=Kb hobj
    refine Calls.mono (Any.slices_BinarySearch_int Ly b 0 ns.length cap ns x w (Fak _) hlen (λj hj=>?_) (by rw[Faz];exact hs)) λe' w' ⟨he,q,hw'⟩=>⟨_,he,?_⟩
    · rw[Fbd]
      simp only[World.cell?,h1]
      exact h4 j hj
    · subst hw'
      rw[Faz]
      have hg:Grow w (w.drewN q):=⟨Fak _,λ_ _=>rfl,rfl,rfl,rfl⟩
      exact⟨_,st,M,h,j8 (Reads.cons (.s _) (Reads.cons (.s _) Reads.nil)),sto.grow hg,hg.chg M⟩
theorem yei (Ly : Lays2.n23 P ρ) {fn : Func} {code : Code} (hf : P.funcs[ρ.f 23]? = some fn) (hb : fn.body = some code) (hname : (fn.name == "runtime.NumGoroutine") = false) {b cap i j : Nat} {ns : List Int} {L : List AV} (ho : st.obj b = some (.cells (ns.map aI ++ L)))
    (hc1:ns.length<=cap) (hc2:cap<=9223372036854775807) (hij:i<=j) (hj:j<=ns.length) {R:Ja}
    (h:R (.s (.slice (some ⟨b,0,none⟩) (ns.take i++ns.drop j).length cap)) (st.sO b (.cells ((ns.take i++ns.drop j).map aI++(List.replicate (j-i) (aI 0)++L))))):
    ACalls P (ρ.f 23) [.s (.slice (some ⟨b,0,none⟩) ns.length cap),aI i,aI j] st R:=by
  refine ACalls.of_calls hf hb hname λOth M w vs sto hr=>?_
  obtain⟨u,v,t,rfl,hu,hv,ht⟩:=bt hr
  cases hu;cases hv;cases ht
  have hobj:=(sto.obj b _ ho).1
  obtain⟨c,e,fr,h1,h2,h3,h4⟩:=Kb hobj
  have hl2:(ns.take i++ns.drop j++List.replicate (j-i) 0).length=ns.length:=by simp;omega
  have hl1:(ns.take i++ns.drop j).length=ns.length-(j-i):=by simp;omega
  refine Calls.mono (Any.slices_Delete_int Ly b 0 cap i j ns w (oo hobj) hc1 hc2 hij hj) λe' w' ⟨he,q,hw'⟩=>⟨_,he,?_⟩
  subst hw'
  have hw:=cj (q:=q) h1 (ns.take i++ns.drop j++List.replicate (j-i) 0) (by omega)
  obtain⟨k1,k2⟩:=Ai sto ho (Dl _ _) hw
  rw[<-hl1]
  refine⟨_,_,M,h,.s _,?_,k2⟩
  rw[f0 (by simpa using hl2),Fbe,List.map_replicate,Fas]at k1
  exact k1
theorem yhc(Ly:Lays7.n25 P ρ)(x y c:Nat)(hc:c<=1){R:Ja}
    (h:R (.tup [.s (.int .u64 ((x+y+c)%18446744073709551616:Nat)),.s (.int .u64 ((x+y+c)/18446744073709551616:Nat))]) st):
    ACalls P (ρ.f 25) [.s (.int .u64 x),.s (.int .u64 y),.s (.int .u64 c)] st R:=by
  refine ACalls.of_value λOth M w vs sto hr=>?_
  obtain⟨u,v,t,rfl,hu,hv,ht⟩:=bt hr
  cases hu;cases hv;cases ht
  exact⟨_,w,Any7.bits_Add64 Ly x y c hc w,_,st,M,h,j8 (Reads.cons (.s _) (Reads.cons (.s _) Reads.nil)),sto,Chg.refl _ _⟩
theorem H6{b:Nat}:∀(vs:List Value) (o:Nat) (w:World) (c:Array Value) (e:TypeId) (fr:Nat×Nat),w.heap[b]?=some (.cells c e fr)->o+vs.length<=c.size->Wrote w b o vs (w.setCells b o vs):=by
  intro vs
  induction vs with
  |nil=>intro o w c e fr h _;exact⟨rfl,λ_ _=>rfl,λc e fr h=>⟨c,h,by simp,rfl⟩,rfl,rfl,rfl⟩
  | cons v vs ih=>
    intro o w c e fr h hl
    simp only[Fbi]at hl
    have h1:(w.setCell ⟨b,o,none⟩ v).heap[b]?=some (.cells (c.setIfInBounds o v) e fr):=by
      rw[Pb,if_pos rfl,h];rfl
    have k:=ih (o+1) (w.setCell ⟨b,o,none⟩ v) _ e fr h1 (by simp;omega)
    refine⟨by rw[World.setCells,k.size];simp,λb' hb=>by rw[World.setCells,k.other b' hb,Pb,if_neg hb],λc1 e1 fr1 hc1=>?_,by rw[World.setCells,k.tape];rfl,by rw[World.setCells,k.os];rfl,by rw[World.setCells,k.output];rfl⟩
    rw[h]at hc1
    cases hc1
    obtain⟨c',g1,g2,g3⟩:=k.blk _ _ _ h1
    refine⟨c',g1,?_,by simpa using g3⟩
    rw[g2,Fek]
    have hlt:o<c.toList.length:=by simp;omega
    have hA:(c.toList.take o).length=o:=by simp;omega
    rw[List.set_eq_take_append_cons_drop,if_pos hlt]
    have t1:(c.toList.take o++v::c.toList.drop (o+1)).take (o+1)=c.toList.take o++[v]:=by
      rw[List.take_append,hA,show o+1-o=1 by omega,Fcd (by omega)]
      rfl
    have t2:(c.toList.take o++v::c.toList.drop (o+1)).drop (o+1+vs.length)=c.toList.drop (o+(vs.length+1)):=by
      rw[Fex,hA,show o+1+vs.length-o=vs.length+1 by omega,Fc1 (by omega),Fc0,List.drop_succ_cons,List.drop_drop]
      congr 1;omega
    rw[t1,t2]
    simp
theorem yan (Ly : Lays2.n21 P ρ) {fn : Func} {code : Code} (hf : P.funcs[ρ.f 21]? = some fn) (hb : fn.body = some code) (hname : (fn.name == "runtime.NumGoroutine") = false) {v : AV} {ns : List Int} (hv : Ints st v ns) {vb : Nat} (x : Int) (i : Nat) (hi : i <= ns.length)
    (hvb:st.obj vb=some (.cells [aI x])) (hne:∀b cap,v=.s (.slice (some ⟨b,0,none⟩) ns.length cap)->b≠vb) (hlen:(ns.length+1)*8<=140737488355328) {R:Ja}
    (h:∀b cap L,(Fresh st b\/∃c0,v=.s (.slice (some ⟨b,0,none⟩) ns.length c0))->(ns.take i++x::ns.drop i).length<=cap->cap<=(ns.take i++x::ns.drop i).length+L.length->cap<=9223372036854775807->
      R (.s (.slice (some ⟨b,0,none⟩) (ns.take i++x::ns.drop i).length cap)) (st.sO b (.cells ((ns.take i++x::ns.drop i).map aI++L)))):
    ACalls P (ρ.f 21) [v,aI i,.s (.slice (some ⟨vb,0,none⟩) 1 1)] st R:=by
  refine ACalls.of_calls hf hb hname λOth M w vs sto hr=>?_
  obtain⟨u,t,s,rfl,hu,ht,hs⟩:=bt hr
  cases ht;cases hs
  have hvo:=(sto.obj vb _ hvb).1
  obtain⟨cv,ev,frv,v1,v2,v3,v4⟩:=Kb (ns:=[x]) (L:=[]) (show CellsRel w _ ([x].map aI++[]) vb from hvo)
  have hvs:∀j v,([vI x]:List Value)[j]?=some v->w.cell? ⟨vb,0+j,none⟩=some v:=by
    intro j v hj
    cases j with
    | zero=>
      simp at hj
      subst hj
      have:=v4 0 (by simp)
      simp only[World.cell?,v1]
      simpa using this
    |succ j=>simp at hj
  have h1v:∀v∈([vI x]:List Value),v.oneCell'=true:=by intro v hv;simp at hv;subst hv;rfl
  have hl':(ns.take i++x::ns.drop i).length=ns.length+1:=by simp;omega
  have hcut:∀(w:World) (need old:Nat) (e:TypeId),need<=140737488355328->need<=grownCap w need old e/\grownCap w need old e<=9223372036854775807:=by
    intro w need old e hn
    unfold grownCap
    simp only[Question.cut]
    have:=Nat.mod_lt (w.tape w.drawn (.appendCap need old e)) (show 0<2^63-need by omega)
    omega
  rcases Lt hv with⟨rfl,rfl⟩|⟨b,cap,L,rfl,ho,hc1,hc2,hc3⟩
  · cases hu
    simp only[List.length_nil,Nat.le_zero]at hi
    subst hi
    refine Calls.mono (Any2.slices_Insert_int_end_grow Ly none 0 0 vb 0 1 1 [] [vI x] w (by omega) (Fak _) (by omega) (by omega) rfl rfl (λ_=>rfl) (λa ha=>by cases ha) hvs h1v) λe' w' ⟨he,hw'⟩=>⟨_,he,?_⟩
    obtain⟨g1,g2⟩:=hcut w (0+1) 0 (ρ.t 3) (by omega)
    generalize grownCap w (0+1) 0 (ρ.t 3)=gc at*
    subst hw'
    have gd:Grow w w.drew:=Grow.drew w
    obtain⟨f1,f2,f3⟩:=D8 (sto.grow gd) ((([]:List Value)++[vI x]).toArray++Builtin.zeroCells (Value.int .i64 0).cells (gc-(0+1))) (ρ.t 3) (l:=[x].map aI++List.replicate (gc-(0+1)) .any) (by
      rw[Fbb]
      refine Reads.append (Dl _ [x]) ⟨by simp[Builtin.zeroCells,Value.cells],λi x y hx hy=>?_⟩
      rw[Fb3]at hx
      split at hx
      · cases hx;exact .any _
      · cases hx)
    have:=h w.heap.size gc (List.replicate (gc-(0+1)) .any) (.inl f1) (by simpa using g1) (by simp;omega) g2
    exact⟨_,_,_,this,.s _,f2,(gd.chg M).trans f3⟩
  · cases hu
    have hbv:b≠vb:=hne b cap rfl
    have hobj:=(sto.obj b _ ho).1
    obtain⟨c,e,fr,h1,h2,h3,h4⟩:=Kb hobj
    have cell:∀j,j<c.size->w.cell? ⟨b,0+j,none⟩=c[j]?:=λj hj=>by rw[Fbd];simp only[World.cell?,h1];rfl
    have froz:∀o,w.frozen? ⟨b,o,none⟩=false:=λo=>by
      simp only[World.frozen?,h1]
      obtain⟨lo,hi⟩:=fr
      simp only at h2
      subst h2
      simp
    have hcs:∀j v,(ns.map vI)[j]?=some v->w.cell? ⟨b,0+j,none⟩=some v:=by
      intro j v hj
      have hlt:j<ns.length:=by have:=(Faf.1 hj).1;simpa using this
      rw[cell j (by omega),h4 j hlt]
      rw[Fap,Fab hlt]at hj
      simp at hj
      simp[hlt,hj]
    have h1c:∀v∈ns.map vI,v.oneCell'=true:=by intro v hv;obtain⟨n,_,rfl⟩:=Fac.1 hv;rfl
    by_cases hroom:ns.length+1<=cap
    · obtain⟨L0,hL⟩:∃L0,L=L0:=⟨_,rfl⟩
      by_cases hin:i=ns.length
      · subst hin
        refine Calls.mono (Any2.slices_Insert_int_end_room Ly b 0 ns.length cap vb 0 1 1 [vI x] w (by omega) hroom hc3 rfl (λj hj=>?_) (λj hj=>froz _) hvs h1v) λe' w' ⟨he,hw'⟩=>⟨_,he,?_⟩
        · rw[Fbd,show ns.length+j=0+(ns.length+j) by omega,cell _ (by omega)]
          simp;omega
        · subst hw'
          rw[Fbd]
          have hw:=H6 [vI x] ns.length w c e fr h1 (by simp;omega)
          obtain⟨k1,k2⟩:=Ai sto ho (Dl _ [x]) hw
          rw[Cn (by simp)]at k1
          have e2:(ns.take ns.length++x::ns.drop ns.length).map aI=ns.map aI++[x].map aI:=by simp
          have:=h b cap (L.drop 1) (.inr ⟨cap,rfl⟩) (by omega) (by rw[hl'];simp;omega) hc3
          rw[hl',e2]at this
          exact⟨_,_,M,this,.s _,k1,k2⟩
      · have hsz:∀j,j<ns.length+1->(w.cell? ⟨b,0+j,none⟩).isSome=true:=λj hj=>by
          rw[cell j (by omega)];simp;omega
        refine Calls.mono (Any2.slices_Insert_int_shift Ly b 0 ns.length cap i vb 0 1 1 (ns.map vI) [vI x] w (by omega) (by omega) hroom hc3 (Ne.symm hbv) (by simp) rfl hcs hsz (λj _=>froz _) hvs h1c h1v ev e cv.size c.size
          (by simp[World.shape?,v1]) (by simp[World.shape?,h1]) (by omega) ?_ ?_) λe' w' ⟨he,hw'⟩=>⟨_,he,?_⟩
        · simp only[World.frozen?,v1]
          obtain⟨lo,hi⟩:=frv
          simp only at v2
          subst v2
          simp
        · simp only[World.frozen?,v1]
          obtain⟨lo,hi⟩:=frv
          simp only at v2
          subst v2
          simp
        · subst hw'
          rw[Fbd,Fbd,<-List.map_drop]
          have gd:Grow w w.drew:=Grow.drew w
          have hw1:=H6 ((ns.drop i).map vI) (i+1) w.drew c e fr h1 (by simp;omega)
          obtain⟨k1,k2⟩:=Ai (sto.grow gd) ho (Dl _ _) hw1
          obtain⟨c',m1,_,m2⟩:=hw1.blk c e fr h1
          have hw2:=H6 [vI x] i _ c' e fr m1 (by simp;omega)
          obtain⟨k3,k4⟩:=Ai k1 (zd _ _ _) (Dl _ [x]) hw2
          rw[yq]at k3
          have e1:zu (zu (ns.map aI++L) (i+1) ((ns.drop i).map aI)) i ([x].map aI)=(ns.take i++x::ns.drop i).map aI++L.drop 1:=by
            have hL1:1<=L.length:=by omega
            cases L with
            |nil=>simp at hL1
            | cons y L=>
              have q1:ns.map aI++y::L=(ns.map aI++[y]).take (i+1)++((ns.map aI++[y]).drop (i+1)++L):=by
                rw[<-Fas,Fb8,Fas];rfl
              have q2:((ns.map aI++[y]).take (i+1)).length=i+1:=by simp;omega
              rw[q1,Cn q2]
              have q3:((ns.map aI++[y]).drop (i+1)++L).drop ((ns.drop i).map aI).length=L:=by
                have:((ns.map aI++[y]).drop (i+1)).length=((ns.drop i).map aI).length:=by simp
                rw[<-this,Fd8]
              rw[q3]
              have q4:(ns.map aI++[y]).take (i+1)=(ns.take i).map aI++[aI (ns[i]'(by omega))]:=by
                rw[Fbv (by simp;omega),<-List.map_take,Fae (by omega),Fbe];rfl
              rw[q4,Fas,Fas,Cn (by simp;omega)]
              simp
          rw[e1]at k3
          have:=h b cap (L.drop 1) (.inr ⟨cap,rfl⟩) (by omega) (by rw[hl'];simp;omega) hc3
          rw[hl']at this
          exact⟨_,_,M,this,.s _,k3,((gd.chg M).trans k2).trans k4⟩
    · obtain⟨g1,g2⟩:=hcut w (ns.length+1) cap (ρ.t 3) (by omega)
      by_cases hin:i=ns.length
      · subst hin
        refine Calls.mono (Any2.slices_Insert_int_end_grow Ly (some ⟨b,0,none⟩) ns.length cap vb 0 1 1 (ns.map vI) [vI x] w (by omega) hc1 (by omega) hlen (by simp) rfl (λhh=>by cases hh) (λa ha j v hj=>?_) hvs h1v) λe' w' ⟨he,hw'⟩=>⟨_,he,?_⟩
        · cases ha;rw[ve];exact hcs j v hj
        · generalize grownCap w (ns.length+1) cap (ρ.t 3)=gc at*
          subst hw'
          have gd:Grow w w.drew:=Grow.drew w
          obtain⟨f1,f2,f3⟩:=D8 (sto.grow gd) ((ns.map vI++[vI x]).toArray++Builtin.zeroCells (Value.int .i64 0).cells (gc-(ns.length+1))) (ρ.t 3) (l:=(ns++[x]).map aI++List.replicate (gc-(ns.length+1)) .any) (by
            rw[Fbb]
            refine Reads.append ?_ ⟨by simp[Builtin.zeroCells,Value.cells],λi x y hx hy=>?_⟩
            · have:=Dl (w:=w.drew) (λb o=>M b o\/Oth b o) (ns++[x])
              rw[Fbe (f:=vI)]at this
              exact this
            · rw[Fb3]at hx
              split at hx
              · cases hx;exact .any _
              · cases hx)
          have e2:ns.take ns.length++x::ns.drop ns.length=ns++[x]:=by simp
          rw[e2]at h
          have:=h w.heap.size gc (List.replicate (gc-(ns.length+1)) .any) (.inl f1) (by simpa using g1) (by simp;omega) g2
          rw[Fag]at this
          exact⟨_,_,_,this,.s _,f2,(gd.chg M).trans f3⟩
      · refine Calls.mono (Any2.slices_Insert_int_grow Ly b 0 ns.length cap i vb 0 1 1 (ns.map vI) [vI x] w (by omega) (by omega) hc1 (by omega) hlen (by simp) rfl hcs hvs h1c h1v) λe' w' ⟨he,hw'⟩=>⟨_,he,?_⟩
        generalize grownCap w (ns.length+1) cap (ρ.t 3)=gc at*
        subst hw'
        rw[<-List.map_take,<-List.map_drop]
        obtain⟨f1,f2,f3⟩:=D8 sto (((ns.take i).map vI).toArray++Builtin.zeroCells (Value.int .i64 0).cells (ns.length+1-i)++Builtin.zeroCells (Value.int .i64 0).cells (gc-(ns.length+1))) (ρ.t 3) (l:=(ns.take i).map aI++List.replicate (ns.length+1-i+(gc-(ns.length+1))) .any) (by
          rw[Array.append_assoc,Fbb]
          refine Reads.append (Dl _ _) ⟨by simp[Builtin.zeroCells,Value.cells],λi x y hx hy=>?_⟩
          rw[Fb3]at hx
          split at hx
          · cases hx;exact .any _
          · cases hx)
        generalize hArr:(((ns.take i).map vI).toArray++Builtin.zeroCells (Value.int .i64 0).cells (ns.length+1-i)++Builtin.zeroCells (Value.int .i64 0).cells (gc-(ns.length+1)))=Arr at*
        have hAs:Arr.size=gc:=by rw[<-hArr];simp[Builtin.zeroCells,Value.cells];omega
        have hb1:(w.alloc (.cells Arr (ρ.t 3))).drew.heap[w.heap.size]?=some (.cells Arr (ρ.t 3) (0,0)):=Gi w _
        have gd1:Grow (w.alloc (.cells Arr (ρ.t 3))) (w.alloc (.cells Arr (ρ.t 3))).drew:=Grow.drew _
        have hw1:=H6 [vI x] i _ _ _ _ hb1 (by simp;omega)
        obtain⟨k1,k2⟩:=Ai (f2.grow gd1) (zd _ _ _) (Dl _ [x]) hw1
        obtain⟨c',m1,_,m2⟩:=hw1.blk _ _ _ hb1
        have gd2:Grow ((w.alloc (.cells Arr (ρ.t 3))).drew.setCells w.heap.size i [vI x]) ((w.alloc (.cells Arr (ρ.t 3))).drew.setCells w.heap.size i [vI x]).drew:=Grow.drew _
        have hw2:=H6 ((ns.drop i).map vI) (i+1) ((w.alloc (.cells Arr (ρ.t 3))).drew.setCells w.heap.size i [vI x]).drew c' _ _ m1 (by simp;omega)
        obtain⟨k3,k4⟩:=Ai (k1.grow gd2) (zd _ _ _) (Dl _ _) hw2
        rw[yq,yq]at k3
        have e1:zu (zu ((ns.take i).map aI++List.replicate (ns.length+1-i+(gc-(ns.length+1))) .any) i ([x].map aI)) (i+1) ((ns.drop i).map aI)=(ns.take i++x::ns.drop i).map aI++List.replicate (gc-(ns.length+1)) .any:=by
          rw[Cn (by simp;omega),Cn (by simp;omega),List.drop_replicate,List.drop_replicate]
          have q:ns.length+1-i+(gc-(ns.length+1))-([x].map aI).length-((ns.drop i).map aI).length=gc-(ns.length+1):=by simp;omega
          rw[q]
          simp
        rw[e1]at k3
        have:=h w.heap.size gc (List.replicate (gc-(ns.length+1)) .any) (.inl f1) (by omega) (by rw[hl'];simp;omega) g2
        rw[hl']at this
        exact⟨_,_,_,this,.s _,k3,((((f3.trans (gd1.chg _)).trans k2).trans (gd2.chg _)).trans k4)⟩
end
section
variable {a g:Store} {b j:Nat} {x id:Int}
theorem zt(a g:Store)(b:Nat)(x:AObj):(a.un g).sO b x=a.un (g.sO b x):=by
 unfold Store.un Store.sO
 congr
 funext i
 by_cases h:i=b
 ·subst h;simp
 ·simp[yv h]
theorem Dg(a:Store):a.un Store.empty=a:=by
 unfold Store.un Store.empty
 rfl
theorem yec(a:Store):zh a Store.empty:=λb _ h=>h.elim (λh=>h rfl) (λh=>h rfl)
theorem fresh_un(h:Fresh (a.un g) b):Fresh a b/\Fresh g b:=by
 rw[fresh_iff,un_has]at h
 rw[fresh_iff,fresh_iff]
 exact⟨λh1=>h (.inl h1),λh1=>h (.inr h1)⟩
theorem has_setObj_iff{i:Nat}{x:AObj}:(g.sO b x).has i↔i=b\/g.has i:=by
 unfold Store.has
 by_cases h:i=b
 ·subst h;simp[zd]
 ·simp[h,yv h,Store.sO]
theorem disj_setR{x:AObj}(h:zh a g)(hb:Fresh a b):zh a (g.sO b x):=by
 intro i hi hg
 rcases has_setObj_iff.1 hg with rfl|hg
 ·exact(fresh_iff.1 hb) hi
 ·exact h i hi hg
theorem Km{x y:AObj}(h:zh a g)(hb:g.obj b=some y):zh a (g.sO b x):=by
 intro i hi hg
 rcases has_setObj_iff.1 hg with rfl|hg
 ·exact h i hi (jb hb)
 ·exact h i hi hg
def zq(p:Vc):Int×Int:=(nrm p.1/131072,nrm p.2/131072)
abbrev Ent:=Int×Vc
def vl(e:Ent):AV×AV:=(int e.1,.agg (zy e.2))
structure Grp where
 x:Int
 y:Int
 ns:List Int
 b:Nat
 cap:Nat
 L:List AV
def Grp.key(g:Grp):Int×Int:=(g.x,g.y)
def vk(g:Grp):AV×AV:=(.agg [int g.x,int g.y],.s (.slice (some ⟨g.b,0,none⟩) g.ns.length g.cap))
def Grp.fits(g:Grp):Prop:=g.ns.length<=g.cap/\g.cap<=g.ns.length+g.L.length/\g.cap<=9223372036854775807
structure CellsAt(a:Store)(p ma mi:Nat)(l:List Ent)(bs1:List Nat)(c1:Nat)(G:List Grp)(bs2:List Nat)(c2:Nat):Prop where
 hp:a.obj p=some (.cells [.s (.map (some ma)),.s (.map (some mi))])
 ha:a.obj ma=some (.map (l.map vl) bs1 c1)
 hi:a.obj mi=some (.map (G.map vk) bs2 c2)
 ne:ma≠mi
 hg:∀g∈G,a.obj g.b=some (.cells (g.ns.map aI++g.L))/\g.fits/\g.b≠p
 nd:(G.map (·.b)).Nodup
structure Inv(l:List Ent)(G:List Grp):Prop where
 n1:(l.map (·.1)).Nodup
 n2:(G.map (·.key)).Nodup
 s:∀g∈G,g.ns.Pairwise (·<·)/\g.ns≠[]
 m1:∀g∈G,∀id,id∈g.ns↔∃e∈l,e.1=id/\zq e.2=g.key
 m2:∀e∈l,∃g∈G,g.key=zq e.2
def CellsOf(a:Store)(p:Nat)(l:List Ent):Prop:=∃ma mi bs1 c1 G bs2 c2,CellsAt a p ma mi l bs1 c1 G bs2 c2/\Inv l G
theorem sb(x:Int):∀{ns:List Int},ns.Pairwise (·<·)->ns.take (ns.countP (·<x))=ns.filter (·<x)/\ns.drop (ns.countP (·<x))=ns.filter (x<=·):=by
 intro ns
 induction ns with
 |nil=>intro _;simp
 |cons a ns ih=>
  intro h
  obtain⟨h1,h2⟩:=Fc4.1 h
  obtain⟨i1,i2⟩:=ih h2
  by_cases ha:a<x
  ·have hna:¬x<=a:=by omega
   rw[List.countP_cons_of_pos (by simpa using ha)]
   refine⟨?_,?_⟩
   ·rw[List.take_succ_cons,i1,Feu (by simpa using ha)]
   ·rw[List.drop_succ_cons,i2,Fdc (by simpa using hna)]
  ·have hall:∀y∈ns,¬y<x:=λy hy=>by have:=h1 y hy;omega
   have h0:(a::ns).countP (·<x)=0:=by
    rw[List.countP_eq_zero]
    intro y hy
    rcases Fat.1 hy with rfl|hy
    ·simpa using ha
    ·simpa using hall y hy
   rw[h0]
   refine⟨?_,?_⟩
   ·rw[Fch]
    symm
    rw[Fd2]
    intro y hy
    rcases Fat.1 hy with rfl|hy
    ·simpa using ha
    ·simpa using hall y hy
   ·rw[Fce]
    symm
    rw[List.filter_eq_self]
    intro y hy
    rcases Fat.1 hy with rfl|hy
    ·simp;omega
    ·have:=hall y hy;simp;omega
theorem yex(x:Int)(ns:List Int):ns.countP (·<x)<=ns.length:=List.countP_le_length
theorem yap{ns:List Int}(h:ns.Pairwise (·<·))(hx:x∉ns):
  (ns.take (ns.countP (·<x))++x::ns.drop (ns.countP (·<x))).Pairwise (·<·)/\∀y,y∈ns.take (ns.countP (·<x))++x::ns.drop (ns.countP (·<x))↔y=x\/y∈ns:=by
 obtain⟨h1,h2⟩:=sb x h
 rw[h1,h2]
 refine⟨?_,λy=>?_⟩
 ·rw[List.pairwise_append,Fc4]
  refine⟨h.filter _,⟨λy hy=>?_,h.filter _⟩,λa ha b hb=>?_⟩
  ·have h3:=Fbo.1 hy
   have h4:x<=y:=by simpa using h3.2
   have h5:y≠x:=λe=>hx (e▸h3.1)
   omega
  ·have h3:=(Fbo.1 ha).2
   have h3:a<x:=by simpa using h3
   rcases Fat.1 hb with rfl|hb
   ·exact h3
   ·have h4:x<=b:=by simpa using(Fbo.1 hb).2
    omega
 ·simp only[Fal,Fat,Fbo,decide_eq_true_eq]
  constructor
  ·rintro(h3|h3|h3)
   ·exact .inr h3.1
   ·exact .inl h3
   ·exact .inr h3.1
  ·rintro(h3|h3)
   ·exact .inr (.inl h3)
   ·by_cases h4:y<x
    ·exact .inl ⟨h3,h4⟩
    ·exact .inr (.inr ⟨h3,by omega⟩)
theorem yej{ns:List Int}(h:ns.Pairwise (·<·))(hx:x∈ns):
  ns.countP (·<x)+1<=ns.length/\(ns.take (ns.countP (·<x))++ns.drop (ns.countP (·<x)+1)).Pairwise (·<·)/\∀y,y∈ns.take (ns.countP (·<x))++ns.drop (ns.countP (·<x)+1)↔y≠x/\y∈ns:=by
 obtain⟨h1,h2⟩:=sb x h
 have hsub:(ns.take (ns.countP (·<x))++ns.drop (ns.countP (·<x)+1)).Sublist ns:=by
  conv=>rhs;rw[<-Fb8 (ns.countP (·<x)) ns]
  refine List.Sublist.append (List.Sublist.refl _) ?_
  rw[<-List.drop_drop]
  exact List.drop_sublist _ _
 have h3:ns.filter (x<=·)=x::ns.filter (x<·):=by
  clear h1 h2 hsub
  induction ns with
  |nil=>cases hx
  |cons a ns ih=>
   obtain⟨k1,k2⟩:=Fc4.1 h
   rcases Fat.1 hx with rfl|hx
   ·rw[Feu (by simp),Fdc (by simp)]
    congr 1
    apply List.filter_congr
    intro y hy
    have:=k1 y hy
    simp;omega
   ·have:=k1 x hx
    rw[Fdc (by simp;omega),Fdc (by simp;omega)]
    exact ih k2 hx
 have h4:ns.drop (ns.countP (·<x)+1)=ns.filter (x<·):=by
  rw[<-List.drop_drop,h2,h3];rfl
 refine⟨?_,h.sublist hsub,λy=>?_⟩
 ·have h5:(ns.drop (ns.countP (·<x))).length=(ns.filter (x<=·)).length:=by rw[h2]
  rw[h3,Fck,Fbi]at h5
  omega
 ·rw[h1,h4]
  simp only[Fal,Fbo,decide_eq_true_eq]
  constructor
  ·rintro(h5|h5)
   ·exact⟨by omega,h5.1⟩
   ·exact⟨by omega,h5.1⟩
  ·rintro⟨h5,h6⟩
   by_cases h7:y<x
   ·exact .inl ⟨h6,h7⟩
   ·exact .inr ⟨h6,by omega⟩
theorem By{α β:Type}{f:α->β}:∀{G:List α} {i j:Nat} {a b:α},(G.map f).Nodup->G[i]?=some a->G[j]?=some b->f a=f b->i=j:=by
 intro G i j a b hn hi hj h
 have hi':(G.map f)[i]?=some (f a):=by simp[hi]
 have hj':(G.map f)[j]?=some (f b):=by simp[hj]
 have li:=(Faf.1 hi').1
 exact(List.getElem?_inj li hn).1 (by rw[hi',hj',h])
theorem Cr{α β:Type}{f:α->β}{G:List α}{g g' g1:α}(hn:(G.map f).Nodup)(hj:G[j]?=some g):g1∈G.set j g'↔g1=g'\/(g1∈G/\f g1≠f g):=by
 have hlt:=(Faf.1 hj).1
 constructor
 ·intro h
  obtain⟨i,hi⟩:=Fa2.1 h
  by_cases hij:j=i
  ·subst hij
   rw[Fd0 hlt]at hi
   cases hi
   exact .inl rfl
  ·rw[Fdp hij]at hi
   exact .inr ⟨Fau hi,λhe=>hij (By hn hi hj he).symm⟩
 ·rintro(rfl|⟨h1,h2⟩)
  ·exact Fa2.2 ⟨j,Fd0 hlt⟩
  ·obtain⟨i,hi⟩:=Fa2.1 h1
   have hij:j≠i:=λe=>by subst e;rw[hj]at hi;cases hi;exact h2 rfl
   exact Fa2.2 ⟨i,by rw[Fdp hij];exact hi⟩
theorem Ot{α β:Type}{f:α->β}{G:List α}{g g1:α}(hn:(G.map f).Nodup)(hj:G[j]?=some g):g1∈G.eraseIdx j↔(g1∈G/\f g1≠f g):=by
 constructor
 ·intro h
  obtain⟨i,hi⟩:=Fa2.1 h
  rw[Fd1]at hi
  split at hi
  ·rename_i hij
   exact⟨Fau hi,λhe=>by have:=By hn hi hj he;omega⟩
  ·rename_i hij
   exact⟨Fau hi,λhe=>by have:=By hn hi hj he;omega⟩
 ·rintro⟨h1,h2⟩
  obtain⟨i,hi⟩:=Fa2.1 h1
  have hij:i≠j:=λe=>by subst e;rw[hj]at hi;cases hi;exact h2 rfl
  refine Fa2.2 ?_
  by_cases hlt:i<j
  ·exact⟨i,by rw[Fd1,if_pos hlt];exact hi⟩
  ·refine⟨i-1,?_⟩
   rw[Fd1,if_neg (by omega),show i-1+1=i by omega]
   exact hi
theorem Vt{α β:Type}(f:α->β){G:List α}{g g':α}(hj:G[j]?=some g)(h:f g'=f g):(G.set j g').map f=G.map f:=by
 rw[List.map_set,h]
 apply Fb9
 intro i
 by_cases hij:j=i
 ·subst hij
  have hlt:=(Faf.1 hj).1
  rw[Fd0 (by simpa using hlt),Fap,hj];rfl
 ·rw[Fdp hij]
theorem yab{G:List Grp}(hn:(G.map (·.key)).Nodup){g g1:Grp}(h:g∈G)(h1:g1∈G)(hk:g1.key=g.key):g1=g:=by
 obtain⟨i,hi⟩:=Fa2.1 h
 obtain⟨j,hj⟩:=Fa2.1 h1
 have:=By (f:=Grp.key) hn hj hi hk
 subst this
 rw[hi]at hj
 cases hj;rfl
theorem Lw{l:List Ent}(hn:(l.map (·.1)).Nodup){e e1:Ent}(h:e∈l)(h1:e1∈l)(hk:e1.1=e.1):e1=e:=by
 obtain⟨i,hi⟩:=Fa2.1 h
 obtain⟨j,hj⟩:=Fa2.1 h1
 have:=By (f:=λ(e:Ent)=>e.1) hn hj hi hk
 subst this
 rw[hi]at hj
 cases hj;rfl
def qb(l:List Ent)(id:Int):List Ent:=l.filter λe=>e.1 != id
theorem mem_dropId{l:List Ent}{e:Ent}:e∈qb l id↔e∈l/\e.1≠id:=by simp[qb]
theorem ro{l:List Ent}(h:(l.map (·.1)).Nodup):((qb l id).map (·.1)).Nodup:=h.sublist ((List.filter_sublist).map _)
theorem yag{l:List Ent}{G:List Grp}(h:Inv l G){e:Ent}(he:e∈l){g:Grp}(hj:G[j]?=some g)(hk:g.key=zq e.2){ns':List Int}(hs:ns'.Pairwise (·<·))(hm:∀y,y∈ns'↔y≠e.1/\y∈g.ns):
  (ns'=[]->Inv (qb l e.1) (G.eraseIdx j))/\(ns'≠[]->∀g':Grp,g'.key=g.key->g'.ns=ns'->Inv (qb l e.1) (G.set j g')):=by
 have hgm:=Fau hj
 have key:∀g1∈G,g1.key≠g.key->∀id,id∈g1.ns↔∃e1∈qb l e.1,e1.1=id/\zq e1.2=g1.key:=by
  intro g1 h1 h2 id
  rw[h.m1 g1 h1 id]
  constructor
  ·rintro⟨e1,h3,h4,h5⟩
   refine⟨e1,mem_dropId.2 ⟨h3,λh6=>h2 ?_⟩,h4,h5⟩
   rw[<-h5,Lw h.n1 he h3 h6,hk]
  ·rintro⟨e1,h3,h4,h5⟩
   exact⟨e1,(mem_dropId.1 h3).1,h4,h5⟩
 refine⟨λhn=>?_,λhn g' hk' hns=>?_⟩
 ·refine⟨ro h.n1,h.n2.sublist ((List.eraseIdx_sublist ..).map _),λg1 h1=>?_,λg1 h1=>?_,λe1 h1=>?_⟩
  ·exact h.s g1 ((Ot (f:=Grp.key) h.n2 hj).1 h1).1
  ·obtain⟨h2,h3⟩:=(Ot (f:=Grp.key) h.n2 hj).1 h1
   exact key g1 h2 h3
  ·obtain⟨h2,h3⟩:=mem_dropId.1 h1
   obtain⟨g1,h4,h5⟩:=h.m2 e1 h2
   refine⟨g1,(Ot (f:=Grp.key) h.n2 hj).2 ⟨h4,λh6=>?_⟩,h5⟩
   have h7:e1.1∈g.ns:=(h.m1 g hgm e1.1).2 ⟨e1,h2,rfl,by rw[<-h5,h6]⟩
   have:=(hm e1.1).2 ⟨h3,h7⟩
   rw[hn]at this
   cases this
 ·refine⟨ro h.n1,by rw[Vt Grp.key hj hk'];exact h.n2,λg1 h1=>?_,λg1 h1=>?_,λe1 h1=>?_⟩
  ·rcases(Cr (f:=Grp.key) h.n2 hj).1 h1 with rfl|⟨h2,_⟩
   ·rw[hns];exact⟨hs,hn⟩
   ·exact h.s g1 h2
  ·rcases(Cr (f:=Grp.key) h.n2 hj).1 h1 with rfl|⟨h2,h3⟩
   ·intro id
    rw[hns,hm,h.m1 g hgm,hk']
    constructor
    ·rintro⟨h4,e1,h5,h6,h7⟩
     exact⟨e1,mem_dropId.2 ⟨h5,by rw[h6];exact h4⟩,h6,h7⟩
    ·rintro⟨e1,h5,h6,h7⟩
     obtain⟨h8,h9⟩:=mem_dropId.1 h5
     exact⟨by rw[<-h6];exact h9,e1,h8,h6,h7⟩
   ·exact key g1 h2 h3
  ·obtain⟨h2,h3⟩:=mem_dropId.1 h1
   obtain⟨g1,h4,h5⟩:=h.m2 e1 h2
   by_cases h6:g1.key=g.key
   ·exact⟨g',(Cr (f:=Grp.key) h.n2 hj).2 (.inl rfl),by rw[hk',<-h6,h5]⟩
   ·exact⟨g1,(Cr (f:=Grp.key) h.n2 hj).2 (.inr ⟨h4,h6⟩),h5⟩
theorem yah{l:List Ent}{G:List Grp}(h:Inv l G){e:Ent}(he:∀e1∈l,e1.1≠e.1):
  (∀j g g',G[j]?=some g->g.key=zq e.2->g'.key=g.key->g'.ns.Pairwise (·<·)->(∀y,y∈g'.ns↔y=e.1\/y∈g.ns)->Inv (l++[e]) (G.set j g'))∧
  ((∀g∈G,g.key≠zq e.2)->∀g',g'.key=zq e.2->g'.ns=[e.1]->Inv (l++[e]) (G++[g'])):=by
 have n1:((l++[e]).map (·.1)).Nodup:=by
  rw[Fbe,Fc8]
  refine⟨h.n1,by simp,λa ha b hb=>?_⟩
  obtain⟨e1,h1,rfl⟩:=Fac.1 ha
  simp at hb
  subst hb
  exact he e1 h1
 have key:∀g1∈G,g1.key≠zq e.2->∀id,id∈g1.ns↔∃e1∈l++[e],e1.1=id/\zq e1.2=g1.key:=by
  intro g1 h1 h2 id
  rw[h.m1 g1 h1 id]
  constructor
  ·rintro⟨e1,h3,h4,h5⟩
   exact⟨e1,by simp[h3],h4,h5⟩
  ·rintro⟨e1,h3,h4,h5⟩
   rcases Fal.1 h3 with h3|h3
   ·exact⟨e1,h3,h4,h5⟩
   ·simp at h3
    subst h3
    exact absurd h5.symm h2
 refine⟨λj g g' hj hk hk' hs hm=>?_,λhno g' hk' hns=>?_⟩
 ·have hgm:=Fau hj
  refine⟨n1,by rw[Vt Grp.key hj hk'];exact h.n2,λg1 h1=>?_,λg1 h1=>?_,λe1 h1=>?_⟩
  ·rcases(Cr (f:=Grp.key) h.n2 hj).1 h1 with rfl|⟨h2,_⟩
   ·refine⟨hs,λhn=>?_⟩
    have:=(hm e.1).2 (.inl rfl)
    rw[hn]at this;cases this
   ·exact h.s g1 h2
  ·rcases(Cr (f:=Grp.key) h.n2 hj).1 h1 with rfl|⟨h2,h3⟩
   ·intro id
    rw[hm,h.m1 g hgm,hk']
    constructor
    ·rintro(rfl|⟨e1,h5,h6,h7⟩)
     ·exact⟨e,by simp,rfl,hk.symm⟩
     ·exact⟨e1,by simp[h5],h6,h7⟩
    ·rintro⟨e1,h5,h6,h7⟩
     rcases Fal.1 h5 with h5|h5
     ·exact .inr ⟨e1,h5,h6,h7⟩
     ·simp at h5
      subst h5
      exact .inl h6.symm
   ·exact key g1 h2 (by rw[<-hk];exact h3)
  ·rcases Fal.1 h1 with h1|h1
   ·obtain⟨g1,h4,h5⟩:=h.m2 e1 h1
    by_cases h6:g1.key=g.key
    ·exact⟨g',(Cr (f:=Grp.key) h.n2 hj).2 (.inl rfl),by rw[hk',<-h6,h5]⟩
    ·exact⟨g1,(Cr (f:=Grp.key) h.n2 hj).2 (.inr ⟨h4,h6⟩),h5⟩
   ·simp at h1
    subst h1
    exact⟨g',(Cr (f:=Grp.key) h.n2 hj).2 (.inl rfl),by rw[hk',hk]⟩
 ·refine⟨n1,?_,λg1 h1=>?_,λg1 h1=>?_,λe1 h1=>?_⟩
  ·rw[Fbe,Fc8]
   refine⟨h.n2,by simp,λa ha b hb=>?_⟩
   obtain⟨g1,h1,rfl⟩:=Fac.1 ha
   simp at hb
   subst hb
   rw[hk']
   exact hno g1 h1
  ·rcases Fal.1 h1 with h1|h1
   ·exact h.s g1 h1
   ·simp at h1
    subst h1
    rw[hns]
    exact⟨by simp,by simp⟩
  ·rcases Fal.1 h1 with h1|h1
   ·exact key g1 h1 (hno g1 h1)
   ·simp at h1
    subst h1
    intro id
    rw[hns,hk']
    constructor
    ·intro h2
     simp at h2
     exact⟨e,by simp,h2.symm,rfl⟩
    ·rintro⟨e1,h2,h3,h4⟩
     rcases Fal.1 h2 with h2|h2
     ·obtain⟨g2,h5,h6⟩:=h.m2 e1 h2
      exact absurd (h6.trans h4) (hno g2 h5)
     ·simp at h2
      subst h2
      simp[h3]
  ·rcases Fal.1 h1 with h1|h1
   ·obtain⟨g1,h4,h5⟩:=h.m2 e1 h1
    exact⟨g1,by simp[h4],h5⟩
   ·simp at h1
    subst h1
    exact⟨g',by simp,hk'⟩
end
def qA(id:Int)(e:AV×AV):Bool:=match e.1 with|.s (.int _ n)=>id==n|_=>false
def qG(x y:Int)(e:AV×AV):Bool:=match e.1 with|.agg [.s (.int _ a),.s (.int _ b)]=>(x==a&&(y==b&&true))|_=>false
def v8(id:Int)(e:Ent):Bool:=id==e.1
def Db(k:Int×Int)(g:Grp):Bool:=(k.1==g.x&&(k.2==g.y&&true))
theorem atKey_iff{k:Int×Int}{g:Grp}:Db k g=true↔g.key=k:=by
 obtain⟨x,y⟩:=k
 unfold Db Grp.key
 simp
 constructor
 ·rintro⟨h1,h2⟩;exact⟨h1.symm,h2.symm⟩
 ·rintro⟨h1,h2⟩;exact⟨h1.symm,h2.symm⟩
theorem pz(l:List Ent)(id:Int):(l.map vl).find? (qA id)=(l.find? (v8 id)).map vl:=by
 rw[List.find?_map];rfl
theorem Po(l:List Ent)(id:Int):(l.map vl).findIdx? (qA id)=l.findIdx? (v8 id):=by
 rw[List.findIdx?_map];rfl
theorem L8(G:List Grp)(k:Int×Int):(G.map vk).find? (qG k.1 k.2)=(G.find? (Db k)).map vk:=by
 rw[List.find?_map];rfl
theorem Pn(G:List Grp)(k:Int×Int):(G.map vk).findIdx? (qG k.1 k.2)=G.findIdx? (Db k):=by
 rw[List.findIdx?_map];rfl
theorem L6{α:Type}{q:α->Bool}{l:List α}{e:α}(h:l.find? q=some e):e∈l/\q e=true:=⟨Fc6 h,Feg h⟩
theorem py{α:Type}{q:α->Bool}{l:List α}{i:Nat}(h:l.findIdx? q=some i):∃e,l[i]?=some e/\q e=true/\l.find? q=some e:=by
 have h1:=Fbh.1 h
 obtain⟨hlt,hq,_⟩:=h1
 exact⟨l[i],Fab hlt,hq,pt h (Fab hlt)⟩
theorem Wl{α:Type}{q:α->Bool}{l:List α}{e:α}(h:l.find? q=some e):∃i,l.findIdx? q=some i/\l[i]?=some e:=by
 cases hi:l.findIdx? q with
 |none=>rw[pr hi]at h;cases h
 |some i=>
  obtain⟨e',h1,_,h3⟩:=py hi
  rw[h]at h3
  cases h3
  exact⟨i,rfl,h1⟩
theorem ydg{l:List Ent}(hn:(l.map (·.1)).Nodup){i:Nat}{e:Ent}(hi:l[i]?=some e):l.eraseIdx i=qb l e.1:=by
 induction l generalizing i with
 |nil=>simp at hi
 |cons a l ih=>
  rw[Fb6,Fdw]at hn
  cases i with
  |zero=>
   simp at hi
   subst hi
   rw[List.eraseIdx_cons_zero]
   unfold qb
   rw[Fdc (by simp)]
   symm
   rw[List.filter_eq_self]
   intro e he
   simp
   intro h
   exact hn.1 (Fac.2 ⟨e,he,h⟩)
  |succ i=>
   have hi:l[i]?=some e:=by simpa using hi
   rw[List.eraseIdx_cons_succ,ih hn.2 hi]
   unfold qb
   rw[Feu]
   simp
   intro h
   exact hn.1 (Fac.2 ⟨e,Fau hi,h.symm⟩)
theorem ydq{l:List Ent}{id:Int}(h:l.find? (v8 id)=none):qb l id=l:=by
 unfold qb
 rw[List.filter_eq_self]
 intro e he
 have:=Fcu.1 h e he
 simp[v8]at this
 simp
 exact λh=>this h.symm
section
variable {a:Store} {p ma mi:Nat} {l:List Ent} {bs1:List Nat} {c1:Nat} {G:List Grp} {bs2:List Nat} {c2:Nat}
theorem CellsAt.p_ne(h:CellsAt a p ma mi l bs1 c1 G bs2 c2):ma≠p/\mi≠p:=by
 refine⟨λe=>?_,λe=>?_⟩
 ·have:=h.ha;rw[e,h.hp]at this;cases this
 ·have:=h.hi;rw[e,h.hp]at this;cases this
theorem CellsAt.g_ne(h:CellsAt a p ma mi l bs1 c1 G bs2 c2){g:Grp}(hg:g∈G):g.b≠ma/\g.b≠mi/\g.b≠p:=by
 obtain⟨h1,h2,h3⟩:=h.hg g hg
 refine⟨λe=>?_,λe=>?_,h3⟩
 ·have:=h.ha;rw[<-e,h1]at this;cases this
 ·have:=h.hi;rw[<-e,h1]at this;cases this
theorem CellsAt.other(h:CellsAt a p ma mi l bs1 c1 G bs2 c2){b:Nat}(x:AObj)(hp:b≠p)(hma:b≠ma)(hmi:b≠mi)(hg:∀g∈G,b≠g.b):CellsAt (a.sO b x) p ma mi l bs1 c1 G bs2 c2:=
 ⟨by rw[zg (Ne.symm hp)];exact h.hp,by rw[zg (Ne.symm hma)];exact h.ha,by rw[zg (Ne.symm hmi)];exact h.hi,h.ne,
  λg hg'=>by rw[zg (Ne.symm (hg g hg'))];exact h.hg g hg',h.nd⟩
theorem CellsAt.fresh(h:CellsAt a p ma mi l bs1 c1 G bs2 c2){b:Nat}(x:AObj)(hb:Fresh a b):CellsAt (a.sO b x) p ma mi l bs1 c1 G bs2 c2:=
 h.other x (hb.ne_obj h.hp) (hb.ne_obj h.ha) (hb.ne_obj h.hi) λg hg=>hb.ne_obj (h.hg g hg).1
theorem CellsAt.setA(h:CellsAt a p ma mi l bs1 c1 G bs2 c2)(l':List Ent)(bs:List Nat)(c:Nat):CellsAt (a.sO ma (.map (l'.map vl) bs c)) p ma mi l' bs c G bs2 c2:=
 ⟨by rw[zg (Ne.symm h.p_ne.1)];exact h.hp,zd _ _ _,by rw[zg (Ne.symm h.ne)];exact h.hi,h.ne,
  λg hg=>by rw[zg (h.g_ne hg).1];exact h.hg g hg,h.nd⟩
theorem CellsAt.setI(h:CellsAt a p ma mi l bs1 c1 G bs2 c2){G':List Grp}(bs:List Nat)(c:Nat)(hg:∀g∈G',a.obj g.b=some (.cells (g.ns.map aI++g.L))/\g.fits/\g.b≠p)(nd:(G'.map (·.b)).Nodup):
  CellsAt (a.sO mi (.map (G'.map vk) bs c)) p ma mi l bs1 c1 G' bs c:=
 ⟨by rw[zg (Ne.symm h.p_ne.2)];exact h.hp,by rw[zg h.ne];exact h.ha,zd _ _ _,h.ne,
  λg hg'=>by
   obtain⟨h1,h2,h3⟩:=hg g hg'
   have:g.b≠mi:=λe=>by have:=h.hi;rw[<-e,h1]at this;cases this
   rw[zg this]
   exact⟨h1,h2,h3⟩,nd⟩
structure CellsMid(a:Store)(p ma mi:Nat)(l:List Ent)(bs1:List Nat)(c1:Nat)(G:List Grp)(bs2:List Nat)(c2:Nat)(b:Nat):Prop where
 hp:a.obj p=some (.cells [.s (.map (some ma)),.s (.map (some mi))])
 ha:a.obj ma=some (.map (l.map vl) bs1 c1)
 hi:a.obj mi=some (.map (G.map vk) bs2 c2)
 ne:ma≠mi
 hg:∀g∈G,g.b≠b->a.obj g.b=some (.cells (g.ns.map aI++g.L))/\g.fits/\g.b≠p
 nd:(G.map (·.b)).Nodup
theorem CellsAt.mid(h:CellsAt a p ma mi l bs1 c1 G bs2 c2){b:Nat}(x:AObj)(hp:b≠p)(hma:b≠ma)(hmi:b≠mi):CellsMid (a.sO b x) p ma mi l bs1 c1 G bs2 c2 b:=
 ⟨by rw[zg (Ne.symm hp)];exact h.hp,by rw[zg (Ne.symm hma)];exact h.ha,by rw[zg (Ne.symm hmi)];exact h.hi,h.ne,
  λg hg' hne=>by rw[zg hne];exact h.hg g hg',h.nd⟩
theorem CellsMid.setI{b:Nat}(h:CellsMid a p ma mi l bs1 c1 G bs2 c2 b){G':List Grp}(bs:List Nat)(c:Nat)(hg:∀g∈G',(g∈G/\g.b≠b)\/(a.obj g.b=some (.cells (g.ns.map aI++g.L))/\g.fits/\g.b≠p))(nd:(G'.map (·.b)).Nodup):
  CellsAt (a.sO mi (.map (G'.map vk) bs c)) p ma mi l bs1 c1 G' bs c:=by
 have hpi:mi≠p:=λe=>by have:=h.hi;rw[e,h.hp]at this;cases this
 refine⟨by rw[zg (Ne.symm hpi)];exact h.hp,by rw[zg h.ne];exact h.ha,zd _ _ _,h.ne,λg hg'=>?_,nd⟩
 have key:a.obj g.b=some (.cells (g.ns.map aI++g.L))/\g.fits/\g.b≠p:=by
  rcases hg g hg' with⟨h1,h2⟩|h1
  ·exact h.hg g h1 h2
  ·exact h1
 obtain⟨h1,h2,h3⟩:=key
 have:g.b≠mi:=λe=>by have:=h.hi;rw[<-e,h1]at this;cases this
 rw[zg this]
 exact⟨h1,h2,h3⟩
end
theorem zxi{a:Store}{p ma mi:Nat}{l:List Ent}{bs1:List Nat}{c1:Nat}{G:List Grp}{bs2:List Nat}{c2:Nat}(ha:CellsAt a p ma mi l bs1 c1 G bs2 c2)(hi:Inv l G){id:Int}{pos:Vc}(hno:∀e∈l,e.1≠id):
  ∃cur ns,Ct false (.s (.slice none 0 0)) ((G.find? (Db (zq pos))).map vk)=cur/\Ints a cur ns/\ns.Pairwise (·<·)/\(ns=[]\/∃g∈G,ns=g.ns)/\(∀b cap,cur=.s (.slice (some ⟨b,0,none⟩) ns.length cap)->a.obj b≠none)∧
   ∀vb lit b cap L,Fresh a vb->(Fresh (a.sO vb lit) b\/∃c0,cur=.s (.slice (some ⟨b,0,none⟩) ns.length c0))->
    (ns.take (ns.countP (·<id))++id::ns.drop (ns.countP (·<id))).length<=cap->cap<=(ns.take (ns.countP (·<id))++id::ns.drop (ns.countP (·<id))).length+L.length->cap<=9223372036854775807->
    ((a.sO vb lit).sO b (.cells ((ns.take (ns.countP (·<id))++id::ns.drop (ns.countP (·<id))).map aI++L))).obj mi=some (.map (G.map vk) bs2 c2)∧
    ((a.sO vb lit).sO b (.cells ((ns.take (ns.countP (·<id))++id::ns.drop (ns.countP (·<id))).map aI++L))).obj p=some (.cells [.s (.map (some ma)),.s (.map (some mi))])∧
    ∃G' bs2' c2',j3 (G.map vk) bs2 c2 (qG (zq pos).1 (zq pos).2) (.agg [int (zq pos).1,int (zq pos).2]) (.s (.slice (some ⟨b,0,none⟩) (ns.take (ns.countP (·<id))++id::ns.drop (ns.countP (·<id))).length cap))=.map (G'.map vk) bs2' c2'∧
     CellsAt (((a.sO vb lit).sO b (.cells ((ns.take (ns.countP (·<id))++id::ns.drop (ns.countP (·<id))).map aI++L))).sO mi (.map (G'.map vk) bs2' c2')) p ma mi l bs1 c1 G' bs2' c2'/\Inv (l++[(id,pos)]) G':=by
 obtain⟨w1,w2⟩:=yah (e:=(id,pos)) hi hno
 cases hf:G.find? (Db (zq pos))with
 |none=>
  refine⟨_,[],rfl,.inl ⟨rfl,rfl⟩,List.Pairwise.nil,.inl rfl,λb cap h=>?_,λvb lit b cap L hvb hb h1 h2 h3=>?_⟩
  ·simp[Ct]at h
  have hb:Fresh (a.sO vb lit) b:=by
   rcases hb with hb|⟨c0,hb⟩
   ·exact hb
   ·simp[Ct]at hb
  simp only[List.countP_nil,List.take_nil,List.drop_nil,Fc0]at*
  have a1:=ha.fresh lit hvb
  have a2:=a1.fresh (.cells ([id].map aI++L)) hb
  refine⟨a2.hi,a2.hp,G++[⟨(zq pos).1,(zq pos).2,[id],b,cap,L⟩],bs2++[c2],c2+1,?_,?_,?_⟩
  ·unfold j3
   have:G.findIdx? (Db (zq pos))=none:=by
    cases hx:G.findIdx? (Db (zq pos))with
    |none=>rfl
    |some i=>obtain⟨e,_,_,h⟩:=py hx;rw[hf]at h;cases h
   rw[Pn,this,Fbe]
   rfl
  ·refine a2.setI _ _ (λg hg=>?_) ?_
   ·rcases Fal.1 hg with hg|hg
    ·exact a2.hg g hg
    ·simp at hg
     subst hg
     exact⟨zd _ _ _,⟨h1,h2,h3⟩,hb.ne_obj a1.hp⟩
   ·rw[Fbe,Fc8]
    refine⟨ha.nd,by simp,λx hx y hy=>?_⟩
    obtain⟨g,hg,rfl⟩:=Fac.1 hx
    simp at hy
    subst hy
    exact Ne.symm (hb.ne_obj (a1.hg g hg).1)
  ·refine w2 (λg hg hk=>?_) _ rfl rfl
   have:=Fcu.1 hf g hg
   exact this (atKey_iff.2 hk)
 |some g=>
  obtain⟨hg,hk⟩:=L6 hf
  have hk:=atKey_iff.1 hk
  obtain⟨j,hj1,hj2⟩:=Wl hf
  obtain⟨k1,k2,k3⟩:=ha.hg g hg
  obtain⟨s1,s2⟩:=hi.s g hg
  have hnin:id∉g.ns:=λh=>by
   obtain⟨e,he,h1,_⟩:=(hi.m1 g hg id).1 h
   exact hno e he h1
  obtain⟨i1,i2⟩:=yap s1 hnin
  refine⟨_,g.ns,rfl,.inr ⟨g.b,g.cap,g.L,rfl,k1,k2⟩,s1,.inr ⟨g,hg,rfl⟩,λb cap h=>?_,λvb lit b cap L hvb hb h1 h2 h3=>?_⟩
  ·simp[Ct,vk]at h
   rw[<-h.1,k1];simp
  generalize g.ns.take (g.ns.countP (·<id))++id::g.ns.drop (g.ns.countP (·<id))=ins at*
  have a1:=ha.fresh lit hvb
  have hbne:b≠p/\b≠ma/\b≠mi/\∀g1∈G,g1≠g->g1.b≠b:=by
   rcases hb with hb|⟨c0,hb⟩
   ·exact⟨hb.ne_obj a1.hp,hb.ne_obj a1.ha,hb.ne_obj a1.hi,λg1 hg1 _=>Ne.symm (hb.ne_obj (a1.hg g1 hg1).1)⟩
   ·have:g.b=b:=by simp[Ct,vk]at hb;exact hb.1
    subst this
    obtain⟨n1,n2,n3⟩:=ha.g_ne hg
    refine⟨n3,n1,n2,λg1 hg1 hne he=>hne ?_⟩
    obtain⟨i,hi1⟩:=Fa2.1 hg1
    have:=By (f:=λg:Grp=>g.b) ha.nd hi1 hj2 he
    subst this
    rw[hj2]at hi1
    cases hi1;rfl
  obtain⟨n3,n1,n2,n4⟩:=hbne
  have mid:=a1.mid (.cells (ins.map aI++L)) n3 n1 n2
  let g2:Grp:=⟨g.x,g.y,ins,b,cap,L⟩
  have hmem:∀g1,g1∈G.set j g2->g1=g2\/(g1∈G/\g1≠g):=λg1 h=>by
   rcases(Cr (f:=Grp.key) hi.n2 hj2).1 h with h|⟨h,h'⟩
   ·exact .inl h
   ·exact .inr ⟨h,λe=>h' (by rw[e])⟩
  refine⟨mid.hi,mid.hp,G.set j g2,bs2,c2,?_,?_,w1 j g g2 hj2 hk rfl i1 i2⟩
  ·unfold j3
   rw[Pn,hj1,List.map_set]
   simp only
   congr 2
   show _=(AV.agg [int g.x,int g.y],_)
   rw[<-hk];rfl
  ·refine mid.setI _ _ (λg1 h1'=>?_) ?_
   ·rcases hmem g1 h1' with rfl|⟨q1,q2⟩
    ·exact .inr ⟨zd _ _ _,⟨h1,h2,h3⟩,n3⟩
    ·exact .inl ⟨q1,n4 g1 q1 q2⟩
   ·rw[List.map_set]
    have hlt:=(Faf.1 hj2).1
    unfold List.Nodup
    rw[Fcp]
    intro i1 i2 hl1' hl2 hlt12 he
    replace he:=congrArg some he
    rw[<-Fab,<-Fab]at he
    rw[Fdl,Fdl]at he
    simp only[Faq,Fa8]at hl2 he
    have nd:=ha.nd
    by_cases e1:j=i1
    ·subst e1
     rw[if_pos rfl,if_pos hlt,if_neg (by omega),Fap,Fab hl2]at he
     simp at he
     refine n4 G[i2] (Faa hl2) (λe=>?_) he.symm
     have:=By (f:=Grp.key) hi.n2 (Fab hl2) hj2 (by rw[e])
     omega
    ·by_cases e2:j=i2
     ·subst e2
      have hl1:i1<G.length:=by omega
      rw[if_neg e1,if_pos rfl,if_pos hlt,Fap,Fab hl1]at he
      simp at he
      refine n4 G[i1] (Faa hl1) (λe=>?_) he
      have:=By (f:=Grp.key) hi.n2 (Fab hl1) hj2 (by rw[e])
      omega
     ·have hl1:i1<G.length:=by omega
      rw[if_neg e1,if_neg e2,Fap,Fap,Fab hl1,Fab hl2]at he
      simp at he
      have:=By (f:=λg:Grp=>g.b) nd (Fab hl1) (Fab hl2) he
      omega
theorem Ints.fresh{st:Store}{v:AV}{ns:List Int}(h:Ints st v ns){b:Nat}(x:AObj)(hb:Fresh st b):Ints (st.sO b x) v ns:=by
 rcases h with h|⟨b1,cap,L,h1,h2,h3⟩
 ·exact .inl h
 ·exact .inr ⟨b1,cap,L,h1,by rw[zg (Ne.symm (hb.ne_obj h2))];exact h2,h3⟩
end Go.V
