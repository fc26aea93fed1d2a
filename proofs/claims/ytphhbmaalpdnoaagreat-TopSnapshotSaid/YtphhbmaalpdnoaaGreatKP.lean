/- Ground of laws of throngtop: contracts and plain lemmas; no condition beyond the row's own. -/
import Derived.Test.YtphhbmaalpdnoaaGreatKF
set_option linter.unusedSimpArgs false
set_option linter.unusedVariables false
set_option linter.defProp false
namespace Go.V
theorem zav(v:Nat):yv (v:Int)=Bh v:=by
 unfold yv;split
 ·rw[Fa8]
 ·rw[Bh,dif_neg θ]
theorem yj8(c:UInt8):jy (c.toNat:Int)=c:=by unfold jy;have:=c.toNat_lt;have e:((c.toNat:Int)%256).toNat=c.toNat:=θ;rw[e];simp
theorem yrg(c:UInt8)(h:128<=c.toNat)(v:Nat):jy ((c.toNat%128+128*v:Nat):Int) ||| 128=c:=by
 rw[<-yj7 _ θ,Fbz θ];have e:(((c.toNat%128+128*v:Nat):Int)%128)=((c.toNat%128:Nat):Int):=θ;rw[e];have e2:∀n:Nat,n<256->128<=n->jy ((n%128:Nat):Int) ||| 128=UInt8.ofNat n:=by decide+kernel
 rw[e2 c.toNat c.toNat_lt h];simp
theorem yng:∀(b:List UInt8) (i:Nat) (n:Int) (m:Int) (k:Nat),xq b i n=(m,k,0)->
  ∃v:Nat,m=n+v*128^i/\b=Bh v++b.drop (k-i)/\i<k/\(0<i->0<v):=by
 intro b;induction b with
 |nil=>intro i n m k h;simp[xq]at h
 |cons c l ih=>
  intro i n m k h;unfold xq at h;split at h
  ·simp at h
  ·rename_i hc;split at h
   ·rename_i h1;simp only[Prod.mk.injEq,and_true]at h;obtain⟨rfl,rfl⟩:=h;refine⟨c.toNat,by rw[Nat.mod_eq_of_lt h1],?_,θ,λhi=>?_⟩
    ·rw[Bh,dif_neg θ,yj8];simp
    ·omega
   ·rename_i h1;obtain⟨v,rfl,hb,hk,hv⟩:=ih _ _ _ _ h;have hv:=hv θ;refine⟨c.toNat%128+128*v,?_,?_,θ,λ_=>θ⟩
    ·rw[Int.pow_succ];have e1:(v:Int)*(128^i*128)=128*(v:Int)*128^i:=by rw[Fdf (128^i) 128,<-Int.mul_assoc,Fdf (v:Int) 128]
     rw[e1,Int.add_assoc,<-Int.add_mul];simp
    ·rw[Bh,dif_pos θ,yrg c θ v];have e:(c.toNat%128+128*v)/128=v:=θ;rw[e,show k-i=(k-(i+1))+1 by omega];show c::l=c::(Bh v++l.drop (k-(i+1)));rw[<-hb]
theorem l7{b:List UInt8}(h:(ye b).2.2=0):b=yv (ye b).1++b.drop (ye b).2.1:=by
 obtain⟨v,h1,h2,_⟩:=yng b 0 0 (ye b).1 (ye b).2.1 (Prod.ext rfl (Prod.ext rfl h));have e:(ye b).1=(v:Int):=by rw[h1];simp
 rw[e,zav];exact h2
theorem Kz{s:Rd}{lo hi:Int}(h:(s.num lo hi).2.e=0):s.e=0/\s.b=yv (s.num lo hi).1++(s.num lo hi).2.b/\lo<=(s.num lo hi).1/\(s.num lo hi).1<=hi:=by obtain⟨h1,h2,h3,h4,h5,h6⟩:=Pp h;have e1:(s.num lo hi).1=(ye s.b).1:=h3;have e2:(s.num lo hi).2=⟨s.b.drop (ye s.b).2.1,0⟩:=h4;rw[e1,e2];exact⟨h1,l7 h2,h5,h6⟩
theorem zg8{n:Int}(h:0<=n):yv n=vr (zig n):=by
 unfold vr zig;by_cases h1:n%2=0
 ·rw[if_pos h1,if_neg θ]
  congr 1;omega
 ·rw[if_neg h1,if_pos θ]
  congr 1;omega
theorem zc1{s:Rd}{lo hi:Int}(h:(s.int lo hi).2.e=0):s.e=0/\s.b=vr (s.int lo hi).1++(s.int lo hi).2.b/\lo<=(s.int lo hi).1/\(s.int lo hi).1<=hi:=by obtain⟨h1,h2,h3,h4,h5,h6⟩:=Pp h;have e1:(s.int lo hi).1=(Bz s.b).1:=h3;have e2:(s.int lo hi).2=⟨s.b.drop (Bz s.b).2.1,0⟩:=h4;rw[e1,e2];have h7:=l7 (b:=s.b) h2;have h8:=D8 s.b;refine⟨h1,?_,h5,h6⟩;have e3:(Bz s.b).1=zig (ye s.b).1:=rfl;rw[e3,<-zg8 θ];exact h7
theorem ol{s:Rd}(h:s.byte.2.e=0):s.e=0/\s.b=s.byte.1::s.byte.2.b:=by
 obtain⟨b,e⟩:=s;unfold Rd.byte at*;by_cases h1:e=0
 ·subst h1;cases b with
  |nil=>simp at h
  |cons c l=>exact⟨rfl,rfl⟩
 ·simp only[ne_eq,h1,not_false_eq_true,if_true]at h
theorem Ou:∀(l:List UInt8) (s:Rd),(s.same l).e=0->s.e=0/\s.b=l++(s.same l).b:=by
 intro l;induction l with
 |nil=>intro s h;exact⟨h,rfl⟩
 |cons c l ih=>
  intro s h;obtain⟨h1,h2⟩:=ih (s.byte.2.must (s.byte.1==c)) h;obtain⟨h3,h4,h5⟩:=Ik h1;obtain⟨h6,h7⟩:=ol h3;rw[h5]at h2;have e:(s.same (c::l)).b=((s.byte.2.must (s.byte.1==c)).same l).b:=rfl;refine⟨h6,?_⟩;rw[e,h7,h5,h2,eq_of_beq h4];simp[h5]
theorem zao{s:Rd}(h:s.raw.2.e=0):s.e=0/\s.b=yv s.raw.1.length++s.raw.1++s.raw.2.b:=by
 unfold Rd.raw at*;by_cases h1:s.e=0
 ·rw[if_neg θg]at h⊢;simp only at h⊢;unfold Rd.take at*;split at h
  ·rename_i h2;exact absurd h h2
  ·rename_i h2;rw[if_neg h2];have h3:(jr s.b).2.2=0:=by
    unfold Rd.fail at h2;rw[if_pos h1]at h2;simpa using h2
   refine⟨h1,?_⟩;simp only;have hf:=D8 s.b;unfold jr at h3⊢;by_cases g1:(ye s.b).2.2≠0
   ·rw[if_pos g1]at h3;exact absurd h3 g1
   rw[if_neg g1]at h3⊢;by_cases g2:(ye s.b).1>1048576
   ·rw[if_pos g2]at h3;simp at h3
   rw[if_neg g2]at h3⊢;by_cases g3:(ye s.b).1>(s.b.length:Int)-(ye s.b).2.1
   ·rw[if_pos g3]at h3;simp at h3
   rw[if_neg g3];simp only;have h4:=l7 (b:=s.b) (by simpa using g1);have e1:(((s.b.drop (ye s.b).2.1).take (ye s.b).1.toNat).length:Int)=(ye s.b).1:=by rw[Fam,Fcq];omega
   rw[e1,<-List.drop_drop,Fao,Fbs];exact h4
 ·rw[if_pos θg]at h;exact absurd h h1
theorem zjt:∀(n:Nat) (s:Rd) (l:List UInt8),(Rd.tilesGo n s l).2.e=0->
  s.e=0/\∃m,(Rd.tilesGo n s l).1=l++m/\m.length=n/\s.b=m++(Rd.tilesGo n s l).2.b/\∀t∈m,t.toNat<=5:=by
 intro n;induction n with
 |zero=>intro s l h;exact⟨h,[],by simp[Rd.tilesGo],rfl,by simp[Rd.tilesGo],λt ht=>by cases ht⟩
 |succ n ih=>
  intro s l h;by_cases he:s.e=0
  ·rw[R7 he]at h⊢;obtain⟨h1,m,h2,h3,h4,h5⟩:=ih _ _ h;obtain⟨h6,h7,h8⟩:=Ik h1;obtain⟨_,h9⟩:=ol h6;refine⟨he,s.byte.1::m,by rw[h2];simp,by simp[h3],?_,λt ht=>?_⟩
   ·rw[h8]at h4;rw[h9,h4,h8];rfl
   ·rcases Fa6.1 ht with rfl|ht
    ·simpa using h7
    ·exact h5 t ht
  ·rw[Og he]at h;exact absurd h he
theorem zd8{s:Rd}(h:s.fin.e=0):s.e=0/\s.b=[]/\s.fin=s:=by obtain⟨h1,h2,h3⟩:=Ik h;exact⟨h1,Far θn,h3⟩
theorem zck{b:List UInt8}(h:(ki b).2=0):b=xx (ki b).1/\zt (ki b).1:=by
 unfold ki at*;by_cases he:(Im b).e=0
 ·rw[if_neg (by simpa using he)];simp only;unfold Im at he;obtain⟨h1,h2,_⟩:=zd8 he;obtain⟨h3,h4⟩:=Ou _ _ h1;rw[h2,Fbn]at h4;unfold Bw at h3;obtain⟨h5,m,h6,h7,h8,h9⟩:=zjt _ _ _ h3;have hT:(Bw b).1=m:=by unfold Bw;rw[h6];rfl
  have hR:(Rd.tilesGo ((jg b).1*(jf b).1).toNat (jf b).2 []).2=(Bw b).2:=rfl;rw[hR]at h8;obtain⟨g1,g2,g3,g4⟩:=Kz h5;obtain⟨g5,g6,g7,g8⟩:=Kz g1;obtain⟨g9,g10⟩:=Ou _ _ g5;have hb:b=kx ⟨(jg b).1,(jf b).1,m⟩++(Bw b).2.b:=by have e1:b=[84,71]++(Rd.same ⟨b,0⟩ [84,71]).b:=g10;have e2:(Rd.same ⟨b,0⟩ [84,71]).b=yv (jg b).1++(jg b).2.b:=g6;have e3:(jg b).2.b=yv (jf b).1++(jf b).2.b:=g2;unfold kx;simp only;rw[Fao,Fao,Fao,<-h8,<-e3,<-e2,<-e1]
  have hlen:b.length-(Bw b).2.b.length=(kx ⟨(jg b).1,(jf b).1,m⟩).length:=by have:=congrArg List.length hb;rw[Fad]at this;omega
  have htk:b.take (b.length-(Bw b).2.b.length)=kx ⟨(jg b).1,(jf b).1,m⟩:=by rw[hlen];have e:=congrArg (List.take (kx ⟨(jg b).1,(jf b).1,m⟩).length) hb;rw[Fd6]at e;exact e
  rw[htk]at h4;rw[hT];have w1:1<=(jg b).1/\(jg b).1<=128:=⟨g7,g8⟩
  have w2:1<=(jf b).1/\(jf b).1<=128:=⟨g3,g4⟩
  have:=Kn w1 w2;refine⟨?_,w1,w2,by simp only;omega,h9⟩;unfold xx;rw[<-h4];exact hb
 ·rw[if_pos (by simpa using he)]at h;dsimp only at h;exact absurd h he
section
variable {n lo hi:Int}
theorem yj6(v:Nat):(jy (v:Int)).toNat=v%256:=by unfold jy;rw[UInt8.toNat_ofNat'];omega
theorem yhx(v:Nat):(jy (v:Int) ||| 128).toNat=v%128+128:=by
 have e:∀m:Nat,m<256->(UInt8.ofNat m ||| 128).toNat=m%128+128:=by decide+kernel
 have h:=e (v%256) θ;have h2:jy (v:Int)=UInt8.ofNat (v%256):=by unfold jy;congr 1
 rw[h2,h];omega
theorem ynh(rest:List UInt8):∀(v i:Nat) (n:Int),i<=8->v<128^(9-i)->(0<i->0<v)->xq (Bh v++rest) i n=(n+v*128^i,i+(Bh v).length,0):=by
 intro v;induction v using Nat.strongRecOn with
 |_ v ih=>
  intro i n hi hv hp;rw[Bh];by_cases h:128<=v
  ·rw[dif_pos h];have h7:i<=7:=by
    by_cases h8:i=8
    ·subst h8;simp at hv;omega
    ·omega
   show xq ((jy (v:Int) ||| 128)::(Bh (v/128)++rest)) i n=_;unfold xq;rw[yhx,if_neg θ,if_neg θ];have hlt:v/128<128^(9-(i+1)):=by rw[Nat.div_lt_iff_lt_mul θ];have e:9-i=(9-(i+1))+1:=θ;rw[e,Nat.pow_succ]at hv;exact hv
   rw[ih (v/128) θ (i+1) _ θ hlt θ];have e1:(v%128+128)%128=v%128:=θ;rw[e1];refine Prod.ext ?_ (Prod.ext ?_ rfl)
   ·show n+((v%128:Nat):Int)*128^i+((v/128:Nat):Int)*128^(i+1)=n+v*128^i;rw[Int.pow_succ,Fdf (128^i) 128,<-Int.mul_assoc,Int.add_assoc,<-Int.add_mul]
    congr 2
    omega
   ·simp;omega
  ·rw[dif_neg h];show xq (jy (v:Int)::rest) i n=_;unfold xq;rw[yj6,if_neg θ,if_pos θ];have e1:v%256%128=v:=θ;rw[e1];rfl
theorem Wt(h0:0<=n)(h1:n<=9223372036854775807)(rest:List UInt8):ye (yv n++rest)=(n,(yv n).length,0):=by obtain⟨v,rfl⟩:=Fbl h0;rw[zav];unfold ye;rw[ynh rest v 0 0 θ χ (λh=>θ)];simp
theorem R9(b:List UInt8)(n:Int)(k:Nat):Rd.take ⟨b,0⟩ n k 0=(n,⟨b.drop k,0⟩):=rfl
theorem ly(b:List UInt8)(n lo hi:Int)(k:Nat)(h1:lo<=n)(h2:n<=hi):Rd.got ⟨b,0⟩ (n,k,0) lo hi=(n,⟨b.drop k,0⟩):=by
 unfold Rd.got;rw[if_neg φ];simp only[R9];have:inB n lo hi=true:=by unfold inB;simp[h1,h2]
 rw[this];rfl
theorem gu(rest:List UInt8)(h0:0<=n)(h:n<=9223372036854775807)(h1:lo<=n)(h2:n<=hi):Rd.num ⟨yv n++rest,0⟩ lo hi=(n,⟨rest,0⟩):=by unfold Rd.num;simp only;rw[Wt h0 h,ly _ _ _ _ _ h1 h2,Fdt]
theorem yk8(rest:List UInt8)(h:I62 n)(h1:lo<=n)(h2:n<=hi):Rd.int ⟨vr n++rest,0⟩ lo hi=(n,⟨rest,0⟩):=by
 unfold I62 at h;unfold Rd.int Bz;simp only;have key:ye (vr n++rest)=((if n<0 then -2*n-1 else 2*n),(vr n).length,0):=by
  unfold vr;split
  ·exact Wt θ θ rest
  ·exact Wt θ θ rest
 rw[key];have hz:zig (if n<0 then -2*n-1 else 2*n)=n:=by
  unfold zig;split
  ·split
   ·omega
   ·omega
  ·split
   ·omega
   ·omega
 simp only[hz];rw[ly _ _ _ _ _ h1 h2,Fdt]
theorem yrh(c:UInt8)(l:List UInt8):Rd.byte ⟨c::l,0⟩=(c,⟨l,0⟩):=rfl
theorem zb5(s:Rd):s.must true=s:=rfl
theorem Sn:∀(l rest:List UInt8),Rd.same ⟨l++rest,0⟩ l=⟨rest,0⟩:=by
 intro l;induction l with
 |nil=>intro rest;rfl
 |cons c l ih=>
  intro rest;have e:Rd.same ⟨c::l++rest,0⟩ (c::l)=Rd.same ((Rd.byte ⟨c::(l++rest),0⟩).2.must ((Rd.byte ⟨c::(l++rest),0⟩).1==c)) l:=rfl;rw[e,yrh];simp only[beq_self_eq_true,zb5];exact ih rest
theorem yf8(x rest:List UInt8)(h:x.length<=1048576):Rd.raw ⟨yv x.length++x++rest,0⟩=(x,⟨rest,0⟩):=by
 have hg:jr (yv x.length++x++rest)=(x,(yv x.length).length+x.length,0):=by unfold jr;rw[Fao,Wt θ θ];simp only[ne_eq,not_true_eq_false,if_false];rw[if_neg θ,if_neg (by simp only[Fad];omega)];rw[Fdt];have e:(x.length:Int).toNat=x.length:=θ;rw[e,Fd6]
 unfold Rd.raw;rw[if_neg φ];simp only[hg,R9];have e2:(yv x.length++x++rest).drop ((yv x.length).length+x.length)=rest:=by rw[<-Fad,Fdt]
 rw[e2]
theorem zju:∀(m rest l:List UInt8),(∀t∈m,t.toNat<=5)->Rd.tilesGo m.length ⟨m++rest,0⟩ l=(l++m,⟨rest,0⟩):=by
 intro m;induction m with
 |nil=>intro rest l _;simp[Rd.tilesGo]
 |cons c m ih=>
  intro rest l h;have hc:decide (c.toNat<=5)=true:=by simpa using h c φ
  rw[Fbd,R7 rfl];have e:Rd.byte ⟨c::m++rest,0⟩=(c,⟨m++rest,0⟩):=rfl;rw[e];simp only[hc,zb5];rw[ih rest (l++[c]) λt ht=>h t (by simp[ht])];simp
theorem yj3{g:Gnd}(h:zt g):ki (xx g)=(g,0):=by
 obtain⟨h1,h2,h3,h4⟩:=h;have hm:=Kn h1 h2;have e0:xx g=[84,71]++(yv g.W++(yv g.H++(g.T++xi (xe xy (kx g))))):=by simp[xx,kx]
 have a1:jg (xx g)=(g.W,⟨yv g.H++(g.T++xi (xe xy (kx g))),0⟩):=by unfold jg;rw[e0,Sn,gu _ θ θ h1.1 h1.2]
 have a2:jf (xx g)=(g.H,⟨g.T++xi (xe xy (kx g)),0⟩):=by unfold jf;rw[a1];simp only;rw[gu _ θ θ h2.1 h2.2]
 have a3:Bw (xx g)=(g.T,⟨xi (xe xy (kx g)),0⟩):=by unfold Bw;rw[a1,a2];simp only;have e:(g.W*g.H).toNat=g.T.length:=θ;rw[e,zju _ _ _ h4];simp
 have a4:Im (xx g)=⟨[],0⟩:=by
  unfold Im;rw[a3];simp only;have e:(xx g).take ((xx g).length-(xi (xe xy (kx g))).length)=kx g:=by
   have:(xx g).length-(xi (xe xy (kx g))).length=(kx g).length:=by simp[xx]
   rw[this];unfold xx;rw[Fd6]
  rw[e];have:=Sn (xi (xe xy (kx g))) [];rw[Fbn]at this;rw[this];rfl
 unfold ki;rw[a4,a1,a2,a3];simp
end
end Go.V
namespace Go.V
section
variable {lo hi:Int}
def Ct(z:List UInt8)(s' s:Rd):Prop:=s'.e=0/\s.b=s'.b++z
def Cm{α:Type}(z:List UInt8)(r' r:α×Rd):Prop:=r'.2.e=11\/(r'.1=r.1/\Ct z r'.2 r.2)
theorem ynj(z:List UInt8):∀(b:List UInt8) (i:Nat) (n v:Int) (k:Nat),xq (b++z) i n=(v,k,0)->(xq b i n).2.2=11\/(xq b i n=(v,k,0)):=by
 intro b;induction b with
 |nil=>intro i n v k _;exact .inl rfl
 |cons c l ih=>
  intro i n v k h;rw[List.cons_append,xq]at h;rw[xq];split at h
  ·rename_i h1;rw[if_pos h1];cases h
  ·rename_i h1;rw[if_neg h1];split at h
   ·rename_i h2;rw[if_pos h2];exact .inr h
   ·rename_i h2;rw[if_neg h2];exact ih _ _ _ _ h
theorem l9{z b:List UInt8}(h:(ye (b++z)).2.2=0):(ye b).2.2=11\/(ye b=ye (b++z)/\(ye b).2.1<=b.length):=by
 have e:ye (b++z)=((ye (b++z)).1,(ye (b++z)).2.1,0):=by rw[<-h]
 rcases ynj z b 0 0 _ _ e with h1|h1
 ·exact .inl h1
 ·have h2:ye b=ye (b++z):=by rw[e];exact h1
  refine .inr ⟨h2,?_⟩;rcases D8 b with h3|h3
  ·exact h3.2.1
  ·omega
theorem io{s:Rd}{ok:Bool}(h:s.e=11):(s.must ok).e=11:=by unfold Rd.must Rd.fail;rw[if_neg (by omega:¬s.e=0)];split<;>exact h
theorem yre{s:Rd}(h:s.e=11):s.byte.2.e=11:=by unfold Rd.byte;rw[if_pos (by omega:s.e≠0)];exact h
theorem ydz:∀(l:List UInt8) {s:Rd},s.e=11->(s.same l).e=11:=by
 intro l;induction l with
 |nil=>intro s h;exact h
 |cons c l ih=>intro s h;exact ih (io (yre h))
theorem zdo{z:List UInt8}{s' s:Rd}(hc:Ct z s' s){g' g:Int×Nat×Int}(hg:g.2.2=0->g'.2.2=11\/(g'=g/\g.2.1<=s'.b.length))(h:(s.got g lo hi).2.e=0):Cm z (s'.got g' lo hi) (s.got g lo hi):=by
 obtain⟨h1,h2,h3,h4,h5,h6⟩:=Pp h;obtain⟨b',e'⟩:=s';obtain⟨hc1,hc2⟩:=hc;dsimp only at hc1 hc2 hg;subst hc1;rcases hg h2 with h7|⟨rfl,h7⟩
 ·left;have e:Rd.take ⟨b',0⟩ g'.1 g'.2.1 g'.2.2=(0,⟨b',11⟩):=by
   unfold Rd.take Rd.fail;rw[h7];rfl
  unfold Rd.got;rw[if_neg (show¬(⟨b',0⟩:Rd).e≠0 from λh=>h rfl)];simp only[e];exact io rfl
 ·right;obtain⟨n,k,e⟩:=g';dsimp only at h2 h5 h6 h7 h3 h4;subst h2;rw[ly b' n lo hi k h5 h6];refine⟨h3.symm,rfl,?_⟩;rw[h4,hc2];exact Fcz h7
theorem yif{z:List UInt8}{s' s:Rd}(hc:Ct z s' s)(h:(s.num lo hi).2.e=0):Cm z (s'.num lo hi) (s.num lo hi):=by
 refine zdo hc (λh0=>?_) h;rw[hc.2]at h0⊢;rcases l9 h0 with h1|⟨h1,h2⟩
 ·exact .inl h1
 ·exact .inr ⟨h1,by rw[<-h1];exact h2⟩
theorem yk9{z:List UInt8}{s' s:Rd}(hc:Ct z s' s)(h:(s.int lo hi).2.e=0):Cm z (s'.int lo hi) (s.int lo hi):=by
 refine zdo hc (λh0=>?_) h;rw[hc.2]at h0⊢;rcases l9 (z:=z) (b:=s'.b) h0 with h1|⟨h1,h2⟩
 ·exact .inl h1
 ·refine .inr ⟨by unfold Bz;rw[h1],?_⟩;show(ye (s'.b++z)).2.1<=_;rw[<-h1];exact h2
theorem yrj{z:List UInt8}{s' s:Rd}(hc:Ct z s' s)(h:s.byte.2.e=0):Cm z s'.byte s.byte:=by
 obtain⟨h1,h2⟩:=ol h;obtain⟨b',e'⟩:=s';obtain⟨b,e⟩:=s;obtain⟨hc1,hc2⟩:=hc;dsimp only at hc1 hc2 h1;subst hc1 hc2 h1;cases b' with
 |nil=>exact .inl rfl
 |cons c l=>exact .inr ⟨rfl,rfl,rfl⟩
theorem yd3{z:List UInt8}:∀(l:List UInt8) {s' s:Rd},Ct z s' s->(s.same l).e=0->(s'.same l).e=11\/Ct z (s'.same l) (s.same l):=by
 intro l;induction l with
 |nil=>intro s' s hc _;exact .inr hc
 |cons c l ih=>
  intro s' s hc h;have h:((s.byte.2.must (s.byte.1==c)).same l).e=0:=h;have h0:=(Ou _ _ h).1;obtain⟨h1,h2,h3⟩:=Ik h0;show((s'.byte.2.must (s'.byte.1==c)).same l).e=11\/Ct z ((s'.byte.2.must (s'.byte.1==c)).same l) ((s.byte.2.must (s.byte.1==c)).same l);rcases yrj hc h1 with h4|⟨h4,h5⟩
  ·exact .inl (ydz _ (io h4))
  ·rw[h4];have e:s'.byte.2.must (s.byte.1==c)=s'.byte.2:=by rw[h2];rfl
   rw[h3]at h⊢;rw[e];exact ih h5 h
theorem yf9{z:List UInt8}{s' s:Rd}(hc:Ct z s' s)(h:s.raw.2.e=0):Cm z s'.raw s.raw:=by
 obtain⟨b',e'⟩:=s';obtain⟨b,e⟩:=s;obtain⟨hc1,hc2⟩:=hc;dsimp only at hc1 hc2;subst hc1 hc2;have h0:=(zao h).1;dsimp only at h0;subst h0;unfold Rd.raw at h⊢;rw[if_neg (show¬(⟨b'++z,0⟩:Rd).e≠0 from λh=>h rfl)]at h⊢;rw[if_neg (show¬(⟨b',0⟩:Rd).e≠0 from λh=>h rfl)];dsimp only at h⊢;have h1:(jr (b'++z)).2.2=0:=by
  unfold Rd.take Rd.fail at h;rw[if_pos (show(⟨b'++z,0⟩:Rd).e=0 from rfl)]at h;dsimp only at h;split at h
  ·rename_i h2;exact absurd h h2
  ·rename_i h2;simpa using h2
 have key:(jr b').2.2=11\/(jr b'=jr (b'++z)/\(jr b').2.1<=b'.length):=by
  unfold jr at h1⊢;split at h1
  ·rename_i h2;exact absurd h1 h2
  rename_i h2;rw[if_neg h2];rcases l9 θn with h3|⟨h3,h4⟩
  ·left;rw[if_pos θ];exact h3
  rw[<-h3]at h2 h1⊢;rw[if_neg h2];split at h1
  ·exact absurd h1 ψ
  rename_i h5;rw[if_neg h5,if_neg h5];split at h1
  ·exact absurd h1 ψ
  rename_i h6;rw[if_neg h6];have hn:0<=(ye b').1:=by rcases D8 b' with h|h<;>omega
  by_cases h7:(ye b').1>(b'.length:Int)-(ye b').2.1
  ·left;rw[if_pos h7]
  ·rw[if_neg h7];refine .inr ⟨?_,ζ⟩;rw[Fcz h4,Fb2 (by rw[Fcq];omega)]
 rcases key with h2|⟨h2,h3⟩
 ·left;unfold Rd.take Rd.fail;rw[h2];rfl
 ·right;rw[<-h2]at h1⊢;rw[h1,R9,R9];exact⟨rfl,rfl,Fcz h3⟩
theorem Cm.map{α β:Type}{z:List UInt8}{r' r:α×Rd}(f:α->β)(h:Cm z r' r):Cm z (f r'.1,r'.2) (f r.1,r.2):=by
 rcases h with h|⟨h1,h2⟩
 ·exact .inl h
 ·exact .inr ⟨congrArg f h1,h2⟩
end
end Go.V
namespace Go.V
section
variable {lo hi:Int}
theorem zdl{s:Rd}{g:Int×Nat×Int}(h:s.e≠0):s.got g lo hi=(0,s):=by unfold Rd.got;rw[if_pos h]
theorem yie{s:Rd}(h:s.e≠0):s.num lo hi=(0,s):=zdl h
theorem yk6{s:Rd}(h:s.e≠0):s.int lo hi=(0,s):=zdl h
theorem yi1{s:Rd}{ok:Bool}(h:s.e≠0):s.must ok=s:=by unfold Rd.must Rd.fail;rw[if_neg h];cases ok<;>rfl
theorem yrf{s:Rd}(h:s.e≠0):s.byte=(0,s):=by unfold Rd.byte;rw[if_pos h]
theorem yd0:∀(l:List UInt8) {s:Rd},s.e≠0->s.same l=s:=by
 intro l;induction l with
 |nil=>intro s _;rfl
 |cons c l ih=>
  intro s h;show Rd.same (s.byte.2.must (s.byte.1==c)) l=s;rw[yrf h];simp only;rw[yi1 h];exact ih h
theorem yf6{s:Rd}(h:s.e≠0):s.raw=([],s):=by unfold Rd.raw;rw[if_pos h]
def jq(s:Rd):Gnd×Rd:=if s.raw.2.e=0 then((ki s.raw.1).1,s.raw.2.must (decide ((ki s.raw.1).2=0)))else(⟨0,0,[]⟩,s.raw.2)
theorem yna{s:Rd}(h:s.e≠0):(jq s).2=s:=by unfold jq;rw[yf6 h,if_neg h]
end
def eok(e:Int):Prop:=e=0\/e=1\/e=11
theorem ip{s:Rd}(ok:Bool)(h:eok s.e):eok (s.must ok).e:=by
 unfold Rd.must Rd.fail;split
 ·exact h
 ·split
  ·exact .inr (.inl rfl)
  ·exact h
theorem yor{s:Rd}{e:Int}(h:eok s.e)(he:eok e):eok (s.fail e).e:=by
 unfold Rd.fail;split
 ·exact he
 ·exact h
theorem sk{s:Rd}{n:Int}{k:Nat}{e:Int}(h:eok s.e)(he:eok e):eok (s.take n k e).2.e:=by
 unfold Rd.take;split
 ·exact yor h he
 ·exact .inl rfl
theorem zdn{s:Rd}{g:Int×Nat×Int}{lo hi:Int}(h:eok s.e)(hg:eok g.2.2):eok (s.got g lo hi).2.e:=by
 unfold Rd.got;split
 ·exact h
 ·exact ip _ (sk h hg)
theorem l8(b:List UInt8):eok (ye b).2.2:=by
 rcases D8 b with h|⟨_,_,h⟩
 ·exact .inl h.1
 ·exact .inr h
theorem yri{s:Rd}(h:eok s.e):eok s.byte.2.e:=by
 unfold Rd.byte;split
 ·exact h
 ·split
  ·exact .inr (.inr rfl)
  ·exact .inl rfl
theorem yd2:∀(l:List UInt8) {s:Rd},eok s.e->eok (s.same l).e:=by
 intro l;induction l with
 |nil=>intro s h;exact h
 |cons c l ih=>intro s h;exact ih (s:=s.byte.2.must (s.byte.1==c)) (ip _ (yri h))
theorem ynd(b:List UInt8):eok (jr b).2.2:=by
 unfold jr;split
 ·exact l8 b
 ·split
  ·exact .inr (.inl rfl)
  ·split
   ·exact .inr (.inr rfl)
   ·exact .inl rfl
theorem zaq{s:Rd}(h:eok s.e):eok s.raw.2.e:=by
 unfold Rd.raw;split
 ·exact h
 ·exact sk h (ynd _)
structure PL{α:Type}(p:Rd->α×Rd)(enc:α->List UInt8)(ok:α->Prop):Prop where
 put:∀s,(p s).2.e=0->s.e=0/\s.b=enc (p s).1++(p s).2.b
 get:∀a rest,ok a->p ⟨enc a++rest,0⟩=(a,⟨rest,0⟩)
 cut:∀z s' s,Ct z s' s->(p s).2.e=0->Cm z (p s') (p s)
 stick:∀s,s.e≠0->(p s).2=s
 err:∀s,eok s.e->eok (p s).2.e
 len:∀s,(p s).2.b.length<=s.b.length
theorem PL.stuck{α:Type}{p:Rd->α×Rd}{enc:α->List UInt8}{ok:α->Prop}(h:PL p enc ok){s:Rd}(hs:s.e=11):(p s).2.e=11:=by rw[h.stick s (by rw[hs];decide)];exact hs
def zl(s:Rd):Int×Rd:=s.num 0 9223372036854775807
def jb(s:Rd):Int×Rd:=s.int (-4611686018427387904) 4611686018427387903
def jt(n:Int):Prop:=0<=n/\n<=9223372036854775807
theorem D4(lo hi:Int):PL (λs=>s.num lo hi) yv (λn=>(lo<=n/\n<=hi)/\jt n) where
 put s h:=⟨(Kz h).1,(Kz h).2.1⟩
 get n rest h:=gu rest h.2.1 h.2.2 h.1.1 h.1.2
 cut z s' s hc h:=yif hc h
 stick s h:=by show(s.num lo hi).2=s;rw[yie h]
 err s h:=zdn h (l8 _)
 len s:=Ii s lo hi
theorem Bk:PL zl yv jt where
 put s h:=(D4 _ _).put s h
 get n rest h:=(D4 _ _).get n rest ⟨h,h⟩
 cut z s' s hc h:=(D4 _ _).cut z s' s hc h
 stick s h:=(D4 _ _).stick s h
 err s h:=(D4 _ _).err s h
 len s:=(D4 _ _).len s
theorem tz:PL jb vr I62 where
 put s h:=⟨(zc1 (lo:=-4611686018427387904) (hi:=4611686018427387903) h).1,(zc1 (lo:=-4611686018427387904) (hi:=4611686018427387903) h).2.1⟩
 get n rest h:=yk8 rest h (by unfold I62 at h;omega) (by unfold I62 at h;omega)
 cut z s' s hc h:=yk9 hc h
 stick s h:=by show(s.int _ _).2=s;rw[yk6 h]
 err s h:=zdn h (l8 _)
 len s:=zc2 s _ _
theorem gnd_PL:PL jq (λg=>yv (xx g).length++xx g) zt where
 put s h:=by
  unfold jq at h⊢;by_cases hr:s.raw.2.e=0
  ·rw[if_pos hr]at h⊢;obtain⟨_,h2,h3⟩:=Ik (s:=s.raw.2) (ok:=decide ((ki s.raw.1).2=0)) h;obtain⟨h4,h5⟩:=zao hr;have h6:=(zck (of_decide_eq_true h2)).1;refine⟨h4,?_⟩;dsimp only;rw[h3,<-h6];exact h5
  ·rw[if_neg hr]at h;exact absurd h hr
 get g rest h:=by have hl:=(lz h).2;unfold jq;rw[yf8 _ _ θ];dsimp only;rw[if_pos rfl,yj3 h];rfl
 cut z s' s hc h:=by
  unfold jq at h⊢;by_cases hr:s.raw.2.e=0
  ·rw[if_pos hr]at h⊢;obtain⟨_,h2,h3⟩:=Ik (s:=s.raw.2) (ok:=decide ((ki s.raw.1).2=0)) h;rcases yf9 hc hr with h4|⟨h4,h5⟩
   ·left;rw[if_neg (by rw[h4];decide)];exact h4
   ·rw[if_pos h5.1,h4,h2];exact .inr ⟨rfl,h5⟩
  ·rw[if_neg hr]at h;exact absurd h hr
 stick s h:=yna h
 err s h:=by
  unfold jq;split
  ·show eok (s.raw.2.must (decide ((ki s.raw.1).2=0))).e;exact ip (s:=s.raw.2) _ (zaq h)
  ·exact zaq h
 len s:=by
  unfold jq;split
  ·show(s.raw.2.must (decide ((ki s.raw.1).2=0))).b.length<=_;rw[V3];exact zap s
  ·exact zap s
def ky{α β:Type}(p:Rd->α×Rd)(q:Rd->β×Rd)(s:Rd):(α×β)×Rd:=(((p s).1,(q (p s).2).1),(q (p s).2).2)
theorem wk{α β:Type}{p:Rd->α×Rd}{q:Rd->β×Rd}{enc:α->List UInt8}{enc':β->List UInt8}{ok:α->Prop}{ok':β->Prop}(hp:PL p enc ok)(hq:PL q enc' ok'):
  PL (ky p q) (λx=>enc x.1++enc' x.2) (λx=>ok x.1/\ok' x.2) where
 put s h:=by obtain⟨h1,h2⟩:=hq.put _ h;obtain⟨h3,h4⟩:=hp.put _ h1;refine⟨h3,?_⟩;show s.b=enc (p s).1++enc' (q (p s).2).1++(q (p s).2).2.b;rw[Fao,<-h2];exact h4
 get x rest h:=by unfold ky;rw[Fao,hp.get x.1 _ h.1];dsimp only;rw[hq.get x.2 rest h.2]
 cut z s' s hc h:=by
  have h1:=(hq.put _ h).1;rcases hp.cut z s' s hc h1 with h2|⟨h2,h3⟩
  ·exact .inl (hq.stuck h2)
  ·rcases hq.cut z _ _ h3 h with h4|⟨h4,h5⟩
   ·exact .inl h4
   ·refine .inr ⟨?_,h5⟩;show((p s').1,(q (p s').2).1)=((p s).1,(q (p s).2).1)
    rw[h2,h4]
 stick s h:=by show(q (p s).2).2=s;rw[hp.stick s h,hq.stick s h]
 err s h:=hq.err _ (hp.err _ h)
 len s:=Fbv (hq.len _) (hp.len _)
theorem i8{α β:Type}{p:Rd->α×Rd}{enc:α->List UInt8}{ok:α->Prop}(hp:PL p enc ok)(f:α->β)(g:β->α)(h1:∀a,g (f a)=a)(h2:∀b,f (g b)=b):
  PL (λs=>(f (p s).1,(p s).2)) (λb=>enc (g b)) (λb=>ok (g b)) where
 put s h:=by dsimp only;rw[h1];exact hp.put s h
 get b rest h:=by rw[hp.get _ rest h];dsimp only;rw[h2]
 cut z s' s hc h:=(hp.cut z s' s hc h).map f
 stick s h:=hp.stick s h
 err s h:=hp.err s h
 len s:=hp.len s
def Rd.repGo{α:Type}(p:Rd->α×Rd):Nat->Rd->List α->List α×Rd
 |0,s,l=>(l,s)
 |n+1,s,l=>if s.e≠0 then(l,s)else Rd.repGo p n (p s).2 (l++[(p s).1])
section
variable {α:Type} {p:Rd->α×Rd} {enc:α->List UInt8} {ok:α->Prop}
theorem Hd{n:Nat}{s:Rd}{l:List α}(h:s.e=0):Rd.repGo p (n+1) s l=Rd.repGo p n (p s).2 (l++[(p s).1]):=by rw[Rd.repGo,if_neg θv]
theorem Ie{n:Nat}{s:Rd}{l:List α}(h:s.e≠0):Rd.repGo p n s l=(l,s):=by
 cases n with
 |zero=>rfl
 |succ n=>rw[Rd.repGo,if_pos h]
theorem Oz(hp:PL p enc ok):∀(n:Nat) (s:Rd) (l:List α),(Rd.repGo p n s l).2.e=0->s.e=0/\∃m,(Rd.repGo p n s l).1=l++m/\m.length=n/\s.b=m.flatMap enc++(Rd.repGo p n s l).2.b:=by
 intro n;induction n with
 |zero=>intro s l h;exact⟨h,[],by simp[Rd.repGo],rfl,by simp[Rd.repGo]⟩
 |succ n ih=>
  intro s l h;by_cases he:s.e=0
  ·rw[Hd he]at h⊢;obtain⟨h1,m,h2,h3,h4⟩:=ih _ _ h;obtain⟨_,h6⟩:=hp.put s h1;refine⟨he,(p s).1::m,by rw[h2];simp,by simp[h3],?_⟩;rw[h6,h4];simp
  ·rw[Ie he]at h;exact absurd h he
theorem yfs(hp:PL p enc ok):∀(m:List α) (rest:List UInt8) (l:List α),(∀a∈m,ok a)->Rd.repGo p m.length ⟨m.flatMap enc++rest,0⟩ l=(l++m,⟨rest,0⟩):=by
 intro m;induction m with
 |nil=>intro rest l _;simp[Rd.repGo]
 |cons a m ih=>
  intro rest l h;rw[Fbd,Hd rfl];have e:(a::m).flatMap enc++rest=enc a++(m.flatMap enc++rest):=φ;rw[e,hp.get a _ (h a (Fa7 ..))];dsimp only;rw[ih rest _ λx hx=>h x (Fav _ hx)];simp
theorem yfu(hp:PL p enc ok){z:List UInt8}:∀(n:Nat) {s' s:Rd} (l:List α),Ct z s' s->(Rd.repGo p n s l).2.e=0->Cm z (Rd.repGo p n s' l) (Rd.repGo p n s l):=by
 intro n;induction n with
 |zero=>intro s' s l hc _;exact .inr ⟨rfl,hc⟩
 |succ n ih=>
  intro s' s l hc h;have h0:s.e=0:=(Oz hp _ _ _ h).1;rw[Hd h0]at h⊢;rw[Hd hc.1];have h1:=(Oz hp _ _ _ h).1;rcases hp.cut z s' s hc h1 with h4|⟨h4,h5⟩
  ·left;rw[Ie (by rw[h4];decide)];exact h4
  ·rw[h4];exact ih _ h5 h
theorem zaj{n:Nat}{s:Rd}{l:List α}(h:s.e≠0):(Rd.repGo p n s l).2=s:=by rw[Ie h]
theorem yft(hp:PL p enc ok):∀(n:Nat) (s:Rd) (l:List α),eok s.e->eok (Rd.repGo p n s l).2.e:=by
 intro n;induction n with
 |zero=>intro s l h;exact h
 |succ n ih=>
  intro s l h;by_cases he:s.e=0
  ·rw[Hd he];exact ih _ _ (hp.err s h)
  ·rw[Ie he];exact h
theorem yfr(hp:PL p enc ok):∀(n:Nat) (s:Rd) (l:List α),(Rd.repGo p n s l).2.b.length<=s.b.length:=by
 intro n;induction n with
 |zero=>intro s l;exact Fak _
 |succ n ih=>
  intro s l;by_cases he:s.e=0
  ·rw[Hd he];exact Fbv (ih _ _) (hp.len s)
  ·rw[Ie he];exact Fak _
end
def xz{α:Type}(hi:Int)(p:Rd->α×Rd)(s:Rd):List α×Rd:=Rd.repGo p (s.num 0 hi).1.toNat (s.num 0 hi).2 []
theorem Nl{α:Type}{p:Rd->α×Rd}{enc:α->List UInt8}{ok:α->Prop}(hp:PL p enc ok){hi:Int}(hhi:hi<=9223372036854775807):
  PL (xz hi p) (λl=>yv l.length++l.flatMap enc) (λl=>(l.length:Int)<=hi/\∀a∈l,ok a) where
 put s h:=by
  obtain⟨h1,m,h2,h3,h4⟩:=Oz hp _ _ _ h;obtain⟨h5,h6⟩:=(D4 0 hi).put s h1;have h7:=(Pb s 0 hi).1;refine⟨h5,?_⟩;have e:(xz hi p s).1=m:=by unfold xz;rw[h2];rfl
  rw[e,h3,Fao];have e2:(((s.num 0 hi).1.toNat:Nat):Int)=(s.num 0 hi).1:=θ;rw[e2];exact h6.trans (congrArg _ h4)
 get l rest h:=by have h1:=(D4 0 hi).get (l.length:Int) (l.flatMap enc++rest) ⟨⟨θ,h.1⟩,by unfold jt;omega⟩;unfold xz;rw[Fao];rw[h1];dsimp only;rw[Fa8,yfs hp _ _ _ h.2];simp
 cut z s' s hc h:=by
  have h1:=(Oz hp _ _ _ h).1;rcases(D4 0 hi).cut z s' s hc h1 with h2|⟨h2,h3⟩
  ·left;have h2:(s'.num 0 hi).2.e=11:=h2;unfold xz;rw[zaj (by rw[h2];decide)];exact h2
  ·have h2:(s'.num 0 hi).1=(s.num 0 hi).1:=h2;unfold xz;rw[h2];exact yfu hp _ _ h3 h
 stick s h:=by unfold xz;have e:(s.num 0 hi).2=s:=(D4 0 hi).stick s h;rw[e,zaj h]
 err s h:=yft hp _ _ _ ((D4 0 hi).err s h)
 len s:=Fbv (yfr hp _ _ _) ((D4 0 hi).len s)
def fh(l:List UInt8)(s:Rd):Unit×Rd:=((),s.same l)
theorem yd4(l:List UInt8):PL (fh l) (λ_=>l) (λ_=>True) where
 put s h:=Ou l s h
 get _ rest _:=by unfold fh;rw[Sn]
 cut z s' s hc h:=by
  rcases yd3 l hc h with h1|h1
  ·exact .inl h1
  ·exact .inr ⟨rfl,h1⟩
 stick s h:=yd0 l h
 err s h:=yd2 l h
 len s:=Sq s l
section
variable {w:Wld}
def zf6(s:Rd):=ky zl (ky zl (ky zl (ky zl (ky zl zl)))) s
def j7(s:Rd):Bld×Rd:=((λt:Int×Int×Int×Int×Int×Int=>(⟨t.1,t.2.1,t.2.2.1,t.2.2.2.1,t.2.2.2.2.1,t.2.2.2.2.2⟩:Bld)) (zf6 s).1,(zf6 s).2)
def rn(s:Rd):=ky zl (ky zl (ky zl (ky jb (ky jb (ky zl (ky zl (ky zl (ky zl zl)))))))) s
def vj(s:Rd):Unt×Rd:=((λt:Int×Int×Int×Int×Int×Int×Int×Int×Int×Int=>(⟨t.1,t.2.1,t.2.2.1,(t.2.2.2.1,t.2.2.2.2.1),t.2.2.2.2.2.1-1,t.2.2.2.2.2.2.1-1,t.2.2.2.2.2.2.2.1,t.2.2.2.2.2.2.2.2.1,t.2.2.2.2.2.2.2.2.2⟩:Unt)) (rn s).1,(rn s).2)
def Ff(b:Bld):List UInt8:=jo [b.id,b.owner,b.x,b.y,b.w,b.h]
def Bp(u:Unt):List UInt8:=jo [u.id,u.owner,u.kind]++vr u.pos.1++vr u.pos.2++jo [u.goal+1,u.next+1,u.stuck,u.inn,u.state]
def vi(w:Wld):List UInt8:=
 [84,87]++jo [w.tick,w.players,w.next]++(yv (xx w.G).length++xx w.G)++(yv w.B.length++w.B.flatMap Ff)++(yv w.U.length++w.U.flatMap Bp)
def Bx(w:Wld):List UInt8:=vi w++xi (xe xy (vi w))
def bq(b:Bld):Prop:=jt b.id/\jt b.owner/\jt b.x/\jt b.y/\jt b.w/\jt b.h
def R0(u:Unt):Prop:=jt u.id/\jt u.owner/\jt u.kind/\I62 u.pos.1/\I62 u.pos.2/\jt (u.goal+1)/\jt (u.next+1)/\jt u.stuck/\jt u.inn/\jt u.state
theorem PL.of{α:Type}{p q:Rd->α×Rd}{enc enc':α->List UInt8}{ok ok':α->Prop}(h:PL p enc ok)(e1:∀s,q s=p s)(e2:∀a,enc' a=enc a)(e3:∀a,ok' a->ok a):PL q enc' ok' where
 put s hs:=by rw[e1]at hs⊢;rw[e2];exact h.put s hs
 get a rest ha:=by rw[e1,e2];exact h.get a rest (e3 a ha)
 cut z s' s hc hs:=by rw[e1]at hs;rw[e1,e1];exact h.cut z s' s hc hs
 stick s hs:=by rw[e1];exact h.stick s hs
 err s hs:=by rw[e1];exact h.err s hs
 len s:=by rw[e1];exact h.len s
theorem bld_PL:PL j7 Ff bq:=
 (i8 (wk Bk (wk Bk (wk Bk (wk Bk (wk Bk Bk)))))
  (λt:Int×Int×Int×Int×Int×Int=>(⟨t.1,t.2.1,t.2.2.1,t.2.2.2.1,t.2.2.2.2.1,t.2.2.2.2.2⟩:Bld)) (λb=>(b.id,b.owner,b.x,b.y,b.w,b.h)) (λ_=>rfl) (λ_=>rfl)).of
  (λs=>rfl) (λb=>by simp[Ff,jo]) (λb h=>h)
theorem unt_PL:PL vj Bp R0:=
 (i8 (wk Bk (wk Bk (wk Bk (wk tz (wk tz (wk Bk (wk Bk (wk Bk (wk Bk Bk)))))))))
  (λt:Int×Int×Int×Int×Int×Int×Int×Int×Int×Int=>(⟨t.1,t.2.1,t.2.2.1,(t.2.2.2.1,t.2.2.2.2.1),t.2.2.2.2.2.1-1,t.2.2.2.2.2.2.1-1,t.2.2.2.2.2.2.2.1,t.2.2.2.2.2.2.2.2.1,t.2.2.2.2.2.2.2.2.2⟩:Unt))
  (λu=>(u.id,u.owner,u.kind,u.pos.1,u.pos.2,u.goal+1,u.next+1,u.stuck,u.inn,u.state)) (λt=>by obtain⟨a,b,c,d,e,f,g,h,i,j⟩:=t;simp) (λu=>by obtain⟨a,b,c,⟨d,e⟩,f,g,h,i,j⟩:=u;simp)).of
  (λs=>rfl) (λu=>by simp[Bp,jo]) (λu h=>h)
abbrev WT:=Unit×Int×Int×Int×Gnd×List Bld×List Unt
def pu(s:Rd):WT×Rd:=ky (fh [84,87]) (ky zl (ky zl (ky zl (ky jq (ky (xz 256 j7) (xz 4096 vj)))))) s
def pz(t:WT):Wld:=⟨t.2.1,t.2.2.1,t.2.2.2.1,t.2.2.2.2.1,t.2.2.2.2.2.1,t.2.2.2.2.2.2⟩
def ct(s:Rd):Wld×Rd:=(pz (pu s).1,(pu s).2)
def G8(w:Wld):Prop:=jt w.tick/\jt w.players/\jt w.next/\zt w.G/\((w.B.length:Int)<=256/\∀b∈w.B,bq b)/\(w.U.length:Int)<=4096/\∀u∈w.U,R0 u
theorem world_PL:PL ct vi G8:=
 (i8 (wk (yd4 [84,87]) (wk Bk (wk Bk (wk Bk (wk gnd_PL (wk (Nl bld_PL ψ) (Nl unt_PL ψ)))))))
  pz (λw:Wld=>((),w.tick,w.players,w.next,w.G,w.B,w.U)) (λ_=>rfl) (λ_=>rfl)).of
  (λs=>rfl) (λw=>by simp[vi,jo]) (λw h=>⟨Tv,h⟩)
def ji(b:List UInt8):Wld:=(ct ⟨b,0⟩).1
def Mz(b:List UInt8):Rd:=(ct ⟨b,0⟩).2
def j6(b:List UInt8):Int:=(((Mz b).same (xi (xe xy (b.take (b.length-(Mz b).b.length))))).fin).e
theorem zc6(h:G8 w)(rest:List UInt8):ji (Bx w++rest)=w/\Mz (Bx w++rest)=⟨xi (xe xy (vi w))++rest,0⟩:=by
 have h1:=world_PL.get w (xi (xe xy (vi w))++rest) h;have e:Bx w++rest=vi w++(xi (xe xy (vi w))++rest):=by unfold Bx;rw[Fao]
 unfold ji Mz;rw[e,h1];exact⟨rfl,rfl⟩
theorem ylq(h:G8 w)(rest:List UInt8):j6 (Bx w++rest)=(Rd.fin ⟨rest,0⟩).e:=by
 obtain⟨_,h2⟩:=zc6 h rest;unfold j6;rw[h2];have e1:(Bx w++rest).length-(xi (xe xy (vi w))++rest).length=(vi w).length:=by unfold Bx;simp only[Fad];omega
 have e2:(Bx w++rest).take ((Bx w++rest).length-(xi (xe xy (vi w))++rest).length)=vi w:=by rw[e1];unfold Bx;rw[Fao,Fd6]
 dsimp only;rw[e2,Sn]
theorem yls(h:G8 w):ji (Bx w)=w/\j6 (Bx w)=0:=by have h1:=(zc6 h []).1;have h2:=ylq h [];rw[Fbn]at h1 h2;exact⟨h1,h2⟩
theorem yfi(hm:z7 w){u:Unt}(hu:u∈w.U):(0<=u.pos.1/\u.pos.1<=8388608)/\(0<=u.pos.2/\u.pos.2<=8388608)/\(0<=u.inn/\u.inn<=1099511627776):=by
 by_cases h:u.inn=0
 ·have:=Pt hm.1.1.2.1.1 (hm.2.1 u hu h).1;omega
 ·obtain⟨x,hx,e,_,_,_,e2,_⟩:=hm.2.2 u hu h;have h1:=(hm.1.2.2 x hx).1.1.1;have h2:=hm.1.1.1.2.2.2;rw[e2];refine⟨⟨ψ,ψ⟩,⟨ψ,ψ⟩,?_⟩;omega
theorem i6(hm:z7 w):G8 w:=by
 have hh:=hm.1.1;have hg:=hh.2.1.1;have hbl:=hh.2.1.2.1;have ha:=qm hg;obtain⟨⟨q1,q2⟩,⟨q3,q4⟩,_⟩:=id hg;obtain⟨⟨a1,a2⟩,⟨a3,a4⟩,a5,a6⟩:=hh.1;refine⟨⟨a1,θ⟩,⟨θ,θ⟩,⟨θ,θ⟩,hg,⟨?_,λb hb=>?_⟩,?_,λu hu=>?_⟩
 ·have:=hbl.1;omega
 ·obtain⟨⟨⟨b1,b2⟩,⟨b3,b4⟩,⟨b5,b6⟩,b7,b8⟩,⟨⟨c1,c2⟩,c3,c4⟩,_⟩:=hbl.2.2.1 b hb;unfold bq jt;omega
 ·have:=hh.2.1.2.2;omega
 ·obtain⟨⟨⟨⟨u1,u2⟩,⟨u3,u4⟩,u5,u6⟩,⟨u7,u8,u9,u10⟩,⟨⟨u11,u12⟩,_⟩,_⟩,_⟩:=hm.1.2.2 u hu;have hp:=yfi hm hu;unfold wg at u7 u8;unfold R0 jt I62;omega
end
theorem tw(s:Rd):yg (jb s).1:=by
 have h0:yg 0:=⟨ψ,ψ⟩
 have h:∀g:Int×Nat×Int,yg g.1->yg (s.got g (-4611686018427387904) 4611686018427387903).1:=λg hg=>by
  unfold Rd.got;split
  ·exact h0
  ·unfold Rd.take;split
   ·exact h0
   ·exact hg
 refine h _ ?_;have hz:0<=(ye s.b).1/\(ye s.b).1<9223372036854775808:=by
  rcases D8 s.b with h|h
  ·omega
  ·omega
 have:=zg9 hz.1 hz.2;show yg (zig (ye s.b).1);unfold yg;omega
theorem yfv{α:Type}{p:Rd->α×Rd}{Q:α->Prop}(hp:∀s,Q (p s).1):∀(n:Nat) (s:Rd) (l:List α),(∀x∈l,Q x)->∀x∈(Rd.repGo p n s l).1,Q x:=by
 intro n;induction n with
 |zero=>intro s l h;exact h
 |succ n ih=>
  intro s l h;by_cases he:s.e=0
  ·rw[Hd he];refine ih _ _ λx hx=>?_;rcases Fat.1 hx with hx|hx
   ·exact h x hx
   ·simp at hx;subst hx;exact hp s
  ·rw[Ie he];exact h
theorem ylr(b:List UInt8):∀u∈(ji b).U,u.pos.ok:=by have:∀s,∀u∈(xz 4096 vj s).1,u.pos.ok:=λs=>yfv (p:=vj) (Q:=λu=>u.pos.ok) (λs=>⟨tw _,tw _⟩) _ _ _ (λx hx=>θa);exact this _
theorem zfd{α:Type}{p:Rd->α×Rd}{enc:α->List UInt8}{ok:α->Prop}(hp:PL p enc ok){hi:Int}{s:Rd}(h:(xz hi p s).2.e=0):((xz hi p s).1.length:Int)<=hi:=by
 obtain⟨h1,m,h2,h3,_⟩:=Oz hp _ _ _ h;have h5:=(Kz h1).2.2.2;have h7:=(Pb s 0 hi).1;have e:(xz hi p s).1=m:=by unfold xz;rw[h2];rfl
 rw[e,h3];omega
theorem ylt{b:List UInt8}(h:j6 b=0):(ji b).fits:=by
 unfold j6 at h;have h3:=(Ou _ _ (zd8 h).1).1;have eU:(Mz b)=(xz 4096 vj (xz 256 j7 (jq (zl (zl (zl (Rd.same ⟨b,0⟩ [84,87])).2).2).2).2).2).2:=rfl;rw[eU]at h3;have u1:=zfd unt_PL h3;have hB:=((Nl unt_PL (hi:=4096) ψ).put _ h3).1;have u2:=zfd bld_PL hB;have hg:=((Nl bld_PL (hi:=256) ψ).put _ hB).1;have eG:(ji b).G=(jq (zl (zl (zl (Rd.same ⟨b,0⟩ [84,87])).2).2).2).1:=rfl;have eB:(ji b).B=(xz 256 j7 (jq (zl (zl (zl (Rd.same ⟨b,0⟩ [84,87])).2).2).2).2).1:=rfl;have eU2:(ji b).U=(xz 4096 vj (xz 256 j7 (jq (zl (zl (zl (Rd.same ⟨b,0⟩ [84,87])).2).2).2).2).2).1:=rfl;refine⟨?_,by rw[eB];omega,by rw[eU2];omega⟩;rw[eG];generalize(zl (zl (zl (Rd.same ⟨b,0⟩ [84,87])).2).2).2=s at hg;have hr:s.raw.2.e=0:=by apply Decidable.byContradiction;intro hn;unfold jq at hg;rw[if_neg hn]at hg;exact hn hg
 have e5:jq s=((ki s.raw.1).1,s.raw.2.must (decide ((ki s.raw.1).2=0))):=by unfold jq;rw[if_pos hr]
 rw[e5]at hg;have h2:=(Ik (s:=s.raw.2) (ok:=decide ((ki s.raw.1).2=0)) hg).2.1;have hgp:=(zck (of_decide_eq_true h2)).2;have e6:(jq s).1=(ki s.raw.1).1:=by rw[e5]
 rw[e6];have ha:=qm hgp;unfold Gnd.fits;omega
open Classical in
noncomputable def Gn(w:Wld)(l:List Cmd):Wld:=if w.tick=1099511627776 then w else Fc w l
open Classical in
noncomputable def Mq(w:Wld)(l:List Cmd):List Int:=if w.tick=1099511627776 then []else ww w l
open Classical in
noncomputable def Vw(w:Wld):Int:=if w.tick=1099511627776 then 10 else 0
theorem O8{w:Wld}(h:w.tick=1099511627776)(l:List Cmd):Gn w l=w/\Mq w l=[]/\Vw w=10:=⟨if_pos h,if_pos h,if_pos h⟩
theorem O9{w:Wld}(h:¬w.tick=1099511627776)(l:List Cmd):Gn w l=Fc w l/\Mq w l=ww w l/\Vw w=0:=⟨if_neg h,if_neg h,if_neg h⟩
theorem za5{w:Wld}(h:playW w)(l:List Cmd):playW (Gn w l):=by
 have ht:=h.1.1.1.1.1.2;by_cases e:w.tick=1099511627776
 ·rw[(O8 e l).1];exact h
 ·rw[(O9 e l).1];exact za7 h θ l
theorem yia(w:Wld)(l:List Cmd):(Mq w l).length<=l.length:=by
 by_cases e:w.tick=1099511627776
 ·rw[(O8 e l).2.1];exact Fae _
 ·rw[(O9 e l).2.1,nt];exact Fak _
structure Inp where
 t:Int
 p:Int
 C:List Cmd
 deriving DecidableEq
structure Nte where
 src:Int
 dst:Int
 inp:Inp
 done:Int
 hash:Int
 have_:Int
 deriving DecidableEq
structure Per where
 id:Int
 players:Int
 delay:Int
 turn:Int
 said:Int
 mine:List Inp
 inputs:List Inp
 has:List Int
 acked:List Int
 hashes:List Int
 split:Bool
 deriving DecidableEq
def xh(n:Int):List AV:=[u64 n]
def qp(i:Inp):List AV:=[int i.t,int i.p,lst 10 yz i.C]
def gw(n:Nte):List AV:=[int n.src,int n.dst,int n.inp.t,int n.inp.p,lst 10 yz n.inp.C,int n.done,u64 n.hash,int n.have_]
def yx(p:Per):List AV:=[int p.id,int p.players,int p.delay,int p.turn,int p.said,lst 3 qp p.mine,lst 3 qp p.inputs,yh p.has,yh p.acked,lst 1 xh p.hashes,V.bool p.split]
def Inp.fits(i:Inp):Prop:=i.C.length<=1000000000/\∀c∈i.C,c.fits
abbrev maxT:Int:=1099511627776
def fi(p:Int)(l:List Cmd):Prop:=(∀j,(hj:j<l.length)->Ai l[j]/\l[j].P=p/\(0<j->(l[j-1]'θ).S<l[j].S))/\l.length<=64
def Iq(i:Inp):Prop:=(0<=i.t/\i.t<=maxT)/\(1<=i.p/\i.p<=8)/\fi i.p i.C
def Ip(a b:Inp):Prop:=a.t<b.t\/(a.t=b.t/\a.p<b.p)
instance(a b:Inp):Decidable (Ip a b):=by unfold Ip;infer_instance
def Sz(l:List Inp):Prop:=∀j,(hj:j<l.length)->Iq l[j]/\(0<j->Ip (l[j-1]'θ) l[j])
def Vt(a b:Inp):Int:=orZ [Ah a.t b.t,Ah a.p b.p]
theorem yhr(a b:Inp):Vt a b=if Ah a.t b.t≠0 then Ah a.t b.t else Ah a.p b.p:=by
 unfold Vt orZ;by_cases h:Ah a.t b.t=0
 ·rw[List.find?_cons_of_neg (by simp[h]),if_neg θv];by_cases h2:Ah a.p b.p=0
  ·rw[List.find?_cons_of_neg (by simp[h2]),h2];rfl
  ·rw[List.find?_cons_of_pos (by simp[h2])];rfl
 ·rw[List.find?_cons_of_pos (by simp[h]),if_pos h];rfl
theorem ordI_neg{a b:Inp}:Vt a b<0↔Ip a b:=by
 rw[yhr];unfold Ah Ip;repeat' split
 all_goals omega
theorem ysv{w:World}{T T':Nat->Nat->Prop}(hT:∀b o,T' b o->T b o){cs:List AV}{k:Nat}{a a':AV}{x:Value}(h:VRel w T (.agg (cs.set k a)) x)(ha:∀y,VRel w T a y->VRel w T' a' y):VRel w T' (.agg (cs.set k a')) x:=by
 cases h with
 |agg _ c hl hc=>
  refine .agg _ c (by rw[Faz]at hl⊢;exact hl) λi y z hy hz=>?_;by_cases e:k=i
  ·subst e;have hk:k<cs.length:=by
    have:=(Fa2.1 hy).1;rw[Faz]at this;exact this
   rw[Fdl hk]at hy;cases hy;exact ha z (hc k a z (by rw[Fdl hk]) hz)
  ·rw[Fdz e]at hy;exact(hc i y z (by rw[Fdz e];exact hy) hz).mono hT
def Dj:List Int->Int
 |[]=>0
 |x::l=>l.foldl min x
def Gq:List Int->Int
 |[]=>0
 |x::l=>l.foldl max x
theorem yi6{l:List Int}{i:Nat}(h:i<l.length)(h1:1<=i):Dj (l.take (i+1))=min (Dj (l.take i)) l[i]:=by
 cases l with
 |nil=>simp at h
 |cons x l=>
  obtain⟨j,rfl⟩:∃j,i=j+1:=⟨i-1,θ⟩
  have hj:j<l.length:=θv;show(l.take (j+1)).foldl min x=min ((l.take j).foldl min x) l[j];rw[Fab hj,Fc9];rfl
theorem yjv{l:List Int}{i:Nat}(h:i<l.length)(h1:1<=i):Gq (l.take (i+1))=max (Gq (l.take i)) l[i]:=by
 cases l with
 |nil=>simp at h
 |cons x l=>
  obtain⟨j,rfl⟩:∃j,i=j+1:=⟨i-1,θ⟩
  have hj:j<l.length:=θv;show(l.take (j+1)).foldl max x=max ((l.take j).foldl max x) l[j];rw[Fab hj,Fc9];rfl
theorem yi7{l:List Int}(h:0<l.length):Dj (l.take 1)=l[0]:=by
 cases l with
 |nil=>simp at h
 |cons x l=>rfl
theorem yjw{l:List Int}(h:0<l.length):Gq (l.take 1)=l[0]:=by
 cases l with
 |nil=>simp at h
 |cons x l=>rfl
theorem ynu(x:Int)(l:List Int):l.foldl min x=x\/l.foldl min x∈l:=by
 induction l generalizing x with
 |nil=>exact .inl rfl
 |cons y l ih=>
  rcases ih (min x y)with h|h
  ·by_cases e:x<=y
   ·left;show l.foldl min (min x y)=x;rw[h];omega
   ·right;show l.foldl min (min x y)∈y::l;rw[h];have:min x y=y:=θ;rw[this];exact Fa7
  ·exact .inr (Fav _ h)
theorem ynv(x:Int)(l:List Int):l.foldl max x=x\/l.foldl max x∈l:=by
 induction l generalizing x with
 |nil=>exact .inl rfl
 |cons y l ih=>
  rcases ih (max x y)with h|h
  ·by_cases e:y<=x
   ·left;show l.foldl max (max x y)=x;rw[h];omega
   ·right;show l.foldl max (max x y)∈y::l;rw[h];have:max x y=y:=θ;rw[this];exact Fa7
  ·exact .inr (Fav _ h)
theorem zb9{l:List Int}(h:0<l.length):Dj l∈l:=by
 cases l with
 |nil=>simp at h
 |cons x l=>
  rcases ynu x l with e|e
  ·show l.foldl min x∈x::l;rw[e];exact Fa7
  ·exact Fav _ e
theorem yjx{l:List Int}(h:0<l.length):Gq l∈l:=by
 cases l with
 |nil=>simp at h
 |cons x l=>
  rcases ynv x l with e|e
  ·show l.foldl max x∈x::l;rw[e];exact Fa7
  ·exact Fav _ e
def countsP(p:Per)(l:List Int):Prop:=(∀j,(hj:j<l.length)->p.delay-1<=l[j]/\l[j]<=p.turn+16/\l[j]<=maxT)/\(l.length:Int)=p.players/\∀h:(p.id-1).toNat<l.length,l[(p.id-1).toNat]=p.said
def iv(p:Per):Prop:=(p.mine.length:Int)=p.said-Dj p.acked/\∀j,(hj:j<p.mine.length)->Iq p.mine[j]/\p.mine[j].p=p.id/\p.mine[j].t=p.said-p.mine.length+1+j
def lq(p:Per):Prop:=∀j,(hj:j<p.inputs.length)->p.turn<=p.inputs[j].t/\p.inputs[j].p<=p.players/\∀h:(p.inputs[j].p-1).toNat<p.has.length,p.inputs[j].t<=p.has[(p.inputs[j].p-1).toNat]
def Rl(p:Per):Prop:=(1<=p.players/\p.players<=8)/\(1<=p.id/\p.id<=p.players)/\(1<=p.delay/\p.delay<=8)/\(0<=p.turn/\p.turn<=maxT)
def Ci(p:Per):Prop:=Rl p/\(p.delay-1<=p.said/\p.said<=p.turn+p.delay-1/\p.said<=maxT)/\countsP p p.has/\countsP p p.acked/\p.turn-1<=Dj p.has/\Gq p.acked<=p.said/\p.hashes.length<=16/\(p.hashes.length:Int)<=p.turn/\iv p/\Sz p.inputs/\lq p
def Per.fits(p:Per):Prop:=(p.mine.length<=1000000000/\∀i∈p.mine,i.fits)/\(p.inputs.length<=1000000000/\∀i∈p.inputs,i.fits)/\p.has.length<=1000000000/\p.acked.length<=1000000000/\p.hashes.length<=1000000000
theorem countsP.mem{p:Per}{l:List Int}(h:countsP p l){x:Int}(hx:x∈l):p.delay-1<=x/\x<=p.turn+16/\x<=1099511627776:=by obtain⟨j,hj,rfl⟩:=List.mem_iff_getElem.1 hx;exact h.1 j hj
theorem j1{a b:Store}(h:zh a b):zh b a:=λi h1 h2=>h i h2 h1
theorem unE(a:Store):Store.empty.un a=a:=by
 obtain⟨o,t⟩:=a;unfold Store.un
 congr 1
 ·funext i;cases h:o i<;>simp[h,Store.empty]
 ·funext i;cases h:t i<;>simp[h,Store.empty]
theorem unA(a b c:Store):(a.un b).un c=a.un (b.un c):=by
 unfold Store.un
 congr 1
 ·funext i;cases h:c.obj i<;>simp[h]
 ·funext i;cases h:c.tok i<;>simp[h]
theorem unC{a b:Store}(h:zh a b):a.un b=b.un a:=by
 unfold Store.un
 congr 1
 ·funext i
  cases h1:a.obj i with
  |none=>cases h2:b.obj i<;>simp[h1,h2]
  |some x=>have:=(wl (h i (k9 h1))).1;simp[h1,this]
 ·funext i
  cases h1:a.tok i with
  |none=>cases h2:b.tok i<;>simp[h1,h2]
  |some x=>have:=(wl (h i (Pn h1))).2;simp[h1,this]
theorem disjU{a b c:Store}:zh (a.un b) c↔zh a c/\zh b c:=by refine⟨λh=>⟨λi h1=>h i (un_has.2 (.inl h1)),λi h1=>h i (un_has.2 (.inr h1))⟩,λ⟨h1,h2⟩ i h=>(un_has.1 h).elim (h1 i) (h2 i)⟩
theorem Rb(a:Store):zh Store.empty a:=λb hb=>(hb.elim (λh=>h rfl) (λh=>h rfl):False).elim
def Sp:List (Store->Prop)->Store->Prop
 |[],S=>S=Store.empty
 |P::l,S=>∃a b,S=a.un b/\zh a b/\P a/\Sp l b
def Foc(P:Store->Prop)(K:(Store->Prop)->Store->Prop)(S:Store):Prop:=∃a g,S=a.un g/\zh a g/\P a/\∀Q a',Q a'->zh a' g->K Q (a'.un g)
theorem Sp.at{P:Store->Prop}:∀{l:List (Store->Prop)} {S:Store} (i:Nat),l[i]?=some P->Sp l S->Foc P (λQ=>Sp (l.set i Q)) S
 |R::l,S,0,hi,⟨a,b,e,hd,hP,hl⟩=>by cases hi;exact⟨a,b,e,hd,hP,λQ a' hQ hd'=>⟨a',b,rfl,hd',hQ,hl⟩⟩
 |R::l,S,i+1,hi,⟨a,b,e,hd,hP,hl⟩=>by obtain⟨c,g,rfl,hd2,h3,h4⟩:=Sp.at i (show l[i]?=some P from hi) hl;obtain⟨d1,d2⟩:=disjU.1 (j1 hd);refine⟨c,a.un g,by rw[e,<-unA,unC (j1 d1),unA],j1 (disjU.2 ⟨j1 d1,j1 hd2⟩),h3,λQ a' hQ hd'=>?_⟩;obtain⟨d3,d4⟩:=disjU.1 (j1 hd');exact⟨a,a'.un g,by rw[<-unA,unC (j1 d3),unA],j1 (disjU.2 ⟨j1 d3,d2⟩),hP,h4 Q a' hQ (j1 d4)⟩
theorem Foc.at{P:Store->Prop}{K:(Store->Prop)->Store->Prop}{m:List (Store->Prop)}{S:Store}(h:Foc (Sp m) K S)(j:Nat)(hj:m[j]?=some P):Foc P (λQ=>K (Sp (m.set j Q))) S:=by obtain⟨a,g,rfl,hd,hP,hK⟩:=h;obtain⟨c,e,rfl,hd2,h3,h4⟩:=hP.at j hj;obtain⟨d1,d2⟩:=disjU.1 hd;refine⟨c,e.un g,unA _ _ _,j1 (disjU.2 ⟨j1 hd2,j1 d1⟩),h3,λQ a' hQ hd'=>?_⟩;obtain⟨d3,d4⟩:=disjU.1 (j1 hd');rw[<-unA];exact hK _ _ (h4 Q a' hQ (j1 d3)) (disjU.2 ⟨j1 d4,d2⟩)
theorem Foc.same{P:Store->Prop}{K:(Store->Prop)->Store->Prop}{S:Store}(h:Foc P K S){Q:Store->Prop}(hq:∀a,P a->Q a):K Q S:=by obtain⟨a,g,rfl,hd,hP,hK⟩:=h;exact hK Q a (hq a hP) hd
theorem Foc.call{P:Store->Prop}{K:(Store->Prop)->Store->Prop}{S:Store}{Pr:Program}{f:FuncId}{xs:List AV}{T R:Ja}(h:Foc P K S)(hc:∀a,P a->ACalls Pr f xs a T)(hR:∀r a',T r a'->∀S',(∀Q:Store->Prop,Q a'->K Q S')->R r S'):ACalls Pr f xs S R:=by obtain⟨a,g,rfl,hd,hP,hK⟩:=h;exact ACalls.frame hd (hc a hP) λr a' ht hd'=>hR r a' ht _ λQ hq=>hK Q a' hq hd'
theorem Foc.look{P:Store->Prop}{K:(Store->Prop)->Store->Prop}{S:Store}{Pr:Program}{f:FuncId}{xs:List AV}{R:Ja}(h:Foc P K S)(r:AV)(hc:∀a,P a->∀T:AV->Store->Prop,T r a->ACalls Pr f xs a T)(hR:R r S):ACalls Pr f xs S R:=by obtain⟨a,g,rfl,hd,hP,hK⟩:=h;refine ACalls.frame hd (hc a hP (λx a'=>x=r/\a'=a) ⟨rfl,rfl⟩) λx a' ⟨h1,h2⟩ _=>?_;subst h1 h2;exact hR
theorem Sp.allE:∀{l:List (Store->Prop)},(∀P∈l,P Store.empty)->Sp l Store.empty
 |[],_=>rfl
 |P::l,h=>⟨Store.empty,Store.empty,rfl,Rb _,h P Fa7,Sp.allE λQ hq=>h Q (Fav _ hq)⟩
theorem Sp.none{l:List (Store->Prop)}{P:Store->Prop}{S:Store}(hP:P Store.empty)(h:Sp l S):Sp (P::l) S:=⟨Store.empty,S,(unE S).symm,Rb S,hP,h⟩
def Bm(q:Nat)(l:List AV)(a:Store):Prop:=a=Store.empty.sO q (.cells l)
theorem boxHas{q i:Nat}{x:AObj}:(Store.empty.sO q x).has i↔i=q:=by
 unfold Store.has Store.sO Store.empty;by_cases e:i=q
 ·simp[e]
 ·simp[qe e,e]
section
variable {K:(Store->Prop)->Store->Prop} {S:Store} {q:Nat} {cs:List AV}
theorem Foc.obj(h:Foc (Bm q cs) K S):S.obj q=some (.cells cs):=by obtain⟨a,g,rfl,hd,rfl,hK⟩:=h;exact yj hd (zd _ _ _)
theorem Foc.store(h:Foc (Bm q cs) K S)(ds:List AV):K (Bm q ds) (S.sO q (.cells ds)):=by
 obtain⟨a,g,rfl,hd,rfl,hK⟩:=h;have hg:¬g.has q:=hd q (boxHas.2 rfl);have e:(Store.sO (Store.un (Store.empty.sO q (.cells cs)) g) q (.cells ds))=(Store.empty.sO q (.cells ds)).un g:=by rw[Gb hg,ym]
 rw[e];exact hK _ _ rfl λi h1 h2=>hg (by rw[boxHas.1 h1]at h2;exact h2)
end
theorem Sp.new{l:List (Store->Prop)}{S:Store}(h:Sp l S){q:Nat}(hq:Fresh S q)(cs:List AV):Sp (Bm q cs::l) (S.sO q (.cells cs)):=by
 have hn:=fresh_iff.1 hq;refine⟨_,S,?_,λi h1 h2=>hn (by rw[boxHas.1 h1]at h2;exact h2),rfl,h⟩
 conv=>lhs;rw[<-unE S]
 exact Gb hn
theorem Sp.last:∀{l:List (Store->Prop)} {P:Store->Prop} {a S:Store},P a->Sp l S->zh a S->Sp (l++[P]) (a.un S)
 |[],P,a,S,hP,h,hd=>by have e:S=Store.empty:=h;subst e;exact⟨a,_,rfl,hd,hP,rfl⟩
 |Q::l,P,a,S,hP,⟨b,c,e,hd2,hQ,hl⟩,hd=>by subst e;obtain⟨d1,d2⟩:=disjU.1 (j1 hd);exact⟨b,a.un c,by rw[<-unA,unC (j1 d1),unA],j1 (disjU.2 ⟨j1 d1,j1 hd2⟩),hQ,Sp.last hP hl (j1 d2)⟩
theorem Foc.last{m:List (Store->Prop)}{K:(Store->Prop)->Store->Prop}{P:Store->Prop}{a S:Store}(h:Foc (Sp m) K S)(hP:P a)(hd:zh a S):K (Sp (m++[P])) (a.un S):=by obtain⟨b,g,rfl,hd2,hm,hK⟩:=h;obtain⟨d1,d2⟩:=disjU.1 (j1 hd);rw[<-unA];exact hK _ _ (Sp.last hP hm (j1 d1)) (disjU.2 ⟨j1 d2,hd2⟩)
theorem Foc.box{m:List (Store->Prop)}{K:(Store->Prop)->Store->Prop}{S:Store}(h:Foc (Sp m) K S){q:Nat}(hq:Fresh S q)(cs:List AV):K (Sp (m++[Bm q cs])) (S.sO q (.cells cs)):=by
 have hn:=fresh_iff.1 hq;have e:S.sO q (.cells cs)=(Store.empty.sO q (.cells cs)).un S:=by
  conv=>lhs;rw[<-unE S]
  exact Gb hn
 rw[e];exact h.last rfl λi h1 h2=>hn (by rw[boxHas.1 h1]at h2;exact h2)
def TokR(k:Nat)(v:AV)(l:List (List AV))(a:Store):Prop:=(l=[]/\v=.s (.slice none 0 0)/\a=Store.empty)\/(l≠[]/\∃t,v=.lst k l (some t)/\a=Store.empty.sT t (some (l.length*k)))
theorem tokHas{t i:Nat}{n:Nat}:(Store.empty.sT t (some n)).has i↔i=t:=by
 unfold Store.has Store.sT Store.empty;by_cases e:i=t
 ·simp[e]
 ·simp[qe e,e]
theorem TokR.nil(k:Nat):TokR k (.s (.slice none 0 0)) [] Store.empty:=.inl ⟨rfl,rfl,rfl⟩
theorem TokR.le{k:Nat}{v:AV}{l:List (List AV)}{a:Store}(h:TokR k v l a):AV.le v (.lst k l none):=by
 rcases h with⟨rfl,rfl,_⟩|⟨_,t,rfl,_⟩
 ·exact AV.le_nil k
 ·exact AV.le_tok _ _ _
theorem Foc.app{P:Program}{c:Cfg}{e:TypeId}{ie:TI}(hie:c.I e=some ie)(h0:Nat.blt 0 ie.size=true){K:(Store->Prop)->Store->Prop}{S:Store}{v:AV}{l:List (List AV)}(h:Foc (TokR ie.size v l) K S)
  {x:AV} {rows:List (List AV)} (hx:Ab ie.size (.av x)=some rows) (hne:rows≠[]) (hroom:room (l++rows).length ie.bytes) {L:Ja}
  (hL:∀b S',K (TokR ie.size (.lst ie.size (l++rows) (some b)) (l++rows)) S'->L (.lst ie.size (l++rows) (some b)) S'):appendK P c S e (.av v) (.av x) L:=by
 obtain⟨a,g,rfl,hd,ht,hK⟩:=h
 have key:∀b,¬g.has b->K (TokR ie.size (.lst ie.size (l++rows) (some b)) (l++rows)) ((Store.empty.sT b (some ((l++rows).length*ie.size))).un g):=λb hb=>
  hK _ _ (.inr ⟨λe=>hne (List.append_eq_nil_iff.1 e).2,b,rfl,rfl⟩) λi h1 h2=>hb (by rw[tokHas.1 h1]at h2;exact h2)
 have e2:∀b n,¬g.has b->g.sT b (some n)=(Store.empty.sT b (some n)).un g:=λb n hb=>by
  have:=(wl hb).2;obtain⟨o,t⟩:=g;unfold Store.un Store.sT
  congr 1
  ·funext i;cases h:o i<;>simp[h,Store.empty]
  ·funext i
   by_cases e:i=b
   ·subst e;simp_all
   ·simp only[qe e,cond_false];cases h:t i<;>simp[h,Store.empty]
 refine⟨.inl ?_⟩;unfold ce;refine za ie hie ?_;rcases ht with⟨rfl,rfl,rfl⟩|⟨hl,t,rfl,rfl⟩
 ·refine za rows hx ⟨hroom,λv st' ho=>?_⟩;rcases ho with⟨_,e,_⟩|⟨_,b,hf,rfl,rfl⟩
  ·exact absurd e hne
  ·rw[unE]at hf⊢;have hb:=fresh_iff.1 hf;rw[show rows=[]++rows from rfl,e2 _ _ hb];exact hL _ _ (key b hb)
 ·have hgt:¬g.has t:=hd t (tokHas.2 rfl);simp only[Fbr,h0,Fdj,cond_true];refine za rows hx ⟨Lz hd (H8 _ _ _),hroom,λv st' ho=>?_⟩;have e1:(Store.un (Store.empty.sT t (some (l.length*ie.size))) g).sT t none=g:=by
   have:=(wl hgt).2;obtain⟨o,tk⟩:=g;unfold Store.un Store.sT
   congr 1
   ·funext i;cases h:o i<;>simp[h,Store.empty]
   ·funext i
    by_cases e:i=t
    ·subst e;simp_all
    ·simp only[qe e,cond_false];cases h:tk i<;>simp[h,Store.empty]
  rw[e1]at ho;rcases ho with⟨_,e,_⟩|⟨_,b,hf,rfl,rfl⟩
  ·exact absurd (List.append_eq_nil_iff.1 e).1 hl
  ·have hb:¬g.has b:=fresh_iff.1 hf;rw[e2 _ _ hb];exact hL _ _ (key b hb)
end Go.V
