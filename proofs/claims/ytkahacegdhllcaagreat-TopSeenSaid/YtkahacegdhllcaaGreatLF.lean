/- Ground of laws of throngtop: contracts and plain lemmas; no condition beyond the row's own. -/
import Derived.Laws.BytesString
import Derived.Test.YtkahacegdhllcaaGreatKQ
set_option linter.unusedSimpArgs false
set_option linter.unusedVariables false
set_option linter.defProp false
namespace Go.V
def Mt(l:List Int):List AV:=l.map λn=>.s (.int .u8 n)
def Lf(l:List Int):ByteArray:=l.foldl (λr n=>r.push (UInt8.ofNat n.toNat)) ByteArray.empty
section
variable {P:Program} {c:Cfg} {st:Store}
def yur{o:Oper}{s t e:TypeId}{x:Operand}(ho:o.op=.convert s t x){is ie it:TI}(his:c.I s=some is)(hty:is.ty=.slice e)(hie:c.I e=some ie)(hu8:ie.ty=.int .u8)(h1:ie.size=1)(hit:c.I t=some it)(hstr:it.ty=.str)
    {b off n cap:Nat} {l:List AV} {ns:List Int} (hb:st.obj b=some (.cells l)) (hn:ns.length=n) (hl:(l.drop off).take n=Mt ns) {R:Ja} (h:R (.s (.string (Lf ns))) st):
    AEff P c o [.s (.slice (some ⟨b,off,none⟩) n cap)] st R:=by
  refine⟨λOth M w ρ hI sto hr=>?_⟩;have hops:o.op.operands=#[x]:=by rw[ho];simp[Op.operands]
  rw[hops]at hr;have hr:Reads w (λb o=>M b o\/Oth b o) [.s (.slice (some ⟨b,off,none⟩) n cap)] [ρ x]:=θl;have e1:=VRel.eq_s (hr.2 0 _ (ρ x) rfl rfl);have hts:=xq (hI _ _ his) hty;have hte:=I5 (hI _ _ hie) hu8;have htt:=Vw (hI _ _ hit) hstr;have⟨⟨cs,e0,fr,hb0,huf,hlen,hrel⟩,hM⟩:=sto.obj b _ hb;have hat:∀(i:Nat),i<n->l[off+i]?=(ns[i]?).map λm=>AV.s (.int .u8 m):=λi hi=>by
    have h3:((l.drop off).take n)[i]?=(Mt ns)[i]?:=by rw[hl]
    rw[Fc7,if_pos hi,Fbq]at h3;rw[h3];unfold Mt;rw[Far]
  have hload:(loadCells ⟨b,off,none⟩ n).run P w=.ok (ns.map (Value.int .u8)).toArray w:=by
    have:=Lo (P:=P) ⟨b,off,none⟩ w (λi=>.int .u8 (ns.getD i 0)) n 0 #[] (λp hp0 hp=>by
      have hp:p<n:=θ;have h3:=hat p hp;have hpn:p<ns.length:=θ;rw[Fab hpn]at h3;have hlt:off+p<cs.size:=by have:=(Fax.1 h3).1;omega
      have h4:=hrel (off+p) _ cs[off+p] h3 (by simp[hlt]);have h5:=VRel.eq_s h4;show w.cell? _=_;simp only[World.cell?,hb0,wk];simp[hlt,h5,hpn])
    have hmap:((List.range' 0 n).map λi=>Value.int .u8 (ns.getD i 0))=ns.map (Value.int .u8):=by
      apply Fco
      · simp[hn]
      · intro i h1 h2
        simp at h1 h2;simp[h2]
    rw[hmap]at this;simpa [loadCells]using this
  have hrun:(execOp ρ o).run P w=.ok (.value (.string (Lf ns))) w:=by have h2:=run_convert_bytes_string w s t e (some ⟨b,off,none⟩) n cap hts hte htt;have h3:=run_bytesToString w ⟨b,off,none⟩ n cap ns hload;simp[execOp,ho,e1,h2,h3,Lf]
  rw[hrun];exact⟨_,st,M,h,.s _,sto,Chg.refl _ _⟩
end
section
variable {n t k:Nat}
def ul(n:Nat)(f:Nat->Int):List AV:=(List.range n).map λt=>AV.s (.int .u8 (f t))
theorem Ng(n:Nat)(f:Nat->Int):(ul n f).length=n:=by simp[ul]
theorem Nh{f:Nat->Int}(h:t<n):(ul n f)[t]?=some (AV.s (.int .u8 (f t))):=by simp[ul,h]
theorem zm7(n:Nat):List.replicate n (AV.s (.int .u8 0))=ul n λ_=>0:=by unfold ul;rw[List.map_const',Fcd]
theorem iw{f:Nat->Int}(h:t<n)(v:Int):zq (ul n f) t [AV.s (.int .u8 v)]=ul n (yh f t v):=by
 apply Fb4;intro i;unfold zq;rw[Fas,List.getElem?_append];have hl:(List.take t (ul n f)).length=t:=by rw[Fai,Ng];omega
 rw[hl];by_cases h1:i<t
 ·rw[if_pos h1,Fc7,if_pos h1,Nh θ,Nh θ];unfold yh;rw[if_neg θ]
 ·rw[if_neg h1];by_cases h2:i=t
  ·subst h2;rw[Fc3,Nh h];unfold yh;rw[if_pos rfl];rfl
  ·obtain⟨j,rfl⟩:∃j,i=t+1+j:=⟨i-(t+1),θ⟩
   rw[show t+1+j-t=j+1 by omega,List.singleton_append,Fay,Fbq];show(ul n f)[t+1+j]?=_;by_cases h3:t+1+j<n
   ·rw[Nh h3,Nh h3];unfold yh;rw[if_neg θ]
   ·rw[Fbe (by rw[Ng];omega),Fbe (by rw[Ng];omega)]
def terrL:List Int:=[46,61,102,109,126,94]
def kindL:List Int:=[115,119,103,99]
def Ld(w:Wld)(t:Nat):Int:=if xo w.G w.B t then 35 else terrL.getD (w.G.T.getD t 0).toNat 0
def Nf(u:Unt):Int:=if u.goal=-1 then kindL.getD u.kind.toNat 0 else kindL.getD u.kind.toNat 0-32
def Gh(w:Wld)(k:Nat):Nat->Int:=(w.U.drop k).foldr (λu d=>if u.inn=0 then yh d (kz w.G u.pos) (Nf u)else d) (Ld w)
theorem yq5(w:Wld):Gh w w.U.length=Ld w:=by unfold Gh;rw[Fdy];rfl
def yq4{w:Wld}(hk:k<w.U.length):Gh w k=if w.U[k].inn=0 then yh (Gh w (k+1)) (kz w.G w.U[k].pos) (Nf w.U[k])else Gh w (k+1):=by unfold Gh;rw[Fcl hk,List.foldr_cons]
def Lr(w:Wld)(k:Nat):List Int:=(List.range w.G.W.toNat).map λx=>Gh w 0 (k*w.G.W.toNat+x)
def ki(b:ByteArray):List AV:=[.s (.string b)]
def jg(w:Wld):List ByteArray:=(List.range w.G.H.toNat).map λk=>Lf (Lr w k)
def vy(w:Wld)(t:Nat):Nat->Int:=λi=>if i<t then Ld w i else 0
theorem zcq(w:Wld)(t:Nat):vy w (t+1)=yh (vy w t) t (Ld w t):=funext λi=>by
 unfold vy yh;by_cases h:i=t
 ·subst h;rw[if_pos θ,if_pos rfl]
 ·rw[if_neg h];by_cases h2:i<t
  ·rw[if_pos θ];exact(if_pos h2).symm
  ·rw[if_neg θ];exact(if_neg h2).symm
def zbs{f g:Nat->Int}(h:∀t,t<n->f t=g t):ul n f=ul n g:=Fbw λt ht=>by rw[h t (Fbj.1 ht)]
theorem zm8(w:Wld)(n:Nat):ul n (vy w n)=ul n (Ld w):=zbs λt ht=>if_pos ht
theorem zm6(w:Wld)(n:Nat):ul n (λ_=>0)=ul n (vy w 0):=zbs λt _=>by unfold vy;rw[if_neg θ]
theorem zm9{W:Nat}{f:Nat->Int}(h:k*W+W<=n):((ul n f).drop (0+k*W*1)).take W=Mt ((List.range W).map λx=>f (k*W+x)):=by
 apply Fb4;intro i;rw[Fc7];by_cases hi:i<W
 ·rw[if_pos hi,Fbq,Nh θ];unfold Mt;simp[hi]
 ·rw[if_neg hi,Fbe];simp[Mt];omega
def zz2{m:Nat}(h:m<6):∃b:UInt8,(⟨#[46,61,102,109,126,94]⟩:ByteArray)[m]?=some b/\((b.toNat:Nat):Int)=terrL.getD m 0:=by
 match m,h with
 |0,_=>exact⟨46,rfl,rfl⟩
 |1,_=>exact⟨61,rfl,rfl⟩
 |2,_=>exact⟨102,rfl,rfl⟩
 |3,_=>exact⟨109,rfl,rfl⟩
 |4,_=>exact⟨126,rfl,rfl⟩
 |5,_=>exact⟨94,rfl,rfl⟩
end
end Go.V
