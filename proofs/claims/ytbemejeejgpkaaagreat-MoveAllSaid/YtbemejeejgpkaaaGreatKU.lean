/- The ground on which laws of thronglaw24 are proved: contracts of functions and plain lemmas; no condition beyond the row's own. -/
import Derived.Test.YtbemejeejgpkaaaGreatKF
set_option linter.unusedSimpArgs false
set_option linter.unusedVariables false
namespace Go.V
open Classical in
noncomputable def goN(w:Wld):Nat->Wld
 |0=>w
 |i+1=>if h:i<(goN w i).U.length then(if(goN w i).U[i].inn=0 then j9 (goN w i) (goN w i).U[i]else goN w i)else goN w i
noncomputable def allW(w:Wld):Wld:=goN w w.U.length
theorem zzx{w:Wld}(h:playW w){i:Nat}(hi:i<w.U.length)(h0:w.U[i].inn=0):playW (j9 w w.U[i])/\(j9 w w.U[i]).U.length=w.U.length/\(j9 w w.U[i]).G=w.G/\(j9 w w.U[i]).B=w.B:=by
 obtain⟨u',h1,h2⟩:=zx9 h.1 hi h0
 refine⟨⟨yms h.1 hi h0,?_⟩,?_,?_,?_⟩
 ·rw[h1]
  exact ytt h.2 (yom h2 (h.2 _ (List.getElem_mem hi)))
 ·rw[h1,zes]
 ·rw[h1];rfl
 ·rw[h1];rfl
theorem ze1{w:Wld}(h:playW w):∀i,playW (goN w i)/\(goN w i).U.length=w.U.length/\(goN w i).G=w.G/\(goN w i).B=w.B
 |0=>⟨h,rfl,rfl,rfl⟩
 |i+1=>by
  obtain⟨h1,h2,h3,h4⟩:=ze1 h i
  unfold goN
  by_cases hi:i<(goN w i).U.length
  ·rw[dif_pos hi]
   by_cases h0:(goN w i).U[i].inn=0
   ·rw[if_pos h0]
    obtain⟨q1,q2,q3,q4⟩:=zzx h1 hi h0
    exact⟨q1,q2.trans h2,q3.trans h3,q4.trans h4⟩
   ·rw[if_neg h0]
    exact⟨h1,h2,h3,h4⟩
  ·rw[dif_neg hi]
   exact⟨h1,h2,h3,h4⟩
theorem yoc{w:Wld}{i:Nat}(hi:i<(goN w i).U.length)(h0:(goN w i).U[i].inn=0):goN w (i+1)=j9 (goN w i) (goN w i).U[i]:=by
 rw[goN,dif_pos hi,if_pos h0]
theorem zuc{w:Wld}{i:Nat}(hi:i<(goN w i).U.length)(h0:(goN w i).U[i].inn≠0):goN w (i+1)=goN w i:=by
 rw[goN,dif_pos hi,if_neg h0]
theorem ynu{w:Wld}(h:playW w):playW (allW w)/\(allW w).U.length=w.U.length:=⟨(ze1 h _).1,(ze1 h _).2.1⟩
end Go.V
