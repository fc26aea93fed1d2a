/- Lemmas of thronglaw29; no conditions. -/
import Derived.Shelf.Sort.Plain
import Derived.Shelf.Bits.Mul64
import Derived.Ground.Names2Prog
import Derived.Shelf.Slices.SearchI
import Derived.Shelf.Slices.Delete
import Derived.Shelf.Slices.In.SortNone
import Derived.Shelf.Slices.Empties
import Derived.Shelf.Spec.SlicesInsertGrow
import Derived.Shelf.Spec.BitsCarry
import Derived.Ground.Names7Prog
import Derived.Test.YtphhbmaalpdnoaaGreatProg
import Derived.Test.YtphhbmaalpdnoaaGreatKA
set_option linter.unusedSimpArgs false
set_option linter.unusedVariables false
set_option linter.defProp false
namespace Go.Proofs
open Go.Shelf Go.V
def Fd{α:Type}{a b:α}(h:a=b:=by kernel_rfl):some a=some b:=congrArg some h
def Tryz.lays189_ren:Go.Shelf.Ren:=⟨λ|189=>368|125=>316|257=>422|128=>394|129=>395|294=>457|295=>458|296=>459|297=>460|298=>461|299=>462|216=>361|300=>463|301=>464|328=>478|329=>441|330=>442|331=>479|332=>480|215=>317|343=>484|n=>n,λ|28=>63|3=>3|46=>140|0=>0|51=>244|53=>96|4=>4|183=>479|182=>478|131=>317|5=>5|9=>9|218=>520|222=>134|228=>539|229=>488|n=>n,λ|n=>n⟩
def Tryz.lays189:Go.Proofs.Lays.n189 Tryz.prog Tryz.lays189_ren:={
 mixed:=κ
 f125:=Tryz.func316.trans Fd
 f128:=Tryz.func394.trans Fd
 f129:=Tryz.func395.trans Fd
 f189:=Tryz.func368.trans Fd
 f215:=Tryz.func317.trans Fd
 f216:=Tryz.func361.trans Fd
 f257:=Tryz.func422.trans Fd
 f294:=Tryz.func457.trans Fd
 f295:=Tryz.func458.trans Fd
 f296:=Tryz.func459.trans Fd
 f297:=Tryz.func460.trans Fd
 f298:=Tryz.func461.trans Fd
 f299:=Tryz.func462.trans Fd
 f300:=Tryz.func463.trans Fd
 f301:=Tryz.func464.trans Fd
 f328:=Tryz.func478.trans Fd
 f329:=Tryz.func441.trans Fd
 f330:=Tryz.func442.trans Fd
 f331:=Tryz.func479.trans Fd
 f332:=Tryz.func480.trans Fd
 f343:=Tryz.func484.trans Fd
 t0:=Tryz.underlying0
 a0:=Tryz.isAgg0
 z0:=Tryz.sizeOf0
 v0:=Tryz.zeroValue0
 t3:=Tryz.underlying3
 a3:=Tryz.isAgg3
 z3:=Tryz.sizeOf3
 v3:=Tryz.zeroValue3
 t4:=Tryz.underlying4
 a4:=Tryz.isAgg4
 z4:=Tryz.sizeOf4
 v4:=Tryz.zeroValue4
 t5:=Tryz.underlying5
 a5:=Tryz.isAgg5
 z5:=Tryz.sizeOf5
 v5:=Tryz.zeroValue5
 t9:=Tryz.underlying9
 a9:=Tryz.isAgg9
 z9:=Tryz.sizeOf9
 v9:=Tryz.zeroValue9
 t28:=Tryz.underlying63
 a28:=Tryz.isAgg63
 z28:=Tryz.sizeOf63
 v28:=Tryz.zeroValue63
 t46:=Tryz.underlying140
 a46:=Tryz.isAgg140
 z46:=Tryz.sizeOf140
 v46:=Tryz.zeroValue140
 t51:=Tryz.underlying244
 a51:=Tryz.isAgg244
 z51:=Tryz.sizeOf244
 v51:=Tryz.zeroValue244
 t53:=Tryz.underlying96
 a53:=Tryz.isAgg96
 z53:=Tryz.sizeOf96
 v53:=Tryz.zeroValue96
 t131:=Tryz.underlying317
 a131:=Tryz.isAgg317
 z131:=Tryz.sizeOf317
 v131:=Tryz.zeroValue317
 t182:=Tryz.underlying478
 a182:=Tryz.isAgg478
 z182:=Tryz.sizeOf478
 v182:=Tryz.zeroValue478
 t183:=Tryz.underlying479
 a183:=Tryz.isAgg479
 z183:=Tryz.sizeOf479
 v183:=Tryz.zeroValue479
 t218:=Tryz.underlying520
 a218:=Tryz.isAgg520
 z218:=Tryz.sizeOf520
 v218:=Tryz.zeroValue520
 t222:=Tryz.underlying134
 a222:=Tryz.isAgg134
 z222:=Tryz.sizeOf134
 v222:=Tryz.zeroValue134
 t228:=Tryz.underlying539
 a228:=Tryz.isAgg539
 z228:=Tryz.sizeOf539
 v228:=Tryz.zeroValue539
 t229:=Tryz.underlying488
 a229:=Tryz.isAgg488
 z229:=Tryz.sizeOf488
 v229:=Tryz.zeroValue488}
open Go.Sort Go.RowKit in
def Tryz.slices_Sort_int(blk off cap:Nat)(zs:List Int)(w:World)(hH:Holds (Value.int .i64) w blk off zs.toArray)(hblk:blk<w.heap.size)(hsz:zs.length<4611686018427387904):
  Calls Tryz.prog 368 #[.slice (some ⟨blk,off,none⟩) zs.length cap] w λe w'=>
   e=.returned (.tuple #[])/\∃n os,w'=grow (putRow (Value.int .i64) (Sort.ahead w n) blk off (zs.mergeSort λx y=>decide (x<=y)).toArray) os:=Any.slices_Sort_int Tryz.lays189 blk off cap zs w hH hblk hsz
def Tryz.laysNm225_ren:Go.Shelf.Ren:=⟨λ|25=>273|31=>361|32=>362|37=>317|n=>n,λ|22=>63|3=>3|4=>4|40=>140|0=>0|n=>n,λ|n=>n⟩
def Tryz.laysNm225:Go.Proofs.Lays2.n25 Tryz.prog Tryz.laysNm225_ren:={
 mixed:=κ
 f25:=Tryz.func273.trans Fd
 f31:=Tryz.func361.trans Fd
 f32:=Tryz.func362.trans Fd
 f37:=Tryz.func317.trans Fd
 t0:=Tryz.underlying0
 a0:=Tryz.isAgg0
 z0:=Tryz.sizeOf0
 v0:=Tryz.zeroValue0
 t3:=Tryz.underlying3
 a3:=Tryz.isAgg3
 z3:=Tryz.sizeOf3
 v3:=Tryz.zeroValue3
 t4:=Tryz.underlying4
 a4:=Tryz.isAgg4
 z4:=Tryz.sizeOf4
 v4:=Tryz.zeroValue4
 t22:=Tryz.underlying63
 a22:=Tryz.isAgg63
 z22:=Tryz.sizeOf63
 v22:=Tryz.zeroValue63
 t40:=Tryz.underlying140
 a40:=Tryz.isAgg140
 z40:=Tryz.sizeOf140
 v40:=Tryz.zeroValue140}
open Go.RowKit Go.Lib in
def Tryz.slices_BinarySearch_int(b off n c:Nat)(zs:List Int)(x:Int)(w:World)(hz:n<=zs.length)(hbig:n<4611686018427387904)(hc:∀j,j<zs.length->w.cell? ⟨b,off+j,none⟩=some (.int .i64 (zs.getD j 0)))(hs:(zs.take n).Pairwise (·<=·)):
  Calls Tryz.prog 273 #[.slice (some ⟨b,off,none⟩) n c,.int .i64 x] w λe w'=>e=.returned (.tuple #[.int .i64 ((zs.take n).countP (·<x):Nat),.bool ((zs.take n).contains x)])/\∃q,w'=w.drewN q:=Any.slices_BinarySearch_int Tryz.laysNm225 b off n c zs x w hz hbig hc hs
def Tryz.laysNm223_ren:Go.Shelf.Ren:=⟨λ|23=>359|n=>n,λ|22=>63|3=>3|4=>4|0=>0|n=>n,λ|n=>n⟩
def Tryz.laysNm223:Go.Proofs.Lays2.n23 Tryz.prog Tryz.laysNm223_ren:={
 mixed:=κ
 f23:=Tryz.func359.trans Fd
 t0:=Tryz.underlying0
 a0:=Tryz.isAgg0
 z0:=Tryz.sizeOf0
 v0:=Tryz.zeroValue0
 t3:=Tryz.underlying3
 a3:=Tryz.isAgg3
 z3:=Tryz.sizeOf3
 v3:=Tryz.zeroValue3
 t4:=Tryz.underlying4
 a4:=Tryz.isAgg4
 z4:=Tryz.sizeOf4
 v4:=Tryz.zeroValue4
 t22:=Tryz.underlying63
 a22:=Tryz.isAgg63
 z22:=Tryz.sizeOf63
 v22:=Tryz.zeroValue63
 i3:=by kernel_rfl}
open Go.RowKit Go.Lib Go.Sort in
def Tryz.slices_Delete_int(blk off cap i j:Nat)(zs:List Int)(w:World)(hH:Holds (Value.int .i64) w blk off zs.toArray)(hcap:zs.length<=cap)(hm:cap<=9223372036854775807)(hij:i<=j)(hj:j<=zs.length):
  Calls Tryz.prog 359 #[.slice (some ⟨blk,off,none⟩) zs.length cap,.int .i64 i,.int .i64 j] w λe w'=>e=.returned (.slice (some ⟨blk,off,none⟩) (zs.length-(j-i)) cap)/\∃q,w'=putRow (Value.int .i64) (Sort.ahead w q) blk off (zs.take i++zs.drop j++List.replicate (j-i) 0).toArray:=Any.slices_Delete_int Tryz.laysNm223 blk off cap i j zs w hH hcap hm hij hj
open Go.RowKit Go.Sort in
def Tryz.slices_Sort_int_none(p:Option Addr)(cap:Nat)(w:World):
  Calls Tryz.prog 368 #[.slice p 0 cap] w λe w'=>e=.returned (.tuple #[])/\w'=w:=Any.slices_Sort_int_none Tryz.lays189 p cap w
open Go.RowKit Go.Lib in
def Tryz.slices_BinarySearch_int_empty(a:Option Addr)(c:Nat)(x:Int)(w:World):
  Calls Tryz.prog 273 #[.slice a 0 c,.int .i64 x] w λe w'=>e=.returned (.tuple #[.int .i64 0,.bool false])/\w'=w:=Any.slices_BinarySearch_int_empty Tryz.laysNm225 a c x w
def Tryz.laysNm221_ren:Go.Shelf.Ren:=⟨λ|21=>274|27=>363|28=>364|35=>420|39=>456|n=>n,λ|22=>63|3=>3|4=>4|0=>0|n=>n,λ|n=>n⟩
def Tryz.laysNm221:Go.Proofs.Lays2.n21 Tryz.prog Tryz.laysNm221_ren:={
 mixed:=κ
 f21:=Tryz.func274.trans Fd
 f27:=Tryz.func363.trans Fd
 f28:=Tryz.func364.trans Fd
 f35:=Tryz.func420.trans Fd
 f39:=Tryz.func456.trans Fd
 t0:=Tryz.underlying0
 a0:=Tryz.isAgg0
 z0:=Tryz.sizeOf0
 v0:=Tryz.zeroValue0
 t3:=Tryz.underlying3
 a3:=Tryz.isAgg3
 z3:=Tryz.sizeOf3
 v3:=Tryz.zeroValue3
 t4:=Tryz.underlying4
 a4:=Tryz.isAgg4
 z4:=Tryz.sizeOf4
 v4:=Tryz.zeroValue4
 t22:=Tryz.underlying63
 a22:=Tryz.isAgg63
 z22:=Tryz.sizeOf63
 v22:=Tryz.zeroValue63
 i3:=by kernel_rfl}
def Tryz.laysNm725_ren:Go.Shelf.Ren:=⟨λ|25=>465|n=>n,λ|22=>96|n=>n,λ|n=>n⟩
def Tryz.laysNm725:Go.Proofs.Lays7.n25 Tryz.prog Tryz.laysNm725_ren:={
 mixed:=κ
 f25:=Tryz.func465.trans Fd
 t22:=Tryz.underlying96
 a22:=Tryz.isAgg96
 z22:=Tryz.sizeOf96
 v22:=Tryz.zeroValue96
 i22:=by kernel_rfl}
end Go.Proofs
