/- Ground of laws of thronglaw30: contracts and plain lemmas; no condition beyond the row's own. -/
import Derived.Shelf.Sort.Plain
import Derived.Shelf.Bits.Mul64
import Derived.Ground.Names2Prog
import Derived.Shelf.Slices.SearchI
import Derived.Shelf.Slices.Delete
import Derived.Shelf.Slices.In.SortNone
import Derived.Shelf.Slices.Empties
import Derived.Shelf.Spec.SlicesInsertGrow
import Derived.Shelf.Spec.BitsCarry
import Derived.Ground.Names7Prog
import Derived.Test.YtieceacpbjcddaaGreatProg
import Derived.Test.YtieceacpbjcddaaGreatKA
set_option linter.unusedSimpArgs false
set_option linter.unusedVariables false
set_option linter.defProp false
namespace Go.Proofs
open Go.Shelf
theorem Fd{α:Type}{a b:α}(h:a=b:=by kernel_rfl):some a=some b:=congrArg some h
def Tryz.lays189_ren:Go.Shelf.Ren:=⟨λ|189=>305|125=>366|257=>365|128=>399|129=>400|294=>391|295=>392|296=>393|297=>394|298=>395|299=>396|216=>300|300=>397|301=>398|328=>416|329=>417|330=>418|331=>419|332=>420|215=>225|343=>430|n=>n,λ|28=>29|3=>3|46=>90|0=>0|51=>252|53=>69|4=>4|183=>451|182=>450|131=>161|5=>5|9=>9|218=>467|222=>470|228=>475|229=>476|n=>n,λ|n=>n⟩
theorem Tryz.lays189:Go.Proofs.Lays.n189 Tryz.prog Tryz.lays189_ren:={
 mixed:=by kernel_rfl
 f125:=Tryz.func366.trans Fd
 f128:=Tryz.func399.trans Fd
 f129:=Tryz.func400.trans Fd
 f189:=Tryz.func305.trans Fd
 f215:=Tryz.func225.trans Fd
 f216:=Tryz.func300.trans Fd
 f257:=Tryz.func365.trans Fd
 f294:=Tryz.func391.trans Fd
 f295:=Tryz.func392.trans Fd
 f296:=Tryz.func393.trans Fd
 f297:=Tryz.func394.trans Fd
 f298:=Tryz.func395.trans Fd
 f299:=Tryz.func396.trans Fd
 f300:=Tryz.func397.trans Fd
 f301:=Tryz.func398.trans Fd
 f328:=Tryz.func416.trans Fd
 f329:=Tryz.func417.trans Fd
 f330:=Tryz.func418.trans Fd
 f331:=Tryz.func419.trans Fd
 f332:=Tryz.func420.trans Fd
 f343:=Tryz.func430.trans Fd
 t0:=Tryz.underlying0
 a0:=Tryz.isAgg0
 z0:=Tryz.sizeOf0
 v0:=Tryz.zeroValue0
 t3:=Tryz.underlying3
 a3:=Tryz.isAgg3
 z3:=Tryz.sizeOf3
 v3:=Tryz.zeroValue3
 t4:=Tryz.underlying4
 a4:=Tryz.isAgg4
 z4:=Tryz.sizeOf4
 v4:=Tryz.zeroValue4
 t5:=Tryz.underlying5
 a5:=Tryz.isAgg5
 z5:=Tryz.sizeOf5
 v5:=Tryz.zeroValue5
 t9:=Tryz.underlying9
 a9:=Tryz.isAgg9
 z9:=Tryz.sizeOf9
 v9:=Tryz.zeroValue9
 t28:=Tryz.underlying29
 a28:=Tryz.isAgg29
 z28:=Tryz.sizeOf29
 v28:=Tryz.zeroValue29
 t46:=Tryz.underlying90
 a46:=Tryz.isAgg90
 z46:=Tryz.sizeOf90
 v46:=Tryz.zeroValue90
 t51:=Tryz.underlying252
 a51:=Tryz.isAgg252
 z51:=Tryz.sizeOf252
 v51:=Tryz.zeroValue252
 t53:=Tryz.underlying69
 a53:=Tryz.isAgg69
 z53:=Tryz.sizeOf69
 v53:=Tryz.zeroValue69
 t131:=Tryz.underlying161
 a131:=Tryz.isAgg161
 z131:=Tryz.sizeOf161
 v131:=Tryz.zeroValue161
 t182:=Tryz.underlying450
 a182:=Tryz.isAgg450
 z182:=Tryz.sizeOf450
 v182:=Tryz.zeroValue450
 t183:=Tryz.underlying451
 a183:=Tryz.isAgg451
 z183:=Tryz.sizeOf451
 v183:=Tryz.zeroValue451
 t218:=Tryz.underlying467
 a218:=Tryz.isAgg467
 z218:=Tryz.sizeOf467
 v218:=Tryz.zeroValue467
 t222:=Tryz.underlying470
 a222:=Tryz.isAgg470
 z222:=Tryz.sizeOf470
 v222:=Tryz.zeroValue470
 t228:=Tryz.underlying475
 a228:=Tryz.isAgg475
 z228:=Tryz.sizeOf475
 v228:=Tryz.zeroValue475
 t229:=Tryz.underlying476
 a229:=Tryz.isAgg476
 z229:=Tryz.sizeOf476
 v229:=Tryz.zeroValue476}
open Go.Sort Go.RowKit in
theorem Tryz.slices_Sort_int(blk off cap:Nat)(zs:List Int)(w:World)(hH:Holds (Value.int .i64) w blk off zs.toArray)(hblk:blk<w.heap.size)(hsz:zs.length<4611686018427387904):
  Calls Tryz.prog 305 #[.slice (some ⟨blk,off,none⟩) zs.length cap] w λe w'=>
   e=.returned (.tuple #[])/\∃n os,w'=grow (putRow (Value.int .i64) (Sort.ahead w n) blk off (zs.mergeSort λx y=>decide (x<=y)).toArray) os:=Any.slices_Sort_int Tryz.lays189 blk off cap zs w hH hblk hsz
def Tryz.laysNm225_ren:Go.Shelf.Ren:=⟨λ|25=>223|31=>300|32=>301|37=>225|n=>n,λ|22=>29|3=>3|4=>4|40=>90|0=>0|n=>n,λ|n=>n⟩
theorem Tryz.laysNm225:Go.Proofs.Lays2.n25 Tryz.prog Tryz.laysNm225_ren:={
 mixed:=by kernel_rfl
 f25:=Tryz.func223.trans Fd
 f31:=Tryz.func300.trans Fd
 f32:=Tryz.func301.trans Fd
 f37:=Tryz.func225.trans Fd
 t0:=Tryz.underlying0
 a0:=Tryz.isAgg0
 z0:=Tryz.sizeOf0
 v0:=Tryz.zeroValue0
 t3:=Tryz.underlying3
 a3:=Tryz.isAgg3
 z3:=Tryz.sizeOf3
 v3:=Tryz.zeroValue3
 t4:=Tryz.underlying4
 a4:=Tryz.isAgg4
 z4:=Tryz.sizeOf4
 v4:=Tryz.zeroValue4
 t22:=Tryz.underlying29
 a22:=Tryz.isAgg29
 z22:=Tryz.sizeOf29
 v22:=Tryz.zeroValue29
 t40:=Tryz.underlying90
 a40:=Tryz.isAgg90
 z40:=Tryz.sizeOf90
 v40:=Tryz.zeroValue90}
open Go.RowKit Go.Lib in
theorem Tryz.slices_BinarySearch_int(b off n c:Nat)(zs:List Int)(x:Int)(w:World)(hz:n<=zs.length)(hbig:n<4611686018427387904)(hc:∀j,j<zs.length->w.cell? ⟨b,off+j,none⟩=some (.int .i64 (zs.getD j 0)))(hs:(zs.take n).Pairwise (·<=·)):
  Calls Tryz.prog 223 #[.slice (some ⟨b,off,none⟩) n c,.int .i64 x] w λe w'=>e=.returned (.tuple #[.int .i64 ((zs.take n).countP (·<x):Nat),.bool ((zs.take n).contains x)])/\∃q,w'=w.drewN q:=Any.slices_BinarySearch_int Tryz.laysNm225 b off n c zs x w hz hbig hc hs
def Tryz.laysNm223_ren:Go.Shelf.Ren:=⟨λ|23=>298|n=>n,λ|22=>29|3=>3|4=>4|0=>0|n=>n,λ|n=>n⟩
theorem Tryz.laysNm223:Go.Proofs.Lays2.n23 Tryz.prog Tryz.laysNm223_ren:={
 mixed:=by kernel_rfl
 f23:=Tryz.func298.trans Fd
 t0:=Tryz.underlying0
 a0:=Tryz.isAgg0
 z0:=Tryz.sizeOf0
 v0:=Tryz.zeroValue0
 t3:=Tryz.underlying3
 a3:=Tryz.isAgg3
 z3:=Tryz.sizeOf3
 v3:=Tryz.zeroValue3
 t4:=Tryz.underlying4
 a4:=Tryz.isAgg4
 z4:=Tryz.sizeOf4
 v4:=Tryz.zeroValue4
 t22:=Tryz.underlying29
 a22:=Tryz.isAgg29
 z22:=Tryz.sizeOf29
 v22:=Tryz.zeroValue29
 i3:=by kernel_rfl}
open Go.RowKit Go.Lib Go.Sort in
theorem Tryz.slices_Delete_int(blk off cap i j:Nat)(zs:List Int)(w:World)(hH:Holds (Value.int .i64) w blk off zs.toArray)(hcap:zs.length<=cap)(hm:cap<=9223372036854775807)(hij:i<=j)(hj:j<=zs.length):
  Calls Tryz.prog 298 #[.slice (some ⟨blk,off,none⟩) zs.length cap,.int .i64 i,.int .i64 j] w λe w'=>e=.returned (.slice (some ⟨blk,off,none⟩) (zs.length-(j-i)) cap)/\∃q,w'=putRow (Value.int .i64) (Sort.ahead w q) blk off (zs.take i++zs.drop j++List.replicate (j-i) 0).toArray:=Any.slices_Delete_int Tryz.laysNm223 blk off cap i j zs w hH hcap hm hij hj
open Go.RowKit Go.Sort in
theorem Tryz.slices_Sort_int_none(p:Option Addr)(cap:Nat)(w:World):
  Calls Tryz.prog 305 #[.slice p 0 cap] w λe w'=>e=.returned (.tuple #[])/\w'=w:=Any.slices_Sort_int_none Tryz.lays189 p cap w
open Go.RowKit Go.Lib in
theorem Tryz.slices_BinarySearch_int_empty(a:Option Addr)(c:Nat)(x:Int)(w:World):
  Calls Tryz.prog 223 #[.slice a 0 c,.int .i64 x] w λe w'=>e=.returned (.tuple #[.int .i64 0,.bool false])/\w'=w:=Any.slices_BinarySearch_int_empty Tryz.laysNm225 a c x w
def Tryz.laysNm221_ren:Go.Shelf.Ren:=⟨λ|21=>224|27=>302|28=>303|35=>364|39=>390|n=>n,λ|22=>29|3=>3|4=>4|0=>0|n=>n,λ|n=>n⟩
theorem Tryz.laysNm221:Go.Proofs.Lays2.n21 Tryz.prog Tryz.laysNm221_ren:={
 mixed:=by kernel_rfl
 f21:=Tryz.func224.trans Fd
 f27:=Tryz.func302.trans Fd
 f28:=Tryz.func303.trans Fd
 f35:=Tryz.func364.trans Fd
 f39:=Tryz.func390.trans Fd
 t0:=Tryz.underlying0
 a0:=Tryz.isAgg0
 z0:=Tryz.sizeOf0
 v0:=Tryz.zeroValue0
 t3:=Tryz.underlying3
 a3:=Tryz.isAgg3
 z3:=Tryz.sizeOf3
 v3:=Tryz.zeroValue3
 t4:=Tryz.underlying4
 a4:=Tryz.isAgg4
 z4:=Tryz.sizeOf4
 v4:=Tryz.zeroValue4
 t22:=Tryz.underlying29
 a22:=Tryz.isAgg29
 z22:=Tryz.sizeOf29
 v22:=Tryz.zeroValue29
 i3:=by kernel_rfl}
def Tryz.laysNm725_ren:Go.Shelf.Ren:=⟨λ|25=>401|n=>n,λ|22=>69|n=>n,λ|n=>n⟩
theorem Tryz.laysNm725:Go.Proofs.Lays7.n25 Tryz.prog Tryz.laysNm725_ren:={
 mixed:=by kernel_rfl
 f25:=Tryz.func401.trans Fd
 t22:=Tryz.underlying69
 a22:=Tryz.isAgg69
 z22:=Tryz.sizeOf69
 v22:=Tryz.zeroValue69
 i22:=by kernel_rfl}
end Go.Proofs
