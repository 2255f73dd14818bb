/- A part of the proof. -/
import Derived.Shelf.Sort.Plain
import Derived.Test.YtfialjmemcobjaaGreatDoorProg
set_option maxRecDepth 100000
set_option maxHeartbeats 16000000
set_option linter.unusedVariables false
set_option linter.unusedSimpArgs false
namespace Go.Proofs
open Go.Shelf
def Tryz.lays189_ren:Go.Shelf.Ren:=⟨fun|125=>167|128=>237|129=>238|189=>87|215=>195|216=>234|257=>166|294=>228|295=>229|296=>230|297=>231|298=>232|299=>233|300=>235|301=>236|328=>277|329=>278|330=>279|331=>280|332=>281|343=>307|n=>n,fun|0=>0|1=>1|2=>2|3=>3|4=>4|5=>5|6=>6|7=>7|8=>8|9=>9|10=>10|11=>11|12=>12|13=>13|14=>14|15=>15|16=>16|17=>17|18=>18|19=>19|20=>20|21=>21|22=>307|26=>236|28=>39|29=>257|30=>329|31=>190|35=>142|37=>127|43=>202|46=>182|47=>264|49=>459|51=>180|52=>338|53=>98|54=>339|69=>100|70=>126|71=>128|72=>129|73=>276|74=>33|75=>34|76=>131|77=>132|80=>133|81=>38|83=>158|87=>139|109=>305|110=>306|111=>177|112=>175|114=>173|127=>239|131=>336|134=>263|146=>366|147=>367|148=>368|149=>369|164=>240|165=>308|166=>396|181=>330|182=>331|183=>332|184=>333|185=>334|186=>335|187=>337|218=>377|219=>378|220=>379|221=>380|222=>293|223=>381|228=>405|229=>234|230=>406|238=>441|239=>442|240=>443|241=>444|242=>445|243=>447|244=>248|245=>448|246=>449|247=>450|248=>451|249=>452|n=>n,fun|n=>n⟩
theorem Tryz.lays189:Go.Proofs.Lays.n189 Tryz.prog Tryz.lays189_ren:={
 mixed:=by kernel_rfl
 f125:=Tryz.func167.trans (congrArg some (by kernel_rfl))
 f128:=Tryz.func237.trans (congrArg some (by kernel_rfl))
 f129:=Tryz.func238.trans (congrArg some (by kernel_rfl))
 f189:=Tryz.func87.trans (congrArg some (by kernel_rfl))
 f215:=Tryz.func195.trans (congrArg some (by kernel_rfl))
 f216:=Tryz.func234.trans (congrArg some (by kernel_rfl))
 f257:=Tryz.func166.trans (congrArg some (by kernel_rfl))
 f294:=Tryz.func228.trans (congrArg some (by kernel_rfl))
 f295:=Tryz.func229.trans (congrArg some (by kernel_rfl))
 f296:=Tryz.func230.trans (congrArg some (by kernel_rfl))
 f297:=Tryz.func231.trans (congrArg some (by kernel_rfl))
 f298:=Tryz.func232.trans (congrArg some (by kernel_rfl))
 f299:=Tryz.func233.trans (congrArg some (by kernel_rfl))
 f300:=Tryz.func235.trans (congrArg some (by kernel_rfl))
 f301:=Tryz.func236.trans (congrArg some (by kernel_rfl))
 f328:=Tryz.func277.trans (congrArg some (by kernel_rfl))
 f329:=Tryz.func278.trans (congrArg some (by kernel_rfl))
 f330:=Tryz.func279.trans (congrArg some (by kernel_rfl))
 f331:=Tryz.func280.trans (congrArg some (by kernel_rfl))
 f332:=Tryz.func281.trans (congrArg some (by kernel_rfl))
 f343:=Tryz.func307.trans (congrArg some (by kernel_rfl))
 t0:=Tryz.underlying0
 a0:=Tryz.isAgg0
 z0:=Tryz.sizeOf0
 v0:=Tryz.zeroValue0
 t3:=Tryz.underlying3
 a3:=Tryz.isAgg3
 z3:=Tryz.sizeOf3
 v3:=Tryz.zeroValue3
 t4:=Tryz.underlying4
 a4:=Tryz.isAgg4
 z4:=Tryz.sizeOf4
 v4:=Tryz.zeroValue4
 t5:=Tryz.underlying5
 a5:=Tryz.isAgg5
 z5:=Tryz.sizeOf5
 v5:=Tryz.zeroValue5
 t9:=Tryz.underlying9
 a9:=Tryz.isAgg9
 z9:=Tryz.sizeOf9
 v9:=Tryz.zeroValue9
 t28:=Tryz.underlying39
 a28:=Tryz.isAgg39
 z28:=Tryz.sizeOf39
 v28:=Tryz.zeroValue39
 t46:=Tryz.underlying182
 a46:=Tryz.isAgg182
 z46:=Tryz.sizeOf182
 v46:=Tryz.zeroValue182
 t51:=Tryz.underlying180
 a51:=Tryz.isAgg180
 z51:=Tryz.sizeOf180
 v51:=Tryz.zeroValue180
 t53:=Tryz.underlying98
 a53:=Tryz.isAgg98
 z53:=Tryz.sizeOf98
 v53:=Tryz.zeroValue98
 t131:=Tryz.underlying336
 a131:=Tryz.isAgg336
 z131:=Tryz.sizeOf336
 v131:=Tryz.zeroValue336
 t182:=Tryz.underlying331
 a182:=Tryz.isAgg331
 z182:=Tryz.sizeOf331
 v182:=Tryz.zeroValue331
 t183:=Tryz.underlying332
 a183:=Tryz.isAgg332
 z183:=Tryz.sizeOf332
 v183:=Tryz.zeroValue332
 t218:=Tryz.underlying377
 a218:=Tryz.isAgg377
 z218:=Tryz.sizeOf377
 v218:=Tryz.zeroValue377
 t222:=Tryz.underlying293
 a222:=Tryz.isAgg293
 z222:=Tryz.sizeOf293
 v222:=Tryz.zeroValue293
 t228:=Tryz.underlying405
 a228:=Tryz.isAgg405
 z228:=Tryz.sizeOf405
 v228:=Tryz.zeroValue405
 t229:=Tryz.underlying234
 a229:=Tryz.isAgg234
 z229:=Tryz.sizeOf234
 v229:=Tryz.zeroValue234}
open Go.Sort Go.RowKit in
theorem Tryz.slices_Sort_int (blk off cap:Nat) (zs:List Int) (w:World) (hH:Holds (Value.int .i64) w blk off zs.toArray) (hblk:blk<w.heap.size) (hsz:zs.length<4611686018427387904):
  Calls Tryz.prog 87 #[.slice (some ⟨blk,off,none⟩) zs.length cap] w λe w'=>
   e= .returned (.tuple #[])/\∃n os,w'=grow (putRow (Value.int .i64) (Sort.ahead w n) blk off (zs.mergeSort λx y=>decide (x<=y)).toArray) os:=Any.slices_Sort_int Tryz.lays189 blk off cap zs w hH hblk hsz
end Go.Proofs
