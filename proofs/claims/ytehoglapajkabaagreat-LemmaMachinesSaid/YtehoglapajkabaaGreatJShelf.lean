/-
  The contracts of the library that are leaned on,laid at the numbers of this program.
-/
import Derived.Shelf.Small.Wraps
import Derived.Shelf.Sort.Plain
import Derived.Shelf.Strings.Prefix
import Derived.Shelf.Slices.In.SortNone
import Derived.Test.YtehoglapajkabaaGreatProg
import Derived.Shelf.SlSortCmp.WholeK
import Derived.Shelf.SlSortCmp.NoneTotal
set_option linter.all false
namespace Go.Proofs
open Go.Shelf
def Tryz.lays190_ren:Go.Shelf.Ren:=⟨fun|190=>62|125=>82|258=>81|128=>106|129=>107|302=>97|303=>98|304=>99|305=>100|306=>101|307=>102|308=>103|309=>104|310=>105|333=>121|329=>122|330=>123|334=>124|335=>125|336=>120|344=>132|n=>n,fun|31=>37|9=>9|3=>3|46=>146|0=>0|51=>178|53=>180|4=>4|183=>172|182=>171|131=>120|5=>5|218=>190|222=>194|228=>201|229=>202|n=>n,fun|n=>n⟩
theorem Tryz.lays190:Go.Proofs.Lays.n190 Tryz.prog Tryz.lays190_ren:={
  mixed:=by kernel_rfl
  f125:=Tryz.func82.trans (congrArg some (by kernel_rfl))
  f128:=Tryz.func106.trans (congrArg some (by kernel_rfl))
  f129:=Tryz.func107.trans (congrArg some (by kernel_rfl))
  f190:=Tryz.func62.trans (congrArg some (by kernel_rfl))
  f258:=Tryz.func81.trans (congrArg some (by kernel_rfl))
  f302:=Tryz.func97.trans (congrArg some (by kernel_rfl))
  f303:=Tryz.func98.trans (congrArg some (by kernel_rfl))
  f304:=Tryz.func99.trans (congrArg some (by kernel_rfl))
  f305:=Tryz.func100.trans (congrArg some (by kernel_rfl))
  f306:=Tryz.func101.trans (congrArg some (by kernel_rfl))
  f307:=Tryz.func102.trans (congrArg some (by kernel_rfl))
  f308:=Tryz.func103.trans (congrArg some (by kernel_rfl))
  f309:=Tryz.func104.trans (congrArg some (by kernel_rfl))
  f310:=Tryz.func105.trans (congrArg some (by kernel_rfl))
  f329:=Tryz.func122.trans (congrArg some (by kernel_rfl))
  f330:=Tryz.func123.trans (congrArg some (by kernel_rfl))
  f333:=Tryz.func121.trans (congrArg some (by kernel_rfl))
  f334:=Tryz.func124.trans (congrArg some (by kernel_rfl))
  f335:=Tryz.func125.trans (congrArg some (by kernel_rfl))
  f336:=Tryz.func120.trans (congrArg some (by kernel_rfl))
  f344:=Tryz.func132.trans (congrArg some (by kernel_rfl))
  t0:=Tryz.underlying0
  a0:=Tryz.isAgg0
  z0:=Tryz.sizeOf0
  v0:=Tryz.zeroValue0
  t3:=Tryz.underlying3
  a3:=Tryz.isAgg3
  z3:=Tryz.sizeOf3
  v3:=Tryz.zeroValue3
  t4:=Tryz.underlying4
  a4:=Tryz.isAgg4
  z4:=Tryz.sizeOf4
  v4:=Tryz.zeroValue4
  t5:=Tryz.underlying5
  a5:=Tryz.isAgg5
  z5:=Tryz.sizeOf5
  v5:=Tryz.zeroValue5
  t9:=Tryz.underlying9
  a9:=Tryz.isAgg9
  z9:=Tryz.sizeOf9
  v9:=Tryz.zeroValue9
  t31:=Tryz.underlying37
  a31:=Tryz.isAgg37
  z31:=Tryz.sizeOf37
  v31:=Tryz.zeroValue37
  t46:=Tryz.underlying146
  a46:=Tryz.isAgg146
  z46:=Tryz.sizeOf146
  v46:=Tryz.zeroValue146
  t51:=Tryz.underlying178
  a51:=Tryz.isAgg178
  z51:=Tryz.sizeOf178
  v51:=Tryz.zeroValue178
  t53:=Tryz.underlying180
  a53:=Tryz.isAgg180
  z53:=Tryz.sizeOf180
  v53:=Tryz.zeroValue180
  t131:=Tryz.underlying120
  a131:=Tryz.isAgg120
  z131:=Tryz.sizeOf120
  v131:=Tryz.zeroValue120
  t182:=Tryz.underlying171
  a182:=Tryz.isAgg171
  z182:=Tryz.sizeOf171
  v182:=Tryz.zeroValue171
  t183:=Tryz.underlying172
  a183:=Tryz.isAgg172
  z183:=Tryz.sizeOf172
  v183:=Tryz.zeroValue172
  t218:=Tryz.underlying190
  a218:=Tryz.isAgg190
  z218:=Tryz.sizeOf190
  v218:=Tryz.zeroValue190
  t222:=Tryz.underlying194
  a222:=Tryz.isAgg194
  z222:=Tryz.sizeOf194
  v222:=Tryz.zeroValue194
  t228:=Tryz.underlying201
  a228:=Tryz.isAgg201
  z228:=Tryz.sizeOf201
  v228:=Tryz.zeroValue201
  t229:=Tryz.underlying202
  a229:=Tryz.isAgg202
  z229:=Tryz.sizeOf202
  v229:=Tryz.zeroValue202 }
open Go.Sort Go.RowKit in
theorem Tryz.slices_Sort_string (blk off cap:Nat) (ss:List (List UInt8)) (w:World) (hH:Holds encStr w blk off ss.toArray) (hblk:blk<w.heap.size) (hsz:ss.length<4611686018427387904):
    Calls Tryz.prog 62 #[.slice (some ⟨blk,off,none⟩) ss.length cap] w fun e w'=>
      e=.returned (.tuple #[])∧∃n os,w'=grow (putRow encStr (Sort.ahead w n) blk off (ss.mergeSort fun x y=>decide (x≤y)).toArray) os:=Any.slices_Sort_string Tryz.lays190 blk off cap ss w hH hblk hsz
open Go.RowKit Go.Sort in
theorem Tryz.slices_Sort_string_none (p:Option Addr) (cap:Nat) (w:World):
    Calls Tryz.prog 62 #[.slice p 0 cap] w fun e w'=>e=.returned (.tuple #[])∧w'=w:=Any.slices_Sort_string_none Tryz.lays190 p cap w
def Tryz.laysSortF_ren:Go.Shelf.Ren:=⟨fun|6=>73|15=>82|14=>93|28=>106|29=>107|20=>112|21=>113|22=>114|23=>115|24=>116|25=>117|26=>118|27=>119|46=>129|47=>122|48=>123|49=>130|50=>131|57=>133|n=>n,fun|22=>23|24=>73|25=>142|3=>3|39=>146|0=>0|53=>178|55=>180|4=>4|46=>172|45=>171|50=>120|5=>5|9=>9|66=>190|70=>194|76=>201|77=>202|n=>n,fun|n=>n⟩
theorem Tryz.laysSortF:Go.Proofs.SlLaysF0.n6 Tryz.prog Tryz.laysSortF_ren:={
  mixed:=by kernel_rfl
  f6:=⟨Tryz.f73.name,by decide,Tryz.func73.trans (congrArg some (by kernel_rfl))⟩
  f14:=⟨Tryz.f93.name,by decide,Tryz.func93.trans (congrArg some (by kernel_rfl))⟩
  f15:=Tryz.func82.trans (congrArg some (by kernel_rfl))
  f20:=⟨Tryz.f112.name,by decide,Tryz.func112.trans (congrArg some (by kernel_rfl))⟩
  f21:=⟨Tryz.f113.name,by decide,Tryz.func113.trans (congrArg some (by kernel_rfl))⟩
  f22:=⟨Tryz.f114.name,by decide,Tryz.func114.trans (congrArg some (by kernel_rfl))⟩
  f23:=⟨Tryz.f115.name,by decide,Tryz.func115.trans (congrArg some (by kernel_rfl))⟩
  f24:=⟨Tryz.f116.name,by decide,Tryz.func116.trans (congrArg some (by kernel_rfl))⟩
  f25:=⟨Tryz.f117.name,by decide,Tryz.func117.trans (congrArg some (by kernel_rfl))⟩
  f26:=⟨Tryz.f118.name,by decide,Tryz.func118.trans (congrArg some (by kernel_rfl))⟩
  f27:=⟨Tryz.f119.name,by decide,Tryz.func119.trans (congrArg some (by kernel_rfl))⟩
  f28:=Tryz.func106.trans (congrArg some (by kernel_rfl))
  f29:=Tryz.func107.trans (congrArg some (by kernel_rfl))
  f46:=⟨Tryz.f129.name,by decide,Tryz.func129.trans (congrArg some (by kernel_rfl))⟩
  f47:=Tryz.func122.trans (congrArg some (by kernel_rfl))
  f48:=Tryz.func123.trans (congrArg some (by kernel_rfl))
  f49:=⟨Tryz.f130.name,by decide,Tryz.func130.trans (congrArg some (by kernel_rfl))⟩
  f50:=⟨Tryz.f131.name,by decide,Tryz.func131.trans (congrArg some (by kernel_rfl))⟩
  f57:=⟨Tryz.f133.name,by decide,Tryz.func133.trans (congrArg some (by kernel_rfl))⟩
  t0:=Tryz.underlying0
  a0:=Tryz.isAgg0
  z0:=Tryz.sizeOf0
  v0:=Tryz.zeroValue0
  t3:=Tryz.underlying3
  a3:=Tryz.isAgg3
  z3:=Tryz.sizeOf3
  v3:=Tryz.zeroValue3
  t4:=Tryz.underlying4
  a4:=Tryz.isAgg4
  z4:=Tryz.sizeOf4
  v4:=Tryz.zeroValue4
  t5:=Tryz.underlying5
  a5:=Tryz.isAgg5
  z5:=Tryz.sizeOf5
  v5:=Tryz.zeroValue5
  t9:=Tryz.underlying9
  a9:=Tryz.isAgg9
  z9:=Tryz.sizeOf9
  v9:=Tryz.zeroValue9
  t22:=Tryz.underlying23
  a22:=Tryz.isAgg23
  z22:=Tryz.sizeOf23
  v22:=Tryz.zeroValue23
  t25:=Tryz.underlying142
  a25:=Tryz.isAgg142
  z25:=Tryz.sizeOf142
  v25:=Tryz.zeroValue142
  t39:=Tryz.underlying146
  a39:=Tryz.isAgg146
  z39:=Tryz.sizeOf146
  v39:=Tryz.zeroValue146
  t45:=Tryz.underlying171
  a45:=Tryz.isAgg171
  z45:=Tryz.sizeOf171
  v45:=Tryz.zeroValue171
  t46:=Tryz.underlying172
  a46:=Tryz.isAgg172
  z46:=Tryz.sizeOf172
  v46:=Tryz.zeroValue172
  t50:=Tryz.underlying120
  a50:=Tryz.isAgg120
  z50:=Tryz.sizeOf120
  v50:=Tryz.zeroValue120
  t53:=Tryz.underlying178
  a53:=Tryz.isAgg178
  z53:=Tryz.sizeOf178
  v53:=Tryz.zeroValue178
  t55:=Tryz.underlying180
  a55:=Tryz.isAgg180
  z55:=Tryz.sizeOf180
  v55:=Tryz.zeroValue180
  t66:=Tryz.underlying190
  a66:=Tryz.isAgg190
  z66:=Tryz.sizeOf190
  v66:=Tryz.zeroValue190
  t70:=Tryz.underlying194
  a70:=Tryz.isAgg194
  z70:=Tryz.sizeOf194
  v70:=Tryz.zeroValue194
  t76:=Tryz.underlying201
  a76:=Tryz.isAgg201
  z76:=Tryz.sizeOf201
  v76:=Tryz.zeroValue201
  t77:=Tryz.underlying202
  a77:=Tryz.isAgg202
  z77:=Tryz.sizeOf202
  v77:=Tryz.zeroValue202 }
end Go.Proofs
