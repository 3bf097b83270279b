/-
  The contracts of the library that are leaned on,laid at the numbers of this program.
-/
import Derived.Shelf.Small.Wraps
import Derived.Shelf.Sort.Plain
import Derived.Shelf.Strings.Prefix
import Derived.Shelf.Slices.In.SortNone
import Derived.Test.YtehoglapajkabaaProg
import Derived.Shelf.SlSortCmp.WholeK
import Derived.Shelf.SlSortCmp.NoneTotal
set_option linter.all false
namespace Go.Proofs
open Go.Shelf
def Try.lays190_ren:Go.Shelf.Ren:=⟨fun|190=>42|125=>60|258=>59|128=>78|129=>79|302=>69|303=>70|304=>71|305=>72|306=>73|307=>74|308=>75|309=>76|310=>77|333=>91|329=>92|330=>93|334=>94|335=>95|336=>90|344=>100|n=>n,fun|31=>35|9=>9|3=>3|46=>124|0=>0|51=>144|53=>146|4=>4|183=>138|182=>137|131=>101|5=>5|218=>153|222=>157|228=>161|229=>162|n=>n,fun|n=>n⟩
theorem Try.lays190:Go.Proofs.Lays.n190 Try.prog Try.lays190_ren:={
  mixed:=by kernel_rfl
  f125:=Try.func60.trans (congrArg some (by kernel_rfl))
  f128:=Try.func78.trans (congrArg some (by kernel_rfl))
  f129:=Try.func79.trans (congrArg some (by kernel_rfl))
  f190:=Try.func42.trans (congrArg some (by kernel_rfl))
  f258:=Try.func59.trans (congrArg some (by kernel_rfl))
  f302:=Try.func69.trans (congrArg some (by kernel_rfl))
  f303:=Try.func70.trans (congrArg some (by kernel_rfl))
  f304:=Try.func71.trans (congrArg some (by kernel_rfl))
  f305:=Try.func72.trans (congrArg some (by kernel_rfl))
  f306:=Try.func73.trans (congrArg some (by kernel_rfl))
  f307:=Try.func74.trans (congrArg some (by kernel_rfl))
  f308:=Try.func75.trans (congrArg some (by kernel_rfl))
  f309:=Try.func76.trans (congrArg some (by kernel_rfl))
  f310:=Try.func77.trans (congrArg some (by kernel_rfl))
  f329:=Try.func92.trans (congrArg some (by kernel_rfl))
  f330:=Try.func93.trans (congrArg some (by kernel_rfl))
  f333:=Try.func91.trans (congrArg some (by kernel_rfl))
  f334:=Try.func94.trans (congrArg some (by kernel_rfl))
  f335:=Try.func95.trans (congrArg some (by kernel_rfl))
  f336:=Try.func90.trans (congrArg some (by kernel_rfl))
  f344:=Try.func100.trans (congrArg some (by kernel_rfl))
  t0:=Try.underlying0
  a0:=Try.isAgg0
  z0:=Try.sizeOf0
  v0:=Try.zeroValue0
  t3:=Try.underlying3
  a3:=Try.isAgg3
  z3:=Try.sizeOf3
  v3:=Try.zeroValue3
  t4:=Try.underlying4
  a4:=Try.isAgg4
  z4:=Try.sizeOf4
  v4:=Try.zeroValue4
  t5:=Try.underlying5
  a5:=Try.isAgg5
  z5:=Try.sizeOf5
  v5:=Try.zeroValue5
  t9:=Try.underlying9
  a9:=Try.isAgg9
  z9:=Try.sizeOf9
  v9:=Try.zeroValue9
  t31:=Try.underlying35
  a31:=Try.isAgg35
  z31:=Try.sizeOf35
  v31:=Try.zeroValue35
  t46:=Try.underlying124
  a46:=Try.isAgg124
  z46:=Try.sizeOf124
  v46:=Try.zeroValue124
  t51:=Try.underlying144
  a51:=Try.isAgg144
  z51:=Try.sizeOf144
  v51:=Try.zeroValue144
  t53:=Try.underlying146
  a53:=Try.isAgg146
  z53:=Try.sizeOf146
  v53:=Try.zeroValue146
  t131:=Try.underlying101
  a131:=Try.isAgg101
  z131:=Try.sizeOf101
  v131:=Try.zeroValue101
  t182:=Try.underlying137
  a182:=Try.isAgg137
  z182:=Try.sizeOf137
  v182:=Try.zeroValue137
  t183:=Try.underlying138
  a183:=Try.isAgg138
  z183:=Try.sizeOf138
  v183:=Try.zeroValue138
  t218:=Try.underlying153
  a218:=Try.isAgg153
  z218:=Try.sizeOf153
  v218:=Try.zeroValue153
  t222:=Try.underlying157
  a222:=Try.isAgg157
  z222:=Try.sizeOf157
  v222:=Try.zeroValue157
  t228:=Try.underlying161
  a228:=Try.isAgg161
  z228:=Try.sizeOf161
  v228:=Try.zeroValue161
  t229:=Try.underlying162
  a229:=Try.isAgg162
  z229:=Try.sizeOf162
  v229:=Try.zeroValue162 }
open Go.Sort Go.RowKit in
theorem Try.slices_Sort_string (blk off cap:Nat) (ss:List (List UInt8)) (w:World) (hH:Holds encStr w blk off ss.toArray) (hblk:blk<w.heap.size) (hsz:ss.length<4611686018427387904):
    Calls Try.prog 42 #[.slice (some ⟨blk,off,none⟩) ss.length cap] w fun e w'=>
      e=.returned (.tuple #[])∧∃n os,w'=grow (putRow encStr (Sort.ahead w n) blk off (ss.mergeSort fun x y=>decide (x≤y)).toArray) os:=Any.slices_Sort_string Try.lays190 blk off cap ss w hH hblk hsz
open Go.RowKit Go.Sort in
theorem Try.slices_Sort_string_none (p:Option Addr) (cap:Nat) (w:World):
    Calls Try.prog 42 #[.slice p 0 cap] w fun e w'=>e=.returned (.tuple #[])∧w'=w:=Any.slices_Sort_string_none Try.lays190 p cap w
def Try.laysSortF_ren:Go.Shelf.Ren:=⟨fun|6=>50|15=>60|14=>65|28=>78|29=>79|20=>82|21=>83|22=>84|23=>85|24=>86|25=>87|26=>88|27=>89|46=>97|47=>92|48=>93|49=>98|50=>99|57=>101|n=>n,fun|22=>23|24=>40|25=>121|3=>3|39=>124|0=>0|53=>144|55=>146|4=>4|46=>138|45=>137|50=>101|5=>5|9=>9|66=>153|70=>157|76=>161|77=>162|n=>n,fun|n=>n⟩
theorem Try.laysSortF:Go.Proofs.SlLaysF0.n6 Try.prog Try.laysSortF_ren:={
  mixed:=by kernel_rfl
  f6:=⟨Try.f50.name,by decide,Try.func50.trans (congrArg some (by kernel_rfl))⟩
  f14:=⟨Try.f65.name,by decide,Try.func65.trans (congrArg some (by kernel_rfl))⟩
  f15:=Try.func60.trans (congrArg some (by kernel_rfl))
  f20:=⟨Try.f82.name,by decide,Try.func82.trans (congrArg some (by kernel_rfl))⟩
  f21:=⟨Try.f83.name,by decide,Try.func83.trans (congrArg some (by kernel_rfl))⟩
  f22:=⟨Try.f84.name,by decide,Try.func84.trans (congrArg some (by kernel_rfl))⟩
  f23:=⟨Try.f85.name,by decide,Try.func85.trans (congrArg some (by kernel_rfl))⟩
  f24:=⟨Try.f86.name,by decide,Try.func86.trans (congrArg some (by kernel_rfl))⟩
  f25:=⟨Try.f87.name,by decide,Try.func87.trans (congrArg some (by kernel_rfl))⟩
  f26:=⟨Try.f88.name,by decide,Try.func88.trans (congrArg some (by kernel_rfl))⟩
  f27:=⟨Try.f89.name,by decide,Try.func89.trans (congrArg some (by kernel_rfl))⟩
  f28:=Try.func78.trans (congrArg some (by kernel_rfl))
  f29:=Try.func79.trans (congrArg some (by kernel_rfl))
  f46:=⟨Try.f97.name,by decide,Try.func97.trans (congrArg some (by kernel_rfl))⟩
  f47:=Try.func92.trans (congrArg some (by kernel_rfl))
  f48:=Try.func93.trans (congrArg some (by kernel_rfl))
  f49:=⟨Try.f98.name,by decide,Try.func98.trans (congrArg some (by kernel_rfl))⟩
  f50:=⟨Try.f99.name,by decide,Try.func99.trans (congrArg some (by kernel_rfl))⟩
  f57:=⟨Try.f101.name,by decide,Try.func101.trans (congrArg some (by kernel_rfl))⟩
  t0:=Try.underlying0
  a0:=Try.isAgg0
  z0:=Try.sizeOf0
  v0:=Try.zeroValue0
  t3:=Try.underlying3
  a3:=Try.isAgg3
  z3:=Try.sizeOf3
  v3:=Try.zeroValue3
  t4:=Try.underlying4
  a4:=Try.isAgg4
  z4:=Try.sizeOf4
  v4:=Try.zeroValue4
  t5:=Try.underlying5
  a5:=Try.isAgg5
  z5:=Try.sizeOf5
  v5:=Try.zeroValue5
  t9:=Try.underlying9
  a9:=Try.isAgg9
  z9:=Try.sizeOf9
  v9:=Try.zeroValue9
  t22:=Try.underlying23
  a22:=Try.isAgg23
  z22:=Try.sizeOf23
  v22:=Try.zeroValue23
  t25:=Try.underlying121
  a25:=Try.isAgg121
  z25:=Try.sizeOf121
  v25:=Try.zeroValue121
  t39:=Try.underlying124
  a39:=Try.isAgg124
  z39:=Try.sizeOf124
  v39:=Try.zeroValue124
  t45:=Try.underlying137
  a45:=Try.isAgg137
  z45:=Try.sizeOf137
  v45:=Try.zeroValue137
  t46:=Try.underlying138
  a46:=Try.isAgg138
  z46:=Try.sizeOf138
  v46:=Try.zeroValue138
  t50:=Try.underlying101
  a50:=Try.isAgg101
  z50:=Try.sizeOf101
  v50:=Try.zeroValue101
  t53:=Try.underlying144
  a53:=Try.isAgg144
  z53:=Try.sizeOf144
  v53:=Try.zeroValue144
  t55:=Try.underlying146
  a55:=Try.isAgg146
  z55:=Try.sizeOf146
  v55:=Try.zeroValue146
  t66:=Try.underlying153
  a66:=Try.isAgg153
  z66:=Try.sizeOf153
  v66:=Try.zeroValue153
  t70:=Try.underlying157
  a70:=Try.isAgg157
  z70:=Try.sizeOf157
  v70:=Try.zeroValue157
  t76:=Try.underlying161
  a76:=Try.isAgg161
  z76:=Try.sizeOf161
  v76:=Try.zeroValue161
  t77:=Try.underlying162
  a77:=Try.isAgg162
  z77:=Try.sizeOf162
  v77:=Try.zeroValue162 }
end Go.Proofs
