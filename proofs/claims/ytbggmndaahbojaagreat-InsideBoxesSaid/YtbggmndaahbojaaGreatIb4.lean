/- Part 4 of the proof of IB.row_holds: no condition beyond the row's. -/
import Derived.Test.YtbggmndaahbojaaGreatIb3
import Derived.Shelf.SlSortCmp.WholeK
import Derived.Shelf.SlicesQ.Reverse
import Derived.Test.YtbggmndaahbojaaGreatProg
set_option maxRecDepth 100000
set_option maxHeartbeats 40000000
namespace Go.Proofs
open Go.Shelf
theorem χ.{u} {α:Type u} {x:Option α} {a b:α} (h:x=some a) (e:a=b:=by kernel_rfl):x=some b:=h.trans (congrArg some e)
universe uu
theorem κ {α:Sort uu} {a b:α} (h:a=b:=by kernel_rfl):a=b:=h
theorem β {a b:Nat} (h:Nat.ble a b=true:=by kernel_rfl):a<=b:=Nat.le_of_ble_eq_true h
def Tryz.laysSort_ren:Go.Shelf.Ren:=⟨λ|6=>136|15=>173|14=>172|28=>199|29=>181|20=>191|21=>192|22=>193|23=>194|24=>195|25=>196|26=>197|27=>198|46=>206|47=>207|48=>208|49=>209|50=>210|57=>212|n=>n,λ|22=>181|24=>113|25=>185|3=>3|39=>221|0=>0|53=>244|55=>92|4=>4|46=>237|45=>236|50=>241|5=>5|9=>9|66=>251|70=>255|76=>259|77=>56|n=>n,λ|n=>n⟩
theorem Tryz.laysSort:Go.Proofs.SlLaysF0.n6 Tryz.prog Tryz.laysSort_ren:={
 mixed:=κ
 f6:=⟨Tryz.f136.name,by decide,χ Tryz.func136⟩
 f14:=⟨Tryz.f172.name,by decide,χ Tryz.func172⟩
 f15:=χ Tryz.func173
 f20:=⟨Tryz.f191.name,by decide,χ Tryz.func191⟩
 f21:=⟨Tryz.f192.name,by decide,χ Tryz.func192⟩
 f22:=⟨Tryz.f193.name,by decide,χ Tryz.func193⟩
 f23:=⟨Tryz.f194.name,by decide,χ Tryz.func194⟩
 f24:=⟨Tryz.f195.name,by decide,χ Tryz.func195⟩
 f25:=⟨Tryz.f196.name,by decide,χ Tryz.func196⟩
 f26:=⟨Tryz.f197.name,by decide,χ Tryz.func197⟩
 f27:=⟨Tryz.f198.name,by decide,χ Tryz.func198⟩
 f28:=χ Tryz.func199
 f29:=χ Tryz.func181
 f46:=⟨Tryz.f206.name,by decide,χ Tryz.func206⟩
 f47:=χ Tryz.func207
 f48:=χ Tryz.func208
 f49:=⟨Tryz.f209.name,by decide,χ Tryz.func209⟩
 f50:=⟨Tryz.f210.name,by decide,χ Tryz.func210⟩
 f57:=⟨Tryz.f212.name,by decide,χ Tryz.func212⟩
 t0:=Tryz.underlying0
 a0:=Tryz.isAgg0
 z0:=Tryz.sizeOf0
 v0:=Tryz.zeroValue0
 t3:=Tryz.underlying3
 a3:=Tryz.isAgg3
 z3:=Tryz.sizeOf3
 v3:=Tryz.zeroValue3
 t4:=Tryz.underlying4
 a4:=Tryz.isAgg4
 z4:=Tryz.sizeOf4
 v4:=Tryz.zeroValue4
 t5:=Tryz.underlying5
 a5:=Tryz.isAgg5
 z5:=Tryz.sizeOf5
 v5:=Tryz.zeroValue5
 t9:=Tryz.underlying9
 a9:=Tryz.isAgg9
 z9:=Tryz.sizeOf9
 v9:=Tryz.zeroValue9
 t22:=Tryz.underlying181
 a22:=Tryz.isAgg181
 z22:=Tryz.sizeOf181
 v22:=Tryz.zeroValue181
 t25:=Tryz.underlying185
 a25:=Tryz.isAgg185
 z25:=Tryz.sizeOf185
 v25:=Tryz.zeroValue185
 t39:=Tryz.underlying221
 a39:=Tryz.isAgg221
 z39:=Tryz.sizeOf221
 v39:=Tryz.zeroValue221
 t45:=Tryz.underlying236
 a45:=Tryz.isAgg236
 z45:=Tryz.sizeOf236
 v45:=Tryz.zeroValue236
 t46:=Tryz.underlying237
 a46:=Tryz.isAgg237
 z46:=Tryz.sizeOf237
 v46:=Tryz.zeroValue237
 t50:=Tryz.underlying241
 a50:=Tryz.isAgg241
 z50:=Tryz.sizeOf241
 v50:=Tryz.zeroValue241
 t53:=Tryz.underlying244
 a53:=Tryz.isAgg244
 z53:=Tryz.sizeOf244
 v53:=Tryz.zeroValue244
 t55:=Tryz.underlying92
 a55:=Tryz.isAgg92
 z55:=Tryz.sizeOf92
 v55:=Tryz.zeroValue92
 t66:=Tryz.underlying251
 a66:=Tryz.isAgg251
 z66:=Tryz.sizeOf251
 v66:=Tryz.zeroValue251
 t70:=Tryz.underlying255
 a70:=Tryz.isAgg255
 z70:=Tryz.sizeOf255
 v70:=Tryz.zeroValue255
 t76:=Tryz.underlying259
 a76:=Tryz.isAgg259
 z76:=Tryz.sizeOf259
 v76:=Tryz.zeroValue259
 t77:=Tryz.underlying56
 a77:=Tryz.isAgg56
 z77:=Tryz.sizeOf56
 v77:=Tryz.zeroValue56 }
def Tryz.laysRev_ren:Go.Shelf.Ren:=⟨λ|35=>167|n=>n,λ|22=>61|23=>30|3=>3|4=>4|0=>0|n=>n,λ|n=>n⟩
theorem Tryz.laysRev:Go.Proofs.SlLaysE0.n35 Tryz.prog Tryz.laysRev_ren:={
 mixed:=κ
 f35:=⟨Tryz.f167.name,by decide,χ Tryz.func167⟩
 t0:=Tryz.underlying0
 a0:=Tryz.isAgg0
 z0:=Tryz.sizeOf0
 v0:=Tryz.zeroValue0
 t3:=Tryz.underlying3
 a3:=Tryz.isAgg3
 z3:=Tryz.sizeOf3
 v3:=Tryz.zeroValue3
 t4:=Tryz.underlying4
 a4:=Tryz.isAgg4
 z4:=Tryz.sizeOf4
 v4:=Tryz.zeroValue4
 t22:=Tryz.underlying61
 a22:=Tryz.isAgg61
 z22:=Tryz.sizeOf61
 v22:=Tryz.zeroValue61 }
end Go.Proofs