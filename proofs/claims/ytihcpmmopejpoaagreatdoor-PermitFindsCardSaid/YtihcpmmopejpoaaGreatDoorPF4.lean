/- Part 4 of the proof of PF.card_holds: no condition beyond the row's. -/
import Derived.Test.YtihcpmmopejpoaaGreatDoorPF3
import Derived.Shelf.SlSortCmp.WholeK
import Derived.Shelf.SlicesQ.Reverse
import Derived.Test.YtihcpmmopejpoaaGreatDoorProg
set_option maxRecDepth 100000
set_option maxHeartbeats 40000000
namespace Go.Proofs
open Go.Shelf
theorem χ.{u} {α:Type u} {x:Option α} {a b:α} (h:x=some a) (e:a=b:=by kernel_rfl):x=some b:=h.trans (congrArg some e)
universe uu
theorem κ {α:Sort uu} {a b:α} (h:a=b:=by kernel_rfl):a=b:=h
theorem β {a b:Nat} (h:Nat.ble a b=true:=by kernel_rfl):a<=b:=Nat.le_of_ble_eq_true h
def Tryz.laysSort_ren:Go.Shelf.Ren:=⟨λ|6=>143|15=>199|14=>198|28=>232|29=>158|20=>224|21=>225|22=>226|23=>227|24=>228|25=>229|26=>230|27=>231|46=>242|47=>243|48=>244|49=>245|50=>246|57=>248|n=>n,λ|22=>231|24=>221|25=>235|3=>3|39=>125|0=>0|53=>155|55=>158|4=>4|46=>312|45=>311|50=>316|5=>5|9=>9|66=>326|70=>330|76=>332|77=>178|n=>n,λ|n=>n⟩
theorem Tryz.laysSort:Go.Proofs.SlLaysF0.n6 Tryz.prog Tryz.laysSort_ren:={
 mixed:=κ
 f6:=⟨Tryz.f143.name,by decide,χ Tryz.func143⟩
 f14:=⟨Tryz.f198.name,by decide,χ Tryz.func198⟩
 f15:=χ Tryz.func199
 f20:=⟨Tryz.f224.name,by decide,χ Tryz.func224⟩
 f21:=⟨Tryz.f225.name,by decide,χ Tryz.func225⟩
 f22:=⟨Tryz.f226.name,by decide,χ Tryz.func226⟩
 f23:=⟨Tryz.f227.name,by decide,χ Tryz.func227⟩
 f24:=⟨Tryz.f228.name,by decide,χ Tryz.func228⟩
 f25:=⟨Tryz.f229.name,by decide,χ Tryz.func229⟩
 f26:=⟨Tryz.f230.name,by decide,χ Tryz.func230⟩
 f27:=⟨Tryz.f231.name,by decide,χ Tryz.func231⟩
 f28:=χ Tryz.func232
 f29:=χ Tryz.func158
 f46:=⟨Tryz.f242.name,by decide,χ Tryz.func242⟩
 f47:=χ Tryz.func243
 f48:=χ Tryz.func244
 f49:=⟨Tryz.f245.name,by decide,χ Tryz.func245⟩
 f50:=⟨Tryz.f246.name,by decide,χ Tryz.func246⟩
 f57:=⟨Tryz.f248.name,by decide,χ Tryz.func248⟩
 t0:=Tryz.underlying0
 a0:=Tryz.isAgg0
 z0:=Tryz.sizeOf0
 v0:=Tryz.zeroValue0
 t3:=Tryz.underlying3
 a3:=Tryz.isAgg3
 z3:=Tryz.sizeOf3
 v3:=Tryz.zeroValue3
 t4:=Tryz.underlying4
 a4:=Tryz.isAgg4
 z4:=Tryz.sizeOf4
 v4:=Tryz.zeroValue4
 t5:=Tryz.underlying5
 a5:=Tryz.isAgg5
 z5:=Tryz.sizeOf5
 v5:=Tryz.zeroValue5
 t9:=Tryz.underlying9
 a9:=Tryz.isAgg9
 z9:=Tryz.sizeOf9
 v9:=Tryz.zeroValue9
 t22:=Tryz.underlying231
 a22:=Tryz.isAgg231
 z22:=Tryz.sizeOf231
 v22:=Tryz.zeroValue231
 t25:=Tryz.underlying235
 a25:=Tryz.isAgg235
 z25:=Tryz.sizeOf235
 v25:=Tryz.zeroValue235
 t39:=Tryz.underlying125
 a39:=Tryz.isAgg125
 z39:=Tryz.sizeOf125
 v39:=Tryz.zeroValue125
 t45:=Tryz.underlying311
 a45:=Tryz.isAgg311
 z45:=Tryz.sizeOf311
 v45:=Tryz.zeroValue311
 t46:=Tryz.underlying312
 a46:=Tryz.isAgg312
 z46:=Tryz.sizeOf312
 v46:=Tryz.zeroValue312
 t50:=Tryz.underlying316
 a50:=Tryz.isAgg316
 z50:=Tryz.sizeOf316
 v50:=Tryz.zeroValue316
 t53:=Tryz.underlying155
 a53:=Tryz.isAgg155
 z53:=Tryz.sizeOf155
 v53:=Tryz.zeroValue155
 t55:=Tryz.underlying158
 a55:=Tryz.isAgg158
 z55:=Tryz.sizeOf158
 v55:=Tryz.zeroValue158
 t66:=Tryz.underlying326
 a66:=Tryz.isAgg326
 z66:=Tryz.sizeOf326
 v66:=Tryz.zeroValue326
 t70:=Tryz.underlying330
 a70:=Tryz.isAgg330
 z70:=Tryz.sizeOf330
 v70:=Tryz.zeroValue330
 t76:=Tryz.underlying332
 a76:=Tryz.isAgg332
 z76:=Tryz.sizeOf332
 v76:=Tryz.zeroValue332
 t77:=Tryz.underlying178
 a77:=Tryz.isAgg178
 z77:=Tryz.sizeOf178
 v77:=Tryz.zeroValue178 }
def Tryz.laysRev_ren:Go.Shelf.Ren:=⟨λ|35=>193|n=>n,λ|22=>22|23=>79|3=>3|4=>4|0=>0|n=>n,λ|n=>n⟩
theorem Tryz.laysRev:Go.Proofs.SlLaysE0.n35 Tryz.prog Tryz.laysRev_ren:={
 mixed:=κ
 f35:=⟨Tryz.f193.name,by decide,χ Tryz.func193⟩
 t0:=Tryz.underlying0
 a0:=Tryz.isAgg0
 z0:=Tryz.sizeOf0
 v0:=Tryz.zeroValue0
 t3:=Tryz.underlying3
 a3:=Tryz.isAgg3
 z3:=Tryz.sizeOf3
 v3:=Tryz.zeroValue3
 t4:=Tryz.underlying4
 a4:=Tryz.isAgg4
 z4:=Tryz.sizeOf4
 v4:=Tryz.zeroValue4
 t22:=Tryz.underlying22
 a22:=Tryz.isAgg22
 z22:=Tryz.sizeOf22
 v22:=Tryz.zeroValue22 }
end Go.Proofs