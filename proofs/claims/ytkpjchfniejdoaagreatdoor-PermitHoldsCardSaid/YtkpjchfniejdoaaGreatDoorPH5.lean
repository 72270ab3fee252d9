/- Part 5 of the proof of PH.card_holds: no condition beyond the row's. -/
import Derived.Test.YtkpjchfniejdoaaGreatDoorPH4
import Derived.Shelf.SlSortCmp.WholeK
import Derived.Shelf.SlicesQ.Reverse
import Derived.Test.YtkpjchfniejdoaaGreatDoorProg
set_option maxRecDepth 100000
set_option maxHeartbeats 40000000
namespace Go.Proofs
open Go.Shelf
theorem χ.{u} {α:Type u} {x:Option α} {a b:α} (h:x=some a) (e:a=b:=by kernel_rfl):x=some b:=h.trans (congrArg some e)
universe uu
theorem κ {α:Sort uu} {a b:α} (h:a=b:=by kernel_rfl):a=b:=h
theorem β {a b:Nat} (h:Nat.ble a b=true:=by kernel_rfl):a<=b:=Nat.le_of_ble_eq_true h
def Tryz.laysSort_ren:Go.Shelf.Ren:=⟨λ|6=>168|15=>221|14=>220|28=>252|29=>134|20=>244|21=>245|22=>246|23=>247|24=>248|25=>249|26=>250|27=>251|46=>262|47=>263|48=>264|49=>265|50=>266|57=>268|n=>n,λ|22=>256|24=>246|25=>260|3=>3|39=>109|0=>0|53=>148|55=>151|4=>4|46=>335|45=>334|50=>339|5=>5|9=>9|66=>347|70=>351|76=>353|77=>206|n=>n,λ|n=>n⟩
theorem Tryz.laysSort:Go.Proofs.SlLaysF0.n6 Tryz.prog Tryz.laysSort_ren:={
 mixed:=κ
 f6:=⟨Tryz.f168.name,by decide,χ Tryz.func168⟩
 f14:=⟨Tryz.f220.name,by decide,χ Tryz.func220⟩
 f15:=χ Tryz.func221
 f20:=⟨Tryz.f244.name,by decide,χ Tryz.func244⟩
 f21:=⟨Tryz.f245.name,by decide,χ Tryz.func245⟩
 f22:=⟨Tryz.f246.name,by decide,χ Tryz.func246⟩
 f23:=⟨Tryz.f247.name,by decide,χ Tryz.func247⟩
 f24:=⟨Tryz.f248.name,by decide,χ Tryz.func248⟩
 f25:=⟨Tryz.f249.name,by decide,χ Tryz.func249⟩
 f26:=⟨Tryz.f250.name,by decide,χ Tryz.func250⟩
 f27:=⟨Tryz.f251.name,by decide,χ Tryz.func251⟩
 f28:=χ Tryz.func252
 f29:=χ Tryz.func134
 f46:=⟨Tryz.f262.name,by decide,χ Tryz.func262⟩
 f47:=χ Tryz.func263
 f48:=χ Tryz.func264
 f49:=⟨Tryz.f265.name,by decide,χ Tryz.func265⟩
 f50:=⟨Tryz.f266.name,by decide,χ Tryz.func266⟩
 f57:=⟨Tryz.f268.name,by decide,χ Tryz.func268⟩
 t0:=Tryz.underlying0
 a0:=Tryz.isAgg0
 z0:=Tryz.sizeOf0
 v0:=Tryz.zeroValue0
 t3:=Tryz.underlying3
 a3:=Tryz.isAgg3
 z3:=Tryz.sizeOf3
 v3:=Tryz.zeroValue3
 t4:=Tryz.underlying4
 a4:=Tryz.isAgg4
 z4:=Tryz.sizeOf4
 v4:=Tryz.zeroValue4
 t5:=Tryz.underlying5
 a5:=Tryz.isAgg5
 z5:=Tryz.sizeOf5
 v5:=Tryz.zeroValue5
 t9:=Tryz.underlying9
 a9:=Tryz.isAgg9
 z9:=Tryz.sizeOf9
 v9:=Tryz.zeroValue9
 t22:=Tryz.underlying256
 a22:=Tryz.isAgg256
 z22:=Tryz.sizeOf256
 v22:=Tryz.zeroValue256
 t25:=Tryz.underlying260
 a25:=Tryz.isAgg260
 z25:=Tryz.sizeOf260
 v25:=Tryz.zeroValue260
 t39:=Tryz.underlying109
 a39:=Tryz.isAgg109
 z39:=Tryz.sizeOf109
 v39:=Tryz.zeroValue109
 t45:=Tryz.underlying334
 a45:=Tryz.isAgg334
 z45:=Tryz.sizeOf334
 v45:=Tryz.zeroValue334
 t46:=Tryz.underlying335
 a46:=Tryz.isAgg335
 z46:=Tryz.sizeOf335
 v46:=Tryz.zeroValue335
 t50:=Tryz.underlying339
 a50:=Tryz.isAgg339
 z50:=Tryz.sizeOf339
 v50:=Tryz.zeroValue339
 t53:=Tryz.underlying148
 a53:=Tryz.isAgg148
 z53:=Tryz.sizeOf148
 v53:=Tryz.zeroValue148
 t55:=Tryz.underlying151
 a55:=Tryz.isAgg151
 z55:=Tryz.sizeOf151
 v55:=Tryz.zeroValue151
 t66:=Tryz.underlying347
 a66:=Tryz.isAgg347
 z66:=Tryz.sizeOf347
 v66:=Tryz.zeroValue347
 t70:=Tryz.underlying351
 a70:=Tryz.isAgg351
 z70:=Tryz.sizeOf351
 v70:=Tryz.zeroValue351
 t76:=Tryz.underlying353
 a76:=Tryz.isAgg353
 z76:=Tryz.sizeOf353
 v76:=Tryz.zeroValue353
 t77:=Tryz.underlying206
 a77:=Tryz.isAgg206
 z77:=Tryz.sizeOf206
 v77:=Tryz.zeroValue206 }
def Tryz.laysRev_ren:Go.Shelf.Ren:=⟨λ|35=>215|n=>n,λ|22=>22|23=>33|3=>3|4=>4|0=>0|n=>n,λ|n=>n⟩
theorem Tryz.laysRev:Go.Proofs.SlLaysE0.n35 Tryz.prog Tryz.laysRev_ren:={
 mixed:=κ
 f35:=⟨Tryz.f215.name,by decide,χ Tryz.func215⟩
 t0:=Tryz.underlying0
 a0:=Tryz.isAgg0
 z0:=Tryz.sizeOf0
 v0:=Tryz.zeroValue0
 t3:=Tryz.underlying3
 a3:=Tryz.isAgg3
 z3:=Tryz.sizeOf3
 v3:=Tryz.zeroValue3
 t4:=Tryz.underlying4
 a4:=Tryz.isAgg4
 z4:=Tryz.sizeOf4
 v4:=Tryz.zeroValue4
 t22:=Tryz.underlying22
 a22:=Tryz.isAgg22
 z22:=Tryz.sizeOf22
 v22:=Tryz.zeroValue22 }
end Go.Proofs