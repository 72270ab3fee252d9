/- Part 8 of the proof of IB.row_holds: no condition beyond the row's. -/
import Derived.Test.YtbggmndaahbojaaGreatIb7
import Derived.Laws.IdiomStrings
set_option maxRecDepth 100000
set_option maxHeartbeats 40000000
namespace Go.Proofs.YtbggmndaahbojaaGreat
open Go.RowKit
section
variable {P:Program} {ops:Array Oper} {n:Nat} {R:Nat->Value->World->Prop} {a0:Act} {Q:Exit->Act->World->Prop} {W:World}
theorem dW {C:World->Prop} {i:Nat} {o:Oper} (x:Operand) (r:Value->World->Prop) (ho:o.op= .assign x) (hx:Kj ops n R a0 x=r) (h:∀(v:Value) (w:World),C w->r v w->R i v w):Oi P ops n C R a0 Q i o:=
 Nv λa w hC hpre=>⟨a.eval x,by simp[execOp,ho],h _ w hC (by have:=hpre x (by rw[ho];simp[Op.operands]);rw[hx] at this;exact this)⟩
end
end Go.Proofs.YtbggmndaahbojaaGreat