/- Part 7 of the proof of EC.row_holds, joined by program: no condition beyond the row's own. -/
import Derived.Test.YtikinphpaiajfaaGreatC6
import Derived.Laws.IdiomStrings
set_option maxRecDepth 100000
set_option maxHeartbeats 40000000
namespace Go.Proofs.YtikinphpaiajfaaGreat
open Go.RowKit
section
variable {P:Program} {ops:Array Oper} {n:Nat} {R:Nat->Value->World->Prop} {a0:Act} {Q:Exit->Act->World->Prop} {W:World}
theorem iN {C:World->Prop} {i:Nat} {o:Oper} (x:Operand) (r:Value->World->Prop) (ho:o.op= .assign x) (hx:Io ops n R a0 x=r) (h:∀(v:Value) (w:World),C w->r v w->R i v w):Le P ops n C R a0 Q i o:=
 Kh λa w hC hpre=>⟨a.eval x,by simp[execOp,ho],h _ w hC (by have:=hpre x (by rw[ho];simp[Op.operands]);rw[hx] at this;exact this)⟩
theorem AkG {C:World->Prop} {i:Nat} {o:Oper} (t:Nat) (c u v:Value) (ho:o.op.operands=#[.const c,.tmp t]) (hx:Io ops n R a0 (.tmp t)=is u) (h:∀(a:Act) (w:World),C w->a.tmps[t]?.getD undef=u->(execOp a.eval o).run P w= .ok (.value v) w) (hr:R i=is v):Le P ops n C R a0 Q i o:=
 Kh λa w hC hpre=>⟨v,h a w hC (by have:=hpre (.tmp t) (by rw[ho];simp);rw[hx] at this;simpa [Act.eval,is] using this),by rw[hr];rfl⟩
end
end Go.Proofs.YtikinphpaiajfaaGreat