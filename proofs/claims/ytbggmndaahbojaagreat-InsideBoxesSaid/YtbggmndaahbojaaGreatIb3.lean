/- Part 3 of the proof of IB.row_holds: no condition beyond the row's. -/
import Derived.Test.YtbggmndaahbojaaGreatIb2
import Derived.Lone
import Derived.RunT
import Derived.Calls
set_option maxRecDepth 100000
set_option maxHeartbeats 40000000
namespace Go.Proofs.YtbggmndaahbojaaGreat.Drw
open Go
def Aki:{α:Type}->Result α->World
 |_,.ok _ w=>w
 |_,.halt _ w=>w
theorem Ul {α:Type}:∀(a:Ask α) (w:World),w.drawn<=(w.ask a).2.drawn
 | .done a,w=>Nat.le_refl _
 | .ask what range k,w=>by
  unfold World.ask
  simp only[]
  split
  exact Ul _ _
  exact Nat.le_trans (Nat.le_succ _) (Ul _ { w with drawn:=w.drawn+1 })
theorem eF (w:World) (c:Sys):w.drawn<=(w.sys c).2.drawn:=by
 unfold World.sys
 have h:=Ul (Kernel.perform c w.os) w
 split
 exact Nat.le_refl _
 rename_i he
 rw[he] at h
 exact h
theorem bN (w:World) (a:Addr) (v:Value):(w.setCell a v).drawn=w.drawn:=by
 unfold World.setCell
 repeat' first|rfl|split
theorem fV (w:World) (a:Addr) (n:Nat):(w.freeze a n).drawn=w.drawn:=by
 unfold World.freeze
 repeat' first|rfl|split
theorem Wf {p:Program} {w w':World} {at_:Addr} {u:TypeId} {k:Addr} {v:Value} {atomic:Bool} {l:List Addr} (h:w.viewStore p at_ u k v atomic= .ok (w',l)):w'.drawn=w.drawn:=by
 unfold World.viewStore at h
 simp only[bind,Except.bind,pure,Except.pure] at h
 repeat' first
  |(cases h;done)
  |(simp only[Except.ok.injEq,Prod.mk.injEq] at h;obtain⟨rfl,_⟩:=h;rfl)
  |split at h
theorem Yr {p:Program} {w w':World} {a:Addr} {v:Value} {atomic:Bool} {l:List Addr} (h:w.farStore p a v atomic= .ok (w',l)):w'.drawn=w.drawn:=by
 unfold World.farStore at h
 split at h
 split at h
 rename_i r hr
 cases h
 exact Wf hr
 cases h
 cases h
theorem Vb {α:Type} (p:Program) (s:Sem α):∀(w:World),w.drawn<=(Aki (s.run p w)).drawn:=by
 induction s with
 |pure a=>intro w;exact Nat.le_refl _
 |load m a k ih=>intro w;simp only[Sem.run];(repeat' split)<;>first|exact ih _ _|exact Nat.le_refl _
 |store m a v k ih=>
  intro w
  cases v
  all_goals simp only[Sem.run]
  all_goals (repeat' split)
  all_goals first
   |exact Nat.le_refl _
   |exact Nat.le_trans (Nat.le_of_eq (bN w a _).symm) (ih _)
   |(rename_i he;rw[<-Yr he];exact ih _)
 |new o k ih=>intro w;exact ih w.heap.size { w with heap:=w.heap.push o }
 |shape r k ih=>intro w;exact ih _ _
 |freeze a n k ih=>intro w;have:=ih (w.freeze a n);rw[fV] at this;exact this
 |frozen a k ih=>intro w;exact ih _ _
 |getObj r k ih=>intro w;simp only[Sem.run];(repeat' split)<;>first|exact ih _ _|exact Nat.le_refl _
 |setObj r o k ih=>intro w;simp only[Sem.run];(repeat' split)<;>first|exact Nat.le_refl _|exact ih { w with heap:=w.heap.setIfInBounds r o }
 |choose q k ih=>intro w;simp only[Sem.run];split;exact ih _ _;exact Nat.le_trans (Nat.le_succ _) (ih _ { w with drawn:=w.drawn+1 })
 |sys c k ih=>intro w;exact Nat.le_trans (eF w c) (ih _ _)
 |program k ih=>intro w;exact ih _ _
 |mark m k ih=>intro w;exact ih _
 |halt h=>intro w;exact Nat.le_refl _
theorem Bp {α:Type} {p:Program} {s:Sem α} {w w':World} {a:α} (h:s.run p w= .ok a w'):w.drawn<=w'.drawn:=by
 have:=Vb p s w;rw[h] at this;exact this
theorem Ei {α:Type} {p:Program} {s:Sem α} {w w':World} {e:Halt} (h:s.run p w= .halt e w'):w.drawn<=w'.drawn:=by
 have:=Vb p s w;rw[h] at this;exact this
theorem Ou {α:Type} (p:Program) (s:Sem α) (w:World) (es:Array Event):w.drawn<=(Aki (s.runT p w es).1).drawn:=by
 rw[Sem.runT_fst];exact Vb p s w
def gw:GStep->World
 | .go _ w _=>w
 | .comm _ _ _ _ w _=>w
 | .spawn _ _ w _=>w
 | .count _ w _=>w
 | .timer _ _ w _=>w
 | .alone _ _ w _=>w
 | .newcoro _ _ _ w _=>w
 | .coroswitch _ _ _ w _=>w
 | .collect _ w _=>w
 | .watch _ w _=>w
 | .ended _ w _=>w
theorem Qa (es:Array Event) (s:GStep):gw (GStep.after es s)=gw s:=by cases s<;>rfl
theorem bE (w:World) (fd:Nat) (text:ByteArray) (o:Outcome):w.drawn<=(gw (endWith w fd text o)).drawn:=by
 have h:=eF w (.write fd text)
 unfold endWith
 simp only[]
 split
 ·
  rename_i he
  rw[he] at h
  repeat' first|exact h|split
 · rename_i he;rw[he] at h;exact h
 ·
  rename_i he
  rw[he] at h
  repeat' first|exact h|split
theorem Gz {α:Type} {p:Program} {s:Sem α} {w w':World} {a:α} {es es':Array Event} (h:s.runT p w es=(.ok a w',es')):w.drawn<=w'.drawn:=by
 have:=Ou p s w es;rw[h] at this;exact this
theorem Ef {α:Type} {p:Program} {s:Sem α} {w w':World} {e:Halt} {es es':Array Event} (h:s.runT p w es=(.halt e w',es')):w.drawn<=w'.drawn:=by
 have:=Ou p s w es;rw[h] at this;exact this
theorem Fv {α:Type} {p:Program} {s:Sem α} {w w':World} {a:α} {es:Array Event} (h:(s.runT p w es).1= .ok a w'):w.drawn<=w'.drawn:=by
 have:=Ou p s w es;rw[h] at this;exact this
theorem Dk {α:Type} {p:Program} {s:Sem α} {w w':World} {e:Halt} {es:Array Event} (h:(s.runT p w es).1= .halt e w'):w.drawn<=w'.drawn:=by
 have:=Ou p s w es;rw[h] at this;exact this
theorem Px (p:Program) (fr:Frame) (callers:List Frame) (dying:Option Dying) (m:String) (w:World):w.drawn<=(gw (endFatal p fr callers dying m w)).drawn:=by
 unfold endFatal
 simp only[]
 split
 rename_i he;exact Bp he
 rename_i he;exact Ei he
 rename_i he;exact Ei he
theorem cA (p:Program) (fr:Frame) (d:Dying) (f:Fatal) (w:World):w.drawn<=(gw (writeOn p fr d f w)).drawn:=by
 unfold writeOn
 simp only[]
 split
 · exact Nat.le_refl _
 ·
  split
  all_goals (rename_i he;first|exact Gz he|exact Ef he|exact Nat.le_refl _)
theorem Ix (p:Program) (fr:Frame) (v:Value) (w:World):gw (endPrinting p fr v w)=w:=by
 unfold endPrinting
 simp only[]
 repeat' first|rfl|split
theorem wC (p:Program) (fr:Frame) (d:Dying) (w:World):w.drawn<=(gw (die p fr d w)).drawn:=by
 unfold die
 simp only[]
 (repeat' first|simp only[Qa]|split|(apply Bp;assumption)|(apply Ei;assumption)|(apply Fv;assumption)|(apply Dk;assumption)|(apply Gz;assumption)|(apply Ef;assumption)|exact Nat.le_refl _|exact bE _ _ _ _|exact cA _ _ _ _ _|exact Px _ _ _ _ _ _|(rw[Ix];apply Dk;assumption)|(rw[Ix];exact Nat.le_refl _))
theorem Ym (p:Program) (main:Bool) (fr:Frame) (callers:List Frame) (dying:Option Dying) (v:Value) (w:World):gw (doReturn p main fr callers dying v w)=w:=by
 unfold doReturn
 repeat' first|split|rfl
theorem Vo {p:Program} {main:Bool} {fr:Frame} {callers:List Frame} {dying:Option Dying} {v:Value} {w w0:World} (h:w0.drawn<=w.drawn):w0.drawn<=(gw (doReturn p main fr callers dying v w)).drawn:=by
 rw[Ym];exact h
theorem Vp {p:Program} {fr:Frame} {callers:List Frame} {dying:Option Dying} {m:String} {w w0:World} (h:w0.drawn<=w.drawn):w0.drawn<=(gw (endFatal p fr callers dying m w)).drawn:=Nat.le_trans h (Px _ _ _ _ _ _)
theorem Rv (p:Program) (fr:Frame) (callers:List Frame) (dying:Option Dying) (d:Deferred) (w:World):w.drawn<=(gw (callDeferred p fr callers dying d w)).drawn:=by
 unfold callDeferred
 simp only[]
 repeat' first
  |simp only[Qa]
  |split
  |(first|exact Nat.le_refl _|(apply Fv;assumption)|(apply Dk;assumption)|(apply Bp;assumption)|(apply Ei;assumption)|(apply Gz;assumption)|(apply Ef;assumption)|(rename_i he _ _ _ _;exact Nat.le_trans (Bp he) ζ))
  |(apply Vp;(first|exact Nat.le_refl _|(apply Fv;assumption)|(apply Dk;assumption)|(apply Bp;assumption)|(apply Ei;assumption)|(apply Gz;assumption)|(apply Ef;assumption)|(rename_i he _ _ _ _;exact Nat.le_trans (Bp he) ζ)))
theorem iQ (p:Program) (main:Bool) (fr:Frame) (callers:List Frame) (dying:Option Dying) (w:World):w.drawn<=(gw (unwind p main fr callers dying w)).drawn:=by
 unfold unwind
 simp only[]
 repeat' first
  |simp only[Qa]
  |split
  |(first|exact Nat.le_refl _|(apply Fv;assumption)|(apply Dk;assumption)|(apply Bp;assumption)|(apply Ei;assumption)|(apply Gz;assumption)|(apply Ef;assumption)|(rename_i he _ _ _ _;exact Nat.le_trans (Bp he) ζ))
  |exact Rv _ _ _ _ _ _
  |(apply Vo;(first|exact Nat.le_refl _|(apply Fv;assumption)|(apply Dk;assumption)|(apply Bp;assumption)|(apply Ei;assumption)|(apply Gz;assumption)|(apply Ef;assumption)|(rename_i he _ _ _ _;exact Nat.le_trans (Bp he) ζ)))
  |(rw[Ix];exact Nat.le_refl _)
theorem kC (p:Program) (fr:Frame) (callers:List Frame) (dying:Option Dying) (g:Nat) (w:World):w.drawn<=(gw (early p fr callers dying g w)).drawn:=by
 unfold early
 simp only[]
 repeat' first
  |split
  |(first|exact Nat.le_refl _|(apply Fv;assumption)|(apply Dk;assumption)|(apply Bp;assumption)|(apply Ei;assumption)|(apply Gz;assumption)|(apply Ef;assumption)|(rename_i he _ _ _ _;exact Nat.le_trans (Bp he) ζ))
theorem Ab9 {p:Program} {fr:Frame} {callers:List Frame} {dying:Option Dying} {g:Nat} {w w0:World} (h:w0.drawn<=w.drawn):w0.drawn<=(gw (early p fr callers dying g w)).drawn:=Nat.le_trans h (kC _ _ _ _ _ _)
theorem Vk (p:Program) (fr:Frame) (callers:List Frame) (dying:Option Dying) (s:Sem Next) (w:World):w.drawn<=(gw (stepG.apply p true fr callers dying s w)).drawn:=by
 unfold stepG.apply
 simp only[if_true]
 repeat' first
  |simp only[Qa]
  |split
  |(first|exact Nat.le_refl _|(apply Fv;assumption)|(apply Dk;assumption)|(apply Bp;assumption)|(apply Ei;assumption)|(apply Gz;assumption)|(apply Ef;assumption)|(rename_i he _ _ _ _;exact Nat.le_trans (Bp he) ζ))
  |(apply Vp;(first|exact Nat.le_refl _|(apply Fv;assumption)|(apply Dk;assumption)|(apply Bp;assumption)|(apply Ei;assumption)|(apply Gz;assumption)|(apply Ef;assumption)|(rename_i he _ _ _ _;exact Nat.le_trans (Bp he) ζ)))
  |(apply Ab9;(first|exact Nat.le_refl _|(apply Fv;assumption)|(apply Dk;assumption)|(apply Bp;assumption)|(apply Ei;assumption)|(apply Gz;assumption)|(apply Ef;assumption)|(rename_i he _ _ _ _;exact Nat.le_trans (Bp he) ζ)))
theorem pN (p:Program) (fr:Frame) (callers:List Frame) (dying:Option Dying) (w:World):w.drawn<=(gw (stepG.oper p true fr callers dying w)).drawn:=by
 unfold stepG.oper
 repeat' first
  |exact Vk _ _ _ _ _ _
  |split
  |(first|exact Nat.le_refl _|(apply Fv;assumption)|(apply Dk;assumption)|(apply Bp;assumption)|(apply Ei;assumption)|(apply Gz;assumption)|(apply Ef;assumption)|(rename_i he _ _ _ _;exact Nat.le_trans (Bp he) ζ))
theorem AaN {p:Program} {fr:Frame} {callers:List Frame} {dying:Option Dying} {s:Sem Next} {w w0:World} (h:w0.drawn<=w.drawn):w0.drawn<=(gw (stepG.apply p true fr callers dying s w)).drawn:=Nat.le_trans h (Vk _ _ _ _ _ _)
theorem Afh {α:Type} {o:Option α} {a:GStep} {f:α->GStep} {n:Nat} (ha:n<=(gw a).drawn) (hf:∀x,n<=(gw (f x)).drawn):n<=(gw (o.elim a f)).drawn:=by cases o<;>first|exact ha|exact hf _
theorem oP (p:Program) (main:Bool) (fr:Frame) (callers:List Frame) (dying:Option Dying) (w:World):w.drawn<=(gw (stepG.exec p main true fr callers dying w)).drawn:=by
 unfold stepG.exec
 simp only[]
 repeat' first
  |simp only[Qa]
  |exact pN _ _ _ _ _
  |(refine Afh ?_ λ_=>?_)
  |split
  |(first|exact Nat.le_refl _|(apply Fv;assumption)|(apply Dk;assumption)|(apply Bp;assumption)|(apply Ei;assumption)|(apply Gz;assumption)|(apply Ef;assumption)|(rename_i he _ _ _ _;exact Nat.le_trans (Bp he) ζ))
  |(apply AaN;(first|exact Nat.le_refl _|(apply Fv;assumption)|(apply Dk;assumption)|(apply Bp;assumption)|(apply Ei;assumption)|(apply Gz;assumption)|(apply Ef;assumption)|(rename_i he _ _ _ _;exact Nat.le_trans (Bp he) ζ)))
  |(apply Vo;(first|exact Nat.le_refl _|(apply Fv;assumption)|(apply Dk;assumption)|(apply Bp;assumption)|(apply Ei;assumption)|(apply Gz;assumption)|(apply Ef;assumption)|(rename_i he _ _ _ _;exact Nat.le_trans (Bp he) ζ)))
theorem mE (p:Program) (main:Bool) (g:Goroutine) (w:World):w.drawn<=(gw (stepG p main g w)).drawn:=by
 obtain⟨fr,callers,status,dying,offers⟩:=g
 simp only[stepG]
 split
 exact wC _ _ _ _
 exact oP _ _ _ _ _ _
 exact iQ _ _ _ _ _ _
def SD (n:Nat):Stepped->Prop
 | .next m=>n<=m.world.drawn
 | .ended _ _=>True
theorem Wh {rest:Rest} {cases:Array CommCase} {w w':World} (h:waitingAt rest cases w=some w'):w'.drawn=w.drawn:=by
 unfold waitingAt at h
 repeat' first
  |(cases h;rfl)
  |(cases h;done)
  |split at h
theorem Td (p:Program) (rest:Rest) (gs:Array Goroutine) (i:Nat) (g:Goroutine) (cases:Array CommCase) (blocking:Bool) (shape:CommShape) (w:World) (n:Nat) (h:n<=w.drawn):SD n (communicate p rest gs i g cases blocking shape w).1:=by
 unfold communicate
 simp only[]
 split
 · trivial
 ·
  split
  ·
   split
   ·
    split
    ·
     rename_i he
     show n<=_
     exact Nat.le_trans h (Nat.le_of_eq (Wh he).symm)
    · trivial
   · exact h
  ·
   split
   · trivial
   ·
    rename_i he
    have h1:=Nat.le_trans h (Bp he)
    clear he
    repeat' first
     |split
     |exact h1
     |trivial
     |(rename_i he;exact Nat.le_trans h1 (Ei he))
     |(rename_i he;have h2:=Bp he;exact Nat.le_trans h1 h2)
     |(rename_i he _;have h2:=Bp he;exact Nat.le_trans h1 h2)
     |(rename_i he _ _;have h2:=Bp he;exact Nat.le_trans h1 h2)
     |(rename_i he _ _ _;have h2:=Bp he;exact Nat.le_trans h1 h2)
     |(rename_i he _ _ _ _;have h2:=Bp he;exact Nat.le_trans h1 h2)
     |(rename_i he _ _ _ _ _;have h2:=Bp he;exact Nat.le_trans h1 h2)
     |(rename_i he _ _ _ _ _ _;have h2:=Bp he;exact Nat.le_trans h1 h2)
theorem Ze (p:Program) (gs:Array Goroutine) (rest:Rest) (w:World):SD w.drawn (look p gs rest w):=by
 unfold look
 simp only[]
 repeat' first
  |split
  |trivial
  |(rename_i he;have h2:=Bp he;exact h2)
  |(rename_i he _;have h2:=Bp he;exact h2)
  |(rename_i he _ _;have h2:=Bp he;exact h2)
  |(rename_i he _ _ _;have h2:=Bp he;exact h2)
  |(rename_i he _ _ _ _;have h2:=Bp he;exact h2)
  |(rename_i he _ _ _ _ _;have h2:=Bp he;exact h2)
theorem SD.le {n k:Nat} {s:Stepped} (h:SD k s) (hn:n<=k):SD n s:=by
 cases s with
 |next m=>exact Nat.le_trans hn h
 |ended=>trivial
theorem Tw (m:Machine) (k:Nat) (t:Timer) (a b:Nat):(retime m k t a b).2.world.drawn=m.world.drawn:=by
 unfold retime drain
 simp only[]
 repeat' first|rfl|split
theorem bS {m m':Machine} {op:TimerOp} {v:Value} (h:timerOp m op= .ok (v,m')):m'.world.drawn=m.world.drawn:=by
 cases op with
 |new t=>
  unfold timerOp at h
  simp only[] at h
  repeat' first
   |(cases h;rfl)
   |(cases h;done)
   |split at h
 |stop var=>
  unfold timerOp timerOp.named at h
  simp only[] at h
  split at h
  ·
   simp only[Except.ok.injEq] at h
   have:=congrArg (λx=>x.2.world.drawn) h
   simp only[Tw] at this
   exact this.symm
  · cases h
 |reset var when_ period=>
  unfold timerOp timerOp.opened timerOp.named at h
  simp only[] at h
  split at h
  ·
   rename_i mm hm
   have e:mm.world.drawn=m.world.drawn:=by
    repeat' first
     |(cases hm;rfl)
     |(cases hm;done)
     |split at hm
   split at h
   ·
    simp only[Except.ok.injEq] at h
    have:=congrArg (λx=>x.2.world.drawn) h
    simp only[Tw] at this
    exact this.symm.trans e
   · cases h
  · cases h
 |deadline ctx r w when_=>
  unfold timerOp at h
  simp only[Except.ok.injEq,Prod.mk.injEq] at h
  obtain⟨_,rfl⟩:=h
  rfl
theorem yA (p:Program) (m:Machine) (i:Nat):SD m.world.drawn (runT p m i).1:=by
 simp only[runT]
 generalize m.gs.swapAt! _ _=gg
 have hs:=mE p (i==0) gg.1 m.world
 revert hs
 generalize stepG p _ gg.1 m.world=s
 intro hs
 cases s<;>simp only[]
 all_goals first
  |exact hs
  |trivial
  |exact Td _ _ _ _ _ _ _ _ _ _ hs
  |exact(Ze _ _ _ _).le hs
  |(repeat' first|exact hs|exact trivial|split)
  |skip
 ·
  rename_i he
  have h2:=bS he
  show _<=_
  rw[h2]
  exact hs
theorem lW (p:Program) (m:Machine) (k:Nat):SD m.world.drawn (serve p m k):=by
 unfold serve
 simp only[]
 repeat' first
  |split
  |exact Nat.le_refl _
  |trivial
def MD (n:Nat):Move->Prop
 | .goroutine m _=>n<=m.world.drawn
 | .machine s _=>SD n s
theorem MD.le {n k:Nat} {s:Move} (h:MD k s) (hn:n<=k):MD n s:=by
 cases s with
 |goroutine m i=>exact Nat.le_trans hn h
 |machine s ops=>exact SD.le h hn
theorem Ps (p:Program) (m:Machine):MD m.world.drawn (askOn p m):=by
 unfold askOn
 simp only[]
 split
 · trivial
 ·
  rename_i he
  have h1:=Bp he
  clear he
  repeat' first
   |split
   |exact h1
   |trivial
   |exact SD.le (lW _ _ _) h1
   |((repeat (rename (Sem.run _ _ _=Result.ok _ _)=>he;have:=Bp he;clear he;try dsimp only[Machine.advanceTo] at this));dsimp only[MD,SD,Machine.advanceTo];omega)
theorem Ahw (p:Program) (m:Machine):MD m.world.drawn (ask p m):=by
 unfold ask
 split
 split
 trivial
 rename_i he
 have h1:=Bp he
 have h2:=Ze p m.gs m.rest ‹World›
 split
 rename_i he2
 rw[he2] at h2
 exact(Ps p _).le (Nat.le_trans h1 h2)
 exact h2.le h1
 rename_i he
 have h1:=Bp he
 exact(Ps p { m with world:=_ }).le h1
 exact Ps p m
theorem pF (p:Program) (m:Machine):MD m.world.drawn (move p m):=by
 unfold move
 repeat' first
  |exact Nat.le_refl _
  |trivial
  |exact Ahw p _
  |split
theorem qF (p:Program) (m:Machine):SD m.world.drawn (step p m):=by
 unfold step stepT
 have h:=pF p m
 split
 rename_i he
 rw[he] at h
 exact(yA p _ _).le h
 rename_i he
 rw[he] at h
 exact h
theorem Qo {p:Program}:∀(n:Nat) {m m':Machine},runN p n m= .next m'->m.world.drawn<=m'.world.drawn
 |0,m,m',h=>by
  cases h
  exact Nat.le_refl _
 |n+1,m,m',h=>by
  unfold runN at h
  have hs:=qF p m
  split at h
  rename_i m1 he
  rw[he] at hs
  exact Nat.le_trans hs (Qo n h)
  exact absurd h (by rename_i h2;intro e;exact h2 _ e)
theorem calls_drawn {P:Program} {f:FuncId} {args:Array Value} {w:World} {R:Ending->World->Prop} (h:Calls P f args w R):Calls P f args w λe w'=>R e w'/\(e≠.outgrown->w.drawn<=w'.drawn):=by
 intro cs
 obtain⟨e,w',fr,h1,h2,h3,h4⟩:=h cs
 refine⟨e,w',fr,⟨h1,λhe=>?_⟩,h2,h3,h4⟩
 cases e with
 |outgrown=>exact absurd rfl he
 |returned v=>obtain⟨n,hn⟩:=h2;exact Qo n hn
 |panicked c=>obtain⟨n,hn⟩:=h2;exact Qo n hn
end Go.Proofs.YtbggmndaahbojaaGreat.Drw