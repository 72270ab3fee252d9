/- Part 4 of the proof of PH.card_holds: no condition beyond the row's. -/
import Derived.Test.YtkpjchfniejdoaaGreatDoorPH3
import Derived.Lone
import Derived.RunT
import Derived.Calls
set_option maxRecDepth 100000
set_option maxHeartbeats 40000000
namespace Go.Proofs.YtkpjchfniejdoaaGreatDoor.Drw
open Go
def Aq1:{α:Type}->Result α->World
 |_,.ok _ w=>w
 |_,.halt _ w=>w
theorem aH {α:Type}:∀(a:Ask α) (w:World),w.drawn<=(w.ask a).2.drawn
 | .done a,w=>Nat.le_refl _
 | .ask what range k,w=>by
  unfold World.ask
  simp only[]
  split
  exact aH _ _
  exact Nat.le_trans (Nat.le_succ _) (aH _ { w with drawn:=w.drawn+1 })
theorem nK (w:World) (c:Sys):w.drawn<=(w.sys c).2.drawn:=by
 unfold World.sys
 have h:=aH (Kernel.perform c w.os) w
 split
 exact Nat.le_refl _
 rename_i he
 rw[he] at h
 exact h
theorem kG (w:World) (a:Addr) (v:Value):(w.setCell a v).drawn=w.drawn:=by
 unfold World.setCell
 repeat' first|rfl|split
theorem pM (w:World) (a:Addr) (n:Nat):(w.freeze a n).drawn=w.drawn:=by
 unfold World.freeze
 repeat' first|rfl|split
theorem dB {p:Program} {w w':World} {at_:Addr} {u:TypeId} {k:Addr} {v:Value} {atomic:Bool} {l:List Addr} (h:w.viewStore p at_ u k v atomic= .ok (w',l)):w'.drawn=w.drawn:=by
 unfold World.viewStore at h
 simp only[bind,Except.bind,pure,Except.pure] at h
 repeat' first
  |(cases h;done)
  |(simp only[Except.ok.injEq,Prod.mk.injEq] at h;obtain⟨rfl,_⟩:=h;rfl)
  |split at h
theorem fZ {p:Program} {w w':World} {a:Addr} {v:Value} {atomic:Bool} {l:List Addr} (h:w.farStore p a v atomic= .ok (w',l)):w'.drawn=w.drawn:=by
 unfold World.farStore at h
 split at h
 split at h
 rename_i r hr
 cases h
 exact dB hr
 cases h
 cases h
theorem aW {α:Type} (p:Program) (s:Sem α):∀(w:World),w.drawn<=(Aq1 (s.run p w)).drawn:=by
 induction s with
 |pure a=>intro w;exact Nat.le_refl _
 |load m a k ih=>intro w;simp only[Sem.run];(repeat' split)<;>first|exact ih _ _|exact Nat.le_refl _
 |store m a v k ih=>
  intro w
  cases v
  all_goals simp only[Sem.run]
  all_goals (repeat' split)
  all_goals first
   |exact Nat.le_refl _
   |exact Nat.le_trans (Nat.le_of_eq (kG w a _).symm) (ih _)
   |(rename_i he;rw[<-fZ he];exact ih _)
 |new o k ih=>intro w;exact ih w.heap.size { w with heap:=w.heap.push o }
 |shape r k ih=>intro w;exact ih _ _
 |freeze a n k ih=>intro w;have:=ih (w.freeze a n);rw[pM] at this;exact this
 |frozen a k ih=>intro w;exact ih _ _
 |getObj r k ih=>intro w;simp only[Sem.run];(repeat' split)<;>first|exact ih _ _|exact Nat.le_refl _
 |setObj r o k ih=>intro w;simp only[Sem.run];(repeat' split)<;>first|exact Nat.le_refl _|exact ih { w with heap:=w.heap.setIfInBounds r o }
 |choose q k ih=>intro w;simp only[Sem.run];split;exact ih _ _;exact Nat.le_trans (Nat.le_succ _) (ih _ { w with drawn:=w.drawn+1 })
 |sys c k ih=>intro w;exact Nat.le_trans (nK w c) (ih _ _)
 |program k ih=>intro w;exact ih _ _
 |mark m k ih=>intro w;exact ih _
 |halt h=>intro w;exact Nat.le_refl _
theorem Ch {α:Type} {p:Program} {s:Sem α} {w w':World} {a:α} (h:s.run p w= .ok a w'):w.drawn<=w'.drawn:=by
 have:=aW p s w;rw[h] at this;exact this
theorem Fi {α:Type} {p:Program} {s:Sem α} {w w':World} {e:Halt} (h:s.run p w= .halt e w'):w.drawn<=w'.drawn:=by
 have:=aW p s w;rw[h] at this;exact this
theorem Sn {α:Type} (p:Program) (s:Sem α) (w:World) (es:Array Event):w.drawn<=(Aq1 (s.runT p w es).1).drawn:=by
 rw[Sem.runT_fst];exact aW p s w
def gw:GStep->World
 | .go _ w _=>w
 | .comm _ _ _ _ w _=>w
 | .spawn _ _ w _=>w
 | .count _ w _=>w
 | .timer _ _ w _=>w
 | .alone _ _ w _=>w
 | .newcoro _ _ _ w _=>w
 | .coroswitch _ _ _ w _=>w
 | .collect _ w _=>w
 | .watch _ w _=>w
 | .ended _ w _=>w
theorem Ub (es:Array Event) (s:GStep):gw (GStep.after es s)=gw s:=by cases s<;>rfl
theorem jW (w:World) (fd:Nat) (text:ByteArray) (o:Outcome):w.drawn<=(gw (endWith w fd text o)).drawn:=by
 have h:=nK w (.write fd text)
 unfold endWith
 simp only[]
 split
 ·
  rename_i he
  rw[he] at h
  repeat' first|exact h|split
 · rename_i he;rw[he] at h;exact h
 ·
  rename_i he
  rw[he] at h
  repeat' first|exact h|split
theorem Hs {α:Type} {p:Program} {s:Sem α} {w w':World} {a:α} {es es':Array Event} (h:s.runT p w es=(.ok a w',es')):w.drawn<=w'.drawn:=by
 have:=Sn p s w es;rw[h] at this;exact this
theorem Fb {α:Type} {p:Program} {s:Sem α} {w w':World} {e:Halt} {es es':Array Event} (h:s.runT p w es=(.halt e w',es')):w.drawn<=w'.drawn:=by
 have:=Sn p s w es;rw[h] at this;exact this
theorem Gt {α:Type} {p:Program} {s:Sem α} {w w':World} {a:α} {es:Array Event} (h:(s.runT p w es).1= .ok a w'):w.drawn<=w'.drawn:=by
 have:=Sn p s w es;rw[h] at this;exact this
theorem Ee {α:Type} {p:Program} {s:Sem α} {w w':World} {e:Halt} {es:Array Event} (h:(s.runT p w es).1= .halt e w'):w.drawn<=w'.drawn:=by
 have:=Sn p s w es;rw[h] at this;exact this
theorem Tu (p:Program) (fr:Frame) (callers:List Frame) (dying:Option Dying) (m:String) (w:World):w.drawn<=(gw (endFatal p fr callers dying m w)).drawn:=by
 unfold endFatal
 simp only[]
 split
 rename_i he;exact Ch he
 rename_i he;exact Fi he
 rename_i he;exact Fi he
theorem kO (p:Program) (fr:Frame) (d:Dying) (f:Fatal) (w:World):w.drawn<=(gw (writeOn p fr d f w)).drawn:=by
 unfold writeOn
 simp only[]
 split
 · exact Nat.le_refl _
 ·
  split
  all_goals (rename_i he;first|exact Hs he|exact Fb he|exact Nat.le_refl _)
theorem Kb (p:Program) (fr:Frame) (v:Value) (w:World):gw (endPrinting p fr v w)=w:=by
 unfold endPrinting
 simp only[]
 repeat' first|rfl|split
theorem Ada (p:Program) (fr:Frame) (d:Dying) (w:World):w.drawn<=(gw (die p fr d w)).drawn:=by
 unfold die
 simp only[]
 (repeat' first|simp only[Ub]|split|(apply Ch;assumption)|(apply Fi;assumption)|(apply Gt;assumption)|(apply Ee;assumption)|(apply Hs;assumption)|(apply Fb;assumption)|exact Nat.le_refl _|exact jW _ _ _ _|exact kO _ _ _ _ _|exact Tu _ _ _ _ _ _|(rw[Kb];apply Ee;assumption)|(rw[Kb];exact Nat.le_refl _))
theorem fV (p:Program) (main:Bool) (fr:Frame) (callers:List Frame) (dying:Option Dying) (v:Value) (w:World):gw (doReturn p main fr callers dying v w)=w:=by
 unfold doReturn
 repeat' first|split|rfl
theorem bV {p:Program} {main:Bool} {fr:Frame} {callers:List Frame} {dying:Option Dying} {v:Value} {w w0:World} (h:w0.drawn<=w.drawn):w0.drawn<=(gw (doReturn p main fr callers dying v w)).drawn:=by
 rw[fV];exact h
theorem bW {p:Program} {fr:Frame} {callers:List Frame} {dying:Option Dying} {m:String} {w w0:World} (h:w0.drawn<=w.drawn):w0.drawn<=(gw (endFatal p fr callers dying m w)).drawn:=Nat.le_trans h (Tu _ _ _ _ _ _)
theorem Xa (p:Program) (fr:Frame) (callers:List Frame) (dying:Option Dying) (d:Deferred) (w:World):w.drawn<=(gw (callDeferred p fr callers dying d w)).drawn:=by
 unfold callDeferred
 simp only[]
 repeat' first
  |simp only[Ub]
  |split
  |(first|exact Nat.le_refl _|(apply Gt;assumption)|(apply Ee;assumption)|(apply Ch;assumption)|(apply Fi;assumption)|(apply Hs;assumption)|(apply Fb;assumption)|(rename_i he _ _ _ _;exact Nat.le_trans (Ch he) ζ))
  |(apply bW;(first|exact Nat.le_refl _|(apply Gt;assumption)|(apply Ee;assumption)|(apply Ch;assumption)|(apply Fi;assumption)|(apply Hs;assumption)|(apply Fb;assumption)|(rename_i he _ _ _ _;exact Nat.le_trans (Ch he) ζ)))
theorem rB (p:Program) (main:Bool) (fr:Frame) (callers:List Frame) (dying:Option Dying) (w:World):w.drawn<=(gw (unwind p main fr callers dying w)).drawn:=by
 unfold unwind
 simp only[]
 repeat' first
  |simp only[Ub]
  |split
  |(first|exact Nat.le_refl _|(apply Gt;assumption)|(apply Ee;assumption)|(apply Ch;assumption)|(apply Fi;assumption)|(apply Hs;assumption)|(apply Fb;assumption)|(rename_i he _ _ _ _;exact Nat.le_trans (Ch he) ζ))
  |exact Xa _ _ _ _ _ _
  |(apply bV;(first|exact Nat.le_refl _|(apply Gt;assumption)|(apply Ee;assumption)|(apply Ch;assumption)|(apply Fi;assumption)|(apply Hs;assumption)|(apply Fb;assumption)|(rename_i he _ _ _ _;exact Nat.le_trans (Ch he) ζ)))
  |(rw[Kb];exact Nat.le_refl _)
theorem tD (p:Program) (fr:Frame) (callers:List Frame) (dying:Option Dying) (g:Nat) (w:World):w.drawn<=(gw (early p fr callers dying g w)).drawn:=by
 unfold early
 simp only[]
 repeat' first
  |split
  |(first|exact Nat.le_refl _|(apply Gt;assumption)|(apply Ee;assumption)|(apply Ch;assumption)|(apply Fi;assumption)|(apply Hs;assumption)|(apply Fb;assumption)|(rename_i he _ _ _ _;exact Nat.le_trans (Ch he) ζ))
theorem AgN {p:Program} {fr:Frame} {callers:List Frame} {dying:Option Dying} {g:Nat} {w w0:World} (h:w0.drawn<=w.drawn):w0.drawn<=(gw (early p fr callers dying g w)).drawn:=Nat.le_trans h (tD _ _ _ _ _ _)
theorem bK (p:Program) (fr:Frame) (callers:List Frame) (dying:Option Dying) (s:Sem Next) (w:World):w.drawn<=(gw (stepG.apply p true fr callers dying s w)).drawn:=by
 unfold stepG.apply
 simp only[if_true]
 repeat' first
  |simp only[Ub]
  |split
  |(first|exact Nat.le_refl _|(apply Gt;assumption)|(apply Ee;assumption)|(apply Ch;assumption)|(apply Fi;assumption)|(apply Hs;assumption)|(apply Fb;assumption)|(rename_i he _ _ _ _;exact Nat.le_trans (Ch he) ζ))
  |(apply bW;(first|exact Nat.le_refl _|(apply Gt;assumption)|(apply Ee;assumption)|(apply Ch;assumption)|(apply Fi;assumption)|(apply Hs;assumption)|(apply Fb;assumption)|(rename_i he _ _ _ _;exact Nat.le_trans (Ch he) ζ)))
  |(apply AgN;(first|exact Nat.le_refl _|(apply Gt;assumption)|(apply Ee;assumption)|(apply Ch;assumption)|(apply Fi;assumption)|(apply Hs;assumption)|(apply Fb;assumption)|(rename_i he _ _ _ _;exact Nat.le_trans (Ch he) ζ)))
theorem Aan (p:Program) (fr:Frame) (callers:List Frame) (dying:Option Dying) (w:World):w.drawn<=(gw (stepG.oper p true fr callers dying w)).drawn:=by
 unfold stepG.oper
 repeat' first
  |exact bK _ _ _ _ _ _
  |split
  |(first|exact Nat.le_refl _|(apply Gt;assumption)|(apply Ee;assumption)|(apply Ch;assumption)|(apply Fi;assumption)|(apply Hs;assumption)|(apply Fb;assumption)|(rename_i he _ _ _ _;exact Nat.le_trans (Ch he) ζ))
theorem Agl {p:Program} {fr:Frame} {callers:List Frame} {dying:Option Dying} {s:Sem Next} {w w0:World} (h:w0.drawn<=w.drawn):w0.drawn<=(gw (stepG.apply p true fr callers dying s w)).drawn:=Nat.le_trans h (bK _ _ _ _ _ _)
theorem AkE {α:Type} {o:Option α} {a:GStep} {f:α->GStep} {n:Nat} (ha:n<=(gw a).drawn) (hf:∀x,n<=(gw (f x)).drawn):n<=(gw (o.elim a f)).drawn:=by cases o<;>first|exact ha|exact hf _
theorem zF (p:Program) (main:Bool) (fr:Frame) (callers:List Frame) (dying:Option Dying) (w:World):w.drawn<=(gw (stepG.exec p main true fr callers dying w)).drawn:=by
 unfold stepG.exec
 simp only[]
 repeat' first
  |simp only[Ub]
  |exact Aan _ _ _ _ _
  |(refine AkE ?_ λ_=>?_)
  |split
  |(first|exact Nat.le_refl _|(apply Gt;assumption)|(apply Ee;assumption)|(apply Ch;assumption)|(apply Fi;assumption)|(apply Hs;assumption)|(apply Fb;assumption)|(rename_i he _ _ _ _;exact Nat.le_trans (Ch he) ζ))
  |(apply Agl;(first|exact Nat.le_refl _|(apply Gt;assumption)|(apply Ee;assumption)|(apply Ch;assumption)|(apply Fi;assumption)|(apply Hs;assumption)|(apply Fb;assumption)|(rename_i he _ _ _ _;exact Nat.le_trans (Ch he) ζ)))
  |(apply bV;(first|exact Nat.le_refl _|(apply Gt;assumption)|(apply Ee;assumption)|(apply Ch;assumption)|(apply Fi;assumption)|(apply Hs;assumption)|(apply Fb;assumption)|(rename_i he _ _ _ _;exact Nat.le_trans (Ch he) ζ)))
theorem vQ (p:Program) (main:Bool) (g:Goroutine) (w:World):w.drawn<=(gw (stepG p main g w)).drawn:=by
 obtain⟨fr,callers,status,dying,offers⟩:=g
 simp only[stepG]
 split
 exact Ada _ _ _ _
 exact zF _ _ _ _ _ _
 exact rB _ _ _ _ _ _
def SD (n:Nat):Stepped->Prop
 | .next m=>n<=m.world.drawn
 | .ended _ _=>True
theorem dC {rest:Rest} {cases:Array CommCase} {w w':World} (h:waitingAt rest cases w=some w'):w'.drawn=w.drawn:=by
 unfold waitingAt at h
 repeat' first
  |(cases h;rfl)
  |(cases h;done)
  |split at h
theorem Yj (p:Program) (rest:Rest) (gs:Array Goroutine) (i:Nat) (g:Goroutine) (cases:Array CommCase) (blocking:Bool) (shape:CommShape) (w:World) (n:Nat) (h:n<=w.drawn):SD n (communicate p rest gs i g cases blocking shape w).1:=by
 unfold communicate
 simp only[]
 split
 · trivial
 ·
  split
  ·
   split
   ·
    split
    ·
     rename_i he
     show n<=_
     exact Nat.le_trans h (Nat.le_of_eq (dC he).symm)
    · trivial
   · exact h
  ·
   split
   · trivial
   ·
    rename_i he
    have h1:=Nat.le_trans h (Ch he)
    clear he
    repeat' first
     |split
     |exact h1
     |trivial
     |(rename_i he;exact Nat.le_trans h1 (Fi he))
     |(rename_i he;have h2:=Ch he;exact Nat.le_trans h1 h2)
     |(rename_i he _;have h2:=Ch he;exact Nat.le_trans h1 h2)
     |(rename_i he _ _;have h2:=Ch he;exact Nat.le_trans h1 h2)
     |(rename_i he _ _ _;have h2:=Ch he;exact Nat.le_trans h1 h2)
     |(rename_i he _ _ _ _;have h2:=Ch he;exact Nat.le_trans h1 h2)
     |(rename_i he _ _ _ _ _;have h2:=Ch he;exact Nat.le_trans h1 h2)
     |(rename_i he _ _ _ _ _ _;have h2:=Ch he;exact Nat.le_trans h1 h2)
theorem gW (p:Program) (gs:Array Goroutine) (rest:Rest) (w:World):SD w.drawn (look p gs rest w):=by
 unfold look
 simp only[]
 repeat' first
  |split
  |trivial
  |(rename_i he;have h2:=Ch he;exact h2)
  |(rename_i he _;have h2:=Ch he;exact h2)
  |(rename_i he _ _;have h2:=Ch he;exact h2)
  |(rename_i he _ _ _;have h2:=Ch he;exact h2)
  |(rename_i he _ _ _ _;have h2:=Ch he;exact h2)
  |(rename_i he _ _ _ _ _;have h2:=Ch he;exact h2)
theorem SD.le {n k:Nat} {s:Stepped} (h:SD k s) (hn:n<=k):SD n s:=by
 cases s with
 |next m=>exact Nat.le_trans hn h
 |ended=>trivial
theorem Zl (m:Machine) (k:Nat) (t:Timer) (a b:Nat):(retime m k t a b).2.world.drawn=m.world.drawn:=by
 unfold retime drain
 simp only[]
 repeat' first|rfl|split
theorem kK {m m':Machine} {op:TimerOp} {v:Value} (h:timerOp m op= .ok (v,m')):m'.world.drawn=m.world.drawn:=by
 cases op with
 |new t=>
  unfold timerOp at h
  simp only[] at h
  repeat' first
   |(cases h;rfl)
   |(cases h;done)
   |split at h
 |stop var=>
  unfold timerOp timerOp.named at h
  simp only[] at h
  split at h
  ·
   simp only[Except.ok.injEq] at h
   have:=congrArg (λx=>x.2.world.drawn) h
   simp only[Zl] at this
   exact this.symm
  · cases h
 |reset var when_ period=>
  unfold timerOp timerOp.opened timerOp.named at h
  simp only[] at h
  split at h
  ·
   rename_i mm hm
   have e:mm.world.drawn=m.world.drawn:=by
    repeat' first
     |(cases hm;rfl)
     |(cases hm;done)
     |split at hm
   split at h
   ·
    simp only[Except.ok.injEq] at h
    have:=congrArg (λx=>x.2.world.drawn) h
    simp only[Zl] at this
    exact this.symm.trans e
   · cases h
  · cases h
 |deadline ctx r w when_=>
  unfold timerOp at h
  simp only[Except.ok.injEq,Prod.mk.injEq] at h
  obtain⟨_,rfl⟩:=h
  rfl
theorem Aeo (p:Program) (m:Machine) (i:Nat):SD m.world.drawn (runT p m i).1:=by
 simp only[runT]
 generalize m.gs.swapAt! _ _=gg
 have hs:=vQ p (i==0) gg.1 m.world
 revert hs
 generalize stepG p _ gg.1 m.world=s
 intro hs
 cases s<;>simp only[]
 all_goals first
  |exact hs
  |trivial
  |exact Yj _ _ _ _ _ _ _ _ _ _ hs
  |exact(gW _ _ _ _).le hs
  |(repeat' first|exact hs|exact trivial|split)
  |skip
 ·
  rename_i he
  have h2:=kK he
  show _<=_
  rw[h2]
  exact hs
theorem vK (p:Program) (m:Machine) (k:Nat):SD m.world.drawn (serve p m k):=by
 unfold serve
 simp only[]
 repeat' first
  |split
  |exact Nat.le_refl _
  |trivial
def MD (n:Nat):Move->Prop
 | .goroutine m _=>n<=m.world.drawn
 | .machine s _=>SD n s
theorem MD.le {n k:Nat} {s:Move} (h:MD k s) (hn:n<=k):MD n s:=by
 cases s with
 |goroutine m i=>exact Nat.le_trans hn h
 |machine s ops=>exact SD.le h hn
theorem Tn (p:Program) (m:Machine):MD m.world.drawn (askOn p m):=by
 unfold askOn
 simp only[]
 split
 · trivial
 ·
  rename_i he
  have h1:=Ch he
  clear he
  repeat' first
   |split
   |exact h1
   |trivial
   |exact SD.le (vK _ _ _) h1
   |((repeat (rename (Sem.run _ _ _=Result.ok _ _)=>he;have:=Ch he;clear he;try dsimp only[Machine.advanceTo] at this));dsimp only[MD,SD,Machine.advanceTo];omega)
theorem Ank (p:Program) (m:Machine):MD m.world.drawn (ask p m):=by
 unfold ask
 split
 split
 trivial
 rename_i he
 have h1:=Ch he
 have h2:=gW p m.gs m.rest ‹World›
 split
 rename_i he2
 rw[he2] at h2
 exact(Tn p _).le (Nat.le_trans h1 h2)
 exact h2.le h1
 rename_i he
 have h1:=Ch he
 exact(Tn p { m with world:=_ }).le h1
 exact Tn p m
theorem Aae (p:Program) (m:Machine):MD m.world.drawn (move p m):=by
 unfold move
 repeat' first
  |exact Nat.le_refl _
  |trivial
  |exact Ank p _
  |split
theorem Aa4 (p:Program) (m:Machine):SD m.world.drawn (step p m):=by
 unfold step stepT
 have h:=Aae p m
 split
 rename_i he
 rw[he] at h
 exact(Aeo p _ _).le h
 rename_i he
 rw[he] at h
 exact h
theorem Ux {p:Program}:∀(n:Nat) {m m':Machine},runN p n m= .next m'->m.world.drawn<=m'.world.drawn
 |0,m,m',h=>by
  cases h
  exact Nat.le_refl _
 |n+1,m,m',h=>by
  unfold runN at h
  have hs:=Aa4 p m
  split at h
  rename_i m1 he
  rw[he] at hs
  exact Nat.le_trans hs (Ux n h)
  exact absurd h (by rename_i h2;intro e;exact h2 _ e)
theorem calls_drawn {P:Program} {f:FuncId} {args:Array Value} {w:World} {R:Ending->World->Prop} (h:Calls P f args w R):Calls P f args w λe w'=>R e w'/\(e≠.outgrown->w.drawn<=w'.drawn):=by
 intro cs
 obtain⟨e,w',fr,h1,h2,h3,h4⟩:=h cs
 refine⟨e,w',fr,⟨h1,λhe=>?_⟩,h2,h3,h4⟩
 cases e with
 |outgrown=>exact absurd rfl he
 |returned v=>obtain⟨n,hn⟩:=h2;exact Ux n hn
 |panicked c=>obtain⟨n,hn⟩:=h2;exact Ux n hn
end Go.Proofs.YtkpjchfniejdoaaGreatDoor.Drw