/- Part 21 of the proof of PC.clocks_holds, joined by program: no condition beyond the row's own. -/
import Derived.Test.YthhkfanbmpcmbaaGreatDoorPC20
import Derived.RangeFuncNested
set_option maxRecDepth 100000
set_option maxHeartbeats 40000000
namespace Go.Proofs.YthhkfanbmpcmbaaGreatDoor
open Go.RowKit
variable {B:Nat} {D0:Aq} {s:St} {Q:Exit->St->Prop}
def yE (P:Program) (R:Option Nat) (B:Nat) (D0 D1:Aq) (fn:Func) (s:St) (Q:Exit->St->Prop) (_:Ej):Exit->St->Prop:=yD P B D1 fn λ_ h' nx'=>∃st pe sp t' n',Ao h' s.nx=some (.loop st pe sp t' n')/\st≠.busy/\
 match pe with
 |none=>Q .normal ⟨s.t,Fg h' s.nx,nx',s.n⟩
 |some c=>AC P R B D0 c ⟨s.t,Fg h' s.nx,nx',s.n⟩ Q
theorem qV (l0 lid:Nat) (hl0:D0.A lid/\D0.π lid=l0) {st0:LoopState} {pe0:Option Code} {sp0:Ej} {t0:El} {n0:Nat} (hlp:Ao s.h lid=some (.loop st0 pe0 sp0 t0 n0)) {g:Operand} {ps:Array Tmp} {assign body:Code} (f:FuncId) {fn:Func} {c:Code} (caps:List AV) (n:Nat) (hg:s.ev g= .fn f caps) (hcall:∀(vs:Array Value) w,(callFunc f vs).run Tryz.prog w= .ok (.enter f vs) w) (hf:Tryz.prog.funcs[f]?=some fn) (hc:fn.body=some c) (hn:fn.ntmps=n) (hle:Nat.ble (caps.length+1) n=true)
  (hbody:∀D1,(∀id,D1.A id->id<s.nx+1)->AC Tryz.prog none B D1 c ⟨Cz (.yld s.nx::caps) 0,hset s.h s.nx (.loop .ready none ⟨ps,assign,body⟩ s.t s.n),s.nx+1,n⟩ (yE Tryz.prog (some l0) B D0 D1 fn s Q ⟨ps,assign,body⟩)):AC Tryz.prog (some l0) B D0 (.rangeFunc g ps assign body) s Q:=by
 refine⟨λE a hs=>wpIn_rangeFunc λfid _=>?_⟩
 let sp:Ej:=⟨ps,assign,body⟩
 obtain⟨m0,fid0,tm0,hL0,_,_⟩:=hs.h.loopAt hlp
 have hπ0:E.π lid=l0:=(hs.h.le0.π lid hl0.1).trans hl0.2
 rw[hπ0] at hL0
 have hnid:¬E.A s.nx:=λh=>Nat.lt_irrefl _ (hs.A s.nx h)
 obtain⟨hle2,hb2,hm2⟩:=hs.h.more hnid 0 (.loop { state:= .ready,pending:=none,fn:=fid,tmps:=a.tmps,params:=ps,assign:=assign,body:=body,defers:=m0 })
 obtain⟨E2,hE2⟩:∃E2,E2=E.more s.nx 0 (.loop { state:= .ready,pending:=none,fn:=fid,tmps:=a.tmps,params:=ps,assign:=assign,body:=body,defers:=m0 }):=⟨_,rfl⟩
 rw[<-hE2] at hle2 hb2 hm2
 have hw2:E2.w=E.w.alloc (.loop { state:= .ready,pending:=none,fn:=fid,tmps:=a.tmps,params:=ps,assign:=assign,body:=body,defers:=m0 }):=by rw[hE2];rfl
 have hπ2:E2.π s.nx=E.w.heap.size:=by
  rw[hE2]
  show (if s.nx=s.nx then E.w.heap.size else _)=_
  rw[if_pos rfl]
 have hle02:E.le E2:=hle2
 have hA2:∀id,E2.A id->id<s.nx+1:=λid hid=>by
  rw[hE2] at hid
  rcases hid with hid|hid
  · have:=hs.A id hid;omega
  · omega
 have hA2n:E2.A s.nx:=by rw[hE2];exact .inr rfl
 have hh2:HR B D0 E2 (Ao (hset s.h s.nx (.loop .ready none sp s.t s.n))):=by
  have:(λid=>Ao (hset s.h s.nx (.loop .ready none sp s.t s.n)) id)=λi=>if s.nx=i then some (.loop .ready none sp s.t s.n) else Ao s.h i:=funext λid=>Dt _ _ _ _
  show HR B D0 E2 (λid=>Ao (hset s.h s.nx (.loop .ready none sp s.t s.n)) id)
  rw[this]
  refine hm2 _ (.loop _ _ _ _ _ _ _ m0 fid a.tmps ?_ hs.size λi=>(hs.t i).up hle02)
  rw[hw2]
  have:=World.alloc_heap_new E.w (.loop { state:= .ready,pending:=none,fn:=fid,tmps:=a.tmps,params:=ps,assign:=assign,body:=body,defers:=m0 })
  exact this
 have hgv:VR E (.fn f caps) (a.eval g):=by rw[<-hg];exact hs.ev g
 obtain⟨vs,hvs1,hvs2,hvs3⟩:∃vs:Array Value,a.eval g= .func (.func f) #[] vs/\vs.size=caps.length/\∀i,i<caps.length->VR E (caps.getD i .top) (vs.getD i undef):=by
  generalize a.eval g=z at hgv
  cases hgv with
  |fn _ _ _ vs hn hr=>exact⟨vs,rfl,hn,hr⟩
 refine⟨E.w.heap.size,[],E2.w,{ target:= .fn (.func f) vs,args:=#[.func (.yield E.w.heap.size) #[] #[]] },E2.w,f,
  #[.func (.yield E.w.heap.size) #[] #[]]++vs,E2.w,?_,?_,λ_ _=>trivial,?_,λhf=>by simp[Lu,Fence.wide] at hf,?_⟩
 · rw[hw2];exact run_enterLoop_inner hL0 _ _ _ _ _
 ·
  simp only[resolve,hvs1]
  simp[go_sem]
 · simp[invoke,go_sem,hcall]
 ·
  have hcalls:=Nd (K:=λ_ h' nx'=>∃st pe sp t' n',Ao h' s.nx=some (.loop st pe sp t' n')/\st≠.busy/\
    match pe with
    |none=>Q .normal ⟨s.t,Fg h' s.nx,nx',s.n⟩
    |some c=>AC Tryz.prog (some l0) B D0 c ⟨s.t,Fg h' s.nx,nx',s.n⟩ Q) hf hc n hn (args:= .yld s.nx::caps) (by simpa using hle) hbody (E:=E2) (vs:=#[.func (.yield E.w.heap.size) #[] #[]]++vs) hh2 hA2 (by simp[hvs2];omega) (λi hi=>by
     cases i with
     |zero=>
      have:=VR.yld E2 s.nx hA2n
      rw[hπ2] at this
      have e2:(#[Value.func (.yield E.w.heap.size) #[] #[]]++vs).getD 0 undef= .func (.yield E.w.heap.size) #[] #[]:=by simp[Array.getD_eq_getD_getElem?,Array.getElem?_append]
      rw[e2]
      exact this
     |succ i=>
      have hi2:i<caps.length:=by simpa using hi
      have h3:=(hvs3 i hi2).up hle02
      have e2:(#[Value.func (.yield E.w.heap.size) #[] #[]]++vs).getD (i+1) undef=vs.getD i undef:=by
       simp[Array.getD_eq_getD_getElem?,Array.getElem?_append]
      rw[e2]
      simpa using h3)
  refine callsIn_wide.2 (hcalls.mono ?_)
  rintro e w' ⟨v,r,h',nx',E',rfl,rfl,hr,⟨st,pe,sp',t',n',hl,hst,hk⟩,k1,k2,k3,k4⟩
  obtain⟨m,fid',tm,hL,hn',hr'⟩:=k2.loopAt hl
  have hπ':E'.π s.nx=E.w.heap.size:=(k1.π s.nx hA2n).trans hπ2
  rw[hπ'] at hL
  refine⟨pe,_,run_endLoop hL hst,?_⟩
  obtain⟨v1,v2,v3⟩:=k2.turnLoop (st':= .exhausted) (pe':=pe) (m:=m) (fid:=fid') hl hn' hr'
  rw[hπ'] at v1 v2 v3
  have hle3:=(hle02.trans k1).trans v1
  have hbl:Below B E.w (E'.w.putObj E.w.heap.size (.loop { state:= .exhausted,pending:=pe,fn:=fid',tmps:=tm,params:=sp'.params,assign:=sp'.assign,body:=sp'.body,defers:=m })):=by
   refine Below.trans ?_ (k4.trans v2)
   rw[hw2]
   exact(Below.refl B E.w).alloc hs.h.B _
  have hsim:Gl B D0 { E' with w:=E'.w.putObj E.w.heap.size (.loop { state:= .exhausted,pending:=pe,fn:=fid',tmps:=tm,params:=sp'.params,assign:=sp'.assign,body:=sp'.body,defers:=m }) } ⟨s.t,Fg h' s.nx,nx',s.n⟩ { a with defers:=[]++a.defers }:=by
   refine⟨hs.size,hs.df.up hle3.D hle3.blk,λi=>(hs.t i).up hle3,v3.sub λid b hb=>?_,k3⟩
   ·
    rw[Ep] at hb
    by_cases e:s.nx=id
    · rw[if_pos e] at hb;cases hb
    ·
     rw[if_neg e] at hb ⊢
     exact hb
  cases pe with
  |none=>exact⟨_,_,rfl,hk,hsim,hbl⟩
  |some c'=>
   refine Cs ?_ (hk.run _ _ hsim)
   rintro e a3 w3 ⟨s3,E3,rfl,hq3,hs3,hb3⟩
   exact⟨s3,E3,rfl,hq3,hs3,hbl.trans hb3⟩
end Go.Proofs.YthhkfanbmpcmbaaGreatDoor
namespace Go.Proofs.YthhkfanbmpcmbaaGreatDoor
open Go.RowKit
inductive FR where
 |call (c:Bv) (fn:Func)
 |rng (c:Bv) (fn:Func)
 |asg (c:Bv) (sp:Ej)
 |rnd (c:Bv) (sp:Ej)
 |lnt (t:TypeId) (hs:List (TypeId×List AV))
structure MC where
 c:Bv
 f:List FR
def Bv.lsp (c:Bv):Ej:=⟨c.rp,c.ra,c.rb⟩
def QGR (R:Option Nat) (B:Nat) (D0 D1:Aq) (fn:Func) (Q:Exit->St->Prop) (c0:Bv) (sp:Ej):Exit->St->Prop:=yE Tryz.prog R B D0 D1 fn c0.s (λe s=>∃s',Gk B D0 s s'/\KQ Tryz.prog R B D0 Q c0.k e s') sp
def QL (P:Program) (B:Nat) (D0:Aq) (fn:Func) (r:AV) (t:TypeId) (hs:List (TypeId×List AV)):Exit->St->Prop:=λe s=>(e= .ret\/e= .normal)/\∃(V:Value) (us:List Value),r= .tup (.lit V::us.map .lit)/\Lr P B D0 fn s (.lit V)/\Ao s.h 0=some (.box t (us.map .lit))/\∀i,i<hs.length->Ao s.h (i+1)=some (.box (hs.getD i (0,[])).1 (hs.getD i (0,[])).2)
inductive lM (fn0:Func) (r:AV) (B:Nat):List FR->Option Nat->Aq->(Exit->St->Prop)->Prop
 |top (D0:Aq) (h:∀id,D0.A id->id<0):lM fn0 r B [] none D0 (QF Tryz.prog B D0 fn0 r)
 |lnt (t:TypeId) (hs:List (TypeId×List AV)) (D0:Aq) (h:∀id,D0.A id->id<hs.length+1):lM fn0 r B [.lnt t hs] none D0 (QL Tryz.prog B D0 fn0 r t hs)
 |call {fs:List FR} {R:Option Nat} {D:Aq} {Q:Exit->St->Prop} (c:Bv) (fn:Func) (D1:Aq) (hD:∀id,D1.A id->id<c.s.nx) (h:lM fn0 r B fs R D Q):lM fn0 r B (.call c fn::fs) none D1 (fR Tryz.prog B D1 fn λv h nx=>Go Tryz.prog R B D Q (c.back v h nx))
 |rng {fs:List FR} {R:Option Nat} {D:Aq} {Q:Exit->St->Prop} (c:Bv) (fn:Func) (D1:Aq) (hD:∀id,D1.A id->id<c.s.nx+1) (h:lM fn0 r B fs R D Q):lM fn0 r B (.rng c fn::fs) none D1 (QGR R B D D1 fn Q c c.lsp)
 |asg {fs:List FR} {R:Option Nat} {D:Aq} {Q:Exit->St->Prop} (c:Bv) (sp:Ej) (l0:Nat) (D1:Aq) (hD:∀id,D1.A id->id<c.s.nx) (hl:D1.A c.yl/\D1.π c.yl=l0) (h:lM fn0 r B fs R D Q):lM fn0 r B (.asg c sp::fs) (some l0) D1 (QY l0 B D1 sp.body c.yl sp (c.ln c.yl) (QR R B D Q c sp))
 |rnd {fs:List FR} {R:Option Nat} {D:Aq} {Q:Exit->St->Prop} (c:Bv) (sp:Ej) (l0:Nat) (D1:Aq) (hD:∀id,D1.A id->id<c.s.nx) (hl:D1.A c.yl/\D1.π c.yl=l0) (h:lM fn0 r B fs R D Q):lM fn0 r B (.rnd c sp::fs) (some l0) D1 (QR R B D Q c sp)
def TE (fn0:Func) (φ:AV->Prop) (m:MC):Prop:=∃r,φ r/\∀B R D Q,lM fn0 r B m.f R D Q->Go Tryz.prog R B D Q m.c
variable {fn0:Func} {φ:AV->Prop} {c c':Bv} {fs:List FR}
theorem gs (h:∀{R:Option Nat} {B:Nat} {D:Aq} {Q:Exit->St->Prop},Go Tryz.prog R B D Q c'->Go Tryz.prog R B D Q c) (t:TE fn0 φ ⟨c',fs⟩):TE fn0 φ ⟨c,fs⟩:=by
 obtain⟨r,h1,h2⟩:=t
 exact⟨r,h1,λB R D Q hc=>h (h2 B R D Q hc)⟩
theorem Au (n:Nat) (t:TE fn0 φ ⟨run Tryz.prog n c,fs⟩):TE fn0 φ ⟨c,fs⟩:=gs (λh=>Ab n h) t
theorem tcl {f:FuncId} {fn:Func} {x:Code} (hf:Tryz.prog.funcs[f]?=some fn)
  (t:TE fn0 φ ⟨⟨.code x,[],⟨Cz (c.xs.toList.map c.s.ev) 0,c.s.h,c.s.nx,fn.ntmps⟩⟩,.call c fn::fs⟩)
  (hc:fn.body=some x:=by rfl) (ho:c.o.op= .call { callee:= .value (.func f),args:=c.xs,argTypes:=c.ts }:=by kernel_rfl) (hcall:∀(vs:Array Value) w,(callFunc f vs).run Tryz.prog w= .ok (.enter f vs) w:=by intro _ _;kernel_rfl)
  (hle:Nat.ble (c.xs.toList.map c.s.ev).length fn.ntmps=true:=by kernel_rfl) (hok:c.ok=true:=by kernel_rfl) (hg:c.o.guard=none:=by kernel_rfl):TE fn0 φ ⟨c,fs⟩:=by
 obtain⟨r,h1,h2⟩:=t
 exact⟨r,h1,λB R D Q hx=>Ad0 c.s.nx hf (λD1 hD=>h2 _ _ _ _ (.call c fn D1 hD hx)) hc ho hcall hle hok hg rfl⟩
theorem AeV {f:FuncId} {fn:Func} {x:Code} (hf:Tryz.prog.funcs[f]?=some fn)
  (t:TE fn0 φ ⟨⟨.code x,[],⟨Cz (c.xs.toList.map c.s.ev++c.cps) 0,c.s.h,c.s.nx,fn.ntmps⟩⟩,.call c fn::fs⟩)
  (hc:fn.body=some x:=by rfl) (ho:c.o.op= .call { callee:= .value c.fx,args:=c.xs,argTypes:=c.ts }:=by kernel_rfl) (hx:c.s.ev c.fx= .fn f c.cps:=by kernel_rfl) (hcall:∀(vs:Array Value) w,(callFunc f vs).run Tryz.prog w= .ok (.enter f vs) w:=by intro _ _;kernel_rfl)
  (hle:Nat.ble (c.xs.toList.map c.s.ev++c.cps).length fn.ntmps=true:=by kernel_rfl) (hok:c.ok=true:=by kernel_rfl) (hg:c.o.guard=none:=by kernel_rfl):TE fn0 φ ⟨c,fs⟩:=by
 obtain⟨r,h1,h2⟩:=t
 exact⟨r,h1,λB R D Q hy=>cA c.s.nx hf (λD1 hD=>h2 _ _ _ _ (.call c fn D1 hD hy)) hc ho hx hcall hle hok hg rfl⟩
theorem trt {c0:Bv} {fn:Func} (t:TE fn0 φ ⟨c0.back (c.rI Tryz.prog fn) c.s.h c.s.nx,fs⟩) (hv:(Oq Tryz.prog fn c.s).isSome=true:=by kernel_rfl) (hn:c.isE=true:=by kernel_rfl):TE fn0 φ ⟨c,.call c0 fn::fs⟩:=by
 obtain⟨r,h1,h2⟩:=t
 refine⟨r,h1,λB R D Q hx=>?_⟩
 cases hx with
 |call _ _ D1 hD h=>exact vrI (h2 _ _ _ _ h) hv hn
def yls:List FR->Option Nat
 | .asg c _::_=>some c.yl
 | .rnd c _::_=>some c.yl
 |_=>none
def mU:Option Bf->Bool|some (.loop ..)=>true|_=>false
def yok (fs:List FR) (h:De):Bool:=match yls fs with|none=>true|some l=>mU (Ao h l)
theorem bC:∀{o:Option Bf},mU o=true->∃st pe sp t n,o=some (.loop st pe sp t n)
 |some (.loop st pe sp t n),_=>⟨st,pe,sp,t,n,rfl⟩
 |some (.box ..),h=>by cases h
 |some (.vec ..),h=>by cases h
 |none,h=>by cases h
theorem lM.round {r:AV} {B:Nat} {R:Option Nat} {D:Aq} {Q:Exit->St->Prop} (h:lM fn0 r B fs R D Q):(R=none/\yls fs=none)\/∃l0 l,R=some l0/\yls fs=some l/\D.A l/\D.π l=l0:=by
 cases h with
 |top=>exact .inl ⟨rfl,rfl⟩
 |lnt=>exact .inl ⟨rfl,rfl⟩
 |call=>exact .inl ⟨rfl,rfl⟩
 |rng=>exact .inl ⟨rfl,rfl⟩
 |asg c sp l0 D1 hD hl=>exact .inr ⟨l0,_,rfl,rfl,hl.1,hl.2⟩
 |rnd c sp l0 D1 hD hl=>exact .inr ⟨l0,_,rfl,rfl,hl.1,hl.2⟩
theorem trg {f:FuncId} {fn:Func} {x:Code} (hf:Tryz.prog.funcs[f]?=some fn)
  (t:TE fn0 φ ⟨⟨.code x,[],⟨Cz (.yld c.s.nx::c.rc) 0,hset c.s.h c.s.nx (.loop .ready none c.lsp c.s.t c.s.n),c.s.nx+1,fn.ntmps⟩⟩,.rng c fn::fs⟩)
  (hc:fn.body=some x:=by rfl) (hg:c.s.ev c.rg= .fn f c.rc:=by kernel_rfl) (hcall:∀(vs:Array Value) w,(callFunc f vs).run Tryz.prog w= .ok (.enter f vs) w:=by intro _ _;kernel_rfl) (hle:Nat.ble (c.rc.length+1) fn.ntmps=true:=by kernel_rfl) (hR:c.isR=true:=by kernel_rfl) (hy:yok fs c.s.h=true:=by kernel_rfl):TE fn0 φ ⟨c,fs⟩:=by
 obtain⟨r,h1,h2⟩:=t
 refine⟨r,h1,λB R D Q hx=>?_⟩
 have key:=λD1 (hD:∀id,D1.A id->id<c.s.nx+1)=>h2 B none D1 _ (.rng c fn D1 hD hx)
 obtain⟨m,k,s⟩:=c
 unfold Bv.isR at hR
 split at hR
 rename_i g ps asg bd hm
 cases hm
 rcases hx.round with⟨rfl,_⟩|⟨l0,l,rfl,h3,h4⟩
 exact⟨cF (wI f _ fn.ntmps hg hcall hf hc rfl hle λsp e1 e2 e3 D1 hD=>by
  obtain⟨a,b,d⟩:=sp
  cases e1;cases e2;cases e3
  exact(key D1 hD).m)⟩
 unfold yok at hy
 dsimp only at h3
 rw[h3] at hy
 obtain⟨st,pe,sp,t,n,hlp⟩:=bC hy
 exact⟨cF (qV l0 l h4 hlp f _ fn.ntmps hg hcall hf hc rfl hle λD1 hD=>(key D1 hD).m)⟩
 cases hR
theorem AgV {R:Option Nat} {B:Nat} {D0:Aq} {Q:Exit->St->Prop} {c0:Bv} {D1:Aq} {fn:Func} {sp:Ej} (h:Go Tryz.prog R B D0 Q (c0.af c)) (hl:Ao c.s.h c0.s.nx=some (.loop (c.lst c0.s.nx) (c.lpe c0.s.nx) sp (c.lt c0.s.nx) (c.ln c0.s.nx)):=by kernel_rfl) (hb:pY (c.lst c0.s.nx)=true:=by kernel_rfl) (hv:(Oq Tryz.prog fn c.s).isSome=true:=by kernel_rfl) (hn:c.isE=true:=by kernel_rfl):Go Tryz.prog none B D1 (QGR R B D0 D1 fn Q c0 sp) c:=by
 refine vrI (K:=λ_ h' nx'=>∃st pe sp t' n',Ao h' c0.s.nx=some (.loop st pe sp t' n')/\st≠.busy/\match pe with
  |none=>∃s',Gk B D0 ⟨c0.s.t,Fg h' c0.s.nx,nx',c0.s.n⟩ s'/\KQ Tryz.prog R B D0 Q c0.k .normal s'
  |some x=>AC Tryz.prog R B D0 x ⟨c0.s.t,Fg h' c0.s.nx,nx',c0.s.n⟩ (λe s=>∃s',Gk B D0 s s'/\KQ Tryz.prog R B D0 Q c0.k e s')) ⟨_,_,_,_,_,hl,(λe=>by rw[e] at hb;cases hb),?_⟩ hv hn
 unfold Bv.af at h
 generalize c.lpe c0.s.nx=pe at h
 cases pe with
 |none=>exact h.m
 |some x=>exact cE h.m λe s hq=>⟨s,Gk.refl s,hq⟩
theorem tyl {sp:Ej} (t:TE fn0 φ ⟨⟨.code sp.assign,[],⟨Zm sp.params.toList (c.xs.toList.map c.s.ev) (c.lt c.yl),c.s.h,c.s.nx,c.ln c.yl⟩⟩,.asg c sp::fs⟩)
  (ho:c.o.op= .call { callee:= .value c.fx,args:=c.xs,argTypes:=c.ts }:=by kernel_rfl) (hx:c.s.ev c.fx= .yld c.yl:=by kernel_rfl) (hl:Ao c.s.h c.yl=some (.loop .ready none sp (c.lt c.yl) (c.ln c.yl)):=by kernel_rfl) (hpb:psB sp.params (c.xs.toList.map c.s.ev).length (c.ln c.yl)=true:=by kernel_rfl) (hok:c.ok=true:=by kernel_rfl):TE fn0 φ ⟨c,fs⟩:=by
 obtain⟨r,h1,h2⟩:=t
 exact⟨r,h1,λB R D Q hy=>vyl c.s.nx rfl rfl rfl (λl0 D1 hD hl0=>h2 _ _ _ _ (.asg c sp l0 D1 hD hl0 hy)) ho hx hl hpb hok rfl⟩
theorem tyb {c0:Bv} {sp:Ej} (t:TE fn0 φ ⟨⟨.code sp.body,[],⟨c.s.t,hset c.s.h c0.yl (.loop .busy none sp (c.lt c0.yl) (c0.ln c0.yl)),c.s.nx,c.s.n⟩⟩,.rnd c0 sp::fs⟩) (hl:Ao c.s.h c0.yl=some (.loop .ready none sp (c.lt c0.yl) (c0.ln c0.yl)):=by kernel_rfl) (hn:c.isN=true:=by kernel_rfl) (hk:c.isNil=true:=by kernel_rfl):TE fn0 φ ⟨c,.asg c0 sp::fs⟩:=by
 obtain⟨r,h1,h2⟩:=t
 refine⟨r,h1,λB R D Q hx=>?_⟩
 cases hx with
 |asg _ _ l0 D1 hD hl0 h=>exact vrb (h2 _ _ _ _ (.rnd c0 sp l0 D hD hl0 h)) hl hn hk
theorem tye {c0:Bv} {sp:Ej} (t:TE fn0 φ ⟨⟨.ops c0.a c0.l.tail,c0.k,⟨Iz c0.s.t c0.o.dst (.bool (rdB c.e)),hset c.s.h c0.yl (.loop (rdS c.e) (rdC c.e) sp (c.lt c0.yl) (c0.ln c0.yl)),c.s.nx,c0.s.n⟩⟩,fs⟩) (hl:Ao c.s.h c0.yl=some (.loop .busy none sp (c.lt c0.yl) (c0.ln c0.yl)):=by kernel_rfl) (hX:c.isX=true:=by kernel_rfl) (hk:c.isNil=true:=by kernel_rfl):TE fn0 φ ⟨c,.rnd c0 sp::fs⟩:=by
 obtain⟨r,h1,h2⟩:=t
 refine⟨r,h1,λB R D Q hx=>?_⟩
 cases hx with
 |rnd _ _ l0 D1 hD hl0 h=>exact vre (h2 _ _ _ _ h) hl hX hk
def Bv.lin (c:Bv):Bv:=⟨.code c.lb,.il c.lb::c.k,c.s⟩
theorem vlo {P:Program} {R:Option Nat} {B:Nat} {D0:Aq} {Q:Exit->St->Prop} (h:Go P R B D0 Q c.lin) (hl:c.isL=true:=by kernel_rfl):Go P R B D0 Q c:=by
 obtain⟨m,k,s⟩:=c
 unfold Bv.isL at hl
 split at hl
 rename_i b hm
 cases hm
 exact⟨wH (aD h.m)⟩
 cases hl
theorem Mj {r:AV} (h:φ r) (hv:Xd Tryz.prog fn0 c.s=some r:=by kernel_rfl) (hn:c.isE=true:=by kernel_rfl):TE fn0 φ ⟨c,[]⟩:=
 ⟨r,h,λB R D Q hx=>by cases hx with|top D0 h=>exact Cy hv hn⟩
theorem Di {f:FuncId} {fn:Func} {args:List AV} (hf:Tryz.prog.funcs[f]?=some fn) {x:Code} (hc:fn.body=some x:=by rfl) (t:TE fn φ ⟨⟨.code x,[],⟨Cz args 0,[],0,fn.ntmps⟩⟩,[]⟩) (hle:Nat.ble args.length fn.ntmps=true:=by kernel_rfl):∃r,φ r/\AF Tryz.prog f args r:=by
 obtain⟨r,h1,h2⟩:=t
 exact⟨r,h1,As hf hc (λB D0 hD=>h2 B none D0 _ (.top D0 hD)) hle⟩
end Go.Proofs.YthhkfanbmpcmbaaGreatDoor
namespace Go.Proofs.YthhkfanbmpcmbaaGreatDoor
open Go.RowKit
variable {fn0:Func} {φ:AV->Prop} {c:Bv} {fs:List FR}
theorem tkn (d:Nat) (b v:Bool) (hb:b=v) (t:TE fn0 φ ⟨c.add d v,fs⟩) (hd:Bo c.s.t d= .bool b:=by kernel_rfl):TE fn0 φ ⟨c,fs⟩:=gs (λh=>Lj d b v hb h hd) t
theorem tsb (d:Nat) (b:Bool) (h1:b=true->TE fn0 φ ⟨c.add d true,fs⟩) (h2:b=false->TE fn0 φ ⟨c.add d false,fs⟩) (hd:Bo c.s.t d= .bool b:=by kernel_rfl):TE fn0 φ ⟨c,fs⟩:=
 Hw b (λh=>tkn d b true h (h1 h) hd) (λh=>tkn d b false h (h2 h) hd)
theorem AgQ (d:Nat) (b:Bool) (h1:b=true->TE fn0 φ ⟨c.add d false,fs⟩) (h2:b=false->TE fn0 φ ⟨c.add d true,fs⟩) (hd:Bo c.s.t d= .bool (!b):=by kernel_rfl):TE fn0 φ ⟨c,fs⟩:=
 Hw b (λh=>tkn d (!b) false (by rw[h];rfl) (h1 h) hd) (λh=>tkn d (!b) true (by rw[h];rfl) (h2 h) hd)
theorem jZ (d:Nat) (p:Prop) [Decidable p] (h1:decide p=true->p->TE fn0 φ ⟨c.add d true,fs⟩) (h2:decide p=false->¬p->TE fn0 φ ⟨c.add d false,fs⟩) (hd:Bo c.s.t d= .bool (decide p):=by kernel_rfl):TE fn0 φ ⟨c,fs⟩:=
 tsb d (decide p) (λh=>h1 h (of_decide_eq_true h)) (λh=>h2 h (of_decide_eq_false h)) hd
theorem AeW (d:Nat) (p:Prop) [Decidable p] (h1:decide p=true->p->TE fn0 φ ⟨c.add d false,fs⟩) (h2:decide p=false->¬p->TE fn0 φ ⟨c.add d true,fs⟩) (hd:Bo c.s.t d= .bool (!decide p):=by kernel_rfl):TE fn0 φ ⟨c,fs⟩:=
 AgQ d (decide p) (λh=>h1 h (of_decide_eq_true h)) (λh=>h2 h (of_decide_eq_false h)) hd
def Bv.rnd (c:Bv) (s:St):Bv:=⟨.code c.lb,.il c.lb::c.k,s⟩
theorem AgT {P:Program} {R:Option Nat} {B:Nat} {D0:Aq} {Q:Exit->St->Prop} (keep:List Nat) (h:Go P R B D0 Q (c.rnd (Ma keep c.s))) (hl:c.isL=true):Go P R B D0 Q c:=by
 refine Fv _ (Hd keep c.s) (vlo (c:=⟨c.m,c.k,Ma keep c.s⟩) ?_ ?_)
 exact h
 exact hl
theorem tlp (keep:List Nat) (I:Nat->St->Prop) (m:Nat) (h0:I m (Ma keep c.s)) (h:∀m s,I m s->(∀m' s',m'<m->I m' s'->TE fn0 φ ⟨c.rnd s',fs⟩)->TE fn0 φ ⟨c.rnd s,fs⟩) (hl:c.isL=true:=by kernel_rfl):TE fn0 φ ⟨c,fs⟩:=by
 have key:∀n m s,m<n->I m s->TE fn0 φ ⟨c.rnd s,fs⟩:=λn=>by
  induction n with
  |zero=>intro m s h1;exact absurd h1 (Nat.not_lt_zero _)
  |succ n ih=>intro m s h1 h2;exact h m s h2 λm' s' h3 h4=>ih m' s' ω h4
 exact gs (λh=>AgT keep h hl) (key (m+1) m _ (Nat.lt_succ_self m) h0)
def Bv.ib (c:Bv):Code:=match c.k with| .il b::_=>b|_=> .skip
def Bv.isNI (c:Bv):Bool:=match c.m,c.k with| .out .normal,.il _::_=>true|_,_=>false
def Bv.nxt (c:Bv) (s:St):Bv:=⟨.code c.ib,c.k,s⟩
theorem Age {P:Program} {R:Option Nat} {B:Nat} {D0:Aq} {Q:Exit->St->Prop} (s':St) (hw:Gk B D0 c.s s') (h:Go P R B D0 Q (c.nxt s')) (hn:c.isNI=true):Go P R B D0 Q c:=by
 refine Fv s' hw ?_
 obtain⟨m,k,s⟩:=c
 unfold Bv.isNI at hn
 split at hn
 rename_i h1 h2
 dsimp only at h1 h2
 subst h1;subst h2
 exact Abl _ h
 cases hn
theorem trd (keep:List Nat) {m:MC} (t:TE fn0 φ m) (hm:(⟨c.nxt (Ma keep c.s),fs⟩:MC)=m:=by kernel_rfl) (hn:c.isNI=true:=by kernel_rfl):TE fn0 φ ⟨c,fs⟩:=by
 subst hm
 exact gs (λh=>Age _ (Hd keep c.s) h hn) t
def bnd:List FR->Nat
 |[]=>0
 | .call c _::_=>c.s.nx
 | .rng c _::_=>c.s.nx+1
 | .asg c _::_=>c.s.nx
 | .rnd c _::_=>c.s.nx
 | .lnt _ hs::_=>hs.length+1
theorem lM.bnd {r:AV} {B:Nat} {R:Option Nat} {D:Aq} {Q:Exit->St->Prop} (h:lM fn0 r B fs R D Q):∀id,D.A id->id<YthhkfanbmpcmbaaGreatDoor.bnd fs:=by
 cases h with
 |top D0 h=>exact λid hi=>h id hi
 |lnt t hs D0 h=>exact h
 |call c fn D1 hD h=>exact hD
 |rng c fn D1 hD h=>exact hD
 |asg c sp l0 D1 hD hl h=>exact hD
 |rnd c sp l0 D1 hD hl h=>exact hD
theorem Ads (keep:List Nat) (ρ:List (Nat×Nat)) (nx:Nat) (L:yQ) (hfl:pE L) {m:MC} (t:TE fn0 φ m) (hv:bW c.s.h=L:=by kernel_rfl) (hm:(⟨c.nxt ⟨mapT (Ta ρ) (Ma keep c.s).t,AaU ρ c.s.h,nx,c.s.n⟩,fs⟩:MC)=m:=by kernel_rfl) (hd:Qn (ρ.map (·.2))=true:=by kernel_rfl) (hd1:Qn (ρ.map (·.1))=true:=by kernel_rfl) (hl:(ρ.all λp=>(Ao c.s.h p.1).isSome&&Nat.blt p.2 nx)=true:=by kernel_rfl) (hk0:(Nat.ble (bnd fs) nx&&ρ.all λp=>Nat.beq p.1 p.2||Nat.ble (bnd fs) p.2)=true:=by kernel_rfl) (hn:c.isNI=true:=by kernel_rfl):TE fn0 φ ⟨c,fs⟩:=by
 subst hm
 obtain⟨r,h1,h2⟩:=t
 exact⟨r,h1,λB R D Q hx=>Age _ (Gk.trans (Hd keep c.s) λE a hs'=>qG (s:=Ma keep c.s) ρ nx (bnd fs) hx.bnd _ rfl hd hd1 hl hk0 (Ou hv hfl) E a hs') (h2 B R D Q hx) hn⟩
theorem AgO {f:FuncId} {fn:Func} {x:Code} (hf:Tryz.prog.funcs[f]?=some fn)
 (t:∀sp:Ej,sp.params=c.rp->sp.assign=c.ra->sp.body=c.rb->TE fn0 φ ⟨⟨.code x,[],⟨Cz (.yld c.s.nx::c.rc) 0,hset c.s.h c.s.nx (.loop .ready none sp c.s.t c.s.n),c.s.nx+1,fn.ntmps⟩⟩,.rng c fn::fs⟩)
 (hc:fn.body=some x:=by rfl) (hg:c.s.ev c.rg= .fn f c.rc:=by kernel_rfl) (hcall:∀(vs:Array Value) w,(callFunc f vs).run Tryz.prog w= .ok (.enter f vs) w:=by intro _ _;kernel_rfl) (hle:Nat.ble (c.rc.length+1) fn.ntmps=true:=by kernel_rfl) (hR:c.isR=true:=by kernel_rfl) (hy:yok fs c.s.h=true:=by kernel_rfl):TE fn0 φ ⟨c,fs⟩:=trg hf (t _ rfl rfl rfl) hc hg hcall hle hR hy
theorem Adu {sp:Ej} {ps:Array Tmp} {asg:Code} (hps:sp.params=ps) (has:sp.assign=asg) (t:TE fn0 φ ⟨⟨.code asg,[],⟨Zm ps.toList (c.xs.toList.map c.s.ev) (c.lt c.yl),c.s.h,c.s.nx,c.ln c.yl⟩⟩,.asg c sp::fs⟩)
  (ho:c.o.op= .call { callee:= .value c.fx,args:=c.xs,argTypes:=c.ts }:=by kernel_rfl) (hx:c.s.ev c.fx= .yld c.yl:=by kernel_rfl) (hl:Ao c.s.h c.yl=some (.loop .ready none sp (c.lt c.yl) (c.ln c.yl)):=by kernel_rfl) (hpb:psB ps (c.xs.toList.map c.s.ev).length (c.ln c.yl)=true:=by kernel_rfl) (hok:c.ok=true:=by kernel_rfl):TE fn0 φ ⟨c,fs⟩:=by
 subst hps;subst has
 exact tyl t ho hx hl hpb hok
theorem Adt {c0:Bv} {sp:Ej} {bd:Code} (hbd:sp.body=bd) (t:TE fn0 φ ⟨⟨.code bd,[],⟨c.s.t,hset c.s.h c0.yl (.loop .busy none sp (c.lt c0.yl) (c0.ln c0.yl)),c.s.nx,c.s.n⟩⟩,.rnd c0 sp::fs⟩) (hl:Ao c.s.h c0.yl=some (.loop .ready none sp (c.lt c0.yl) (c0.ln c0.yl)):=by kernel_rfl) (hn:c.isN=true:=by kernel_rfl) (hk:c.isNil=true:=by kernel_rfl):TE fn0 φ ⟨c,.asg c0 sp::fs⟩:=by
 subst hbd
 exact tyb t hl hn hk
theorem AgP {c0:Bv} {fn:Func} (t:TE fn0 φ ⟨c0.af c,fs⟩) (hl:mU (Ao c.s.h c0.s.nx)=true:=by kernel_rfl) (hb:pY (c.lst c0.s.nx)=true:=by kernel_rfl) (hv:(Oq Tryz.prog fn c.s).isSome=true:=by kernel_rfl) (hn:c.isE=true:=by kernel_rfl):TE fn0 φ ⟨c,.rng c0 fn::fs⟩:=by
 obtain⟨r,h1,h2⟩:=t
 refine⟨r,h1,λB R D Q hx=>?_⟩
 obtain⟨st,pe,sp,t,n,hlp⟩:=bC hl
 have hlp:Ao c.s.h c0.s.nx=some (.loop (c.lst c0.s.nx) (c.lpe c0.s.nx) sp (c.lt c0.s.nx) (c.ln c0.s.nx)):=by
  unfold Bv.lst Bv.lpe Bv.lt Bv.ln
  rw[hlp]
 cases hx with
 |rng _ _ D1 hD h=>exact AgV (sp:=sp) (h2 _ _ _ _ h) hlp hb hv hn
abbrev w64 (n:Int):Int:=IntKind.wrap .i64 n
theorem AaK {P:Program} {B:Nat} {D0:Aq} {o:Oper} {ev:Operand->AV} {pre:Nat->Option Bf} (T T':TypeId) (x y:Operand) (ho:o.op= .binOp .quo T x y T') (a b:Int) (hx:ev x= .int a) (hy:ev y= .int b) (hb:b≠0):Dl P B D0 o ev pre (.int (w64 (a.tdiv b))) .none:=by
 refine Bj (.inl rfl) λE a' c _ _ hv=>⟨.int .i64 (w64 (a.tdiv b)),?_,.lit _ _⟩
 have h1:=hv x (by simp[ho,Op.operands])
 have h2:=hv y (by simp[ho,Op.operands])
 rw[hx] at h1
 rw[hy] at h2
 simp only[execOp,ho]
 rw[h1.lit_inv,h2.lit_inv]
 simp[eqGuard,binOp,Op.intDiv,hb]
def _root_.Go.Oper.bX (o:Oper):Operand:=match o.op with| .binOp _ _ x _ _=>x|_=>default
def _root_.Go.Oper.bY (o:Oper):Operand:=match o.op with| .binOp _ _ _ y _=>y|_=>default
def _root_.Go.Oper.bT (o:Oper):TypeId:=match o.op with| .binOp _ t _ _ _=>t|_=>0
def _root_.Go.Oper.bU (o:Oper):TypeId:=match o.op with| .binOp _ _ _ _ t=>t|_=>0
theorem AgU {P:Program} {R:Option Nat} {B:Nat} {D0:Aq} {Q:Exit->St->Prop} (a b:Int) (hb:b≠0) (hk:Go P R B D0 Q (c.put (.int (w64 (a.tdiv b))) .none)) (ho:c.o.op= .binOp .quo c.o.bT c.o.bX c.o.bY c.o.bU:=by kernel_rfl) (hx:c.s.ev c.o.bX= .int a:=by kernel_rfl) (hy:c.s.ev c.o.bY= .int b:=by kernel_rfl) (hok:c.ok=true:=by kernel_rfl):Go P R B D0 Q c:=
 Xf _ .none (AaK _ _ _ _ ho a b hx hy hb) hk hok rfl
theorem kbE {P:Program} {B:Nat} {D0:Aq} {o:Oper} {ev:Operand->AV} {pre:Nat->Option Bf} {b v:Bool} {f:Bk} (hb:b=v) (h:evG P o ev pre 0=some (.bool b,f):=by kernel_rfl):Dl P B D0 o ev pre (.bool v) f:=hb▸Rb h
inductive SK where|b|i|s
inductive SC where|one (k:SK)|agg (l:List SK)
def shK:SK->Value->Bool
 | .b,.bool _=>true
 | .i,.int .i64 _=>true
 | .s,.string _=>true
 |_,_=>false
def shL:List SK->List Value->Bool
 |[],[]=>true
 |k::l,v::vs=>shK k v&&shL l vs
 |_,_=>false
def shC:SC->Value->Bool
 | .one k,v=>shK k v
 | .agg l,.agg a=>shL l a.toList
 |_,_=>false
def AeQ:List SC->List Value->Bool
 |[],[]=>true
 |k::l,v::vs=>shC k v&&AeQ l vs
 |_,_=>false
def shV:List SC->Value->Bool
 |[c],v=>shC c v
 |l,.tuple a=>AeQ l a.toList
 |_,_=>false
def shA (σ:List SC):AV->Bool
 | .lit v=>shV σ v
 |_=>false
def Shd (σ:List SC) (r:AV):Prop:=shA σ r=true
def gB:Value->Bool| .bool b=>b|_=>false
def gI:Value->Int| .int _ n=>n|_=>0
def gS:Value->ByteArray| .string s=>s|_=>ByteArray.empty
def gT:Value->Nat->Value
 | .tuple a,i=>a.toList.getD i undef
 | .agg a,i=>a.toList.getD i undef
 |_,_=>undef
def noK:SK->Value->Value
 | .b,v=> .bool (gB v)
 | .i,v=> .int .i64 (gI v)
 | .s,v=> .string (gS v)
theorem AaE:∀(k:SK) (v:Value),shK k v=true->noK k v=v
 | .b,.bool _,_=>rfl
 | .i,.int .i64 _,_=>rfl
 | .s,.string _,_=>rfl
def noL:List SK->Value->Nat->List Value
 |[],_,_=>[]
 |k::l,v,i=>noK k (gT v i)::noL l v (i+1)
def noC:SC->Value->Value
 | .one k,v=>noK k v
 | .agg l,v=> .agg (noL l v 0).toArray
def uC:List SC->Value->Nat->List Value
 |[],_,_=>[]
 |k::l,v,i=>noC k (gT v i)::uC l v (i+1)
def noV:List SC->Value->Value
 |[c],v=>noC c v
 |l,v=> .tuple (uC l v 0).toArray
theorem AaF {v:Value} {a:List Value} (hv:∀i,gT v i=a.getD i undef):∀(l:List SK) (i:Nat),shL l (a.drop i)=true->noL l v i=a.drop i
 |[],i,h=>by
  cases hd:a.drop i with
  |nil=>rfl
  |cons x y=>rw[hd] at h;cases h
 |k::l,i,h=>by
  cases hd:a.drop i with
  |nil=>rw[hd] at h;cases h
  |cons x y=>
   rw[hd] at h
   obtain⟨h1,h2⟩:=Bool.and_eq_true_iff.1 h
   have hy:y=a.drop (i+1):=by rw[<-List.drop_drop,hd];rfl
   have hx:gT v i=x:=by
    rw[hv i]
    have:(a.drop i)[0]?=some x:=by rw[hd];rfl
    rw[List.getElem?_drop] at this
    simp only[Nat.add_zero] at this
    simp[List.getD_eq_getElem?_getD,this]
   unfold noL
   rw[hx,AaE k x h1,AaF hv l (i+1) (by rw[<-hy];exact h2),<-hy]
theorem AaD:∀(c:SC) (v:Value),shC c v=true->noC c v=v
 | .one k,v,h=>AaE k v h
 | .agg l,.agg a,h=>by
  have:=AaF (v:= .agg a) (a:=a.toList) (λ_=>rfl) l 0 (by simpa [shC] using h)
  show Value.agg (noL l (.agg a) 0).toArray=_
  rw[this];simp
theorem dX {v:Value} {a:List Value} (hv:∀i,gT v i=a.getD i undef):∀(l:List SC) (i:Nat),AeQ l (a.drop i)=true->uC l v i=a.drop i
 |[],i,h=>by
  cases hd:a.drop i with
  |nil=>rfl
  |cons x y=>rw[hd] at h;cases h
 |k::l,i,h=>by
  cases hd:a.drop i with
  |nil=>rw[hd] at h;cases h
  |cons x y=>
   rw[hd] at h
   obtain⟨h1,h2⟩:=Bool.and_eq_true_iff.1 h
   have hy:y=a.drop (i+1):=by rw[<-List.drop_drop,hd];rfl
   have hx:gT v i=x:=by
    rw[hv i]
    have:(a.drop i)[0]?=some x:=by rw[hd];rfl
    rw[List.getElem?_drop] at this
    simp only[Nat.add_zero] at this
    simp[List.getD_eq_getElem?_getD,this]
   unfold uC
   rw[hx,AaD k x h1,dX hv l (i+1) (by rw[<-hy];exact h2),<-hy]
theorem Ae6:∀(l:List SC) (v:Value),shV l v=true->noV l v=v
 |[c],v,h=>AaD c v h
 |[],.tuple a,h=>by
  have:=dX (v:= .tuple a) (a:=a.toList) (λ_=>rfl) [] 0 (by simpa [shV] using h)
  show Value.tuple (uC [] (.tuple a) 0).toArray=_
  rw[this];simp
 |c1::c2::l,.tuple a,h=>by
  have:=dX (v:= .tuple a) (a:=a.toList) (λ_=>rfl) (c1::c2::l) 0 (by simpa [shV] using h)
  show Value.tuple (uC (c1::c2::l) (.tuple a) 0).toArray=_
  rw[this];simp
noncomputable def chP (f:FuncId) (σ:List SC) (args:List AV) (ψ:AV->Prop):Value:=Classical.epsilon λv=>(shV σ v=true/\ψ (.lit v))/\AF Tryz.prog f args (.lit v)
theorem oZ {f:FuncId} {σ:List SC} {args:List AV} {ψ:AV->Prop} (h:∃r,(Shd σ r/\ψ r)/\AF Tryz.prog f args r):AF Tryz.prog f args (.lit (noV σ (chP f σ args ψ)))/\ψ (.lit (noV σ (chP f σ args ψ))):=by
 obtain⟨r,⟨h1,h3⟩,h2⟩:=h
 have key:∃v,(shV σ v=true/\ψ (.lit v))/\AF Tryz.prog f args (.lit v):=by
  cases r with
  |lit v=>exact⟨v,⟨h1,h3⟩,h2⟩
  |_=>cases h1
 obtain⟨⟨h3,h5⟩,h4⟩:=Classical.epsilon_spec key
 unfold chP
 rw[Ae6 σ _ h3]
 exact⟨h4,h5⟩
theorem qN {σ:List SC} {ψ:AV->Prop} (V:AV) (h:ψ V) (hs:shA σ V=true:=by kernel_rfl) (hv:Xd Tryz.prog fn0 c.s=some V:=by kernel_rfl) (hn:c.isE=true:=by kernel_rfl):TE fn0 (λr=>Shd σ r/\ψ r) ⟨c,[]⟩:=Mj ⟨hs,h⟩ hv hn
end Go.Proofs.YthhkfanbmpcmbaaGreatDoor
namespace Go.Proofs.YthhkfanbmpcmbaaGreatDoor
open Go.Proofs.Tryz
open Go.RowKit
abbrev Dh (n:Nat):AV:= .slc 1 (Aj n).length λi=> .lit (.int .u64 (dg (Aj n) i:Int))
abbrev Em (b:Bool) (n:Nat):AV:= .agg [.bool b,Dh n]
theorem vO (l:List Nat) {i:Nat} (h:i<l.length):(Ft l).getD i undef= .int .u64 (dg l i:Int):=by
 rw[List.getD_eq_getElem?_getD,Cu l i h];rfl
theorem Ku {E':Aq} {w':World} {lo hi n:Nat} {v:Value} (h:Bg w' lo hi v n) (hw:E'.w=w') (hD:∀b,lo<=b->b<hi->E'.D b):VR E' (Dh n) v:=by
 have h1:=h.2
 obtain⟨A,c,rfl⟩:=h.1.slice
 refine .slc _ _ _ _ _ _ h1 (Vv h.1 hw (λb hb=>hD b hb.1 hb.2) λi j hi hj=>?_)
 obtain rfl:j=0:=by omega
 rw[Nat.mul_one,Nat.add_zero,vO _ hi]
 exact .lit _ _
theorem eT {E:Aq} {e n:Nat} {f:Nat->AV} {v:Value} (h:VR E (.slc e n f) v):∃a c,v= .slice a n c/\n<=c/\VR E (.sl e n f) v:=by
 cases h with
 |slc _ _ _ _ a c hnc h=>exact⟨a,c,rfl,hnc,h⟩
theorem nS {E:Aq} {e n:Nat} {f:Nat->AV} {v:Value} (h:VR E (.sl e n f) v):(n=0/\∃a c,v= .slice a 0 c)\/∃b q c,∃us:Nat->Nat->Value,v= .slice (some ⟨b,q,none⟩) n c/\E.D b/\(∀i j,i<n->j<e->E.w.cell? ⟨b,q+i*e+j,none⟩=some (us i j))/\∀i j,i<n->j<e->VR E.fz ((f i).cell j) (us i j):=by
 cases h with
 |sl0 _ _ _ a c=>exact .inl ⟨rfl,a,c,rfl⟩
 |sl _ _ _ _ b q c us hn hD hc hr=>exact .inr ⟨b,q,c,us,rfl,hD,hc,hr⟩
theorem Jz {E:Aq} {n:Nat} {v:Value} (hb:∀b,E.D b->b<E.w.heap.size) (h:VR E.fz (Dh n) v):∃lo hi,Bg E.w lo hi v n/\hi<=E.w.heap.size/\∀b,lo<=b->b<hi->E.D b:=by
 obtain⟨a,c,rfl,hnc,h⟩:=eT h
 rcases nS h with⟨h0,a',c',e⟩|⟨b,q,c',us,e,hD,hc,hr⟩
 exact⟨0,0,⟨⟨by rw[Cf,Nat.mul_one],.inl ⟨a,c,by rw[h0],h0⟩⟩,hnc⟩,Nat.zero_le _,λb _ h=>absurd h (Nat.not_lt_zero b)⟩
 cases e
 refine⟨b,b+1,⟨⟨by rw[Cf,Nat.mul_one],.inr ⟨b,q,c,rfl,⟨Nat.le_refl _,Nat.lt_succ_self _⟩,λj u hu=>?_⟩⟩,hnc⟩,hb b hD,λb' h1 h2=>?_⟩
 have hj:j<(Aj n).length:=by rw[<-Cf];exact(List.getElem?_eq_some_iff.1 hu).1
 have h1:=hc j 0 hj ω
 have h2:=hr j 0 hj ω
 rw[Nat.mul_one,Nat.add_zero] at h1
 have h3:us j 0= .int .u64 (dg (Aj n) j:Int):=VR.lit_inv h2
 rw[h3] at h1
 rw[Cu _ _ hj] at hu
 cases hu
 exact h1
 obtain rfl:b'=b:=by omega
 exact hD
theorem AdT {f:FuncId} {args args':List AV} {r r':AV} (h:AF Tryz.prog f args r) (hl:args'.length=args.length) (ha:∀i,i<args.length->∀E v,VR E (args'.getD i .top) v->VR E (args.getD i .top) v) (hr:∀E v,VR E r v->VR E r' v):AF Tryz.prog f args' r':=λE vs hD hn hv=>by
 refine Calls.mono (h E vs hD ω λi hi=>ha i hi _ _ (hv i ω)) ?_
 rintro e w' ⟨v,D',h1,h2,h3⟩
 exact⟨v,D',h1,hr _ _ h2,h3⟩
theorem AdY {vs:Array Value} (h:vs.size=1):vs=#[vs.getD 0 undef]:=by
 obtain⟨l⟩:=vs
 match l,h with
 |[a],_=>rfl
theorem yV {vs:Array Value} (h:vs.size=2):vs=#[vs.getD 0 undef,vs.getD 1 undef]:=by
 obtain⟨l⟩:=vs
 match l,h with
 |[a,b],_=>rfl
theorem Vo (n m:Nat):(Aj (n*m)).length<=(Aj n).length+(Aj m).length:=Cr (by rw[Nat.pow_add];exact Nat.mul_lt_mul'' Pc Pc)
theorem pM (n m:Nat):(Aj (n+m)).length<=(Aj n).length+(Aj m).length+1:=by
 refine Cr ?_
 have h1:=@Pc n
 have h2:=@Pc m
 have h3:Bw^(Aj n).length<=Bw^((Aj n).length+(Aj m).length):=Nat.pow_le_pow_right (by rw[Kz];decide) ω
 have h4:Bw^(Aj m).length<=Bw^((Aj n).length+(Aj m).length):=Nat.pow_le_pow_right (by rw[Kz];decide) ω
 rw[Nat.pow_succ]
 have h5:2<=Bw:=by rw[Kz];decide
 have h6:=Nat.mul_le_mul_left (Bw^((Aj n).length+(Aj m).length)) h5
 omega
theorem dU (n m:Nat):(Aj (n-m)).length<=(Aj n).length:=Eu (Nat.sub_le _ _)
theorem Vn (n m:Nat):(Aj (n/m)).length<=(Aj n).length:=Eu (Nat.div_le_self _ _)
theorem Ac1 {n m:Nat} (h:0<m):(Aj (Nat.gcd n m)).length<=(Aj m).length:=Eu (Nat.gcd_le_right n h)
theorem Ac2 (n s:Nat):(Aj (n*2^s)).length<=(Aj n).length+(s/64+1):=by
 refine Nat.le_trans (Vo _ _) (Nat.add_le_add_left (Cr ?_) _)
 rw[Kz,show (18446744073709551616:Nat)=2^64 by decide,<-Nat.pow_mul]
 exact Nat.pow_lt_pow_right δ ω
theorem oI (n m:Nat) (hn:(Aj n).length<=900000) (hm:(Aj m).length<=900000):AF Tryz.prog 207 [Dh n,Dh m] (Dh (n+m)):=Og λE vs hD hsz hv=>by
 obtain⟨l0,u0,h0,g0,d0⟩:=Jz hD (hv 0 (by simp))
 obtain⟨l1,u1,h1,g1,d1⟩:=Jz hD (hv 1 (by simp))
 rw[yV hsz]
 refine(AbY n m _ _ l0 u0 l1 u1 E.w h0 h1 g0 g1 ω ω).mono ?_
 rintro e w' ⟨v',rfl,h2,hb⟩
 exact⟨v',rfl,hb,λE' hw h3 h4=>Ku h2 hw λb p q=>h4 b p q⟩
theorem cK (n m:Nat) (hn:(Aj n).length<=900000) (_:(Aj m).length<=900000) (hle:m<=n):AF Tryz.prog 209 [Dh n,Dh m] (Dh (n-m)):=Og λE vs hD hsz hv=>by
 obtain⟨l0,u0,h0,g0,d0⟩:=Jz hD (hv 0 (by simp))
 obtain⟨l1,u1,h1,g1,d1⟩:=Jz hD (hv 1 (by simp))
 rw[yV hsz]
 refine(Tf n m _ _ l0 u0 l1 u1 E.w h0 h1 g0 g1 ω hle).mono ?_
 rintro e w' ⟨v',rfl,h2,hb⟩
 exact⟨v',rfl,hb,λE' hw h3 h4=>Ku h2 hw λb p q=>h4 b p q⟩
theorem AbN (n m:Nat) (hn:(Aj n).length<=400000) (hm:(Aj m).length<=400000):AF Tryz.prog 227 [Dh n,Dh m] (Dh (n*m)):=Og λE vs hD hsz hv=>by
 obtain⟨l0,u0,h0,g0,d0⟩:=Jz hD (hv 0 (by simp))
 obtain⟨l1,u1,h1,g1,d1⟩:=Jz hD (hv 1 (by simp))
 rw[yV hsz]
 refine(dV n m _ _ l0 u0 l1 u1 E.w h0 h1 g0 g1 ω ω).mono ?_
 rintro e w' ⟨v',rfl,h2,hb⟩
 exact⟨v',rfl,hb,λE' hw h3 h4=>Ku h2 hw λb p q=>h4 b p q⟩
theorem AbO (n s:Nat) (hn:(Aj n).length<=400000) (hs:s<=6400000):AF Tryz.prog 181 [Dh n,.int (s:Int)] (Dh (n*2^s)):=Og λE vs hD hsz hv=>by
 obtain⟨l0,u0,h0,g0,d0⟩:=Jz hD (hv 0 (by simp))
 have e1:vs.getD 1 undef= .int .i64 (s:Int):=VR.lit_inv (hv 1 (by simp))
 rw[yV hsz,e1]
 refine(eR n s _ l0 u0 E.w h0 g0 hn hs).mono ?_
 rintro e w' ⟨v',rfl,h2,hb⟩
 exact⟨v',rfl,hb,λE' hw h3 h4=>Ku h2 hw λb p q=>h4 b p q⟩
theorem We (n:Nat) (hn:(Aj n).length<=1000000):AF Tryz.prog 158 [Dh n] (.int (bitLen n:Int)):=Og λE vs hD hsz hv=>by
 obtain⟨l0,u0,h0,g0,d0⟩:=Jz hD (hv 0 (by simp))
 rw[AdY hsz]
 refine(jX n _ l0 u0 E.w h0 hn).mono ?_
 rintro e w' ⟨rfl,rfl⟩
 exact⟨_,rfl,Below.refl _ _,λE' hw h3 h4=> .lit _ _⟩
theorem aA (n:Nat) (hn:(be n).length<=400000):AF Tryz.prog 159 [Dh n] (.lit (.string (Df n))):=Og λE vs hD hsz hv=>by
 obtain⟨l0,u0,h0,g0,d0⟩:=Jz hD (hv 0 (by simp))
 rw[AdY hsz]
 refine(vG n _ _ l0 u0 E.w h0 g0 rfl hn).mono ?_
 rintro e w' ⟨rfl,hb⟩
 exact⟨_,rfl,hb,λE' hw h3 h4=> .lit _ _⟩
theorem Rq (n:Nat) (hn:(be n).length<=400000):AF Tryz.prog 166 [.lit (.string (Df n))] (Dh n):=AbM (vs:=[_]) λw=>by
 refine(Aa2 n _ w rfl hn).mono ?_
 rintro e w' ⟨v',rfl,h2,hb⟩
 exact⟨v',rfl,hb,λE' hw h4=>Ku h2 hw λb p q=>h4 b p q⟩
theorem Vg (n m:Nat) (hn:(Aj n).length<=100000) (hm:(Aj m).length<=100000) (h0:0<m):AF Tryz.prog 210 [Dh n,Dh m] (.tup [Dh (n/m),Dh (n%m)]):=Og λE vs hD hsz hv=>by
 obtain⟨l0,u0,k0,g0,d0⟩:=Jz hD (hv 0 (by simp))
 obtain⟨l1,u1,k1,g1,d1⟩:=Jz hD (hv 1 (by simp))
 have hv0:=hv 0 (by simp)
 rw[yV hsz]
 refine(Aem n m _ _ l0 u0 l1 u1 E.w k0 k1 g0 g1 hn hm h0).mono ?_
 rintro e w' ⟨q,r,rfl,hq,hr,hb⟩
 refine⟨_,rfl,hb,λE' hw h3 h4=>AgR (Ku hq hw λb p q=>h4 b p q) ?_⟩
 rcases hr with⟨hlt,rfl⟩|hr
 rw[Nat.mod_eq_of_lt hlt]
 refine hv0.up (Aq.fz_le_of h3 λb hb'=>?_)
 rw[hw]
 exact hb.block b (hD b hb')
 exact Ku hr hw λb p q=>h4 b p q
theorem Aek {n m k:Nat} (hA:k<(Aj n).length) (hB:k<(Aj m).length) (hd:(Aj n).drop (k+1)=(Aj m).drop (k+1)) (h:dg (Aj n) k<dg (Aj m) k):Wn n m (-1):=by
 have:=Sf (Cd n) hA hB hd h
 rw[Ca,Ca] at this
 exact⟨ω,ω⟩
theorem Aej {n m k:Nat} (hA:k<(Aj n).length) (hB:k<(Aj m).length) (hd:(Aj n).drop (k+1)=(Aj m).drop (k+1)) (h:dg (Aj m) k<dg (Aj n) k):Wn n m 1:=by
 have:=Sf (Cd m) hB hA hd.symm h
 rw[Ca,Ca] at this
 exact⟨ω,ω⟩
theorem Aei {n m:Nat} (h:(Aj n).drop 0=(Aj m).drop 0):Wn n m 0:=by
 simp only[List.drop_zero] at h
 have:=pN h
 subst this
 exact⟨ω,ω⟩
theorem Acm {n m:Nat} (hne:(Aj n).length≠(Aj m).length):Wn n m (((Aj n).length:Int)-((Aj m).length:Int)):=by
 rcases Nat.lt_or_gt_of_ne hne with h|h
 have:=dT h;exact⟨ω,ω⟩
 have:=dT h;exact⟨ω,ω⟩
theorem sX {n m k j:Nat} (hj:k+1=j) (hA:k<(Aj n).length) (hB:k<(Aj m).length) (hd:(Aj n).drop j=(Aj m).drop j) (h1:¬(dg (Aj n) k:Int)<(dg (Aj m) k:Int)) (h2:¬(dg (Aj m) k:Int)<(dg (Aj n) k:Int)):(Aj n).drop k=(Aj m).drop k:=aP hA hB (by rw[hj];exact hd) ω
theorem pV (n:Nat) (y:Nat) (h0:(Aj n).length<=100000/\(Aj y).length<=100000):∃r,(Shd [.one .i] r/\(∀x,r= .int x->Wn n y x))/\AF Tryz.prog 208 [Dh n,Dh y] r:=by
 refine Di func208 rfl ?_
 refine Au 15 (AeW 10 (((Aj n).length:Int)=((Aj y).length:Int)) (λhx1 hx1d=>?_) (λhx1 hx1d=>?_))
 refine Au 8 (gs (λh9=>Cn (.int .i64 (IntKind.wrap .i64 (((Aj n).length:Int)-1))) (.int .i64 (((Aj n).length:Int)-1)) h9 (congrArg (Value.int .i64) (IntWalk.i64_in _ ω))) (Au 4 (tlp [0,1,5] (λm s=>∃j,m=j+1/\(j<=(Aj n).length/\(Aj n).length=(Aj y).length/\(Aj n).drop j=(Aj y).drop j)/\s=⟨[(0,Dh n),(1,Dh y),(5,.int ((j:Int)-1))],[],0,43⟩) ((Aj n).length+1) ⟨(Aj n).length,rfl,⟨Nat.le_refl _,ω,by rw[List.drop_of_length_le (Nat.le_refl _),List.drop_of_length_le ω]⟩,κ⟩ ?_)))
 rintro _ _ ⟨j,rfl,hF,rfl⟩ hJ1
 refine Au 7 (jZ 20 ((0:Int)<=(j:Int)-1) (λhx2 hx2d=>?_) (λhx2 hx2d=>?_))
 refine Au 7 (gs (Fa [(2,Eb (Dh n) ((j:Int)-1).toNat,.none),(6,Eb (Dh y) ((j:Int)-1).toNat,.none)] [0,1,5,23] ⟨Aat ((j:Int)-1) ((j:Int)-1).toNat ((Aj n).length),Aat ((j:Int)-1) ((j:Int)-1).toNat ((Aj y).length),trivial⟩ ·) (Au 1 (jZ 23 (((dg (Aj n) (((j:Int)-1).toNat):Nat):Int)<((dg (Aj y) (((j:Int)-1).toNat):Nat):Int)) (λhx3 hx3d=>?_) (λhx3 hx3d=>?_))))
 exact Au 13 (qN (.int (-1)) (λx hx=>by cases hx;exact Aek (k:=((j:Int)-1).toNat) ω ω (by rw[show ((j:Int)-1).toNat+1=j by omega];exact hF.2.2) ω))
 refine Au 2 (gs (Fa [(2,Eb (Dh n) ((j:Int)-1).toNat,.none),(6,Eb (Dh y) ((j:Int)-1).toNat,.none)] [0,1,5,33] ⟨Aat ((j:Int)-1) ((j:Int)-1).toNat ((Aj n).length),Aat ((j:Int)-1) ((j:Int)-1).toNat ((Aj y).length),trivial⟩ ·) (Au 1 (jZ 33 (((dg (Aj y) (((j:Int)-1).toNat):Nat):Int)<((dg (Aj n) (((j:Int)-1).toNat):Nat):Int)) (λhx4 hx4d=>?_) (λhx4 hx4d=>?_))))
 exact Au 13 (qN (.int 1) (λx hx=>by cases hx;exact Aej (k:=((j:Int)-1).toNat) ω ω (by rw[show ((j:Int)-1).toNat+1=j by omega];exact hF.2.2) ω))
 exact Au 7 (gs (Ig ((j:Int)-1-1) (((((j:Int)-1).toNat:Nat):Int)-1) ·) (Au 2 (trd [0,1,5] (hJ1 _ _ (by omega:((j:Int)-1).toNat+1<j+1) ⟨((j:Int)-1).toNat,rfl,⟨ω,hF.2.1,sX (j:=j) ω ω ω hF.2.2 hx3d hx4d⟩,rfl⟩))))
 exact Au 12 (qN (.int 0) (λx hx=>by cases hx;exact Aei (by have:=hF.2.2;rw[show j=0 by omega] at this;exact this)))
 exact Au 7 (gs (λh9=>Cn (.int .i64 (IntKind.wrap .i64 (((Aj n).length:Int)-((Aj y).length:Int)))) (.int .i64 (((Aj n).length:Int)-((Aj y).length:Int))) h9 (congrArg (Value.int .i64) (IntWalk.i64_in _ ω))) (Au 5 (qN (.int (((Aj n).length:Int)-((Aj y).length:Int))) (λx hx=>by cases hx;exact Acm ω))))
noncomputable def bD (n:Nat) (y:Nat):Value:=chP 208 [.one .i] [Dh n,Dh y] λr=>∀x,r= .int x->Wn n y x
theorem oJ (n:Nat) (y:Nat) (h0:(Aj n).length<=100000/\(Aj y).length<=100000):AF Tryz.prog 208 [Dh n,Dh y] (.lit (noV [.one .i] (bD n y))):=(oZ (pV n y h0)).1
def Sa (b:Bool) (n:Nat) (c:Bool) (m:Nat):Bool:=if b=c then b else if m<=n then b else c
def Qh (b:Bool) (n:Nat) (c:Bool) (m:Nat):Nat:=if b=c then n+m else if m<=n then n-m else m-n
def Ip (b:Bool) (n m:Nat):Nat:=if (b&&decide (0<n%m))=true then n/m+1 else n/m
def dF (b:Bool) (n m:Nat):Nat:=if (b&&decide (0<n%m))=true then m-n%m else n%m
theorem Xm (b:Bool) (n:Nat) (c:Bool) (m:Nat):(Aj (Qh b n c m)).length<=(Aj n).length+(Aj m).length+1:=by
 unfold Qh
 split
 exact pM n m
 split
 have:=dU n m;omega
 have:=dU m n;omega
theorem Xn:(Aj 1).length=1:=by rw[pO];rfl
theorem So (b:Bool) (n m:Nat):(Aj (Ip b n m)).length<=(Aj n).length+2:=by
 have h:=Vn n m
 unfold Ip
 split
 have:=pM (n/m) 1;rw[Xn] at this;omega
 omega
theorem Aay (b:Bool) {n m:Nat} (h:0<m):(Aj (dF b n m)).length<=(Aj m).length:=by
 unfold dF
 split
 exact dU _ _
 exact Eu (Nat.le_of_lt (Nat.mod_lt _ h))
theorem aJ {n:Nat} (h:(Aj n).length<=40000):(be n).length<=400000:=by have:=Sp n;omega
theorem iV {n:Nat} (h:0<n):0<(Aj n).length:=List.length_pos_iff.2 λe=>by have:=Jh.1 e;omega
theorem Tu {n:Nat} (h:(Aj n).length=0):n=0:=Jh.1 (List.length_eq_zero_iff.1 h)
theorem Adh {E:Aq} {e n:Nat} {f g:Nat->AV} {v:Value} (h:VR E (.slc e n f) v) (hfg:∀i,i<n->f i=g i):VR E (.slc e n g) v:=by
 obtain⟨a,c,rfl,hnc,h⟩:=eT h
 refine .slc _ _ _ _ _ _ hnc ?_
 rcases nS h with⟨rfl,a',c',e1⟩|⟨b,q,c',us,e1,hD,hc,hr⟩
 cases e1;exact .sl0 _ _ _ _ _
 cases e1
 by_cases h0:0<n
 exact .sl _ _ _ _ _ _ _ us h0 hD hc λi j hi hj=>by rw[<-hfg i hi];exact hr i j hi hj
 obtain rfl:n=0:=by omega
 exact .sl0 _ _ _ _ _
abbrev AfI:AV:= .slc 1 1 λ_=> .lit (.int .u64 1)
theorem AcJ {E:Aq} {v:Value} (h:VR E AfI v):VR E (Dh 1) v:=by
 have e:Dh 1= .slc 1 1 λi=> .lit (.int .u64 (dg (Aj 1) i:Int)):=by unfold Dh;rw[Xn]
 rw[e]
 exact Adh h λi hi=>by
  obtain rfl:i=0:=by omega
  rw[pO];rfl
theorem fK (n:Nat) (hn:(Aj n).length<=800000):AF Tryz.prog 207 [Dh n,AfI] (Dh (n+1)):=
 AdT (oI n 1 ω (by rw[Xn];decide)) rfl (λi hi E v h=>by
  match i,hi with
  |0,_=>exact h
  |1,_=>exact AcJ h) λE v h=>h
theorem xJ (n s:Nat) (t:Int) (ht:t=(s:Int)) (hn:(Aj n).length<=400000) (hs:s<=6400000):AF Tryz.prog 181 [Dh n,.int t] (Dh (n*2^s)):=by subst ht;exact AbO n s hn hs
theorem Ek (z:Int) (hz:Cb z):AF Tryz.prog 162 [WA z] (Em (decide (z<0)) z.natAbs):=by
 have hd:=hz.digits
 refine As func162 rfl λB D0 hA0=>?_
 exact Ab 7 (Fa [(4,_,.none)] [2] ⟨Cx (Rq z.natAbs (aJ ω)),trivial⟩ (Ab 2 (Cy)))
theorem cJ (b:Bool) (n:Nat):AF Tryz.prog 164 [Em b n] (Em (!b) n):=by
 refine As func164 rfl λB D0 hA0=>?_
 exact Ab 18 (Cy)
theorem Rt (b:Bool) (n:Nat) (c:Bool) (m:Nat) (hn:(Aj n).length<=30000) (hm:(Aj m).length<=30000):AF Tryz.prog 196 [Em b n,Em c m] (Em (!decide (b=c)) (n*m)):=by
 refine As func196 rfl λB D0 hA0=>?_
 exact Ab 8 (Fa [(4,.bool (!decide (b=c)),.none),(9,_,.none)] [4] ⟨Bc (Cg (v:= .bool (!decide (b=c))) (v':= .bool (!decide (b=c))) _ κ rfl κ (λw=>by kernel_rfl) rfl),Cx (AbN n m ω ω),trivial⟩ (Ab 2 (Cy)))
theorem pW {n m:Nat} (h:(Aj n).length<=100000/\(Aj m).length<=100000):0<=gI (bD n m)↔m<=n:=by
 have:=(oZ (pV n m h)).2 _ rfl
 have h1:=this.lt
 have h2:=this.gt
 constructor
 intro h3;exact Nat.le_of_not_lt λh4=>by have:=h1.2 h4;exact absurd (show (0:Int)<=gI (bD n m) from h3) (by have:gI (bD n m)<0:=this;omega)
 intro h3;exact Int.not_lt.1 λh4=>by have:=h1.1 h4;omega
theorem xD (b:Bool) (n m:Nat) (hn:(Aj n).length<=30000) (hm:(Aj m).length<=30000):AF Tryz.prog 163 [Em b n,Em b m] (Em b (n+m)):=by
 refine As func163 rfl λB D0 hA0=>?_
 exact Ab 15 (Cn (.bool (decide (b=b))) (.bool (decide (b=b))) (Ab 3 (Lj 5 (decide (b=b)) true (decide_eq_true rfl) (Ab 2 (Fa [(6,_,.none)] [4] ⟨Cx (oI n m ω ω),trivial⟩ (Ab 4 (Cy)))))))
theorem xE (b:Bool) (n:Nat) (c:Bool) (m:Nat) (hn:(Aj n).length<=30000) (hm:(Aj m).length<=30000) (h:decide (b=c)=false) (hle:m<=n):AF Tryz.prog 163 [Em b n,Em c m] (Em b (n-m)):=by
 have hc:=decide_eq_true ((pW ⟨(by omega:(Aj n).length<=100000),(by omega:(Aj m).length<=100000)⟩).2 hle)
 refine As func163 rfl λB D0 hA0=>?_
 exact Ab 15 (Cn (.bool (decide (b=c))) (.bool (decide (b=c))) (Ab 3 (Lj 5 (decide (b=c)) false h (Ab 7 (Aw (oJ n m ω) (Ab 4 (Lj 19 (decide ((0:Int)<=(gI (bD n m)))) true hc (Ab 2 (Fa [(6,_,.none)] [4] ⟨Cx (cK n m ω ω ω),trivial⟩ (Ab 4 (Cy)))))))))))
theorem xF (b:Bool) (n:Nat) (c:Bool) (m:Nat) (hn:(Aj n).length<=30000) (hm:(Aj m).length<=30000) (h:decide (b=c)=false) (hle:¬m<=n):AF Tryz.prog 163 [Em b n,Em c m] (Em c (m-n)):=by
 have hc:=decide_eq_false (λh=>hle ((pW ⟨(by omega:(Aj n).length<=100000),(by omega:(Aj m).length<=100000)⟩).1 h))
 refine As func163 rfl λB D0 hA0=>?_
 exact Ab 15 (Cn (.bool (decide (b=c))) (.bool (decide (b=c))) (Ab 3 (Lj 5 (decide (b=c)) false h (Ab 7 (Aw (oJ n m ω) (Ab 4 (Lj 19 (decide ((0:Int)<=(gI (bD n m)))) false hc (Ab 5 (Fa [(6,_,.none)] [4] ⟨Cx (cK m n ω ω ω),trivial⟩ (Ab 2 (Cy)))))))))))
theorem Wd (b:Bool) (n:Nat) (c:Bool) (m:Nat) (hn:(Aj n).length<=30000) (hm:(Aj m).length<=30000):AF Tryz.prog 163 [Em b n,Em c m] (Em (Sa b n c m) (Qh b n c m)):=by
 unfold Sa Qh
 by_cases h:b=c
 subst h;rw[if_pos rfl,if_pos rfl];exact xD b n m hn hm
 rw[if_neg h,if_neg h]
 by_cases hle:m<=n
 rw[if_pos hle,if_pos hle];exact xE b n c m hn hm (decide_eq_false h) hle
 rw[if_neg hle,if_neg hle];exact xF b n c m hn hm (decide_eq_false h) hle
theorem xG (n:Nat) (c:Bool) (m:Nat) (hn:(Aj n).length<=30000) (hm:(Aj m).length<=30000) (hm0:0<m) (h:decide ((0:Int)<((Aj (n%m)).length:Int))=true):AF Tryz.prog 182 [Em true n,Em c m] (.tup [Em (!decide (true=c)) (n/m+1),Em false (m-n%m)]):=by
 have hq:=Vn n m
 have hr:=Eu (Nat.le_of_lt (Nat.mod_lt n hm0))
 refine As func182 rfl λB D0 hA0=>?_
 exact Ab 14 (Aw (Vg n m ω ω ω) (Ab 19 (Lj 22 (decide ((0:Int)<((Aj (n%m)).length:Int))) true h (Ab 1 (Fa [(1,.osl 4 1 1,(.new 4 (.vec 127 1 1 (λ_=> .lit (.int .u64 1))))),(2,Dh ((n/m)+1),(.drop 4)),(6,_,.none)] [2,3,4,5,6,7] ⟨Bc (Al 198 1 #[(0,(.const (.int .u64 1)))] κ underlying198 1 sizeOf127 _ zeroValue127 κ β β β 4 [.lit (.int .u64 1)] κ (λ_=> .lit (.int .u64 1)) κ),Bc (Kb 207 #[.tmp 23,.tmp 24] #[198,198] κ (λ_ _=>by kernel_rfl) 4 (.vec 127 1 1 (λ_=> .lit (.int .u64 1))) κ (λ_ _ _ _ h=>by cases h;exact(Ro λ_ _=>rfl)) [Dh (n/m),.osl 4 1 1] κ [Dh (n/m),.slc 1 1 (λ_=> .lit (.int .u64 1))] κ (Dh ((n/m)+1)) (fK (n/m) ω)),Cx (cK m (n%m) ω ω (Nat.le_of_lt (Nat.mod_lt _ hm0))),trivial⟩ (Ab 7 (Cn (.bool (!decide (true=c))) (.bool (!decide (true=c))) (Ab 9 (Cy)))))))))
theorem xH (n:Nat) (c:Bool) (m:Nat) (hn:(Aj n).length<=30000) (hm:(Aj m).length<=30000) (hm0:0<m) (h:decide ((0:Int)<((Aj (n%m)).length:Int))=false):AF Tryz.prog 182 [Em true n,Em c m] (.tup [Em (!decide (true=c)) (n/m),Em false (n%m)]):=by
 have hq:=Vn n m
 have hr:=Eu (Nat.le_of_lt (Nat.mod_lt n hm0))
 refine As func182 rfl λB D0 hA0=>?_
 exact Ab 14 (Aw (Vg n m ω ω ω) (Ab 19 (Lj 22 (decide ((0:Int)<((Aj (n%m)).length:Int))) false h (Ab 9 (Cn (.bool (!decide (true=c))) (.bool (!decide (true=c))) (Ab 9 (Cy)))))))
theorem xI (n:Nat) (c:Bool) (m:Nat) (hn:(Aj n).length<=30000) (hm:(Aj m).length<=30000) (hm0:0<m):AF Tryz.prog 182 [Em false n,Em c m] (.tup [Em (!decide (false=c)) (n/m),Em false (n%m)]):=by
 have hq:=Vn n m
 have hr:=Eu (Nat.le_of_lt (Nat.mod_lt n hm0))
 refine As func182 rfl λB D0 hA0=>?_
 exact Ab 14 (Aw (Vg n m ω ω ω) (Ab 28 (Cn (.bool (!decide (false=c))) (.bool (!decide (false=c))) (Ab 9 (Cy)))))
theorem Rp (b:Bool) (n:Nat) (c:Bool) (m:Nat) (hn:(Aj n).length<=30000) (hm:(Aj m).length<=30000) (hm0:0<m):AF Tryz.prog 182 [Em b n,Em c m] (.tup [Em (!decide (b=c)) (Ip b n m),Em false (dF b n m)]):=by
 unfold Ip dF
 cases b with
 |false=>exact xI n c m hn hm hm0
 |true=>
  by_cases h:0<n%m
  have hl:=iV h
  have e:(true&&decide (0<n%m))=true:=by rw[decide_eq_true h];rfl
  rw[if_pos e,if_pos e]
  exact xG n c m hn hm hm0 (decide_eq_true ω)
  have e:¬(true&&decide (0<n%m))=true:=by rw[decide_eq_false h];decide
  rw[if_neg e,if_neg e]
  exact xH n c m hn hm hm0 (decide_eq_false λg=>h (Nat.pos_of_ne_zero λe0=>by rw[e0,Cl] at g;exact absurd g δ))
theorem uB {a b G:Nat} (h:Nat.gcd a b=G) (hl:(Aj b).length<=30000) (hb:0<b):Nat.gcd b (a%b)=G/\(Aj b).length<=30000/\(Aj (a%b)).length<=30000:=⟨by rw[<-h,Nat.gcd_comm a b,Nat.gcd_rec b a,Nat.gcd_comm],hl,Nat.le_trans (Eu (Nat.le_of_lt (Nat.mod_lt _ hb))) hl⟩
theorem AaC {a b G:Nat} (h:Nat.gcd a b=G) (hb:b=0):a=G:=by rw[hb,Nat.gcd_zero_right] at h;exact h
theorem iW {n:Nat} (h:0<(Aj n).length):0<n:=Nat.pos_of_ne_zero λe=>by rw[e,Cl] at h;exact absurd h δ
theorem oK (n k:Nat) (hn:(Aj n).length<=30000) (hm:(Aj k).length<=30000):AF Tryz.prog 167 [Dh n,Dh k] (Dh (Nat.gcd n k)):=by
 refine As func167 rfl λB D0 hA0=>?_
 refine Ab 7 (vlp [0,1] (λm s=>∃a b,m=b+1/\(Nat.gcd a b=Nat.gcd n k/\(Aj a).length<=30000/\(Aj b).length<=30000)/\s=⟨[(0,Dh a),(1,Dh b)],[],0,19⟩) (k+1) ⟨n,k,rfl,⟨rfl,hn,hm⟩,κ⟩ ?_)
 rintro _ _ ⟨a,b,rfl,hF,rfl⟩ J1 hJ1
 refine Ab 8 (Mf 9 ((0:Int)<((Aj b).length:Int)) (λhx1 hx1d=>?_) (λhx1 hx1d=>?_))
 ·
  refine Ab 4 ?_
  have hb0:0<b:=iW ω
  have hb1:=Nat.mod_lt a hb0
  exact Ab 4 (Aw (Vg a b ω ω hb0) (Ab 14 (vrd [0,1] (hJ1 _ _ (by omega:(a%b)+1<b+1) ⟨b,a%b,rfl,uB hF.1 hF.2.2 hb0,rfl⟩))))
 ·
  exact Ab 13 (Fu (Dh a) (congrArg Dh (AaC hF.1 (Tu ω))))
structure Rw where
 neg:Bool
 mag:ByteArray
abbrev rwA (w:Rw):AV:= .lit (.agg #[.bool w.neg,.string w.mag])
def bE (w:Rw):Bool:=if h:0<w.mag.size then decide ((w.mag[0]'h).toNat≠0)&&decide (w.mag.size<=8192) else !w.neg
theorem kM (ng:Bool) (s:ByteArray) (w:World):Calls Tryz.prog 171 #[.agg #[.bool ng,.string s]] w λe w'=>e= .returned (.bool (bE ⟨ng,s⟩))/\Below w.heap.size w w':=by
 have hbw:Below w.heap.size w (w.alloc (.cells #[.bool ng,.string s] 174)):=(Below.refl _ _).alloc (Nat.le_refl _) _
 have HBW:=Lib.hid hbw
 clear hbw
 by_cases hn0:s.size=0
 ·
  have he:s.toList.isEmpty=true:=by
   rw[ByteArray.toList_eq]
   have:s.data.toList.length=0:=by rw[Array.length_toList];exact hn0
   rw[List.length_eq_zero_iff.1 this];rfl
  have HR:Hid (bE ⟨ng,s⟩= !ng):=by unfold Hid bE;rw[dif_neg (by simpa using hn0)]
  rw[HR.out]
  clear hn0 HR
  go_enter func171,ntmps171
  go_wp2_with fail
  go_ret
  exact⟨rfl,HBW.out⟩
 ·
  have he:s.toList.isEmpty=false:=by
   rw[ByteArray.toList_eq]
   have:s.data.toList.length≠0:=by rw[Array.length_toList];exact hn0
   cases h:s.data.toList with
   |nil=>rw[h] at this;exact absurd rfl this
   |cons _ _=>rfl
  have hps:0<s.size:=Nat.pos_of_ne_zero hn0
  have HR:Hid (bE ⟨ng,s⟩=(decide ((s[0]'hps).toNat≠0)&&decide (s.size<=8192))):=by unfold Hid bE;rw[dif_pos hps]
  rw[HR.out]
  clear hn0 HR
  obtain⟨L,hL⟩:∃L,L=s.size:=⟨_,rfl⟩
  rw[<-hL]
  have hLs:(s.size:Int)=(L:Int):=by omega
  by_cases hx0:(s[0]'hps).toNat=0
  ·
   have HR:Hid ((decide ((s[0]'hps).toNat≠0)&&decide (L<=8192))=false):=by unfold Hid;rw[decide_eq_false (by simpa using hx0)];rfl
   rw[HR.out]
   have hxb:(((s[0]'hps).toNat:Int) != 0)=false:=by simp[hx0]
   clear hx0 HR
   go_enter func171,ntmps171
   go_wp2_with fail
   go_ret
   exact⟨rfl,HBW.out⟩
  ·
   have HR:Hid ((decide ((s[0]'hps).toNat≠0)&&decide (L<=8192))=decide ((L:Int)<=8192)):=by
    unfold Hid
    rw[decide_eq_true (by simpa using hx0)]
    exact decide_eq_decide.2 ω
   rw[HR.out]
   have hxb:(((s[0]'hps).toNat:Int) != 0)=true:=by simp[hx0]
   clear hx0 HR
   go_enter func171,ntmps171
   go_wp2_with fail
   go_ret
   exact⟨rfl,HBW.out⟩
theorem Qw (a:Rw):AF Tryz.prog 171 [rwA a] (.bool (bE a)):=cI (vs:=[_]) λw=>kM a.neg a.mag w
theorem AdF {a:Rw} (h:bE a=true):∃z,Cb z/\rwA a=WA z:=by
 obtain⟨ng,s⟩:=a
 unfold bE at h
 split at h
 rename_i hps
 rw[Bool.and_eq_true,decide_eq_true_eq,decide_eq_true_eq] at h
 obtain⟨h1,h2⟩:=h
 have hhd:s.data.toList.head?≠some 0:=λe=>by
  have e2:s.data.toList[0]?=some 0:=by rw[<-List.head?_eq_getElem?];exact e
  have hp:0<s.data.toList.length:=by rw[Array.length_toList];exact hps
  rw[List.getElem?_eq_getElem hp] at e2
  have e3:s.data.toList[0]=0:=Option.some.inj e2
  apply h1
  show (s.data[0]'hps).toNat=0
  rw[show s.data[0]'hps=s.data.toList[0] from rfl,e3];rfl
 have hb:=Aec hhd
 obtain⟨n,hn⟩:∃n,n=kP s.data.toList:=⟨_,rfl⟩
 rw[<-hn] at hb
 have hs:Df n=s:=by unfold Df;rw[hb]
 have hn0:n≠0:=λe=>by
  rw[e,Gt] at hb
  have:s.data.toList.length=0:=by rw[<-hb];rfl
  rw[Array.length_toList] at this
  have h3:0<s.data.size:=hps
  omega
 have hlen:(be n).length<=8192:=by rw[hb,Array.length_toList];exact h2
 rw[Qb] at hlen
 have hf:bitLen n<=65536:=by omega
 cases ng with
 |true=>exact⟨-(n:Int),by unfold Cb;simpa using hf,by show AV.lit (.agg #[.bool true,.string s])= .lit (Ak (-(n:Int)));unfold Ak;rw[Int.natAbs_neg,Int.natAbs_natCast,hs,decide_eq_true ω]⟩
 |false=>exact⟨(n:Int),by unfold Cb;simpa using hf,by show AV.lit (.agg #[.bool false,.string s])= .lit (Ak (n:Int));unfold Ak;rw[Int.natAbs_natCast,hs,decide_eq_false ω]⟩
 rename_i hps
 have hng:ng=false:=by simpa using h
 subst hng
 have hs:s=Df 0:=by
  rw[Wy]
  obtain⟨⟨l⟩⟩:=s
  have:l.length=0:=by have h3:¬0<l.length:=hps;omega
  rw[List.length_eq_zero_iff.1 this]
 refine⟨0,by unfold Cb;decide,?_⟩
 show AV.lit (.agg #[.bool false,.string s])= .lit (Ak 0)
 rw[hs];rfl
theorem AcE {z:Int} (h:Cb z):bE ⟨decide (z<0),Df z.natAbs⟩=true:=by
 unfold bE
 have hl:(Df z.natAbs).size=(be z.natAbs).length:=by simp[Df,ByteArray.size]
 by_cases hp:0<(Df z.natAbs).size
 have hn:z.natAbs≠0:=λe=>by rw[hl,e,Gt] at hp;exact absurd hp δ
 have h1:=yZ hn ω
 have h2:=h.bytes
 rw[dif_pos hp,Bool.and_eq_true,decide_eq_true_eq,decide_eq_true_eq]
 exact⟨h1,by show (Df z.natAbs).size<=8192;omega⟩
 rw[dif_neg hp]
 have h0:z.natAbs=0:=Nat.eq_zero_of_not_pos λg=>by
  have:=@aI z.natAbs
  rw[fY,decide_eq_false ω] at this
  cases hb:be z.natAbs with
  |nil=>rw[hb] at this;cases this
  |cons a l=>rw[hb] at hl;simp at hl;omega
 obtain rfl:z=0:=by omega
 rfl
theorem Dj (x:Int) (hx:Cb x):AF Tryz.prog 171 [WA x] (.bool true):=by
 have:=Qw ⟨decide (x<0),Df x.natAbs⟩
 rw[AcE hx] at this
 exact this
def Fy (z:Int):Int:=if bitLen z.natAbs<=65536 then z else 0
def Hi (z:Int):Int:=if bitLen z.natAbs<=65536 then 0 else 7
theorem Es {z:Int} (h:Cb z):Fy z=z:=if_pos h
theorem Hj {z:Int} (h:Cb z):Hi z=0:=if_pos h
theorem AdJ {b v:Bool} {n:Nat} (hv:v=(b&&decide (0<n))):Value.agg #[.bool v,.string (Df n)]=Ak (Db b n):=by
 unfold Ak
 rw[Adb,Tc,hv]
theorem vW:Value.agg #[.bool false,.string ⟨#[]⟩]=Ak 0:=by unfold Ak;rw[show (0:Int).natAbs=0 from rfl,Wy];rfl
theorem Aaz {n:Nat} (h:¬((Aj n).length:Int)=0):n≠0:=λe=>by rw[e,Cl] at h;exact h rfl
theorem iT (n m:Nat):(Aj (Nat.gcd n m)).length<=(Aj n).length+(Aj m).length:=by
 rcases Nat.eq_zero_or_pos m with rfl|h
 rw[Nat.gcd_zero_right];omega
 have:=Ac1 (n:=n) h;omega
theorem qE {n:Nat}:decide ((0:Int)<((Aj n).length:Int))=decide (0<n):=decide_eq_decide.2 ⟨λh=>iW ω,λh=>by have:=iV h;omega⟩
theorem eP (b:Bool) (n:Nat) (c:Bool) (m:Nat):Db (Sa b n c m) (Qh b n c m)=Db b n+Db c m:=by
 unfold Sa Qh
 by_cases h:b=c
 subst h;rw[if_pos rfl,if_pos rfl];exact eQ b n m
 rw[if_neg h,if_neg h]
 by_cases hm:m<=n
 rw[if_pos hm,if_pos hm];exact nQ h hm
 rw[if_neg hm,if_neg hm];exact nR h ω
theorem jV (x:Int):Db (!decide (x<0)) x.natAbs= -x:=by unfold Db;by_cases h:x<0<;>simp[h]<;>omega
theorem Abf (x y:Int):Db (Sa (decide (x<0)) x.natAbs (decide (y<0)) y.natAbs) (Qh (decide (x<0)) x.natAbs (decide (y<0)) y.natAbs)=x+y:=by rw[eP,Hu,Hu]
theorem Abi (x y:Int):Db (Sa (decide (x<0)) x.natAbs (!decide (y<0)) y.natAbs) (Qh (decide (x<0)) x.natAbs (!decide (y<0)) y.natAbs)=x-y:=by rw[eP,Hu,jV];omega
theorem pX (a b:Bool):(!decide (a=b))=(a != b):=by cases a<;>cases b<;>rfl
theorem Yb (x y:Int):Db (!decide (decide (x<0)=decide (y<0))) (x.natAbs*y.natAbs)=x*y:=by rw[pX,Ada,Hu,Hu]
theorem Td (x y:Int) (hy:y≠0):Db (!decide (decide (x<0)=decide (y<0))) (Ip (decide (x<0)) x.natAbs y.natAbs)=x/y/\Db false (dF (decide (x<0)) x.natAbs y.natAbs)=x%y:=by
 have hm:0<y.natAbs:=by omega
 have key:∀b:Bool,Db b x.natAbs=x->Db (!decide (b=decide (y<0))) (Ip b x.natAbs y.natAbs)=x/y/\Db false (dF b x.natAbs y.natAbs)=x%y:=λb hb=>by
  have h2:x=Db b x.natAbs:=hb.symm
  have h3:y=Db (decide (y<0)) y.natAbs:=(Hu y).symm
  rw[pX]
  unfold Ip dF
  cases b with
  |false=>
   obtain⟨k1,k2⟩:=uW (mg:=decide (y<0)) (n:=x.natAbs) hm
   rw[<-h2,Hu] at k1 k2
   rw[k1,k2]
   cases decide (y<0)<;>exact⟨rfl,rfl⟩
  |true=>
   by_cases h:0<x.natAbs%y.natAbs
   obtain⟨k1,k2⟩:=nP (mg:=decide (y<0)) (n:=x.natAbs) hm h
   rw[<-h2,Hu] at k1 k2
   rw[k1,k2,decide_eq_true h]
   cases decide (y<0)<;>exact⟨rfl,rfl⟩
   obtain⟨k1,k2⟩:=uX (mg:=decide (y<0)) (n:=x.natAbs) hm ω
   rw[<-h2,Hu] at k1 k2
   rw[k1,k2,decide_eq_false h]
   cases decide (y<0)<;>exact⟨rfl,rfl⟩
 exact key _ (Hu x)
theorem Yc (b:Bool) (n:Nat):(Db b n).sign=if n=0 then 0 else if b=true then -1 else 1:=by
 unfold Db
 by_cases h:n=0
 subst h;cases b<;>rfl
 rw[if_neg h]
 cases b with
 |true=>rw[if_pos rfl,if_pos rfl];exact Int.sign_eq_neg_one_of_neg ω
 |false=>rw[if_neg δ,if_neg δ];exact Int.sign_eq_one_of_pos ω
theorem sS {n:Nat} (h:(Aj n).length=1):dg (Aj n) 0=n:=by
 have:=Ca n
 cases hl:Aj n with
 |nil=>rw[hl] at h;cases h
 |cons a l=>
  rw[hl] at h this
  cases l with
  |nil=>simpa [val,dg] using this
  |cons _ _=>simp at h
theorem sT {n:Nat} (h:1<(Aj n).length):18446744073709551616<=n:=Nat.le_of_not_lt λg=>by
 have:=Cr (n:=n) (k:=1) (by rw[Nat.pow_one,Kz];exact g)
 omega
def iR (z:Int):Int:=if -9223372036854775808<=z/\z<=9223372036854775807 then z else 0
def iE (z:Int):Int:=if -9223372036854775808<=z/\z<=9223372036854775807 then 0 else 3
def En (n:Int):Nat:=(n%18446744073709551616).toNat
theorem cB (n:Int):IntKind.wrap .u64 n=((En n:Nat):Int):=by
 unfold En;show n%18446744073709551616=_;omega
theorem eY (n:Int):En n<Bw:=by unfold En;rw[Kz];omega
theorem kB (n:Int):(Aj (En n)).length<=1:=Cr (by rw[Nat.pow_one];exact eY n)
theorem Abr {n:Int} (h0: -9223372036854775808<=n) (h:n<0):En (0-((En n:Nat):Int))=n.natAbs:=by unfold En;omega
theorem Abs {n:Int} (h1:n<=9223372036854775807) (h:¬n<0):En n=n.natAbs:=by unfold En;omega
theorem fM (x:Nat) (hx:x<Bw):AF Tryz.prog 119 [.slc 1 1 λ_=> .lit (.int .u64 (x:Int))] (Dh x):=Og λE vs hD hsz hv=>by
 have hv0:=hv 0 (by simp)
 obtain⟨a,c,e,hnc,h⟩:=eT hv0
 rw[e] at h
 rw[AdY hsz,e]
 have hs:∃b,E.D b/\Br E.w b (b+1) 1 (.slice a 1 c) [x].length (Ft [x]):=by
  rcases nS h with⟨h0,_⟩|⟨b,q,c',us,e1,hDb,hc,hr⟩
  exact absurd h0 δ
  cases e1
  refine⟨b,hDb,rfl,.inr ⟨b,q,c,rfl,⟨Nat.le_refl _,Nat.lt_succ_self _⟩,λj u hu=>?_⟩⟩
  match j,hu with
  |0,hu=>
   have h1:=hc 0 0 δ δ
   have h2:us 0 0= .int .u64 (x:Int):=VR.lit_inv (hr 0 0 δ δ)
   rw[h2] at h1
   cases hu
   have h3:E.w.cell? ⟨b,q+0*1+0,none⟩=some (.int .u64 (x:Int)):=h1
   simpa using h3
  |j+1,hu=>simp[Ft] at hu
 obtain⟨b,hDb,hs⟩:=hs
 refine(Pt [x] _ b (b+1) E.w hs hnc (λy hy=>by simp at hy;subst hy;exact hx) (by simp)).mono ?_
 rintro e w' ⟨v',rfl,h2,rfl⟩
 have hval:val [x]=x:=by simp[val]
 rw[hval] at h2
 exact⟨v',rfl,Below.refl _ _,λE' hw h3 h4=>Ku h2 hw λb' p q=>by
  obtain rfl:b'=b:=by omega
  exact h3 _ hDb⟩
theorem lU {n:Nat} (h:0<n):((Df n).toList==(⟨#[]⟩:ByteArray).toList)=false:=by
 have:=@aI n
 rw[decide_eq_false ω] at this
 cases hb:(Df n).toList with
 |nil=>rw[hb] at this;cases this
 |cons a l=>
  have e0:(⟨#[]⟩:ByteArray).toList=[]:=by rw[ByteArray.toList_eq]
  rw[e0];rfl
theorem Ij (x y:Int) (hx:Cb x) (hy:Cb y):AF Tryz.prog 161 [WA x,WA y] (.bool true):=by
 refine As func161 rfl λB D0 hA0=>?_
 exact Ab 10 (Aw (Dj x (by assumption)) (Ab 2 (Aw (Dj y (by assumption)) (Ab 5 (Cy)))))
theorem rJ (b:Bool) (n:Nat) (hl:(Aj n).length<=30000) (hs:bitLen n<=65536):AF Tryz.prog 120 [Em b n] (.lit (.tuple #[Ak (Fy (Db b n)),.int .i64 (Hi (Db b n))])):=by
 have e1:Fy (Db b n)=Db b n:=if_pos (by rw[Tc];exact hs)
 have e2:Hi (Db b n)=0:=if_pos (by rw[Tc];exact hs)
 refine As func120 rfl λB D0 hA0=>?_
 refine Ab 12 (Aw (We n ω) (Ab 3 (Lj 7 (decide ((65536:Int)<(bitLen n:Int))) false (decide_eq_false ω) (Ab 4 ?_))))
 refine Hw b (λhx1=>?_) (λhx1=>?_)
 ·
  exact Fa [(1,.bool true,(.read 0)),(10,_,.none)] [2,3] ⟨kbE hx1,Cx (aA n (aJ ω)),trivial⟩ (Ab 2 (Fu (.lit (.tuple #[.agg #[.bool (decide ((0:Int)<((Aj n).length:Int))),.string (Df n)],.int .i64 0])) (by rw[AdJ (b:=b) (show decide ((0:Int)<((Aj n).length:Int))=(b&&decide (0<n)) by rw[qE,hx1];rfl),e1,e2])))
 ·
  exact Fa [(1,.bool false,(.read 0)),(10,_,.none)] [2,3] ⟨kbE hx1,Cx (aA n (aJ ω)),trivial⟩ (Ab 2 (Fu (.lit (.tuple #[.agg #[.bool false,.string (Df n)],.int .i64 0])) (by rw[AdJ (b:=b) (show false=(b&&decide (0<n)) by rw[hx1];rfl),e1,e2])))
theorem rK (b:Bool) (n:Nat) (hl:(Aj n).length<=30000) (hs:¬bitLen n<=65536):AF Tryz.prog 120 [Em b n] (.lit (.tuple #[Ak (Fy (Db b n)),.int .i64 (Hi (Db b n))])):=by
 have e1:Fy (Db b n)=0:=if_neg (by rw[Tc];exact hs)
 have e2:Hi (Db b n)=7:=if_neg (by rw[Tc];exact hs)
 refine As func120 rfl λB D0 hA0=>?_
 exact Ab 12 (Aw (We n ω) (Ab 3 (Lj 7 (decide ((65536:Int)<(bitLen n:Int))) true (decide_eq_true ω) (Ab 10 (Fu (.lit (.tuple #[.agg #[.bool false,.string ⟨#[]⟩],.int .i64 7])) (by rw[e1,e2,vW]))))))
theorem Eo (b:Bool) (n:Nat) (hl:(Aj n).length<=30000):AF Tryz.prog 120 [Em b n] (.lit (.tuple #[Ak (Fy (Db b n)),.int .i64 (Hi (Db b n))])):=(Decidable.em (bitLen n<=65536)).elim (rJ b n hl) (rK b n hl)
theorem Tl (b:Bool) (n:Nat) (_:(Aj n).length<=30000):AF Tryz.prog 165 [Em b n] (.int (Db b n).sign):=by
 have h9:=@qE n
 refine As func165 rfl λB D0 hA0=>?_
 refine Ab 17 (Mf 3 (((Aj n).length:Int)=0) (λhx1 hx1d=>?_) (λhx1 hx1d=>?_))
 ·
  exact Ab 9 (Fu (.int 0) (congrArg AV.int (by rw[Yc,if_pos (Tu ω)])))
 ·
  refine Ab 8 (vsb 8 b (λhx2=>?_) (λhx2=>?_))
  ·
   exact Ab 9 (Fu (.int (-1)) (congrArg AV.int (by rw[Yc,if_neg (Aaz ω),if_pos hx2])))
  ·
   exact Ab 10 (Fu (.int 1) (congrArg AV.int (by rw[Yc,if_neg (Aaz ω),if_neg (by rw[hx2];decide)])))
theorem xS (x y:Int) (hx:Cb x) (hy:Cb y):AF Tryz.prog 147 [WA x,WA y] (.lit (.tuple #[Ak (Fy (x+y)),.int .i64 (Hi (x+y))])):=by
 have hd:=hx.digits
 have he:=hy.digits
 have h1:=Xm (decide (x<0)) x.natAbs (decide (y<0)) y.natAbs
 refine As func147 rfl λB D0 hA0=>?_
 exact Ab 13 (Aw (Ij x y (by assumption) (by assumption)) (Ab 7 (Fa [(1,_,.none),(3,_,.none),(4,_,.none),(5,_,.none)] [4,5] ⟨Cx (Ek x (by assumption)),Cx (Ek y (by assumption)),Cx (Wd (decide (x<0)) x.natAbs (decide (y<0)) y.natAbs ω ω),Cx (Eo (Sa (decide (x<0)) x.natAbs (decide (y<0)) y.natAbs) (Qh (decide (x<0)) x.natAbs (decide (y<0)) y.natAbs) ω),trivial⟩ (Ab 2 (Fu (.lit (.tuple #[Ak (Fy (Db (Sa (decide (x<0)) x.natAbs (decide (y<0)) y.natAbs) (Qh (decide (x<0)) x.natAbs (decide (y<0)) y.natAbs))),.int .i64 (Hi (Db (Sa (decide (x<0)) x.natAbs (decide (y<0)) y.natAbs) (Qh (decide (x<0)) x.natAbs (decide (y<0)) y.natAbs)))])) (by rw[Abf]))))))
theorem xV (x y:Int) (hx:Cb x) (hy:Cb y):AF Tryz.prog 160 [WA x,WA y] (.lit (.tuple #[Ak (Fy (x*y)),.int .i64 (Hi (x*y))])):=by
 have hd:=hx.digits
 have he:=hy.digits
 have h1:=Vo x.natAbs y.natAbs
 refine As func160 rfl λB D0 hA0=>?_
 exact Ab 13 (Aw (Ij x y (by assumption) (by assumption)) (Ab 7 (Fa [(1,_,.none),(3,_,.none),(4,_,.none),(5,_,.none)] [4,5] ⟨Cx (Ek x (by assumption)),Cx (Ek y (by assumption)),Cx (Rt (decide (x<0)) x.natAbs (decide (y<0)) y.natAbs ω ω),Cx (Eo (!decide ((decide (x<0))=(decide (y<0)))) (x.natAbs*y.natAbs) ω),trivial⟩ (Ab 2 (Fu (.lit (.tuple #[Ak (Fy (Db (!decide ((decide (x<0))=(decide (y<0)))) (x.natAbs*y.natAbs))),.int .i64 (Hi (Db (!decide ((decide (x<0))=(decide (y<0)))) (x.natAbs*y.natAbs)))])) (by rw[Yb]))))))
theorem xT (x y:Int) (hx:Cb x) (hy:Cb y):AF Tryz.prog 125 [WA x,WA y] (.lit (.tuple #[Ak (Fy (Nat.gcd x.natAbs y.natAbs:Int)),.int .i64 (Hi (Nat.gcd x.natAbs y.natAbs:Int))])):=by
 have hd:=hx.digits
 have he:=hy.digits
 have h1:=iT x.natAbs y.natAbs
 refine As func125 rfl λB D0 hA0=>?_
 exact Ab 13 (Aw (Ij x y (by assumption) (by assumption)) (Ab 7 (Fa [(2,_,.none),(5,_,.none),(6,_,.none),(8,_,.none)] [4,5] ⟨Cx (Rq x.natAbs (aJ ω)),Cx (Rq y.natAbs (aJ ω)),Cx (oK x.natAbs y.natAbs ω ω),Cx (Eo false (Nat.gcd x.natAbs y.natAbs) ω),trivial⟩ (Ab 2 (Fu (.lit (.tuple #[Ak (Fy (Db false (Nat.gcd x.natAbs y.natAbs))),.int .i64 (Hi (Db false (Nat.gcd x.natAbs y.natAbs)))])) (by rw[show ∀g:Nat,Db false g=(g:Int) from λ_=>rfl]))))))
theorem fP (x y:Int) (hx:Cb x) (hy:Cb y):AF Tryz.prog 124 [WA x,WA y] (.int (x-y).sign):=by
 have hd:=hx.digits
 have he:=hy.digits
 have h1:=Xm (decide (x<0)) x.natAbs (!decide (y<0)) y.natAbs
 refine As func124 rfl λB D0 hA0=>?_
 exact Ab 12 (Aw (Ij x y (by assumption) (by assumption)) (Ab 7 (Fa [(1,_,.none),(3,_,.none),(4,_,.none),(5,_,.none),(6,_,.none)] [4] ⟨Cx (Ek x (by assumption)),Cx (Ek y (by assumption)),Cx (cJ (decide (y<0)) y.natAbs),Cx (Wd (decide (x<0)) x.natAbs (!(decide (y<0))) y.natAbs ω ω),Cx (Tl (Sa (decide (x<0)) x.natAbs (!(decide (y<0))) y.natAbs) (Qh (decide (x<0)) x.natAbs (!(decide (y<0))) y.natAbs) ω),trivial⟩ (Ab 2 (Fu (.int ((Db (Sa (decide (x<0)) x.natAbs (!(decide (y<0))) y.natAbs) (Qh (decide (x<0)) x.natAbs (!(decide (y<0))) y.natAbs)).sign)) (by rw[Abi]))))))
theorem xX (x:Int) (hx:Cb x):AF Tryz.prog 136 [WA x] (.lit (.tuple #[Ak (Fy (-x)),.int .i64 (Hi (-x))])):=by
 have hd:=hx.digits
 refine As func136 rfl λB D0 hA0=>?_
 exact Ab 11 (Aw (Dj x (by assumption)) (Ab 9 (Aw (Ek x (by assumption)) (Aw (cJ (decide (x<0)) x.natAbs) (Aw (Eo (!(decide (x<0))) x.natAbs ω) (Ab 7 (Fu (.lit (.tuple #[Ak (Fy (Db (!(decide (x<0))) x.natAbs)),.int .i64 (Hi (Db (!(decide (x<0))) x.natAbs))])) (by rw[jV]))))))))
theorem Lo (x:Int) (hx:Cb x):AF Tryz.prog 172 [WA x] (.int x.sign):=by
 have hd:=hx.digits
 refine As func172 rfl λB D0 hA0=>?_
 exact Ab 10 (Aw (Dj x (by assumption)) (Ab 9 (Aw (Ek x (by assumption)) (Aw (Tl (decide (x<0)) x.natAbs ω) (Ab 4 (Fu (.int ((Db (decide (x<0)) x.natAbs).sign)) (by rw[Hu])))))))
theorem oN (x:Int) (hx:Cb x):AF Tryz.prog 211 [WA x] (.int (bitLen x.natAbs:Int)):=by
 have hd:=hx.digits
 refine As func211 rfl λB D0 hA0=>?_
 exact Ab 10 (Aw (Dj x (by assumption)) (Ab 10 (Aw (Rq x.natAbs (aJ ω)) (Aw (We x.natAbs ω) (Ab 4 (Cy))))))
theorem AbR (x y:Int) (hx:Cb x) (hy:Cb y) (hy0:y≠0):AF Tryz.prog 168 [WA x,WA y] (.lit (.tuple #[Ak (x/y),Ak (x%y),.int .i64 0])):=by
 have hd:=hx.digits
 have he:=hy.digits
 have hm0:0<y.natAbs:=by omega
 have hq1:=So (decide (x<0)) x.natAbs y.natAbs
 have hq2:=Aay (decide (x<0)) (n:=x.natAbs) hm0
 have hs:=Td x y hy0
 have hb:((Df y.natAbs).toList==(⟨#[]⟩:ByteArray).toList)=false:=lU hm0
 refine As func168 rfl λB D0 hA0=>?_
 refine Ab 14 (Aw (Ij x y (by assumption) (by assumption)) (Ab 11 (Cn (.bool ((Df y.natAbs).toList==(⟨#[]⟩:ByteArray).toList)) (.bool false) ?_ (congrArg Value.bool hb))))
 exact Ab 6 (Fa [(1,_,.none),(3,_,.none),(4,_,.none)] [4,5,7,8] ⟨Cx (Ek x (by assumption)),Cx (Ek y (by assumption)),Cx (Rp (decide (x<0)) x.natAbs (decide (y<0)) y.natAbs ω ω ω),trivial⟩ (Ab 4 (Aw (Eo (!decide ((decide (x<0))=(decide (y<0)))) (Ip (decide (x<0)) x.natAbs y.natAbs) ω) (Ab 9 (Aw (Eo false (dF (decide (x<0)) x.natAbs y.natAbs) ω) (Ab 7 (Fa [] [4,5,6] trivial (Ab 2 (Fu (.lit (.tuple #[Ak (Fy (Db (!decide ((decide (x<0))=(decide (y<0)))) (Ip (decide (x<0)) x.natAbs y.natAbs))),Ak (Fy (Db false (dF (decide (x<0)) x.natAbs y.natAbs))),.int .i64 0])) (by rw[hs.1,hs.2,Es (Nb hx),Es (Ac7 hy hy0)]))))))))))
theorem Ga (n:Int) (h0: -9223372036854775808<=n) (h1:n<=9223372036854775807):AF Tryz.prog 99 [.int n] (WA n):=by
 have hd1:=kB n
 have hd2:=kB (0-((En n:Nat):Int))
 refine As func99 rfl λB D0 hA0=>?_
 refine Ab 8 (Cn (.int .u64 (IntKind.wrap .u64 n)) (.int .u64 ((En n:Nat):Int)) ?_ (congrArg (Value.int .u64) (cB n)))
 refine Ab 10 (Mf 9 (n<0) (λhx1 hx1d=>?_) (λhx1 hx1d=>?_))
 ·
  refine Ab 3 (Cn (.int .u64 (IntKind.wrap .u64 (0-((En n:Nat):Int)))) (.int .u64 ((En (0-((En n:Nat):Int)):Nat):Int)) ?_ (congrArg (Value.int .u64) (cB _)))
  exact Ab 8 (Bb (.osl 1 1 1) (.new 1 (.vec 127 1 1 (λ_=> .lit (.int .u64 ((En (0-((En n:Nat):Int)):Nat):Int))))) (Al 198 1 #[(0,(.tmp 15))] κ underlying198 1 sizeOf127 _ zeroValue127 κ β β β 1 [.lit (.int .u64 ((En (0-((En n:Nat):Int)):Nat):Int))] κ (λ_=> .lit (.int .u64 ((En (0-((En n:Nat):Int)):Nat):Int))) κ) (Bb (Dh (En (0-((En n:Nat):Int)))) (.drop 1) (Kb 119 #[.tmp 16] #[198] κ (λ_ _=>by kernel_rfl) 1 (.vec 127 1 1 (λ_=> .lit (.int .u64 ((En (0-((En n:Nat):Int)):Nat):Int)))) κ (λ_ _ _ _ h=>by cases h;exact(Ro λ_ _=>rfl)) [.osl 1 1 1] κ [.slc 1 1 (λ_=> .lit (.int .u64 ((En (0-((En n:Nat):Int)):Nat):Int)))] κ (Dh (En (0-((En n:Nat):Int)))) (fM (En (0-((En n:Nat):Int))) (eY _))) (Ab 1 (Aw (Eo (decide (n<0)) (En (0-((En n:Nat):Int))) ω) (Ab 15 (Fu (.lit (Ak (Fy (Db (decide (n<0)) (En (0-((En n:Nat):Int))))))) (by rw[Abr h0 (of_decide_eq_true hx1),Hu,Es (Ez h0 h1)])))))))
 ·
  exact Ab 8 (Bb (.osl 1 1 1) (.new 1 (.vec 127 1 1 (λ_=> .lit (.int .u64 ((En n:Nat):Int))))) (Al 198 1 #[(0,(.tmp 15))] κ underlying198 1 sizeOf127 _ zeroValue127 κ β β β 1 [.lit (.int .u64 ((En n:Nat):Int))] κ (λ_=> .lit (.int .u64 ((En n:Nat):Int))) κ) (Bb (Dh (En n)) (.drop 1) (Kb 119 #[.tmp 16] #[198] κ (λ_ _=>by kernel_rfl) 1 (.vec 127 1 1 (λ_=> .lit (.int .u64 ((En n:Nat):Int)))) κ (λ_ _ _ _ h=>by cases h;exact(Ro λ_ _=>rfl)) [.osl 1 1 1] κ [.slc 1 1 (λ_=> .lit (.int .u64 ((En n:Nat):Int)))] κ (Dh (En n)) (fM (En n) (eY _))) (Ab 1 (Aw (Eo (decide (n<0)) (En n) ω) (Ab 15 (Fu (.lit (Ak (Fy (Db (decide (n<0)) (En n))))) (by rw[Abs h1 (of_decide_eq_false hx1),Hu,Es (Ez h0 h1)])))))))
theorem xU (z:Int) (h:Cb z):AF Tryz.prog 185 [WA z] (.lit (.tuple #[.int .i64 (iR z),.int .i64 (iE z)])):=by
 have hd:=h.digits
 have k0:=@Tu z.natAbs
 have k1:=@sS z.natAbs
 have k2:=@sT z.natAbs
 refine As func185 rfl λB D0 hA0=>?_
 refine Ab 11 (Aw (Dj z h) (Ab 9 (Aw (Ek z h) (Ab 15 (Mf 10 (((Aj z.natAbs).length:Int)=0) (λhx1 hx1d=>?_) (λhx1 hx1d=>?_))))))
 ·
  exact Ab 10 (Fu (.lit (.tuple #[.int .i64 0,.int .i64 0])) (by(obtain rfl:z=0:=(ω));rfl))
 ·
  refine Ab 8 (Mf 20 ((1:Int)<((Aj z.natAbs).length:Int)) (λhx2 hx2d=>?_) (λhx2 hx2d=>?_))
  ·
   exact Ab 31 (Fu (.lit (.tuple #[.int .i64 0,.int .i64 3])) (by unfold iR iE;rw[if_neg (λg=>by omega),if_neg (λg=>by omega)]))
  ·
   refine Ab 4 (Agg 24 (z<0) (λhx3 hx3d=>?_) (λhx3 hx3d=>?_))
   ·
    refine Ab 10 (Ob 0 ((Aj z.natAbs).length) (Ab 6 (Mf 15 ((9223372036854775808:Int)<((dg (Aj z.natAbs) 0:Nat):Int)) (λhx4 hx4d=>?_) (λhx4 hx4d=>?_))))
    ·
     exact Ab 10 (Fu (.lit (.tuple #[.int .i64 0,.int .i64 3])) (by unfold iR iE;rw[if_neg (λg=>by omega),if_neg (λg=>by omega)]))
    ·
     refine Ab 8 (Lj 39 (decide (z<0)) true hx3 (Ab 5 (Ob 0 ((Aj z.natAbs).length) (Ab 1 (Cn (.int .u64 (IntKind.wrap .u64 (0-((dg (Aj z.natAbs) 0:Nat):Int)))) (.int .u64 (18446744073709551616-((dg (Aj z.natAbs) 0:Nat):Int))) ?_ (congrArg (Value.int .u64) (show (0-((dg (Aj z.natAbs) 0:Nat):Int))%18446744073709551616=_ by omega)))))))
     refine Cn (.int .i64 (IntKind.wrap .i64 (18446744073709551616-((dg (Aj z.natAbs) 0:Nat):Int)))) (.int .i64 z) ?_ (congrArg (Value.int .i64) (by simp[IntKind.wrap,IntKind.bits,IntKind.signed];omega))
     exact Ab 7 (Fu (.lit (.tuple #[.int .i64 z,.int .i64 0])) (by unfold iR iE;rw[if_pos ⟨ω,ω⟩,if_pos ⟨ω,ω⟩]))
   ·
    refine Ab 2 (Ob 0 ((Aj z.natAbs).length) (Ab 5 (Mf 32 ((9223372036854775808:Int)<=((dg (Aj z.natAbs) 0:Nat):Int)) (λhx5 hx5d=>?_) (λhx5 hx5d=>?_))))
    ·
     exact Ab 19 (Fu (.lit (.tuple #[.int .i64 0,.int .i64 3])) (by unfold iR iE;rw[if_neg (λg=>by omega),if_neg (λg=>by omega)]))
    ·
     refine Ab 2 (Ob 0 ((Aj z.natAbs).length) (Ab 6 (Mf 15 ((9223372036854775808:Int)<((dg (Aj z.natAbs) 0:Nat):Int)) (λhx6 hx6d=>?_) (λhx6 hx6d=>?_))))
     ·
      exact Ab 10 (Fu (.lit (.tuple #[.int .i64 0,.int .i64 3])) (by unfold iR iE;rw[if_neg (λg=>by omega),if_neg (λg=>by omega)]))
     ·
      refine Ab 8 (Lj 39 (decide (z<0)) false hx3 (Ab 8 (Ob 0 ((Aj z.natAbs).length) (Ab 1 (Cn (.int .i64 (IntKind.wrap .i64 ((dg (Aj z.natAbs) 0:Nat):Int))) (.int .i64 z) ?_ (congrArg (Value.int .i64) (by simp[IntKind.wrap,IntKind.bits,IntKind.signed];omega)))))))
      exact Ab 5 (Fu (.lit (.tuple #[.int .i64 z,.int .i64 0])) (by unfold iR iE;rw[if_pos ⟨ω,ω⟩,if_pos ⟨ω,ω⟩]))
theorem cO (x y:Int) (hx:Cb x) (hy:Cb y) (hz:Cb (x+y)):AF Tryz.prog 147 [WA x,WA y] (.lit (.tuple #[Ak (x+y),.int .i64 0])):=by
 have:=xS x y hx hy
 rwa [Es hz,Hj hz] at this
theorem Vk (x y:Int) (hx:Cb x) (hy:Cb y) (hz:Cb (x*y)):AF Tryz.prog 160 [WA x,WA y] (.lit (.tuple #[Ak (x*y),.int .i64 0])):=by
 have:=xV x y hx hy
 rwa [Es hz,Hj hz] at this
theorem AbQ (x y:Int) (hx:Cb x) (hy:Cb y):AF Tryz.prog 125 [WA x,WA y] (.lit (.tuple #[Ak (Nat.gcd x.natAbs y.natAbs:Int),.int .i64 0])):=by
 have:=xT x y hx hy
 rwa [Es (dS hx hy),Hj (dS hx hy)] at this
theorem wV (a b:Rw):AF Tryz.prog 161 [rwA a,rwA b] (.bool (bE a&&bE b)):=by
 refine As func161 rfl λB D0 hA0=>?_
 refine Ab 10 (Aw (Qw a) (Ab 1 (vsb 7 (bE a) (λhx1=>?_) (λhx1=>?_))))
 ·
  exact Ab 1 (Aw (Qw b) (Ab 5 (Fu (.bool (bE b)) (congrArg AV.bool (by rw[hx1];rfl)))))
 ·
  exact Ab 7 (Fu (.bool false) (congrArg AV.bool (by rw[hx1];rfl)))
theorem Vh (x y:Int) (hx:Cb x) (hy:Cb y) (hz:Cb (x+y)):AF Tryz.prog 123 [WA x,WA y] (WA (x+y)):=by
 refine As func123 rfl λB D0 hA0=>?_
 exact Ab 11 (Aw (cO x y hx hy hz) (Ab 15 (Cy)))
theorem Je (x y:Int) (hx:Cb x) (hy:Cb y) (hz:Cb (x*y)):AF Tryz.prog 122 [WA x,WA y] (WA (x*y)):=by
 refine As func122 rfl λB D0 hA0=>?_
 exact Ab 11 (Aw (Vk x y hx hy hz) (Ab 15 (Cy)))
theorem Vi (x y:Int) (hx:Cb x) (hy:Cb y):AF Tryz.prog 102 [WA x,WA y] (WA (Nat.gcd x.natAbs y.natAbs:Int)):=by
 refine As func102 rfl λB D0 hA0=>?_
 exact Ab 11 (Aw (AbQ x y hx hy) (Ab 15 (Cy)))
theorem Vj (x y:Int) (hx:Cb x) (hy:Cb y) (h0:y≠0):AF Tryz.prog 127 [WA x,WA y] (WA (x/y)):=by
 refine As func127 rfl λB D0 hA0=>?_
 exact Ab 11 (Aw (AbR x y hx hy h0) (Ab 18 (Cy)))
theorem Jt (n:Int) (k:Nat) (h0: -9223372036854775808<=n) (h1:n<=9223372036854775807) (hk:k<=1000) (hf:∀j,j<=k->Cb (n^j)):AF Tryz.prog 126 [.int n,.int (k:Int)] (WA (n^k)):=by
 refine As func126 rfl λB D0 hA0=>?_
 refine Ab 7 (Aw (Ga 1 δ δ) (Ab 12 (vlp [0,4,5,7,8] (λm s=>∃(i:Nat) (z:Int),m=k-i/\(z=n^i/\i<=k)/\s=⟨[(0,.int n),(4,.ptr 0 0),(5,.ptr 1 0),(7,.int (k:Int)),(8,.int (i:Int))],[(0,.box 174 [.bool false,.lit (.string ⟨#[]⟩)]),(1,.box 174 [.bool (decide (z<0)),.lit (.string (Df (z).natAbs))])],2,16⟩) (k-0) ⟨0,1,rfl,⟨(Int.pow_zero n).symm,Nat.zero_le _⟩,κ⟩ ?_)))
 rintro _ _ ⟨i,z,rfl,hF,rfl⟩ J1 hJ1
 refine Ab 6 (Mf 9 ((i:Int)<(k:Int)) (λhx1 hx1d=>?_) (λhx1 hx1d=>?_))
 ·
  exact Ab 5 (Fa [(2,_,.none),(3,_,.none)] [0,4,5,7,8] ⟨Cx (Ga n h0 h1),Cx (Je z n (by rw[hF.1];exact hf i ω) (Ez h0 h1) (by rw[hF.1,<-Int.pow_succ];exact hf (i+1) ω)),trivial⟩ (Ab 3 (Ig ((i:Int)+1) ((i+1:Nat):Int) (Ab 2 (vrd [0,4,5,7,8] (hJ1 _ _ (by omega:k-(i+1)<k-i) ⟨i+1,z*n,rfl,⟨by rw[hF.1,<-Int.pow_succ],ω⟩,rfl⟩))))))
 ·
  exact Ab 13 (Fu (.lit (Ak z)) (by rw[hF.1,show i=k by omega]))
theorem AaZ (x y:Int) (w:World) (hx:Cb x) (hy:Cb y) (hr:Cb (x+y)):Calls Tryz.prog 123 #[Ak x,Ak y] w λe w'=>e= .returned (Ak (x+y))/\Below w.heap.size w w':=(Vh x y hx hy hr).lits (l:=[_,_]) w
theorem jY (x y:Int) (w:World) (hx:Cb x) (hy:Cb y) (hr:Cb (x*y)):Calls Tryz.prog 122 #[Ak x,Ak y] w λe w'=>e= .returned (Ak (x*y))/\Below w.heap.size w w':=(Je x y hx hy hr).lits (l:=[_,_]) w
theorem Abe (x y:Int) (w:World) (hx:Cb x) (hy:Cb y):Calls Tryz.prog 102 #[Ak x,Ak y] w λe w'=>e= .returned (Ak (Nat.gcd x.natAbs y.natAbs:Int))/\Below w.heap.size w w':=(Vi x y hx hy).lits (l:=[_,_]) w
theorem Nu (n:Int) (w:World) (h0: -9223372036854775808<=n) (h1:n<=9223372036854775807):Calls Tryz.prog 99 #[.int .i64 n] w λe w'=>e= .returned (Ak n)/\Below w.heap.size w w':=(Ga n h0 h1).lits (l:=[_]) w
theorem fA (x y:Int) (w:World) (hx:Cb x) (hy:Cb y):Calls Tryz.prog 124 #[Ak x,Ak y] w λe w'=>e= .returned (.int .i64 (x-y).sign)/\Below w.heap.size w w':=(fP x y hx hy).lits (l:=[_,_]) w
theorem qP (w:World) (o o':Obj):((w.alloc o).alloc o').heap[w.heap.size]?=some o/\((w.alloc o).alloc o').heap[w.heap.size+1]?=some o':=by
 constructor
 show ((w.heap.push o).push o')[w.heap.size]?=some o
 simp[Array.getElem?_push]
 have:=heap_alloc_new (w.alloc o) o'
 rwa [World.size_alloc] at this
theorem Below.store2 {B:Nat} {a w:World} {b:Nat} (h:Below B a w) (hb:B<=b) (u0 u1:Value):Below B a ((w.setCell ⟨b,0,none⟩ u0).setCell ⟨b,1,none⟩ u1):=(h.setCell (p:=⟨b,0,none⟩) hb u0).setCell (p:=⟨b,1,none⟩) hb u1
theorem aK {w:World} {b:Nat} {x0 x1:Value} {t:TypeId} {fz:Nat×Nat} (h:w.heap[b]?=some (.cells #[x0,x1] t fz)):w.cell? ⟨b,0,none⟩=some x0/\w.cell? ⟨b,1,none⟩=some x1:=by
 constructor<;>simp[World.cell?,h]
theorem Aaf {w:World} {b:Nat} {x0 x1:Value} {t:TypeId} (h:w.heap[b]?=some (.cells #[x0,x1] t (0,0))) (i:Nat):w.frozen? ⟨b,i,none⟩=false:=by simp[World.frozen?,h]
theorem Nn {w:World} {b:Nat} (u0 u1:Value) {k:Nat} (hk:k≠b):((w.setCell ⟨b,0,none⟩ u0).setCell ⟨b,1,none⟩ u1).heap[k]?=w.heap[k]?:=by
 rw[Below.heap_setCell _ ⟨b,1,none⟩ _ _ hk,Below.heap_setCell _ ⟨b,0,none⟩ _ _ hk]
theorem vF {w:World} {b:Nat} {x0 x1:Value} {t:TypeId} {fz:Nat×Nat} (hb:w.heap[b]?=some (.cells #[x0,x1] t fz)) (u0 u1:Value):((w.setCell ⟨b,0,none⟩ u0).setCell ⟨b,1,none⟩ u1).heap[b]?=some (.cells #[u0,u1] t fz):=by
 simp[World.setCell,Array.getElem?_modify,hb]
theorem lX {w:World} {b:Nat} {x0 x1:Value} {t:TypeId} {fz:Nat×Nat} (h:w.heap[b]?=some (.cells #[x0,x1] t fz)):∀j u,[x0,x1][j]?=some u->w.cell? ⟨b,0+j,none⟩=some u:=by
 intro j u hu
 rw[Nat.zero_add]
 match j with
 |0=>simp at hu;subst hu;exact(aK h).1
 |1=>simp at hu;subst hu;exact(aK h).2
 |j+2=>simp at hu
def Jf (w:World) (b:Nat) (z:Int):Prop:=w.heap[b]?=some (.cells #[.bool (decide (z<0)),.string (Df z.natAbs)] 174 (0,0))
theorem Jf.cells {w:World} {b:Nat} {z:Int} (h:Jf w b z):w.cell? ⟨b,0,none⟩=some (.bool (decide (z<0)))/\w.cell? ⟨b,1,none⟩=some (.string (Df z.natAbs)):=aK h
theorem Jf.lt {w:World} {b:Nat} {z:Int} (h:Jf w b z):b<w.heap.size:=(Array.getElem?_eq_some_iff.1 h).1
theorem Jf.up {w w':World} {b B:Nat} {z:Int} (h:Jf w b z) (hb:Below B w w') (hl:b<B):Jf w' b z:=(hb.block b hl).trans h
theorem Jf.store {w:World} {b:Nat} {z:Int} (h:Jf w b z) (y:Int):Jf ((w.setCell ⟨b,0,none⟩ (.bool (decide (y<0)))).setCell ⟨b,1,none⟩ (.string (Df y.natAbs))) b y:=vF h _ _
theorem Jf.new (w:World) (z:Int):Jf (w.alloc (.cells #[.bool (decide (z<0)),.string (Df z.natAbs)] 174)) w.heap.size z:=heap_alloc_new w _
def Cp:Nat->Nat->Nat
 |_,0=>1
 |0,_+1=>0
 |n+1,k+1=>Cp n k+Cp n (k+1)
def Nz (n k:Nat):List Int:=(List.range 36).map λi=>if i/6<n\/(i/6=n/\i%6<k) then (Cp (i/6) (i%6):Int) else 0
theorem Ee (n k:Nat):(Nz n k).length=36:=by simp[Nz]
theorem aL:Nz 0 0=List.replicate 36 0:=by decide
theorem oY:∀n,n<6->∀k,k<6->(Nz n k).set (n*6+k) (Cp n k)=Nz n (k+1):=by decide
theorem oX:∀n,n<6->∀k,k<6->∀m,m<n->∀j,j<6->(Nz n k).getD (m*6+j) 0=Cp m j:=by decide
theorem Aci (n:Nat) (h:n<6):∀d,n+1+d=6->Nz n (n+1)=Nz (n+1) 0:=by
 intro d hd
 have:∀n,n<6->Nz n (n+1)=Nz (n+1) 0:=by decide
 exact this n h
def Fj (w:World) (b:Nat) (t:TypeId) (l:List Int):Prop:=w.heap[b]?=some (.cells (Cv l).toArray t (0,0))
theorem Fj.cell {w:World} {b:Nat} {t:TypeId} {l:List Int} (h:Fj w b t l) {i:Nat} (hi:i<l.length):w.cell? ⟨b,i,none⟩=some (.int .i64 (l.getD i 0)):=by
 simp[World.cell?,show w.heap[b]?=_ from h,Cv,hi]
theorem Fj.frozen {w:World} {b:Nat} {t:TypeId} {l:List Int} (h:Fj w b t l) (i:Nat):w.frozen? ⟨b,i,none⟩=false:=by
 simp[World.frozen?,show w.heap[b]?=_ from h]
theorem Fj.set {w:World} {b:Nat} {t:TypeId} {l:List Int} (h:Fj w b t l) (i:Nat) (x:Int):Fj (w.setCell ⟨b,i,none⟩ (.int .i64 x)) b t (l.set i x):=by
 unfold Fj at*
 simp[World.setCell,Array.getElem?_modify,h,Cv,List.map_set]
theorem Fj.other {w:World} {b:Nat} {t:TypeId} {l:List Int} (h:Fj w b t l) (p:Addr) (u:Value) (hp:b≠p.block):Fj (w.setCell p u) b t l:=(Below.heap_setCell w p u b hp).trans h
theorem Tb {P:Program} {T:TypeId} {b o:Nat} (cs:List Value) (w:World) (hT:(isAgg T).run P w= .ok true w) (hn:(sizeOf T).run P w= .ok cs.length w) (hc:∀j u,cs[j]?=some u->w.cell? ⟨b,o+j,none⟩=some u):
  (loadVar T ⟨b,o,none⟩).run P w= .ok (.agg cs.toArray) w:=by
 have:=Nk (P:=P) (w:=w) (b:=b) (o:=o) cs 0 #[] (λj u hu=>by rw[Nat.zero_add];exact hc j u hu)
 simp[loadVar,hT,hn,loadCells,this]
theorem nO {P:Program} {T:TypeId} {b:Nat} (cs:List Value) (w:World) (hn:(sizeOf T).run P w= .ok cs.length w) (hc:∀j,j<cs.length->(w.cell? ⟨b,j,none⟩).isSome=true) (hf:∀j,j<cs.length->w.frozen? ⟨b,j,none⟩=false) (h1:∀v∈cs,v.oneCell'=true):
  (Instr.storeAt T (.pointer (some ⟨b,0,none⟩)) (.agg cs.toArray)).run P w= .ok () (w.setCells b 0 cs):=by
 have hs:=run_storeCells_cells (P:=P) b 0 cs 0 w (by simpa using hc) (by simpa using hf) h1
 simp[Instr.storeAt,Instr.sureAddr,storeVar,hn,Value.cells,hs]
theorem Vc {P:Program} {w:World} {ops:Array Oper} {rest:List Oper} {o:Oper} {a:Act} {Q:Exit->Act->World->Prop} (hgd:o.guard=none) (T:TypeId) (x:Operand) (ho:o.op= .load T x) (b:Nat) (cs:List Value) (hx:a.eval x= .pointer (some ⟨b,0,none⟩))
  (hT:(isAgg T).run P w= .ok true w) (hn:(sizeOf T).run P w= .ok cs.length w) (hc:∀j u,cs[j]?=some u->w.cell? ⟨b,0+j,none⟩=some u) (h:wpList P ops Q rest (a.put o.dst (.agg cs.toArray)) w):wpList P ops Q (o::rest) a w:=by
 refine wpList_plain hgd λK hK=>?_
 have hrun:=Fp (P:=P) (T:=T) (b:=b) (o:=0) cs w hT hn hc
 unfold Oper.wp
 simp[execOp,ho,hx,hrun,Result.andThen]
 exact hK _ _ h
theorem Mh {P:Program} {w:World} {ops:Array Oper} {rest:List Oper} {o:Oper} {a:Act} {Q:Exit->Act->World->Prop} (hgd:o.guard=none) (hd:o.dst=none) (T:TypeId) (x y:Operand) (ho:o.op= .store T x y) (b:Nat) (cs:List Value) (hx:a.eval x= .pointer (some ⟨b,0,none⟩)) (hy:a.eval y= .agg cs.toArray)
  (hn:(sizeOf T).run P w= .ok cs.length w) (hc:∀j,j<cs.length->(w.cell? ⟨b,j,none⟩).isSome=true) (hf:∀j,j<cs.length->w.frozen? ⟨b,j,none⟩=false) (h1:∀v∈cs,v.oneCell'=true) (h:wpList P ops Q rest a (w.setCells b 0 cs)):wpList P ops Q (o::rest) a w:=by
 refine wpList_plain hgd λK hK=>?_
 have hrun:=nO (P:=P) (T:=T) (b:=b) cs w hn hc hf h1
 unfold Oper.wp
 simp[execOp,ho,hx,hy,hrun,Result.andThen]
 have e:a.put o.dst undef=a:=by rw[hd];rfl
 have h2:=hK _ _ h
 rw[<-e] at h2
 exact h2
theorem Fj.load {w:World} {b:Nat} {t:TypeId} {l:List Int} (h:Fj w b t l):∀j u,(Cv l)[j]?=some u->w.cell? ⟨b,0+j,none⟩=some u:=λj u hu=>by
 rw[Nat.zero_add]
 simp only[World.cell?,show w.heap[b]?=_ from h]
 simpa using hu
theorem iO (l:List Int):∀v∈Cv l,v.oneCell'=true:=by
 intro v hv
 obtain⟨x,_,rfl⟩:=List.mem_map.1 hv
 rfl
theorem Tg (w:World):(sizeOf 204).run Tryz.prog w= .ok (Cv (Nz 6 0)).length w:=by kernel_rfl
theorem qM (w:World):(isAgg 204).run Tryz.prog w= .ok true w:=by kernel_rfl
structure ChJ (w:World) (n k:Nat) (wr:World):Prop where
 tab:Fj wr (w.heap.size+1) 204 (Nz n k)
 res:Fj wr w.heap.size 204 (Nz 0 0)
 below:Below w.heap.size w wr
def Adn:Value:= .agg (Cv (Nz 6 0)).toArray
theorem gP (w:World):Calls Tryz.prog 121 #[] w λe w'=>e= .returned Adn/\Below w.heap.size w w':=by
 go_enter func121,ntmps121
 go_upto_region 2 with fail
 obtain⟨W,hW⟩:∃W,W=(w.alloc (.cells (Cv (Nz 0 0)).toArray 204)).alloc (.cells (Cv (Nz 0 0)).toArray 204):=⟨_,rfl⟩
 have h2:=qP w (.cells (Cv (Nz 0 0)).toArray 204) (.cells (Cv (Nz 0 0)).toArray 204)
 rw[<-hW] at h2
 have HJ0:Hid (ChJ w 0 0 W):=⟨h2.2,h2.1,by rw[hW];exact((Below.refl _ _).alloc (Nat.le_refl _) _).alloc (by simp) _⟩
 have hlit:((Cv (Nz 0 0)).toArray:Array Value)=#[.int .i64 0,.int .i64 0,.int .i64 0,.int .i64 0,.int .i64 0,.int .i64 0,.int .i64 0,.int .i64 0,.int .i64 0,.int .i64 0,.int .i64 0,.int .i64 0,.int .i64 0,.int .i64 0,.int .i64 0,.int .i64 0,.int .i64 0,.int .i64 0,.int .i64 0,.int .i64 0,.int .i64 0,.int .i64 0,.int .i64 0,.int .i64 0,.int .i64 0,.int .i64 0,.int .i64 0,.int .i64 0,.int .i64 0,.int .i64 0,.int .i64 0,.int .i64 0,.int .i64 0,.int .i64 0,.int .i64 0,.int .i64 0]:=by rw[aL];rfl
 rw[hlit] at hW
 rw[<-hW]
 clear hW h2 hlit
 go_wp2_with fail
 go_loopw [2,3,4] (λ_ _ iv wr=>∃n:Nat,n<=6/\iv= .int .i64 (n:Int)/\Hid (ChJ w n 0 wr)) (λ_ _ iv _=>6-(intOf iv).toNat)
 case atStart=>exact⟨0,ω,rfl,HJ0⟩
 case round=>
  obtain⟨n,hn,rfl,HJ⟩:=hrel
  clear HJ0
  by_cases hn6:n=6
  ·
   subst hn6
   have HT:=Lib.hid HJ.out.tab
   have HR:=Lib.hid HJ.out.res
   have HBW:=Lib.hid HJ.out.below
   clear HJ
   go_wp2_with (first
    |(refine Vc rfl 204 (.tmp 1) rfl (w.heap.size+1) (Cv (Nz 6 0)) rfl (qM _) (Tg _) HT.out.load ?_)
    |(refine Mh rfl rfl 204 (.tmp 0) (.tmp 34) rfl w.heap.size (Cv (Nz 6 0)) rfl rfl (Tg _) ?_ ?_ (iO _) ?_))
   ·
    intro j hj
    rw[HR.out.cell (by simpa [Cv,Ee] using hj)];rfl
   · intro j _;exact HR.out.frozen j
   ·
    have hcell:∀j u,(Cv (Nz 6 0))[j]?=some u->(wr.setCells w.heap.size 0 (Cv (Nz 6 0))).cell? ⟨w.heap.size,0+j,none⟩=some u:=by
     intro j u hu
     have hj:=(List.getElem?_eq_some_iff.1 hu).1
     have:=World.cell?_setCells_in w.heap.size (Cv (Nz 6 0)) 0 wr (λj hj=>by rw[Nat.zero_add,HR.out.cell (by simpa [Cv,Ee] using hj)];rfl) j hj
     rw[this,<-hu,List.getElem?_eq_getElem hj]
    have hl:=Tb (P:=Tryz.prog) (T:=204) (b:=w.heap.size) (o:=0) (Cv (Nz 6 0)) _ (qM _) (Tg _) hcell
    refine bodyPost_ret (v:=Adn) (by simp[results,results121,Act.put,asAddr,hl,Adn]) rfl ?_
    exact⟨rfl,Ed (Nat.le_refl _) _ _ HBW.out⟩
  ·
   have hnl:n<6:=by omega
   have hni:(n:Int)<6:=by omega
   have c0:=HJ.out.tab.cell (i:=n*6) (by rw[Ee];omega)
   have f0:=HJ.out.tab.frozen (n*6)
   have HJ1:Hid (ChJ w n 1 (wr.setCell ⟨w.heap.size+1,n*6,none⟩ (.int .i64 1))):=by
    refine⟨?_,HJ.out.res.other _ _ (by show w.heap.size≠w.heap.size+1;omega),HJ.out.below.setCell (by show w.heap.size<=w.heap.size+1;omega) _⟩
    have:=HJ.out.tab.set (n*6) 1
    have h3:=oY n hnl 0 ω
    rw[Nat.add_zero,show ((Cp n 0:Nat):Int)=1 by cases n<;>rfl] at h3
    rw[h3] at this
    exact this
   generalize (Nz n 0).getD (n*6) 0=z at*
   go_wp2_with fail
   clear HJ c0 f0
   go_loopw [3] (λkv wr=>∃k:Nat,1<=k/\k<=n+1/\kv= .int .i64 (k:Int)/\Hid (ChJ w n k wr)) (λkv _=>n+1-(intOf kv).toNat)
   case atStart=>exact⟨1,ω,ω,rfl,HJ1⟩
   case round=>
    obtain⟨k,hk1,hkn,rfl,HJ⟩:=hrel
    clear HJ1
    by_cases hkk:k=n+1
    ·
     subst hkk
     have HNX:Hid (ChJ w (n+1) 0 wr):=by
      have h1:=HJ.out
      refine⟨?_,h1.res,h1.below⟩
      rw[<-Aci n hnl (5-n) ω];exact h1.tab
     have hle:¬((n:Int)+1)<=(n:Int):=by omega
     clear HJ
     go_wp2_with fail
     exact⟨⟨n+1,ω,rfl,HNX⟩,by simp only[intOf];omega⟩
    ·
     have hkl:k<=n:=by omega
     have hki:(k:Int)<=(n:Int):=by omega
     obtain⟨m,hm⟩:∃m,n=m+1:=⟨n-1,ω⟩
     obtain⟨j,hj⟩:∃j,k=j+1:=⟨k-1,ω⟩
     have hmw:IntKind.i64.wrap ((n:Int)-1)=(m:Int):=by rw[IntWalk.i64_in _ ω];omega
     have hjw:IntKind.i64.wrap ((k:Int)-1)=(j:Int):=by rw[IntWalk.i64_in _ ω];omega
     have hmi:(m:Int)<6:=by omega
     have hji:(j:Int)<6:=by omega
     have hki6:(k:Int)<6:=by omega
     have ga:wr.cell? ⟨w.heap.size+1,m*6+j,none⟩=some (.int .i64 (Cp m j:Int)):=by
      rw[HJ.out.tab.cell (by rw[Ee];omega),oX n hnl k ω m ω j ω]
     have gb:wr.cell? ⟨w.heap.size+1,m*6+k,none⟩=some (.int .i64 (Cp m k:Int)):=by
      rw[HJ.out.tab.cell (by rw[Ee];omega),oX n hnl k ω m ω k ω]
     have gc:=HJ.out.tab.cell (i:=n*6+k) (by rw[Ee];omega)
     have gf:=HJ.out.tab.frozen (n*6+k)
     have HNX:Hid (ChJ w n (k+1) (wr.setCell ⟨w.heap.size+1,n*6+k,none⟩ (.int .i64 (Cp n k:Int))).drew):=by
      refine⟨?_,(HJ.out.res.other _ _ (by show w.heap.size≠w.heap.size+1;omega):Fj _ _ _ _),(HJ.out.below.setCell (by show w.heap.size<=w.heap.size+1;omega) _).drew⟩
      have:=HJ.out.tab.set (n*6+k) (Cp n k:Int)
      rw[oY n hnl k ω] at this
      exact this
     have hsum:IntKind.i64.wrap ((Cp m j:Int)+(Cp m k:Int))=(Cp n k:Int):=by
      have hb:∀m,m<6->∀j,j<6->Cp m j<=100:=by decide
      have h1:=hb m ω j ω
      have h2:=hb m ω k ω
      rw[IntWalk.i64_in _ ω,hm,hj];rfl
     have hk6:k<6:=by omega
     have hm6:m<6:=by omega
     have hj6:j<6:=by omega
     clear hm hj
     generalize (Nz n k).getD (n*6+k) 0=zz at*
     generalize Cp m j=ca at*
     generalize Cp m k=cb at*
     generalize Cp n k=cc at*
     clear HJ
     go_wp2_with fail
     go_region
     obtain⟨w3,hw3⟩:∃w3,w3=(wr.setCell ⟨w.heap.size+1,n*6+k,none⟩ (.int .i64 (cc:Int))).drew:=⟨_,rfl⟩
     rw[<-hw3] at HNX ⊢
     clear hw3 ga gb gc gf
     go_wp2_with fail
     exact⟨⟨k+1,ω,ω,rfl,HNX⟩,by simp only[intOf];omega⟩
theorem Acc (w:World):(sizeOf 176).run Tryz.prog w= .ok 3 w:=by kernel_rfl
theorem AdZ (w:World):(isAgg 176).run Tryz.prog w= .ok true w:=by kernel_rfl
theorem yW (f t o:Int) (Ax Ay Az:Option Addr) (nx cx ny cy nz cz:Nat) (w:World):
  Calls Tryz.prog 100 #[.agg #[.int .i64 f,.int .i64 t,.int .i64 o,.slice Ax nx cx,.slice Ay ny cy,.slice Az nz cz]] w λe w'=>e= .returned (.agg #[.slice Ax nx cx,.slice Ay ny cy,.slice Az nz cz])/\Below w.heap.size w w':=by
 go_enter func100,ntmps100
 go_upto_region 1 with fail
 go_wp2_with fail
 obtain⟨V,hV⟩:∃V,V=(w.alloc (.cells #[.int .i64 f,.int .i64 t,.int .i64 o,.slice Ax nx cx,.slice Ay ny cy,.slice Az nz cz] 120)).alloc (.cells #[.slice Ax nx cx,.slice Ay ny cy,.slice Az nz cz] 176):=⟨_,rfl⟩
 have h2:=(qP w (.cells #[.int .i64 f,.int .i64 t,.int .i64 o,.slice Ax nx cx,.slice Ay ny cy,.slice Az nz cz] 120) (.cells #[.slice Ax nx cx,.slice Ay ny cy,.slice Az nz cz] 176)).2
 rw[<-hV] at h2
 have hb:Below w.heap.size w V:=by rw[hV];exact((Below.refl _ _).alloc (Nat.le_refl _) _).alloc (by simp) _
 rw[<-hV]
 clear hV
 have hl:=Tb (P:=Tryz.prog) (T:=176) (b:=w.heap.size+1) (o:=0) [.slice Ax nx cx,.slice Ay ny cy,.slice Az nz cz] V (AdZ V) (Acc V) (λj u hu=>by
  rw[Nat.zero_add]
  simp only[World.cell?,h2]
  simpa using hu)
 exact bodyPost_ret (v:= .agg #[.slice Ax nx cx,.slice Ay ny cy,.slice Az nz cz]) (by simp[results,results100,asAddr,hl]) rfl ⟨rfl,hb⟩
abbrev Be (l:List Int):AV:= .sl 1 l.length λi=> .int (l.getD i 0)
abbrev Pm (s:Sg):AV:= .agg [.int s.f,.int s.t,.int s.o,Be s.x,Be s.y,Be s.z]
theorem AbI (s:Sg):AF Tryz.prog 100 [Pm s] (.agg [Be s.x,Be s.y,Be s.z]):=by
 refine As func100 rfl λB D0 hA0=>?_
 exact Ab 19 (Cy)
def fac (n j k:Nat):Nat:=60/Cp n k*Cp j k
def Jj (l:List Int) (j:Nat):Nat->Int
 |0=>0
 |k+1=>Jj l j k+l.getD k 0*(fac (l.length-1) j k:Int)
def Tm (l:List Int) (o:Int) (n:Nat):Prop:=∀j,j<n->((Jj l j (j+1)).natAbs:Int)<=62914560*o
theorem mL:∀n,n<6->∀j,j<6->∀k,k<6->fac n j k<=600:=by decide
theorem lY:∀n,n<6->∀k,k<=n->1<=Cp n k/\Cp n k<=10:=by
 intro n hn k hk
 have:∀n,n<6->∀k,k<6->k<=n->1<=Cp n k/\Cp n k<=10:=by decide
 exact this n hn k ω hk
theorem sC:∀n,n<6->∀k,k<6->Cp n k<=10:=by decide
theorem Tr {z:Int} (h:z.natAbs<2^200):Cb z:=by
 unfold Cb
 exact Nat.le_trans (Ec.2 h) δ
theorem qL {l:List Int} {j:Nat} (hl:l.length<=6) (hj:j<6) (h:∀i,-9223372036854775808<=l.getD i 0/\l.getD i 0<=9223372036854775807):∀k,k<=6->(Jj l j k).natAbs<=k*(9223372036854775808*600)
 |0,_=>by simp[Jj]
 |k+1,hk=>by
  have h1:=qL hl hj h k ω
  have h2:=mL (l.length-1) ω j hj k ω
  have h3:=h k
  have h4:(l.getD k 0).natAbs<=9223372036854775808:=by omega
  have h5:(l.getD k 0*(fac (l.length-1) j k:Int)).natAbs<=9223372036854775808*600:=by
   rw[Int.natAbs_mul,Int.natAbs_natCast]
   exact Nat.mul_le_mul h4 h2
  have h6:(Jj l j (k+1)).natAbs<=(Jj l j k).natAbs+(l.getD k 0*(fac (l.length-1) j k:Int)).natAbs:=by
   show (Jj l j k+l.getD k 0*(fac (l.length-1) j k:Int)).natAbs<=_
   exact Int.natAbs_add_le _ _
  omega
theorem Yg {l:List Int} {j k:Nat} (hl:l.length<=6) (hj:j<6) (hk:k<=6) (h:∀i,-9223372036854775808<=l.getD i 0/\l.getD i 0<=9223372036854775807):Cb (Jj l j k):=by
 refine Tr ?_
 have:=qL hl hj h k hk
 have h2:k*(9223372036854775808*600)<=6*(9223372036854775808*600):=Nat.mul_le_mul_right _ hk
 exact Nat.lt_of_le_of_lt (Nat.le_trans this h2) δ
theorem Abo {l:List Int} {n j k:Nat} (hn:n<6) (hj:j<6) (hk:k<6) (h:∀i,-9223372036854775808<=l.getD i 0/\l.getD i 0<=9223372036854775807):Cb (l.getD k 0*(fac n j k:Int)):=by
 refine Tr ?_
 have h2:=mL n hn j hj k hk
 have h3:=h k
 have h4:(l.getD k 0).natAbs<=9223372036854775808:=by omega
 rw[Int.natAbs_mul,Int.natAbs_natCast]
 exact Nat.lt_of_le_of_lt (Nat.mul_le_mul h4 h2) δ
theorem jD {o:Int} (h0: -9223372036854775808<=o) (h1:o<=9223372036854775807):Cb (62914560*o):=by
 refine Tr ?_
 have h4:o.natAbs<=9223372036854775808:=by omega
 rw[Int.natAbs_mul]
 exact Nat.lt_of_le_of_lt (Nat.mul_le_mul (Nat.le_refl _) h4) δ
theorem zF {l:List Int} {o:Int} {n:Nat} (h:Tm l o n) (h2:((Jj l n (n+1)).natAbs:Int)<=62914560*o):Tm l o (n+1):=λj hj=>by
 by_cases e:j=n
 rw[e];exact h2
 exact h j ω
theorem Ado:((Cv (Nz 0 0)).toArray:Array Value)=#[.int .i64 0,.int .i64 0,.int .i64 0,.int .i64 0,.int .i64 0,.int .i64 0,.int .i64 0,.int .i64 0,.int .i64 0,.int .i64 0,.int .i64 0,.int .i64 0,.int .i64 0,.int .i64 0,.int .i64 0,.int .i64 0,.int .i64 0,.int .i64 0,.int .i64 0,.int .i64 0,.int .i64 0,.int .i64 0,.int .i64 0,.int .i64 0,.int .i64 0,.int .i64 0,.int .i64 0,.int .i64 0,.int .i64 0,.int .i64 0,.int .i64 0,.int .i64 0,.int .i64 0,.int .i64 0,.int .i64 0,.int .i64 0]:=by rw[aL];rfl
def Uw (w:World) (tb:Nat):Prop:=∀i,i<36->w.cell? ⟨tb,i,none⟩=some (.int .i64 ((Nz 6 0).getD i 0))
theorem Adm {w:World} {tb:Nat} {t:TypeId} {l:List Int} (h:Fj w tb t l) (hl:l.length=36):Uw (w.setCells tb 0 (Cv (Nz 6 0))) tb:=by
 intro i hi
 have hj:i<(Cv (Nz 6 0)).length:=by simpa [Cv,Ee] using hi
 have:=World.cell?_setCells_in tb (Cv (Nz 6 0)) 0 w (λj hj=>by rw[Nat.zero_add,h.cell (by rw[hl];simpa [Cv,Ee] using hj)];rfl) i hj
 rw[Nat.zero_add] at this
 rw[this]
 simp[Cv,List.getD_eq_getElem?_getD,Ee,hi]
theorem Uw.up {w w':World} {tb B:Nat} (h:Uw w tb) (hb:Below B w w') (hl:tb<B):Uw w' tb:=λi hi=>(hb.cell (p:=⟨tb,i,none⟩) hl).trans (h i hi)
theorem Qc {P:Program} {ops:Array Oper} {n:Nat} {C:World->Prop} {R:Nat->Value->World->Prop} {a0:Act} {Q:Exit->Act->World->Prop} {i:Nat} {o:Oper} (T e:TypeId) (t t':Nat) (b off len size:Nat) (j:Int) (k:Nat) (h1:1<len) (ho:o.op= .indexAddr T (.tmp t) (.tmp t')) (hx:Ge ops n R a0 (.tmp t)=is (.pointer (some ⟨b,off,none⟩))) (hx':Ge ops n R a0 (.tmp t')=is (.int .i64 j))
  (hT:P.underlying T=some (.array len e)) (hsz:∀w,(sizeOf e).run P w= .ok size w) (hj:j=(k:Int)) (hk:k<len) (hr:R i=is (.pointer (some ⟨b,off+k*size,none⟩))):Ik P ops n C R a0 Q i o:=
 bG t t' _ _ (.pointer (some ⟨b,off+k*size,none⟩)) (by rw[ho];rfl) hx hx' (λa w _ h1 h2=>by
  have e1:a.eval (.tmp t)= .pointer (some ⟨b,off,none⟩):=by simpa [Act.eval] using h1
  have e2:a.eval (.tmp t')= .int .i64 j:=by simpa [Act.eval] using h2
  have hj2:(0:Int)<=j/\j<(len:Int):=by omega
  have hj3:j.toNat=k:=by omega
  have hl:¬len<=1:=by omega
  simp[execOp,ho,e1,e2,Instr.indexAt,Instr.sureAddr,asIntOf,run_underlying hT,hj2,hj3,hsz,Dx]) hr
theorem mP (w:World):(sizeOf 3).run Tryz.prog w= .ok 1 w:=by kernel_rfl
theorem jU (w:World):(sizeOf 203).run Tryz.prog w= .ok 6 w:=by kernel_rfl
structure BoJ (w:World) (l:List Int) (o mo:Int) (tb sb j:Nat) (wr:World):Prop where
 tab:Uw wr tb
 most:Jf wr sb mo
 bnd:Tm l o j
 below:Below w.heap.size w wr
structure BoK (w:World) (l:List Int) (mo:Int) (tb sb xb j k:Nat) (wr:World):Prop where
 tab:Uw wr tb
 most:Jf wr sb mo
 sum:Jf wr xb (Jj l j k)
 below:Below w.heap.size w wr
theorem oW:∀m,m<6->∀j,j<6->(Nz 6 0).getD (m*6+j) 0=Cp m j:=by decide
theorem Uw.store2 {w:World} {tb xb:Nat} (h:Uw w tb) (hne:tb≠xb) (u u':Value):Uw ((w.setCell ⟨xb,0,none⟩ u).setCell ⟨xb,1,none⟩ u') tb:=λi hi=>(World.cell?_of_block (Nn _ _ hne)).trans (h i hi)
theorem Ng {P:Program} {f:FuncId} {args:Array Value} {v:Value} {wr:World} (h:∀wa,Calls P f args wa λe w'=>e= .returned v/\Below wa.heap.size wa w'):∀wa,Below wr.heap.size wr wa->Calls P f args wa λe w'=>∃v',e= .returned v'/\Below wr.heap.size wr w'/\Below wa.heap.size wa w'/\is v v' w':=λwa hC=>by
 refine(h wa).mono ?_
 rintro e w' ⟨rfl,hb⟩
 exact⟨_,rfl,hC.trans (hb.mono hC.size),hb,rfl⟩
instance (l:List Int) (o:Int) (n:Nat):Decidable (Tm l o n):=by unfold Tm;infer_instance
theorem gL (l:List Int) (o:Int) (b q c:Nat) (w:World) (hs:∀i,i<l.length->w.cell? ⟨b,q+i*1,none⟩=some (.int .i64 (l.getD i 0))) (h1:1<=l.length) (h6:l.length<=6) (hi:∀i,-9223372036854775808<=l.getD i 0/\l.getD i 0<=9223372036854775807)
  (ho0: -9223372036854775808<=o) (ho1:o<=9223372036854775807):
  Calls Tryz.prog 101 #[.slice (some ⟨b,q,none⟩) l.length c,.int .i64 o] w λe w'=>e= .returned (.bool (decide (Tm l o l.length)))/\Below w.heap.size w w':=by
 have HCH:=Lib.hid gP
 have HOM:=Lib.hid (λw=>Nu 62914560 w δ δ)
 have HOO:=Lib.hid (λw=>Nu o w ho0 ho1)
 have HMM:=Lib.hid (λw=>jY 62914560 o w (Ez δ δ) (Ez ho0 ho1) (jD ho0 ho1))
 have HFM0:=Lib.hid (jD ho0 ho1)
 have HS:=Lib.hid hs
 have HI:=Lib.hid hi
 obtain⟨n,hn⟩:∃n:Nat,l.length=n+1:=⟨l.length-1,ω⟩
 have hw:IntKind.i64.wrap ((l.length:Int)-1)=(n:Int):=by rw[IntWalk.i64_in _ ω];omega
 have hbw:b<w.heap.size:=by
  have:=hs 0 ω
  simp only[World.cell?] at this
  cases h:w.heap[b]? with
  |none=>rw[h] at this;cases this
  |some x=>exact(Array.getElem?_eq_some_iff.1 h).1
 clear hs hi ho0 ho1
 go_enter func101,ntmps101
 go_upto_region 1 with fail
 go_wp2_with fail
 refine(HCH.out _).mono ?_
 rintro e w1 ⟨rfl,hb1⟩
 have HB1:Hid (Below w.heap.size w w1):=hb1
 have hs1:w.heap.size<=w1.heap.size:=hb1.size
 clear hb1 HCH
 obtain⟨W,hW⟩:∃W,W=w1.alloc (.cells (Cv (Nz 0 0)).toArray 204):=⟨_,rfl⟩
 have HT0:Hid (Fj W w1.heap.size 204 (Nz 0 0)):=by unfold Hid Fj;rw[hW];exact heap_alloc_new w1 _
 have HB2:Hid (Below w.heap.size w W):=by unfold Hid;rw[hW];exact HB1.out.alloc hs1 _
 have hsW:W.heap.size=w1.heap.size+1:=by rw[hW];simp
 rw[Ado] at hW
 obtain⟨tb,htb⟩:∃tb,tb=w1.heap.size:=⟨_,rfl⟩
 rw[<-htb] at HT0 hsW hs1
 unfold Adn
 go_upto_region 2 with(first|(rw[<-hW];refine Mh rfl rfl 204 (.tmp 5) (.tmp 11) rfl tb (Cv (Nz 6 0)) (by rw[htb];rfl) rfl (Tg _) ?_ ?_ (iO _) ?_))
 ·
  intro j hj
  rw[HT0.out.cell (by simpa [Cv,Ee] using hj)];rfl
 · intro j _;exact HT0.out.frozen j
 rw[<-htb]
 obtain⟨W3,hW3⟩:∃W3,W3=W.setCells tb 0 (Cv (Nz 6 0)):=⟨_,rfl⟩
 have HT:Hid (Uw W3 tb):=by unfold Hid;rw[hW3];exact Adm HT0.out (Ee _ _)
 have HB3:Hid (Below w.heap.size w W3):=by unfold Hid;rw[hW3];exact Ed hs1 _ _ HB2.out
 have hs3:tb<W3.heap.size:=by
  have:=HT.out 0 ω
  simp only[World.cell?] at this
  cases h:W3.heap[tb]? with
  |none=>rw[h] at this;cases this
  |some x=>exact(Array.getElem?_eq_some_iff.1 h).1
 rw[<-hW3]
 clear hW hW3 HT0 HB1 HB2 hsW htb
 go_wp2_with fail
 refine(HOM.out _).mono ?_
 rintro e w4 ⟨rfl,hb4⟩
 have HB4:Hid (Below W3.heap.size W3 w4):=hb4
 clear hb4 HOM
 go_wp2_with fail
 refine(HOO.out _).mono ?_
 rintro e w5 ⟨rfl,hb5⟩
 have HB5:Hid (Below W3.heap.size W3 w5):=HB4.out.trans (hb5.mono HB4.out.size)
 clear hb5 HB4 HOO
 go_wp2_with fail
 refine(HMM.out _).mono ?_
 rintro e w6 ⟨rfl,hb6⟩
 have HB6:Hid (Below W3.heap.size W3 w6):=HB5.out.trans (hb6.mono HB5.out.size)
 clear hb6 HB5 HMM
 have hs6:W3.heap.size<=w6.heap.size:=HB6.out.size
 obtain⟨mo,hmo⟩:∃mo:Int,mo=62914560*o:=⟨_,rfl⟩
 have HMO:=Lib.hid hmo
 have HFM:Hid (Cb mo):=by unfold Hid;rw[hmo];exact HFM0.out
 rw[<-hmo]
 clear hmo
 unfold Ak
 obtain⟨mg,hmg⟩:∃g,g=decide (mo<0):=⟨_,rfl⟩
 obtain⟨ms,hms⟩:∃g,g=Df mo.natAbs:=⟨_,rfl⟩
 rw[<-hmg,<-hms]
 obtain⟨V,hV⟩:∃V,V=w6.alloc (.cells #[.bool mg,.string ms] 174):=⟨_,rfl⟩
 obtain⟨sb,hsb⟩:∃sb,sb=w6.heap.size:=⟨_,rfl⟩
 have HV:Hid (Jf V sb mo):=by unfold Hid;rw[hV,hsb,hmg,hms];exact Jf.new w6 _
 have HTV:Hid (Uw V tb):=by unfold Hid;rw[hV];exact HT.out.up (HB6.out.alloc hs6 _) hs3
 have HBV:Hid (Below w.heap.size w V):=by unfold Hid;rw[hV];exact HB3.out.trans ((HB6.out.alloc hs6 _).mono HB3.out.size)
 have hsV:sb<V.heap.size:=by rw[hV,hsb];simp
 have htV:tb<sb:=by omega
 clear HT HB3 HB6 hmg hms hs3
 go_upto_region 3 with fail
 rw[<-hV,<-hsb]
 clear hV hsb hs6
 go_wp2_with fail
 have HJ0:Hid (BoJ w l o mo tb sb 0 V):=⟨HTV.out,HV.out,λj hj=>absurd hj (Nat.not_lt_zero j),HBV.out⟩
 clear HTV HV HBV hsV
 go_loopw [21] (λjv wr=>∃j:Nat,j<=l.length/\jv= .int .i64 (j:Int)/\Hid (BoJ w l o mo tb sb j wr)) (λjv _=>l.length-(intOf jv).toNat)
 case atStart=>exact⟨0,Nat.zero_le _,rfl,HJ0⟩
 case round=>
  obtain⟨j,hj,rfl,HJ⟩:=hrel
  clear HJ0
  by_cases hjl:j=l.length
  ·
   subst hjl
   have HR:Hid (decide (Tm l o l.length)=true/\Below w.heap.size w wr):=⟨decide_eq_true HJ.out.bnd,HJ.out.below⟩
   clear HJ
   go_wp2_with fail
   exact bodyPost_ret (v:= .bool true) (by simp[results,results101]) rfl ⟨by rw[HR.out.1],HR.out.2⟩
  ·
   have hjl2:j<l.length:=by omega
   have hji:(j:Int)<(l.length:Int):=by omega
   have HJ1:Hid (BoK w l mo tb sb wr.heap.size j 0 (wr.alloc (.cells #[.bool false,.string ⟨#[]⟩] 174))):=by
    have h:=HJ.out
    have hb:Below wr.heap.size wr (wr.alloc (.cells #[.bool false,.string ⟨#[]⟩] 174)):=(Below.refl _ _).alloc (Nat.le_refl _) _
    have htl:tb<wr.heap.size:=Nat.lt_trans htV h.most.lt
    refine⟨h.tab.up hb htl,h.most.up hb h.most.lt,?_,h.below.trans (hb.mono h.below.size)⟩
    have:=heap_alloc_new wr (.cells #[.bool false,.string ⟨#[]⟩] 174)
    unfold Jf
    rw[this,show Jj l j 0=0 from rfl,show (0:Int).natAbs=0 from rfl,Wy]
    rfl
   have HBND:=Lib.hid HJ.out.bnd
   have hxb0:=HJ.out.below.size
   have hxb1:=HJ.out.most.lt
   obtain⟨xb,hxb⟩:∃xb,xb=wr.heap.size:=⟨_,rfl⟩
   obtain⟨X,hX⟩:∃X,X=wr.alloc (.cells #[.bool false,.string ⟨#[]⟩] 174):=⟨_,rfl⟩
   rw[<-hxb] at hxb0 hxb1
   rw[<-hxb,<-hX] at HJ1
   clear HJ
   go_upto_region 8 with fail
   rw[<-hX,<-hxb]
   clear hX hxb
   have hw1:IntKind.i64.wrap ((j:Int)+1)=((j+1:Nat):Int):=by rw[IntWalk.i64_in _ ω];omega
   go_wp2_with fail
   have hn6:n<6:=by omega
   have hj6:j<6:=by omega
   go_loopw [26] (λkv wr=>∃k:Nat,k<=j+1/\kv= .int .i64 (k:Int)/\Hid (BoK w l mo tb sb xb j k wr)) (λkv _=>j+1-(intOf kv).toNat)
   case atStart=>exact⟨0,Nat.zero_le _,rfl,HJ1⟩
   case round=>
    obtain⟨k,hk,rfl,HK⟩:=hrel
    clear HJ1
    by_cases hkj:k=j+1
    ·
     subst hkj
     have htx:tb≠xb:=by omega
     have hsx:sb≠xb:=by omega
     obtain⟨su,hsu⟩:∃su,su=Jj l j (j+1):=⟨_,rfl⟩
     have hfs:Cb su:=by rw[hsu];exact Yg h6 hj6 ω HI.out
     have hfa:Cb (su.natAbs:Int):=by unfold Cb at hfs ⊢;rw[Int.natAbs_natCast];exact hfs
     have HK2:=HK.out
     have hKs:=HK2.sum
     rw[<-hsu] at hKs
     obtain⟨c0,c1⟩:=hKs.cells
     have f0:=Aaf hKs 0
     obtain⟨Y,hY⟩:∃Y,Y=wr.setCell ⟨xb,0,none⟩ (.bool false):=⟨_,rfl⟩
     have hYx:Y.heap[xb]?=some (.cells #[.bool false,.string (Df su.natAbs)] 174 (0,0)):=by
      rw[hY];simp[World.setCell,Array.getElem?_modify,show wr.heap[xb]?=_ from hKs]
     have hYs:Jf Y sb mo:=by unfold Jf;rw[hY,Below.heap_setCell _ ⟨xb,0,none⟩ _ _ hsx];exact HK2.most
     have hYt:Uw Y tb:=λi hi=>by rw[hY];exact(World.cell?_of_block (Below.heap_setCell _ ⟨xb,0,none⟩ _ _ htx)).trans (HK2.tab i hi)
     have hYb:Below w.heap.size w Y:=by rw[hY];exact HK2.below.setCell (p:=⟨xb,0,none⟩) hxb0 _
     have HJN:Hid (∀w7,Below Y.heap.size Y w7->(su.natAbs:Int)<=mo->BoJ w l o mo tb sb (j+1) w7):=λw7 hb hle=>by
      refine⟨hYt.up hb (Nat.lt_trans htV hYs.lt),hYs.up hb hYs.lt,zF HBND.out ?_,hYb.trans (hb.mono hYb.size)⟩
      rw[<-hsu,<-HMO.out];exact hle
     have HJF:Hid (mo<(su.natAbs:Int)->decide (Tm l o l.length)=false):=λhlt=>decide_eq_false λh=>by
      have:=h j hjl2
      rw[<-hsu,<-HMO.out] at this
      omega
     have HYB:=Lib.hid hYb
     obtain⟨sg,hsg⟩:∃sg,sg=((su.natAbs:Int)-mo).sign:=⟨_,rfl⟩
     have HCMP:=Lib.hid (λwa=>fA (su.natAbs:Int) mo wa hfa HFM.out)
     rw[<-hsg] at HCMP
     obtain⟨y0,y1⟩:=aK hYx
     obtain⟨m0,m1⟩:=hYs.cells
     unfold Ak at HCMP
     rw[Int.natAbs_natCast,show decide ((su.natAbs:Int)<0)=false from decide_eq_false ω] at HCMP
     obtain⟨us,hus⟩:∃g,g=Df su.natAbs:=⟨_,rfl⟩
     obtain⟨mg2,hmg2⟩:∃g,g=decide (mo<0):=⟨_,rfl⟩
     obtain⟨ms2,hms2⟩:∃g,g=Df mo.natAbs:=⟨_,rfl⟩
     rw[<-hus,<-hmg2,<-hms2] at HCMP
     rw[<-hus] at y1
     rw[<-hmg2] at m0
     rw[<-hms2] at m1
     have HSG:Hid (((su.natAbs:Int)<=mo/\sg<=0)\/(mo<(su.natAbs:Int)/\0<sg)):=by
      unfold Hid
      obtain⟨t,ht⟩:∃t,t=(su.natAbs:Int)-mo:=⟨_,rfl⟩
      rw[<-ht] at hsg
      rcases Int.lt_trichotomy t 0 with h|h|h
      · exact .inl ⟨ω,by rw[hsg,Int.sign_eq_neg_one_of_neg h];decide⟩
      · exact .inl ⟨ω,by rw[hsg,h];decide⟩
      · exact .inr ⟨ω,by rw[hsg,Int.sign_eq_one_of_pos h];decide⟩
     clear hsg hus hmg2 hms2 hfs hfa HK HK2 hKs hYx hYs hYt hYb hsu HBND
     go_upto_region 14 with fail
     rw[<-hY]
     clear hY c0 c1 f0
     go_wp2_with fail
     refine(HCMP.out _).mono ?_
     rintro e w7 ⟨rfl,hb7⟩
     have HB7:Hid (Below Y.heap.size Y w7):=hb7
     clear hb7 HCMP
     rcases HSG.out with⟨hle,hs0⟩|⟨hlt,hs0⟩
     ·
      have HNX:=Lib.hid (HJN.out w7 HB7.out hle)
      have hs1:¬(0:Int)<sg:=by omega
      clear HJN HJF hle HSG
      go_wp2_with fail
      exact⟨⟨j+1,ω,rfl,HNX⟩,by simp only[intOf];omega⟩
     ·
      have HF2:=Lib.hid (HJF.out hlt)
      have HBW:=Lib.hid (HYB.out.trans (HB7.out.mono HYB.out.size))
      clear HJN HJF hlt HSG
      go_wp2_with fail
      exact bodyPost_ret (v:= .bool false) (by simp[results,results101]) rfl ⟨by rw[HF2.out],HBW.out⟩
    ·
     have hkj2:k<j+1:=by omega
     have hki:(k:Int)<((j+1:Nat):Int):=by omega
     have hkl:k<l.length:=by omega
     have hk6:k<6:=by omega
     have htx:tb≠xb:=by omega
     have hsx:sb≠xb:=by omega
     have hwx:w.heap.size<=xb:=hxb0
     have HNX:Hid (∀w2,Below wr.heap.size wr w2->BoK w l mo tb sb xb j (k+1) ((w2.setCell ⟨xb,0,none⟩ (.bool (decide (Jj l j (k+1)<0)))).setCell ⟨xb,1,none⟩ (.string (Df (Jj l j (k+1)).natAbs)))):=λw2 hb=>by
      have h:=HK.out
      have hsl:=h.sum.lt
      exact⟨(h.tab.up hb (by have:=h.most.lt;omega)).store2 htx _ _,(Nn _ _ hsx).trans (h.most.up hb h.most.lt),(h.sum.up hb hsl).store _,Below.store2 (h.below.trans (hb.mono h.below.size)) hwx _ _⟩
     obtain⟨x,hx⟩:∃x,x=l.getD k 0:=⟨_,rfl⟩
     obtain⟨fa,hfa⟩:∃fa:Nat,fa=fac n j k:=⟨_,rfl⟩
     have hfle:fa<=600:=by rw[hfa];exact mL n hn6 j hj6 k hk6
     have hxi:=HI.out k
     have hsum:Jj l j (k+1)=Jj l j k+x*(fa:Int):=by
      show Jj l j k+l.getD k 0*(fac (l.length-1) j k:Int)=_
      rw[hx,hfa,show l.length-1=n by omega]
     have HOX:=Lib.hid (Ng (wr:=wr) (λwa=>Nu x wa (by rw[hx];exact hxi.1) (by rw[hx];exact hxi.2)))
     have HOF:=Lib.hid (Ng (wr:=wr) (λwa=>Nu (fa:Int) wa ω ω))
     have hfx:Cb x:=by rw[hx];exact Ez hxi.1 hxi.2
     have hff:Cb (fa:Int):=Ez ω ω
     have hfp:Cb (x*(fa:Int)):=by rw[hx,hfa];exact Abo hn6 hj6 hk6 HI.out
     have HML:=Lib.hid (Ng (wr:=wr) (λwa=>jY x (fa:Int) wa hfx hff hfp))
     have HAD:=Lib.hid (Ng (wr:=wr) (λwa=>AaZ (Jj l j k) (x*(fa:Int)) wa (Yg h6 hj6 ω HI.out) hfp (by rw[<-hsum];exact Yg h6 hj6 ω HI.out)))
     rw[<-hsum] at HAD
     have CX:Hid (∀wa,Below wr.heap.size wr wa->wa.heap[xb]?=some (.cells #[.bool (decide (Jj l j k<0)),.string (Df (Jj l j k).natAbs)] 174 (0,0))):=λwa hb=>HK.out.sum.up hb HK.out.sum.lt
     have CS:Hid (∀wa,Below wr.heap.size wr wa->wa.cell? ⟨b,q+k*1,none⟩=some (.int .i64 x)):=λwa hb=>by
      rw[hx,<-HS.out k hkl]
      exact(HK.out.below.trans (hb.mono HK.out.below.size)).cell (p:=⟨b,q+k*1,none⟩) hbw
     obtain⟨cn,hcn⟩:∃z:Nat,z=Cp n k:=⟨_,rfl⟩
     obtain⟨cj,hcj⟩:∃z:Nat,z=Cp j k:=⟨_,rfl⟩
     have hcn1:1<=cn/\cn<=10:=by rw[hcn];exact lY n hn6 k ω
     have hcj1:cj<=10:=by rw[hcj];exact sC j hj6 k hk6
     have CN:Hid (∀wa,Below wr.heap.size wr wa->wa.cell? ⟨tb,0+n*6+k*1,none⟩=some (.int .i64 (cn:Int))):=λwa hb=>by
      have h:=HK.out.tab.up hb (by have:=HK.out.most.lt;omega) (n*6+k) ω
      rw[Nat.zero_add,Nat.mul_one,h,oW n hn6 k hk6,hcn]
     have CJ:Hid (∀wa,Below wr.heap.size wr wa->wa.cell? ⟨tb,0+j*6+k*1,none⟩=some (.int .i64 (cj:Int))):=λwa hb=>by
      have h:=HK.out.tab.up hb (by have:=HK.out.most.lt;omega) (j*6+k) ω
      rw[Nat.zero_add,Nat.mul_one,h,oW j hj6 k hk6,hcj]
     obtain⟨qa,hqa⟩:∃z:Nat,z=60/cn:=⟨_,rfl⟩
     have hqle:qa<=60:=by rw[hqa];exact Nat.div_le_self _ _
     have HQ:Hid (IntKind.i64.wrap (Int.tdiv 60 (cn:Int))=(qa:Int)):=by
      unfold Hid
      rw[show Int.tdiv 60 (cn:Int)=((60/cn:Nat):Int) from rfl,<-hqa,IntWalk.i64_in _ ω]
     have HFA:Hid (IntKind.i64.wrap ((qa:Int)*(cj:Int))=(fa:Int)):=by
      unfold Hid
      have e:(qa:Int)*(cj:Int)=(fa:Int):=by rw[hfa,hqa,hcj,hcn];unfold fac;rw[Int.natCast_mul]
      rw[e,IntWalk.i64_in _ ω]
     have hcn0:¬((cn:Int)=0):=by omega
     unfold Ak at HOX HOF HML HAD
     obtain⟨xg,hxg⟩:∃g,g=decide (x<0):=⟨_,rfl⟩
     obtain⟨xs,hxs⟩:∃g,g=Df x.natAbs:=⟨_,rfl⟩
     obtain⟨fg,hfg⟩:∃g,g=decide ((fa:Int)<0):=⟨_,rfl⟩
     obtain⟨fs,hfs⟩:∃g,g=Df (fa:Int).natAbs:=⟨_,rfl⟩
     obtain⟨pg,hpg⟩:∃g,g=decide (x*(fa:Int)<0):=⟨_,rfl⟩
     obtain⟨ps,hps⟩:∃g,g=Df (x*(fa:Int)).natAbs:=⟨_,rfl⟩
     obtain⟨ug,hug⟩:∃g,g=decide (Jj l j k<0):=⟨_,rfl⟩
     obtain⟨us,hus⟩:∃g,g=Df (Jj l j k).natAbs:=⟨_,rfl⟩
     obtain⟨vg,hvg⟩:∃g,g=decide (Jj l j (k+1)<0):=⟨_,rfl⟩
     obtain⟨vs,hvs⟩:∃g,g=Df (Jj l j (k+1)).natAbs:=⟨_,rfl⟩
     rw[<-hxg,<-hxs] at HOX HML
     rw[<-hfg,<-hfs] at HOF HML
     rw[<-hpg,<-hps] at HML HAD
     rw[<-hug,<-hus] at HAD CX
     rw[<-hvg,<-hvs] at HAD HNX
     clear hxg hxs hfg hfs hpg hps hug hus hvg hvs hfx hff hfp hsum hxi hqa hcn hcj hfa hx HK
     go_wp2_with fail
     refine Hf 21 57 (λw'=>Below wr.heap.size wr w') [is (.agg #[.bool ug,.string us]),is (.slice (some ⟨b,q,none⟩) (n+1) c),is (.int .i64 (k:Int)),is (.pointer (some ⟨b,q+k*1,none⟩)),is (.int .i64 x),is (.agg #[.bool xg,.string xs]),is (.int .i64 (n:Int)),is (.int .i64 (k:Int)),is (.pointer (some ⟨tb,0+n*6,none⟩)),is (.pointer (some ⟨tb,0+n*6+k*1,none⟩)),is (.int .i64 (cn:Int)),is (.int .i64 (qa:Int)),is (.int .i64 (j:Int)),is (.int .i64 (k:Int)),is (.pointer (some ⟨tb,0+j*6,none⟩)),is (.pointer (some ⟨tb,0+j*6+k*1,none⟩)),is (.int .i64 (cj:Int)),is (.int .i64 (fa:Int)),is (.agg #[.bool fg,.string fs]),is (.agg #[.bool pg,.string ps]),is (.agg #[.bool vg,.string vs])] κ κ rfl δ ?hst ?h0 ?hop ?htail
     case hst=>
      simp only[List.mem_cons,List.mem_nil_iff,or_false,forall_eq_or_imp,forall_eq]
      exact⟨Ae _,Ae _,Ae _,Ae _,Ae _,Ae _,Ae _,Ae _,Ae _,Ae _,Ae _,Ae _,Ae _,Ae _,Ae _,Ae _,Ae _,Ae _,Ae _,Ae _,Ae _⟩
     case h0=>exact(Below.refl _ _).drew
     case hop=>
      refine⟨?_,?_,?_,?_,?_,?_,?_,?_,?_,?_,?_,?_,?_,?_,?_,?_,?_,?_,?_,?_,?_,trivial⟩
      · exact Ct 174 (.tmp 9) (.pointer (some ⟨xb,0,none⟩)) (.agg #[.bool ug,.string us]) rfl κ (λwa hC=>Fp [.bool ug,.string us] wa κ κ (lX (CX.out wa hC))) rfl
      · exact Cq (.tmp 0) (is (.slice (some ⟨b,q,none⟩) (n+1) c)) rfl κ (λ_ _ _ h=>h)
      · exact Cq (.tmp 10) (is (.int .i64 (k:Int))) rfl κ (λ_ _ _ h=>h)
      · exact Ka 80 3 30 31 b q (n+1) c 1 (k:Int) k rfl κ κ underlying80 mP rfl ω rfl
      · exact Ct 3 (.tmp 32) (.pointer (some ⟨b,q+k*1,none⟩)) (.int .i64 x) rfl κ (λwa hC=>Bu wa κ (CS.out wa hC)) rfl
      · exact Fe 99 [.tmp 33] _ [.int .i64 x] rfl (λ_ _=>by kernel_rfl) ⟨κ,trivial⟩ HOX.out
      · exact Cq (.tmp 7) (is (.int .i64 (n:Int))) rfl κ (λ_ _ _ h=>h)
      · exact Cq (.tmp 10) (is (.int .i64 (k:Int))) rfl κ (λ_ _ _ h=>h)
      · exact Qc 204 203 5 35 tb 0 6 6 (n:Int) n δ rfl κ κ underlying204 jU rfl ω rfl
      · exact Qc 203 3 37 36 tb (0+n*6) 6 1 (k:Int) k δ rfl κ κ underlying203 mP rfl ω rfl
      · exact Ct 3 (.tmp 38) (.pointer (some ⟨tb,0+n*6+k*1,none⟩)) (.int .i64 (cn:Int)) rfl κ (λwa hC=>Bu wa κ (CN.out wa hC)) rfl
      · exact AfH 39 (.int .i64 60) (.int .i64 (cn:Int)) (.int .i64 (qa:Int)) rfl κ (λa wa _ e1=>by have hq:=HQ.out;go_simp;clear hq;omega) rfl
      · exact Cq (.tmp 8) (is (.int .i64 (j:Int))) rfl κ (λ_ _ _ h=>h)
      · exact Cq (.tmp 10) (is (.int .i64 (k:Int))) rfl κ (λ_ _ _ h=>h)
      · exact Qc 204 203 5 41 tb 0 6 6 (j:Int) j δ rfl κ κ underlying204 jU rfl ω rfl
      · exact Qc 203 3 43 42 tb (0+j*6) 6 1 (k:Int) k δ rfl κ κ underlying203 mP rfl ω rfl
      · exact Ct 3 (.tmp 44) (.pointer (some ⟨tb,0+j*6+k*1,none⟩)) (.int .i64 (cj:Int)) rfl κ (λwa hC=>Bu wa κ (CJ.out wa hC)) rfl
      · exact bG 40 45 (.int .i64 (qa:Int)) (.int .i64 (cj:Int)) (.int .i64 (fa:Int)) rfl κ κ (λa wa _ e1 e2=>by have hq:=HFA.out;go_simp) rfl
      · exact Fe 99 [.tmp 46] _ [.int .i64 (fa:Int)] rfl (λ_ _=>by kernel_rfl) ⟨κ,trivial⟩ HOF.out
      · exact Fe 122 [.tmp 34,.tmp 47] _ [.agg #[.bool xg,.string xs],.agg #[.bool fg,.string fs]] rfl (λ_ _=>by kernel_rfl) ⟨κ,κ,trivial⟩ HML.out
      · exact Fe 123 [.tmp 29,.tmp 48] _ [.agg #[.bool ug,.string us],.agg #[.bool pg,.string ps]] rfl (λ_ _=>by kernel_rfl) ⟨κ,κ,trivial⟩ HAD.out
     case htail=>
     intro τ w2 hC hR
     have r20:τ 20= .agg #[.bool vg,.string vs]:=hR 20 δ
     simp only[Ci,List.getElem?_toArray,List.getElem?_cons_succ,List.getElem?_cons_zero,Option.bind_some,Act.put,List.setIfInBounds_toArray,List.set_cons_succ,List.set_cons_zero,List.drop_succ_cons,List.drop_zero,r20]
     clear hR r20
     have HN2:=Lib.hid (HNX.out w2 hC)
     have h1:=CX.out w2 hC
     obtain⟨c0,c1⟩:=aK h1
     have f0:=Aaf h1 0
     have f1:=Aaf h1 1
     clear hC h1 CX CS CN CJ HOX HOF HML HAD HNX HQ HFA
     go_wp2_with fail
     exact⟨⟨k+1,ω,rfl,HN2⟩,by simp only[intOf];omega⟩
def Ms (c:List Int) (o:Int):Prop:=1<=c.length/\c.length<=6/\(1<c.length->c.getD (c.length-1) 0≠0)/\Tm c o c.length
instance (c:List Int) (o:Int):Decidable (Ms c o):=by unfold Ms;infer_instance
def Lw (g:Nat) (l:List Int):Nat:=l.foldl (λg x=>Nat.gcd g x.natAbs) g
def Qz (f t o:Int):Prop:=0<=f/\f<t/\t<=3600000/\1<=o/\o<=4294967296
instance (f t o:Int):Decidable (Qz f t o):=by unfold Qz;infer_instance
def Gz (s:Sg):Prop:=Qz s.f s.t s.o/\Ms s.x s.o/\Ms s.y s.o/\Ms s.z s.o/\Lw (Lw (Lw s.o.natAbs s.x) s.y) s.z=1
instance (s:Sg):Decidable (Gz s):=by unfold Gz;infer_instance
theorem Aan (f t o:Int) (Ax Ay Az:Option Addr) (nx cx ny cy nz cz:Nat) (w:World) (hh:¬Qz f t o):
  Calls Tryz.prog 78 #[.agg #[.int .i64 f,.int .i64 t,.int .i64 o,.slice Ax nx cx,.slice Ay ny cy,.slice Az nz cz]] w λe w'=>e= .returned (.bool false)/\Below w.heap.size w w':=by
 have hc:f<0\/(¬f<0/\t<=f)\/(¬f<0/\¬t<=f/\3600000<t)\/(¬f<0/\¬t<=f/\¬3600000<t/\o<1)\/(¬f<0/\¬t<=f/\¬3600000<t/\¬o<1/\4294967296<o):=by
  unfold Qz at hh;omega
 clear hh
 obtain⟨W,hW⟩:∃W,W=w.alloc (.cells #[.int .i64 f,.int .i64 t,.int .i64 o,.slice Ax nx cx,.slice Ay ny cy,.slice Az nz cz] 120):=⟨_,rfl⟩
 have hb:=heap_alloc_new w (.cells #[.int .i64 f,.int .i64 t,.int .i64 o,.slice Ax nx cx,.slice Ay ny cy,.slice Az nz cz] 120)
 rw[<-hW] at hb
 have s0:W.cell? ⟨w.heap.size,0,none⟩=some (.int .i64 f):=by simp[World.cell?,hb]
 have s1:W.cell? ⟨w.heap.size,1,none⟩=some (.int .i64 t):=by simp[World.cell?,hb]
 have s2:W.cell? ⟨w.heap.size,2,none⟩=some (.int .i64 o):=by simp[World.cell?,hb]
 have HB:Hid (Below w.heap.size w W):=by unfold Hid;rw[hW];exact(Below.refl _ _).alloc (Nat.le_refl _) _
 clear hb
 rcases hc with h|⟨h,h2⟩|⟨h,h2,h3⟩|⟨h,h2,h3,h4⟩|⟨h,h2,h3,h4,h5⟩
 all_goals
  go_enter func78,ntmps78
  go_upto_region 1 with fail
  rw[<-hW]
  clear hW
  go_wp2_with fail
  exact bodyPost_ret (v:= .bool false) (by simp[results,results78]) rfl ⟨rfl,HB.out⟩
theorem AcX (v0 v1 v2:Value) (w:World):(Instr.index 176 (.agg #[v0,v1,v2]) (.int .i64 ((0:Nat):Int))).run Tryz.prog w= .ok v0 w:=by
 kernel_rfl
theorem AcY (v0 v1 v2:Value) (w:World):(Instr.index 176 (.agg #[v0,v1,v2]) (.int .i64 ((1:Nat):Int))).run Tryz.prog w= .ok v1 w:=by
 kernel_rfl
theorem AcZ (v0 v1 v2:Value) (w:World):(Instr.index 176 (.agg #[v0,v1,v2]) (.int .i64 ((2:Nat):Int))).run Tryz.prog w= .ok v2 w:=by
 kernel_rfl
theorem nM {v0 v1 v2 v:Value} {k:Nat} (hk:k<3) (h:(#[v0,v1,v2]:Array Value)[k]?=some v) (w:World):(Instr.index 176 (.agg #[v0,v1,v2]) (.int .i64 (k:Int))).run Tryz.prog w= .ok v w:=by
 match k with
 |0=>simp at h;rw[<-h];exact AcX v0 v1 v2 w
 |1=>simp at h;rw[<-h];exact AcY v0 v1 v2 w
 |2=>simp at h;rw[<-h];exact AcZ v0 v1 v2 w
theorem Zk {w:World} {ops:Array Oper} {rest:List Oper} {o:Oper} {a:Act} {Q:Exit->Act->World->Prop} (hgd:o.guard=none) (x y:Operand) (ho:o.op= .index 176 x y) (v0 v1 v2 v:Value) (k:Nat) (hx:a.eval x= .agg #[v0,v1,v2]) (hy:a.eval y= .int .i64 (k:Int)) (hk:k<3) (hv:(#[v0,v1,v2]:Array Value)[k]?=some v)
  (h:wpList Tryz.prog ops Q rest (a.put o.dst v) w):wpList Tryz.prog ops Q (o::rest) a w:=by
 refine wpList_plain hgd λK hK=>?_
 have hrun:=nM hk hv w
 unfold Oper.wp
 simp[execOp,ho,hx,hy,hrun,Result.andThen]
 exact hK _ _ h
def Oi (w:World) (v:Value) (l:List Int):Prop:=(∃A c,v= .slice A 0 c/\l=[])\/∃b q c,v= .slice (some ⟨b,q,none⟩) l.length c/\∀i,i<l.length->w.cell? ⟨b,q+i*1,none⟩=some (.int .i64 (l.getD i 0))
def vY (s:Sg):Nat->List Int
 |0=>s.x
 |1=>s.y
 |_=>s.z
def gK (s:Sg):Nat->Nat
 |0=>s.o.natAbs
 |k+1=>Lw (gK s k) (vY s k)
structure VaJ (w:World) (s:Sg) (gb k:Nat) (wr:World):Prop where
 over:wr.cell? ⟨w.heap.size,2,none⟩=some (.int .i64 s.o)
 box:Jf wr gb (gK s k:Int)
 ok:∀i,i<k->Ms (vY s i) s.o
 fit:Cb (gK s k:Int)
 below:Below w.heap.size w wr
structure VaK (w:World) (s:Sg) (l:List Int) (gb k i:Nat) (wr:World):Prop where
 over:wr.cell? ⟨w.heap.size,2,none⟩=some (.int .i64 s.o)
 box:Jf wr gb (Lw (gK s k) (l.take i):Int)
 fit:Cb (Lw (gK s k) (l.take i):Int)
 below:Below w.heap.size w wr
theorem aW (g:Nat) (l:List Int) {i:Nat} (h:i<l.length):Lw g (l.take (i+1))=Nat.gcd (Lw g (l.take i)) (l.getD i 0).natAbs:=by
 unfold Lw
 rw[List.take_succ_eq_append_getElem h,List.foldl_append]
 simp[h]
theorem fX {n m:Nat} (h:(Df n).toList=(Df m).toList):n=m:=by
 rw[ByteArray.toList_eq,ByteArray.toList_eq] at h
 exact zC h
theorem tI (s:Sg) (Ax Ay Az:Option Addr) (cx cy cz:Nat) (w:World) (hh:Qz s.f s.t s.o)
  (hx:Oi w (.slice Ax s.x.length cx) s.x) (hy:Oi w (.slice Ay s.y.length cy) s.y) (hz:Oi w (.slice Az s.z.length cz) s.z)
  (hi:∀k i,-9223372036854775808<=(vY s k).getD i 0/\(vY s k).getD i 0<=9223372036854775807):
  Calls Tryz.prog 78 #[.agg #[.int .i64 s.f,.int .i64 s.t,.int .i64 s.o,.slice Ax s.x.length cx,.slice Ay s.y.length cy,.slice Az s.z.length cz]] w λe w'=>e= .returned (.bool (decide (Gz s)))/\Below w.heap.size w w':=by
 have HH:=Lib.hid hh
 have HI:=Lib.hid hi
 have HX:Hid (∀k,k<3->∃A c,(#[.slice Ax s.x.length cx,.slice Ay s.y.length cy,.slice Az s.z.length cz]:Array Value)[k]?=some (.slice A (vY s k).length c)/\Oi w (.slice A (vY s k).length c) (vY s k)):=by
  intro k hk
  match k with
  |0=>exact⟨_,_,rfl,hx⟩
  |1=>exact⟨_,_,rfl,hy⟩
  |2=>exact⟨_,_,rfl,hz⟩
 clear hx hy hz hi
 obtain⟨f,hf⟩:∃f,f=s.f:=⟨_,rfl⟩
 obtain⟨t,ht⟩:∃t,t=s.t:=⟨_,rfl⟩
 obtain⟨o,ho⟩:∃o,o=s.o:=⟨_,rfl⟩
 have HSO:=Lib.hid ho
 obtain⟨h,h2,h3,h4,h5⟩:=hh
 rw[<-hf] at h h2
 rw[<-ht] at h2 h3
 rw[<-ho] at h4 h5
 have g1:¬f<0:=by omega
 have g2:¬t<=f:=by omega
 have g3:¬3600000<t:=by omega
 have g4:¬o<1:=by omega
 have g5:¬4294967296<o:=by omega
 rw[<-hf,<-ht,<-ho]
 clear hf ht ho
 have HOO:=Lib.hid (λw=>Nu o w ω ω)
 have HAX:=Lib.hid (λw=>yW f t o Ax Ay Az s.x.length cx s.y.length cy s.z.length cz w)
 obtain⟨W,hW⟩:∃W,W=w.alloc (.cells #[.int .i64 f,.int .i64 t,.int .i64 o,.slice Ax s.x.length cx,.slice Ay s.y.length cy,.slice Az s.z.length cz] 120):=⟨_,rfl⟩
 have hb:=heap_alloc_new w (.cells #[.int .i64 f,.int .i64 t,.int .i64 o,.slice Ax s.x.length cx,.slice Ay s.y.length cy,.slice Az s.z.length cz] 120)
 rw[<-hW] at hb
 have hsW:W.heap.size=w.heap.size+1:=by rw[hW];simp
 have s0:W.cell? ⟨w.heap.size,0,none⟩=some (.int .i64 f):=by simp[World.cell?,hb]
 have s1:W.cell? ⟨w.heap.size,1,none⟩=some (.int .i64 t):=by simp[World.cell?,hb]
 have s2:W.cell? ⟨w.heap.size,2,none⟩=some (.int .i64 o):=by simp[World.cell?,hb]
 have HBK:=Lib.hid hb
 have HB:Hid (Below w.heap.size w W):=by unfold Hid;rw[hW];exact(Below.refl _ _).alloc (Nat.le_refl _) _
 clear hb
 go_enter func78,ntmps78
 go_upto_region 1 with fail
 rw[<-hW]
 clear hW
 go_upto_region 3 with fail
 go_wp2_with fail
 refine(HOO.out _).mono ?_
 rintro e w1 ⟨rfl,hb1⟩
 have HB1:Hid (Below W.heap.size W w1):=hb1
 clear hb1 HOO s0 s1 s2
 have hs1:=HB1.out.size
 unfold Ak
 obtain⟨og,hog⟩:∃g,g=decide (o<0):=⟨_,rfl⟩
 obtain⟨os,hos⟩:∃g,g=Df o.natAbs:=⟨_,rfl⟩
 rw[<-hog,<-hos]
 obtain⟨V,hV⟩:∃V,V=w1.alloc (.cells #[.bool og,.string os] 174):=⟨_,rfl⟩
 obtain⟨gb,hgb⟩:∃gb,gb=w1.heap.size:=⟨_,rfl⟩
 have hVb:Below W.heap.size W V:=by rw[hV];exact HB1.out.alloc hs1 _
 have HF0:Hid (Cb (gK s 0:Int)):=by
  unfold Hid
  have e:((gK s 0:Nat):Int)=o:=by show (s.o.natAbs:Int)=o;rw[<-HSO.out];omega
  rw[e];exact Ez ω ω
 have HV:Hid (Jf V gb (gK s 0:Int)):=by
  unfold Hid
  have e:((gK s 0:Nat):Int)=o:=by show (s.o.natAbs:Int)=o;rw[<-HSO.out];omega
  rw[e,hV,hgb,hog,hos];exact Jf.new w1 _
 have hsV:gb<V.heap.size:=by rw[hV,hgb];simp
 have hVk:V.heap[w.heap.size]?=some (.cells #[.int .i64 f,.int .i64 t,.int .i64 o,.slice Ax s.x.length cx,.slice Ay s.y.length cy,.slice Az s.z.length cz] 120 (0,0)):=(hVb.block w.heap.size ω).trans HBK.out
 have HBV:Hid (Below w.heap.size w V):=HB.out.trans (hVb.mono HB.out.size)
 have hgw:w.heap.size<gb:=by omega
 have s0:V.cell? ⟨w.heap.size,0,none⟩=some (.int .i64 f):=by simp[World.cell?,hVk]
 have s1:V.cell? ⟨w.heap.size,1,none⟩=some (.int .i64 t):=by simp[World.cell?,hVk]
 have s2:V.cell? ⟨w.heap.size,2,none⟩=some (.int .i64 o):=by simp[World.cell?,hVk]
 have s3:V.cell? ⟨w.heap.size,3,none⟩=some (.slice Ax s.x.length cx):=by simp[World.cell?,hVk]
 have s4:V.cell? ⟨w.heap.size,4,none⟩=some (.slice Ay s.y.length cy):=by simp[World.cell?,hVk]
 have s5:V.cell? ⟨w.heap.size,5,none⟩=some (.slice Az s.z.length cz):=by simp[World.cell?,hVk]
 clear hVb hVk hog hos HB1 HB HBK
 go_upto_region 4 with fail
 rw[<-hV,<-hgb]
 clear hV hgb hs1
 go_wp2_with fail
 refine(HAX.out _).mono ?_
 rintro e w2 ⟨rfl,hb2⟩
 have HJ0:Hid (VaJ w s gb 0 w2):=⟨by rw[<-HSO.out];exact(hb2.cell (p:=⟨w.heap.size,2,none⟩) (by show w.heap.size<_;omega)).trans s2,HV.out.up hb2 hsV,λi hi=>absurd hi (Nat.not_lt_zero i),HF0.out,HBV.out.trans (hb2.mono HBV.out.size)⟩
 clear hb2 s0 s1 s2 s3 s4 s5 HV HBV HAX hsV hsW
 go_wp2_with fail
 go_loopw [38] (λkv wr=>∃k:Nat,k<=3/\kv= .int .i64 (k:Int)/\Hid (VaJ w s gb k wr)) (λkv _=>3-(intOf kv).toNat)
 case atStart=>exact⟨0,Nat.zero_le _,rfl,HJ0⟩
 case round=>
  obtain⟨k,hk,rfl,HJ⟩:=hrel
  clear HJ0
  by_cases hk3:k=3
  ·
   subst hk3
   have CX:Hid (∀wa,Below wr.heap.size wr wa->wa.heap[gb]?=some (.cells #[.bool (decide ((gK s 3:Int)<0)),.string (Df (gK s 3))] 174 (0,0))):=λwa hb=>HJ.out.box.up hb HJ.out.box.lt
   rw[show decide ((gK s 3:Int)<0)=false from decide_eq_false ω] at CX
   have HO1:=Lib.hid (Ng (wr:=wr) (λwa=>Nu 1 wa δ δ))
   unfold Ak at HO1
   rw[show decide ((1:Int)<0)=false from rfl,show (1:Int).natAbs=1 from rfl] at HO1
   have HBW:=Lib.hid HJ.out.below
   have HSE:Hid (Gz s↔gK s 3=1):=by
    constructor
    · exact λh=>h.2.2.2.2
    · exact λh=>⟨HH.out,HJ.out.ok 0 ω,HJ.out.ok 1 ω,HJ.out.ok 2 ω,h⟩
   obtain⟨us,hus⟩:∃g,g=Df (gK s 3):=⟨_,rfl⟩
   obtain⟨vs,hvs⟩:∃g,g=Df 1:=⟨_,rfl⟩
   have HUV:Hid ((us=vs/\decide (Gz s)=true)\/(¬us.toList=vs.toList/\decide (Gz s)=false)):=by
    by_cases h:gK s 3=1
    · exact .inl ⟨by rw[hus,hvs,h],decide_eq_true (HSE.out.2 h)⟩
    ·
     refine .inr ⟨λe=>?_,decide_eq_false λh2=>h (HSE.out.1 h2)⟩
     rw[hus,hvs] at e
     exact h (fX e)
   rw[<-hus] at CX
   rw[<-hvs] at HO1
   clear hus hvs HJ HSE
   go_wp2_with fail
   refine Hf 2 85 (λw'=>Below wr.heap.size wr w') [is (.agg #[.bool false,.string us]),is (.agg #[.bool false,.string vs])] κ κ rfl δ ?hst ?h0 ?hop ?htail
   case hst=>
    simp only[List.mem_cons,List.mem_nil_iff,or_false,forall_eq_or_imp,forall_eq]
    exact⟨Ae _,Ae _⟩
   case h0=>exact(Below.refl _ _).drew
   case hop=>
    refine⟨?_,?_,trivial⟩
    · exact Ct 174 (.tmp 3) (.pointer (some ⟨gb,0,none⟩)) (.agg #[.bool false,.string us]) rfl κ (λwa hC=>Fp [.bool false,.string us] wa κ κ (lX (CX.out wa hC))) rfl
    · exact Fe 99 [.const (.int .i64 1)] _ [.int .i64 1] rfl (λ_ _=>by kernel_rfl) ⟨κ,trivial⟩ HO1.out
   case htail=>
   intro τ w2 hC hR
   have r0:τ 0= .agg #[.bool false,.string us]:=hR 0 δ
   have r1:τ 1= .agg #[.bool false,.string vs]:=hR 1 δ
   simp only[Ci,List.getElem?_toArray,List.getElem?_cons_succ,List.getElem?_cons_zero,Option.bind_some,Act.put,List.setIfInBounds_toArray,List.set_cons_succ,List.set_cons_zero,List.drop_succ_cons,List.drop_zero,r0,r1]
   clear hR r0 r1
   have HBX:=Lib.hid (HBW.out.trans (hC.mono HBW.out.size))
   clear hC
   rcases HUV.out with⟨huv,hd⟩|⟨huv,hd⟩
   ·
    subst huv
    have HD:=Lib.hid hd
    clear hd
    go_wp2_with fail
    exact bodyPost_ret (v:= .bool true) (by simp[results,results78]) rfl ⟨by rw[HD.out],HBX.out⟩
   ·
    have HD:=Lib.hid hd
    clear hd
    go_wp2_with fail
    exact bodyPost_ret (v:= .bool false) (by simp[results,results78]) rfl ⟨by rw[HD.out],HBX.out⟩
  ·
   have hkl:k<3:=by omega
   have hki:(k:Int)<3:=by omega
   obtain⟨A,c,hidx,hco⟩:=HX.out k hkl
   have HCO:=Lib.hid hco
   have HIX:=Lib.hid hidx
   clear hco hidx
   go_upto_region 7 with(refine Zk rfl (.tmp 37) (.tmp 38) rfl _ _ _ (.slice A (vY s k).length c) k rfl rfl hkl HIX.out ?_)
   obtain⟨l,hl⟩:∃l,l=vY s k:=⟨_,rfl⟩
   have HLI:Hid (∀i,-9223372036854775808<=l.getD i 0/\l.getD i 0<=9223372036854775807):=by unfold Hid;rw[hl];exact HI.out k
   have HL:=Lib.hid hl
   rw[<-hl] at HCO ⊢
   have HBAD:Hid (¬Ms l o->decide (Gz s)=false):=λhn=>decide_eq_false λh=>by
    obtain⟨_,h0,h1,h2,_⟩:=h
    apply hn
    rw[HSO.out,hl]
    match k with
    |0=>exact h0
    |1=>exact h1
    |2=>exact h2
   have HBW:=Lib.hid HJ.out.below
   clear hl
   by_cases l1:l.length<1
   ·
    have HF:Hid (decide (Gz s)=false):=HBAD.out λh=>by have:=h.1;omega
    have l1':(l.length:Int)<1:=by omega
    clear HBAD HCO HL HJ HLI
    go_wp2_with fail
    exact bodyPost_ret (v:= .bool false) (by simp[results,results78]) rfl ⟨by rw[HF.out],HBW.out⟩
   by_cases l6:6<l.length
   ·
    have HF:Hid (decide (Gz s)=false):=HBAD.out λh=>by have:=h.2.1;omega
    have l1':¬(l.length:Int)<1:=by omega
    have l6':(6:Int)<(l.length:Int):=by omega
    clear HBAD HCO HL HJ HLI
    go_wp2_with fail
    exact bodyPost_ret (v:= .bool false) (by simp[results,results78]) rfl ⟨by rw[HF.out],HBW.out⟩
   obtain⟨b,q,c2,hA,hcell⟩:∃b q c2,(Value.slice A l.length c)= .slice (some ⟨b,q,none⟩) l.length c2/\∀i,i<l.length->w.cell? ⟨b,q+i*1,none⟩=some (.int .i64 (l.getD i 0)):=by
    rcases HCO.out with⟨_,_,_,e⟩|h
    · rw[e] at l1;exact absurd δ l1
    · exact h
   injection hA with hA1 _ hA2
   subst hA1
   subst hA2
   have hbw:b<w.heap.size:=by
    have:=hcell 0 ω
    simp only[World.cell?] at this
    cases h:w.heap[b]? with
    |none=>rw[h] at this;cases this
    |some x=>exact(Array.getElem?_eq_some_iff.1 h).1
   have HC:Hid (∀wa,Below w.heap.size w wa->∀i,i<l.length->wa.cell? ⟨b,q+i*1,none⟩=some (.int .i64 (l.getD i 0))):=λwa hb i hi=>(hb.cell (p:=⟨b,q+i*1,none⟩) hbw).trans (hcell i hi)
   have HBD:Hid (∀wa,Below w.heap.size w wa->Calls Tryz.prog 101 #[.slice (some ⟨b,q,none⟩) l.length c,.int .i64 o] wa λe w'=>e= .returned (.bool (decide (Tm l o l.length)))/\Below wa.heap.size wa w'):=λwa hb=>
    gL l o b q c wa (HC.out wa hb) ω ω HLI.out ω ω
   obtain⟨m,hm⟩:∃m,l.length=m+1:=⟨l.length-1,ω⟩
   have HM:=Lib.hid hm
   have hwm:IntKind.i64.wrap ((l.length:Int)-1)=(m:Int):=by rw[IntWalk.i64_in _ ω];omega
   have hml:m<l.length:=by omega
   have hmi:(m:Int)<(l.length:Int):=by omega
   have o2:wr.cell? ⟨w.heap.size,2,none⟩=some (.int .i64 o):=by rw[HSO.out];exact HJ.out.over
   have cm:=HC.out wr HBW.out m hml
   rw[Nat.mul_one] at cm
   have l1':¬(l.length:Int)<1:=by omega
   have l6':¬(6:Int)<(l.length:Int):=by omega
   obtain⟨x,hx⟩:∃x,x=l.getD m 0:=⟨_,rfl⟩
   rw[<-hx] at cm
   clear hcell hm
   by_cases lz:1<l.length/\x=0
   ·
    have HF:Hid (decide (Gz s)=false):=HBAD.out λh=>by
     apply h.2.2.1 lz.1
     rw[show l.length-1=m by have:=HM.out;omega,<-hx]
     exact lz.2
    have lone:(1:Int)<(l.length:Int):=by omega
    obtain⟨_,lz⟩:=lz
    clear HBAD HCO HL HJ HLI HBD HC hx
    go_wp2_with fail
    exact bodyPost_ret (v:= .bool false) (by simp[results,results78]) rfl ⟨by rw[HF.out],HBW.out⟩
   have HLZ:=Lib.hid lz
   have lzz:(¬(1:Int)<(l.length:Int))\/((1:Int)<(l.length:Int)/\¬x=0):=by omega
   have HAX2:Hid (Tm l o l.length->Ms l o):=λh=>⟨ω,ω,λh1=>by
    have:=HM.out
    rw[show l.length-1=m by omega,<-hx]
    intro e
    exact HLZ.out ⟨h1,e⟩,h⟩
   have HNB:Hid (decide (Tm l o l.length)=false->decide (Gz s)=false):=λh=>HBAD.out λh2=>(of_decide_eq_false h) h2.2.2.2
   clear lz HLZ HBAD hx HCO
   obtain⟨bb,hbb⟩:∃bb,bb=decide (Tm l o l.length):=⟨_,rfl⟩
   rw[<-hbb] at HBD HNB
   have HBB:=Lib.hid hbb
   clear hbb
   rcases lzz with lone|⟨lone,lx⟩
   all_goals
    go_wp2_with fail
    refine(HBD.out _ HBW.out).mono ?_
    rintro e w3 ⟨rfl,hb3⟩
    have HB3:Hid (Below wr.heap.size wr w3):=hb3
    clear hb3
    cases bb
    ·
     have HF:=Lib.hid (HNB.out rfl)
     have HBX:=Lib.hid (HBW.out.trans (HB3.out.mono HBW.out.size))
     go_wp2_with fail
     exact bodyPost_ret (v:= .bool false) (by simp[results,results78]) rfl ⟨by rw[HF.out],HBX.out⟩
    ·
     have HOK:Hid (Ms l o):=HAX2.out (of_decide_eq_true HBB.out.symm)
     have HK0:Hid (VaK w s l gb k 0 w3):=by
      have h:=HJ.out
      exact⟨(HB3.out.cell (p:=⟨w.heap.size,2,none⟩) (by have:=h.box.lt;show w.heap.size<_;omega)).trans h.over,h.box.up HB3.out h.box.lt,h.fit,h.below.trans (HB3.out.mono h.below.size)⟩
     have HJO:=Lib.hid HJ.out.ok
     clear HJ HAX2 HNB HBB HB3 HBD cm o2 HBW
     go_wp2_with fail
     go_loopw [72] (λiv wr=>∃i:Nat,i<=l.length/\iv= .int .i64 (i:Int)/\Hid (VaK w s l gb k i wr)) (λiv _=>l.length-(intOf iv).toNat)
     case atStart=>exact⟨0,Nat.zero_le _,rfl,HK0⟩
     case round=>
      obtain⟨i,hi,rfl,HK⟩:=hrel
      clear HK0
      by_cases hil:i=l.length
      ·
       subst hil
       have HNX:Hid (VaJ w s gb (k+1) wr):=by
        have h:=HK.out
        have e:Lw (gK s k) (l.take l.length)=gK s (k+1):=by rw[List.take_length];show _=Lw (gK s k) (vY s k);rw[HL.out]
        refine⟨h.over,by rw[<-e];exact h.box,λi hi=>?_,by rw[<-e];exact h.fit,h.below⟩
        by_cases eik:i=k
        · rw[eik,<-HL.out,<-HSO.out];exact HOK.out
        · exact HJO.out i ω
       clear HK HJO HOK
       go_wp2_with fail
       exact⟨⟨k+1,ω,rfl,HNX⟩,by simp only[intOf];omega⟩
      ·
       have hil2:i<l.length:=by omega
       have hii:(i:Int)<(l.length:Int):=by omega
       have ci:=HC.out wr HK.out.below i hil2
       rw[Nat.mul_one] at ci
       have HNX:Hid (∀w2,Below wr.heap.size wr w2->VaK w s l gb k (i+1) ((w2.setCell ⟨gb,0,none⟩ (.bool (decide ((Lw (gK s k) (l.take (i+1)):Int)<0)))).setCell ⟨gb,1,none⟩ (.string (Df (Lw (gK s k) (l.take (i+1)):Int).natAbs)))):=λw2 hb=>by
        have h:=HK.out
        refine⟨?_,(h.box.up hb h.box.lt).store _,?_,Below.store2 (h.below.trans (hb.mono h.below.size)) ω _ _⟩
        · exact(World.cell?_of_block (Nn _ _ (by show w.heap.size≠gb;omega))).trans ((hb.cell (p:=⟨w.heap.size,2,none⟩) (by have:=h.box.lt;show w.heap.size<_;omega)).trans h.over)
        ·
         rw[aW _ _ hil2]
         have:=dS h.fit (Ez (HLI.out i).1 (HLI.out i).2)
         rw[Int.natAbs_natCast] at this
         exact this
       obtain⟨x,hx⟩:∃x,x=l.getD i 0:=⟨_,rfl⟩
       have hxi:=HLI.out i
       rw[<-hx] at hxi ci
       have HOX:=Lib.hid (Ng (wr:=wr) (λwa=>Nu x wa hxi.1 hxi.2))
       have HGC:=Lib.hid (Ng (wr:=wr) (λwa=>Abe (Lw (gK s k) (l.take i):Int) x wa HK.out.fit (Ez hxi.1 hxi.2)))
       rw[Int.natAbs_natCast,hx,<-aW _ _ hil2,<-hx] at HGC
       have CX:Hid (∀wa,Below wr.heap.size wr wa->wa.heap[gb]?=some (.cells #[.bool (decide ((Lw (gK s k) (l.take i):Int)<0)),.string (Df (Lw (gK s k) (l.take i):Int).natAbs)] 174 (0,0))):=λwa hb=>HK.out.box.up hb HK.out.box.lt
       unfold Ak at HOX HGC
       obtain⟨xg,hxg⟩:∃g,g=decide (x<0):=⟨_,rfl⟩
       obtain⟨xs,hxs⟩:∃g,g=Df x.natAbs:=⟨_,rfl⟩
       obtain⟨ug,hug⟩:∃g,g=decide ((Lw (gK s k) (l.take i):Int)<0):=⟨_,rfl⟩
       obtain⟨us,hus⟩:∃g,g=Df (Lw (gK s k) (l.take i):Int).natAbs:=⟨_,rfl⟩
       obtain⟨vg,hvg⟩:∃g,g=decide ((Lw (gK s k) (l.take (i+1)):Int)<0):=⟨_,rfl⟩
       obtain⟨vs,hvs⟩:∃g,g=Df (Lw (gK s k) (l.take (i+1)):Int).natAbs:=⟨_,rfl⟩
       rw[<-hxg,<-hxs] at HOX HGC
       rw[<-hug,<-hus] at HGC CX
       rw[<-hvg,<-hvs] at HGC HNX
       clear hxg hxs hug hus hvg hvs hxi hx HK HJO HOK
       go_wp2_with fail
       refine Hf 4 85 (λw'=>Below wr.heap.size wr w') [is (.agg #[.bool ug,.string us]),is (.int .i64 x),is (.agg #[.bool xg,.string xs]),is (.agg #[.bool vg,.string vs])] κ κ rfl δ ?hst ?h0 ?hop ?htail
       case hst=>
        simp only[List.mem_cons,List.mem_nil_iff,or_false,forall_eq_or_imp,forall_eq]
        exact⟨Ae _,Ae _,Ae _,Ae _⟩
       case h0=>exact(Below.refl _ _).drew
       case hop=>
        refine⟨?_,?_,?_,?_,trivial⟩
        · exact Ct 174 (.tmp 3) (.pointer (some ⟨gb,0,none⟩)) (.agg #[.bool ug,.string us]) rfl κ (λwa hC=>Fp [.bool ug,.string us] wa κ κ (lX (CX.out wa hC))) rfl
        · exact Cq (.tmp 7) (is (.int .i64 x)) rfl κ (λ_ _ _ h=>h)
        · exact Fe 99 [.tmp 77] _ [.int .i64 x] rfl (λ_ _=>by kernel_rfl) ⟨κ,trivial⟩ HOX.out
        · exact Fe 102 [.tmp 76,.tmp 78] _ [.agg #[.bool ug,.string us],.agg #[.bool xg,.string xs]] rfl (λ_ _=>by kernel_rfl) ⟨κ,κ,trivial⟩ HGC.out
       case htail=>
       intro τ w2 hC hR
       have r3:τ 3= .agg #[.bool vg,.string vs]:=hR 3 δ
       simp only[Ci,List.getElem?_toArray,List.getElem?_cons_succ,List.getElem?_cons_zero,Option.bind_some,Act.put,List.setIfInBounds_toArray,List.set_cons_succ,List.set_cons_zero,List.drop_succ_cons,List.drop_zero,r3]
       clear hR r3
       have HN2:=Lib.hid (HNX.out w2 hC)
       have h1:=CX.out w2 hC
       obtain⟨c0,c1⟩:=aK h1
       have f0:=Aaf h1 0
       have f1:=Aaf h1 1
       clear hC h1 CX HOX HGC HNX
       go_wp2_with fail
       exact⟨⟨i+1,ω,rfl,HN2⟩,by simp only[intOf];omega⟩
theorem eO (s:Sg) (Ax Ay Az:Option Addr) (cx cy cz:Nat) (w:World)
  (hx:Oi w (.slice Ax s.x.length cx) s.x) (hy:Oi w (.slice Ay s.y.length cy) s.y) (hz:Oi w (.slice Az s.z.length cz) s.z)
  (hi:∀k i,-9223372036854775808<=(vY s k).getD i 0/\(vY s k).getD i 0<=9223372036854775807):
  Calls Tryz.prog 78 #[.agg #[.int .i64 s.f,.int .i64 s.t,.int .i64 s.o,.slice Ax s.x.length cx,.slice Ay s.y.length cy,.slice Az s.z.length cz]] w λe w'=>e= .returned (.bool (decide (Gz s)))/\Below w.heap.size w w':=by
 by_cases hh:Qz s.f s.t s.o
 exact tI s Ax Ay Az cx cy cz w hh hx hy hz hi
 refine(Aan s.f s.t s.o Ax Ay Az _ cx _ cy _ cz w hh).mono ?_
 rintro e w' ⟨rfl,hb⟩
 exact⟨by rw[decide_eq_false (λh:Gz s=>hh h.1)],hb⟩
structure Bd (e:Nat) (z:Int):Prop where
 le:z.natAbs<=2^e
theorem Bd.fit {e:Nat} {z:Int} (h:Bd e z) (he:e<=60000):Cb z:=by
 unfold Cb
 have h1:z.natAbs<2^(e+1):=by
  have:=h.le
  have h2:0<2^e:=Nat.pow_pos δ
  rw[Nat.pow_succ]
  omega
 exact Nat.le_trans (Ec.2 h1) ω
theorem Bd.mono {e f:Nat} {z:Int} (h:Bd e z) (hf:e<=f):Bd f z:=⟨Nat.le_trans h.le (Nat.pow_le_pow_right δ hf)⟩
theorem Bd.add {e:Nat} {x y:Int} (h:Bd e x) (k:Bd e y):Bd (e+1) (x+y):=⟨by
 have:=Int.natAbs_add_le x y
 have h1:=h.le
 have h2:=k.le
 rw[Nat.pow_succ]
 omega⟩
theorem Bd.mul {e f:Nat} {x y:Int} (h:Bd e x) (k:Bd f y):Bd (e+f) (x*y):=⟨by
 rw[Int.natAbs_mul,Nat.pow_add]
 exact Nat.mul_le_mul h.le k.le⟩
theorem Bd.pow {e:Nat} {x:Int} (h:Bd e x) (k:Nat):Bd (e*k) (x^k):=⟨by
 rw[Int.natAbs_pow,Nat.pow_mul]
 exact Nat.pow_le_pow_left h.le k⟩
theorem Bd.int {x:Int} (h0: -9223372036854775808<=x) (h1:x<=9223372036854775807):Bd 63 x:=⟨by
 have:(2:Nat)^63=9223372036854775808:=by decide
 omega⟩
theorem Bd.zero (e:Nat):Bd e 0:=⟨by simp⟩
theorem Bd.div {e:Nat} {x:Int} (h:Bd e x) (y:Int):Bd e (x/y):=⟨Nat.le_trans (Int.natAbs_ediv_le_natAbs x y) h.le⟩
theorem Bd.gcd {e:Nat} {x y:Int} (h:Bd e x) (k:Bd e y):Bd e (Nat.gcd x.natAbs y.natAbs:Int):=⟨by
 rw[Int.natAbs_natCast]
 by_cases hx:x.natAbs=0
 rw[hx,Nat.gcd_zero_left];exact k.le
 exact Nat.le_trans (Nat.gcd_le_left _ ω) h.le⟩
def jO (l:List Int) (a d:Int):Nat->Int
 |0=>0
 |k+1=>jO l a d k+l.getD k 0*(a^k*d^(5-k))
abbrev Dd (x:Int):Prop:= -9223372036854775808<=x/\x<=9223372036854775807
structure Yv (s:Sg):Prop where
 f:Dd s.f
 t:Dd s.t
 o:Dd s.o
 x:∀i,Dd (s.x.getD i 0)
 y:∀i,Dd (s.y.getD i 0)
 z:∀i,Dd (s.z.getD i 0)
theorem No {x a d:Int} (hx:Dd x) (ha:Dd a) (hd:Dd d) {k:Nat} (hk:k<=5):Bd 378 (x*(a^k*d^(5-k))):=
 ((Bd.int hx.1 hx.2).mul (((Bd.int ha.1 ha.2).pow k).mul ((Bd.int hd.1 hd.2).pow (5-k)))).mono ω
theorem eG {l:List Int} {a d:Int} (hl:∀i,Dd (l.getD i 0)) (ha:Dd a) (hd:Dd d):∀k,k<=6->Bd (378+k) (jO l a d k)
 |0,_=>Bd.zero _
 |k+1,hk=>(eG hl ha hd k ω).add ((No (hl k) ha hd ω).mono ω)
def vZ (s:Sg) (a d:Int):Int:=jO s.x a d s.x.length
def plY (s:Sg) (a d:Int):Int:=jO s.y a d s.y.length
def plZ (s:Sg) (a d:Int):Int:=jO s.z a d s.z.length
def fC (s:Sg) (d:Int):Int:=s.o*d^5
def plG (s:Sg) (a d:Int):Int:=((Nat.gcd ((Nat.gcd (Nat.gcd (fC s d).natAbs (vZ s a d).natAbs:Int).natAbs (plY s a d).natAbs:Nat):Int).natAbs (plZ s a d).natAbs:Nat):Int)
structure PL where
 x:Int
 y:Int
 z:Int
 o:Int
deriving DecidableEq
def Ht (s:Sg) (a d:Int):PL:=⟨vZ s a d/plG s a d,plY s a d/plG s a d,plZ s a d/plG s a d,fC s d/plG s a d⟩
theorem Hb {x:Int} (h:Dd x):Cb x:=Ez h.1 h.2
theorem Kw {x:Int} (h:Dd x) {k:Nat} (hk:k<=6):Cb (x^k):=((Bd.int h.1 h.2).pow k).fit ω
abbrev eH (p:PL):AV:= .lit (.agg #[.bool (decide (p.x<0)),.string (Df p.x.natAbs),.bool (decide (p.y<0)),.string (Df p.y.natAbs),.bool (decide (p.z<0)),.string (Df p.z.natAbs),.bool (decide (p.o<0)),.string (Df p.o.natAbs)])
theorem AeH {s:Sg} {d:Int} (hs:Yv s) (hd:Dd d):Bd 378 (fC s d):=((Bd.int hs.o.1 hs.o.2).mul ((Bd.int hd.1 hd.2).pow 5)).mono ω
theorem xM (s:Sg) (a d:Int) (hs:Yv s) (hx:s.x.length<=6) (hy:s.y.length<=6) (hz:s.z.length<=6) (ha:Dd a) (hd:Dd d) (hg:plG s a d≠0):AF Tryz.prog 103 [Pm s,.int a,.int d] (eH (Ht s a d)):=by
 have bX:∀k,k<=6->Bd 390 (jO s.x a d k):=λk hk=>(eG hs.x ha hd k hk).mono ω
 have bY:∀k,k<=6->Bd 390 (jO s.y a d k):=λk hk=>(eG hs.y ha hd k hk).mono ω
 have bZ:∀k,k<=6->Bd 390 (jO s.z a d k):=λk hk=>(eG hs.z ha hd k hk).mono ω
 have bO:Bd 390 (fC s d):=(AeH hs hd).mono ω
 have bXX:Bd 390 (vZ s a d):=bX _ hx
 have bYY:Bd 390 (plY s a d):=bY _ hy
 have bZZ:Bd 390 (plZ s a d):=bZ _ hz
 have bG1:=bO.gcd bXX
 have bG2:=bG1.gcd bYY
 have bG3:=bG2.gcd bZZ
 have pw:∀{x:Int},Dd x->∀k,k<=6->∀j,j<=k->Cb (x^j):=λh k hk j hj=>Kw h ω
 refine As func103 rfl λB D0 hA0=>?_
 refine Ab 15 (Aw (Ga _ hs.o.1 hs.o.2) (Ab 1 (Aw (Jt d 5 hd.1 hd.2 ω (pw hd 5 ω)) (Aw (Je _ _ (Hb hs.o) (Kw hd ω) (bO.fit ω)) (Ab 15 (Aw (AbI s) (Ab 4 (Qk 3 (Ab 14 (Bb (Be s.x) .none (Fo 176 (.tmp 22) (.tmp 23) κ underlying176 1 sizeOf80 0 false isAgg80 [Be s.x,Be s.y,Be s.z] 0 κ κ ω δ β δ (Be s.x) κ) (Ab 13 (Afa (keep:=[1,2,6,7,8,9,10,22,23,27,28,29]) s.x.length (λk=>⟨[(1,.int a),(2,.int d),(6,.ptr 1 0),(7,.ptr 2 0),(8,.ptr 3 0),(9,.ptr 4 0),(10,.int 0),(22,.agg [Be s.x,Be s.y,Be s.z]),(23,.int 0),(27,Be s.x),(28,.int (s.x.length:Int)),(29,.int (k:Int))],[(0,.box 120 [.int s.f,.int s.t,.int s.o,Be s.x,Be s.y,Be s.z]),(1,.box 181 [.bool false,.lit (.string ⟨#[]⟩),.bool false,.lit (.string ⟨#[]⟩),.bool false,.lit (.string ⟨#[]⟩),.bool false,.lit (.string ⟨#[]⟩)]),(2,.box 208 [.bool (decide (jO s.x a d k<0)),.lit (.string (Df (jO s.x a d k).natAbs)),.bool false,.lit (.string ⟨#[]⟩),.bool false,.lit (.string ⟨#[]⟩)]),(3,.box 174 [.bool (decide (fC s d<0)),.lit (.string (Df (fC s d).natAbs))]),(4,.box 174 [.bool (decide (fC s d<0)),.lit (.string (Df (fC s d).natAbs))])],5,74⟩) (λk hk J1 hJ1=>?_) ?_))))))))))))
 ·
  exact Ab 3 (Lj 30 (decide ((k:Int)<(s.x.length:Int))) true (decide_eq_true ω) (Ab 11 (Ob k s.x.length (Ab 5 (Fa [(2,.ptr 2 0,.none),(5,_,.none),(8,_,.none),(11,.int ((5-k:Nat):Int),.none),(12,_,.none),(13,_,.none),(14,_,.none),(15,_,.none),(16,.ptr 2 0,.none)] [1,2,6,7,8,9,10,22,23,27,28,29] ⟨Bc (Ai 208 (.tmp 7) (.tmp 35) κ underlying208 2 0 2 0 0 κ κ sizeOf174 δ ω δ),Cx (Ga _ (hs.x k).1 (hs.x k).2),Cx (Jt a k ha.1 ha.2 ω (pw ha _ ω)),Bc (Cg (v:= .int .i64 (IntKind.wrap .i64 ((5:Int)-(k:Int)))) (v':= .int .i64 ((5-k:Nat):Int)) _ κ rfl κ (λw=>by kernel_rfl) (congrArg (Value.int .i64) ((IntWalk.i64_in _ ω).trans ω))),Cx (Jt d (5-k) hd.1 hd.2 ω (pw hd _ ω)),Cx (Je _ _ (Kw ha ω) (Kw hd ω) ((((Bd.int ha.1 ha.2).pow k).mul ((Bd.int hd.1 hd.2).pow (5-k))).fit ω)),Cx (Je _ _ (Hb (hs.x k)) ((((Bd.int ha.1 ha.2).pow k).mul ((Bd.int hd.1 hd.2).pow (5-k))).fit ω) ((No (hs.x k) ha hd ω).fit ω)),Cx (Vh (jO s.x a d k) _ ((bX k ω).fit ω) ((No (hs.x k) ha hd ω).fit ω) ((bX (k+1) ω).fit ω)),Bc (Ai 208 (.tmp 7) (.tmp 34) κ underlying208 2 0 2 0 0 κ κ sizeOf174 δ ω δ),trivial⟩ (Ab 3 (Ig ((k:Int)+1) ((k+1:Nat):Int) (Ab 2 (vrd [1,2,6,7,8,9,10,22,23,27,28,29] hJ1)))))))))
 ·
  refine Ab 3 (Lj 30 (decide ((s.x.length:Int)<(s.x.length:Int))) false (decide_eq_false ω) (Ab 9 (Fa [(2,.ptr 2 0,.none),(4,_,.none)] [1,2,6,7,8,9,22,23] ⟨Bc (Ai 208 (.tmp 7) (.tmp 53) κ underlying208 2 0 2 0 0 κ κ sizeOf174 δ ω δ),Cx (Vi _ _ (bO.fit ω) (bXX.fit ω)),trivial⟩ (Ab 3 (Cn (.int .i64 1) (.int .i64 1) (Ab 17 (Bb (Be s.y) .none (Fo 176 (.tmp 22) (.tmp 23) κ underlying176 1 sizeOf80 1 false isAgg80 [Be s.x,Be s.y,Be s.z] 1 κ κ ω δ β δ (Be s.y) κ) (Ab 13 (Afa (keep:=[1,2,6,7,8,9,10,22,23,27,28,29]) s.y.length (λk=>⟨[(1,.int a),(2,.int d),(6,.ptr 1 0),(7,.ptr 2 0),(8,.ptr 3 0),(9,.ptr 4 0),(10,.int 1),(22,.agg [Be s.x,Be s.y,Be s.z]),(23,.int 1),(27,Be s.y),(28,.int (s.y.length:Int)),(29,.int (k:Int))],[(0,.box 120 [.int s.f,.int s.t,.int s.o,Be s.x,Be s.y,Be s.z]),(1,.box 181 [.bool false,.lit (.string ⟨#[]⟩),.bool false,.lit (.string ⟨#[]⟩),.bool false,.lit (.string ⟨#[]⟩),.bool false,.lit (.string ⟨#[]⟩)]),(2,.box 208 [.bool (decide (vZ s a d<0)),.lit (.string (Df (vZ s a d).natAbs)),.bool (decide (jO s.y a d k<0)),.lit (.string (Df (jO s.y a d k).natAbs)),.bool false,.lit (.string ⟨#[]⟩)]),(3,.box 174 [.bool (decide (fC s d<0)),.lit (.string (Df (fC s d).natAbs))]),(4,.box 174 [.bool (decide ((Nat.gcd (fC s d).natAbs (vZ s a d).natAbs:Int)<0)),.lit (.string (Df (Nat.gcd (fC s d).natAbs (vZ s a d).natAbs:Int).natAbs))])],5,74⟩) (λk hk J2 hJ2=>?_) ?_)))))))))
  ·
   exact Ab 3 (Lj 30 (decide ((k:Int)<(s.y.length:Int))) true (decide_eq_true ω) (Ab 11 (Ob k s.y.length (Ab 5 (Fa [(2,.ptr 2 2,.none),(5,_,.none),(8,_,.none),(11,.int ((5-k:Nat):Int),.none),(12,_,.none),(13,_,.none),(14,_,.none),(15,_,.none),(16,.ptr 2 2,.none)] [1,2,6,7,8,9,10,22,23,27,28,29] ⟨Bc (Ai 208 (.tmp 7) (.tmp 35) κ underlying208 2 0 2 1 1 κ κ sizeOf174 δ ω δ),Cx (Ga _ (hs.y k).1 (hs.y k).2),Cx (Jt a k ha.1 ha.2 ω (pw ha _ ω)),Bc (Cg (v:= .int .i64 (IntKind.wrap .i64 ((5:Int)-(k:Int)))) (v':= .int .i64 ((5-k:Nat):Int)) _ κ rfl κ (λw=>by kernel_rfl) (congrArg (Value.int .i64) ((IntWalk.i64_in _ ω).trans ω))),Cx (Jt d (5-k) hd.1 hd.2 ω (pw hd _ ω)),Cx (Je _ _ (Kw ha ω) (Kw hd ω) ((((Bd.int ha.1 ha.2).pow k).mul ((Bd.int hd.1 hd.2).pow (5-k))).fit ω)),Cx (Je _ _ (Hb (hs.y k)) ((((Bd.int ha.1 ha.2).pow k).mul ((Bd.int hd.1 hd.2).pow (5-k))).fit ω) ((No (hs.y k) ha hd ω).fit ω)),Cx (Vh (jO s.y a d k) _ ((bY k ω).fit ω) ((No (hs.y k) ha hd ω).fit ω) ((bY (k+1) ω).fit ω)),Bc (Ai 208 (.tmp 7) (.tmp 34) κ underlying208 2 0 2 1 1 κ κ sizeOf174 δ ω δ),trivial⟩ (Ab 3 (Ig ((k:Int)+1) ((k+1:Nat):Int) (Ab 2 (vrd [1,2,6,7,8,9,10,22,23,27,28,29] hJ2)))))))))
  ·
   refine Ab 3 (Lj 30 (decide ((s.y.length:Int)<(s.y.length:Int))) false (decide_eq_false ω) (Ab 9 (Fa [(2,.ptr 2 2,.none),(4,_,.none)] [1,2,6,7,8,9,22,23] ⟨Bc (Ai 208 (.tmp 7) (.tmp 53) κ underlying208 2 0 2 1 1 κ κ sizeOf174 δ ω δ),Cx (Vi _ _ (bG1.fit ω) (bYY.fit ω)),trivial⟩ (Ab 3 (Cn (.int .i64 2) (.int .i64 2) (Ab 17 (Bb (Be s.z) .none (Fo 176 (.tmp 22) (.tmp 23) κ underlying176 1 sizeOf80 2 false isAgg80 [Be s.x,Be s.y,Be s.z] 2 κ κ ω δ β δ (Be s.z) κ) (Ab 13 (Afa (keep:=[1,2,6,7,8,9,10,22,23,27,28,29]) s.z.length (λk=>⟨[(1,.int a),(2,.int d),(6,.ptr 1 0),(7,.ptr 2 0),(8,.ptr 3 0),(9,.ptr 4 0),(10,.int 2),(22,.agg [Be s.x,Be s.y,Be s.z]),(23,.int 2),(27,Be s.z),(28,.int (s.z.length:Int)),(29,.int (k:Int))],[(0,.box 120 [.int s.f,.int s.t,.int s.o,Be s.x,Be s.y,Be s.z]),(1,.box 181 [.bool false,.lit (.string ⟨#[]⟩),.bool false,.lit (.string ⟨#[]⟩),.bool false,.lit (.string ⟨#[]⟩),.bool false,.lit (.string ⟨#[]⟩)]),(2,.box 208 [.bool (decide (vZ s a d<0)),.lit (.string (Df (vZ s a d).natAbs)),.bool (decide (plY s a d<0)),.lit (.string (Df (plY s a d).natAbs)),.bool (decide (jO s.z a d k<0)),.lit (.string (Df (jO s.z a d k).natAbs))]),(3,.box 174 [.bool (decide (fC s d<0)),.lit (.string (Df (fC s d).natAbs))]),(4,.box 174 [.bool (decide (((Nat.gcd (Nat.gcd (fC s d).natAbs (vZ s a d).natAbs:Int).natAbs (plY s a d).natAbs:Nat):Int)<0)),.lit (.string (Df ((Nat.gcd (Nat.gcd (fC s d).natAbs (vZ s a d).natAbs:Int).natAbs (plY s a d).natAbs:Nat):Int).natAbs))])],5,74⟩) (λk hk J3 hJ3=>?_) ?_)))))))))
   ·
    exact Ab 3 (Lj 30 (decide ((k:Int)<(s.z.length:Int))) true (decide_eq_true ω) (Ab 11 (Ob k s.z.length (Ab 5 (Fa [(2,.ptr 2 4,.none),(5,_,.none),(8,_,.none),(11,.int ((5-k:Nat):Int),.none),(12,_,.none),(13,_,.none),(14,_,.none),(15,_,.none),(16,.ptr 2 4,.none)] [1,2,6,7,8,9,10,22,23,27,28,29] ⟨Bc (Ai 208 (.tmp 7) (.tmp 35) κ underlying208 2 0 2 2 2 κ κ sizeOf174 δ ω δ),Cx (Ga _ (hs.z k).1 (hs.z k).2),Cx (Jt a k ha.1 ha.2 ω (pw ha _ ω)),Bc (Cg (v:= .int .i64 (IntKind.wrap .i64 ((5:Int)-(k:Int)))) (v':= .int .i64 ((5-k:Nat):Int)) _ κ rfl κ (λw=>by kernel_rfl) (congrArg (Value.int .i64) ((IntWalk.i64_in _ ω).trans ω))),Cx (Jt d (5-k) hd.1 hd.2 ω (pw hd _ ω)),Cx (Je _ _ (Kw ha ω) (Kw hd ω) ((((Bd.int ha.1 ha.2).pow k).mul ((Bd.int hd.1 hd.2).pow (5-k))).fit ω)),Cx (Je _ _ (Hb (hs.z k)) ((((Bd.int ha.1 ha.2).pow k).mul ((Bd.int hd.1 hd.2).pow (5-k))).fit ω) ((No (hs.z k) ha hd ω).fit ω)),Cx (Vh (jO s.z a d k) _ ((bZ k ω).fit ω) ((No (hs.z k) ha hd ω).fit ω) ((bZ (k+1) ω).fit ω)),Bc (Ai 208 (.tmp 7) (.tmp 34) κ underlying208 2 0 2 2 2 κ κ sizeOf174 δ ω δ),trivial⟩ (Ab 3 (Ig ((k:Int)+1) ((k+1:Nat):Int) (Ab 2 (vrd [1,2,6,7,8,9,10,22,23,27,28,29] hJ3)))))))))
   ·
    exact Ab 3 (Lj 30 (decide ((s.z.length:Int)<(s.z.length:Int))) false (decide_eq_false ω) (Ab 9 (Fa [(2,.ptr 2 4,.none),(4,_,.none)] [1,2,6,7,8,9,22,23] ⟨Bc (Ai 208 (.tmp 7) (.tmp 53) κ underlying208 2 0 2 2 2 κ κ sizeOf174 δ ω δ),Cx (Vi _ _ (bG2.fit ω) (bZZ.fit ω)),trivial⟩ (Ab 3 (Cn (.int .i64 3) (.int .i64 3) (Ab 16 (Fa [(0,.ptr 2 0,.none),(3,_,.none),(4,.ptr 2 2,.none),(7,_,.none),(8,.ptr 2 4,.none),(11,_,.none),(14,_,.none)] [6] ⟨Bc (Ai 208 (.tmp 7) (.const (.int .i64 0)) κ underlying208 2 0 2 0 0 κ κ sizeOf174 δ ω δ),Cx (Vj _ _ (bXX.fit ω) (bG3.fit ω) hg),Bc (Ai 208 (.tmp 7) (.const (.int .i64 1)) κ underlying208 2 0 2 1 1 κ κ sizeOf174 δ ω δ),Cx (Vj _ _ (bYY.fit ω) (bG3.fit ω) hg),Bc (Ai 208 (.tmp 7) (.const (.int .i64 2)) κ underlying208 2 0 2 2 2 κ κ sizeOf174 δ ω δ),Cx (Vj _ _ (bZZ.fit ω) (bG3.fit ω) hg),Cx (Vj _ _ (bO.fit ω) (bG3.fit ω) hg),trivial⟩ (Ab 2 (Cy)))))))))
end Go.Proofs.YthhkfanbmpcmbaaGreatDoor
namespace Go.Proofs.YthhkfanbmpcmbaaGreatDoor
open Go.Proofs.Tryz
open Go.RowKit
variable {B:Nat} {D0:Aq} {o:Oper} {ev:Operand->AV} {pre:Nat->Option Bf}
theorem AcL (t t':TypeId) (x y:Operand) (ho:o.op= .binOp .eql t x y t') (vs us:Array Value) (hx:ev x= .lit (.agg vs)) (hy:ev y= .lit (.agg us)) (hg:Tryz.prog.eqGuardType Tryz.prog.depth t=false) (b:Bool) (heq:∀w,(Op.equal t (.agg vs) (.agg us)).run Tryz.prog w= .ok b w):Dl Tryz.prog B D0 o ev pre (.bool b) .none:=by
 refine Bj (.inl rfl) λE a c _ _ hv=>⟨_,?_,.lit _ _⟩
 have h1:=hv x (by simp[ho,Op.operands])
 have h2:=hv y (by simp[ho,Op.operands])
 rw[hx] at h1
 rw[hy] at h2
 simp[execOp,ho,h1.lit_inv,h2.lit_inv,eqGuard,hg,binOp,heq]
theorem eC (t t':TypeId) (x y:Operand) (ho:o.op= .binOp .neq t x y t') (vs us:Array Value) (hx:ev x= .lit (.agg vs)) (hy:ev y= .lit (.agg us)) (hg:Tryz.prog.eqGuardType Tryz.prog.depth t=false) (b:Bool) (heq:∀w,(Op.equal t (.agg vs) (.agg us)).run Tryz.prog w= .ok b w):Dl Tryz.prog B D0 o ev pre (.bool (!b)) .none:=by
 refine Bj (.inl rfl) λE a c _ _ hv=>⟨_,?_,.lit _ _⟩
 have h1:=hv x (by simp[ho,Op.operands])
 have h2:=hv y (by simp[ho,Op.operands])
 rw[hx] at h1
 rw[hy] at h2
 simp[execOp,ho,h1.lit_inv,h2.lit_inv,eqGuard,hg,binOp,heq]
theorem Lg {b b':Bool} (h:Dl Tryz.prog B D0 o ev pre (.bool b) .none) (e:b=b'):Dl Tryz.prog B D0 o ev pre (.bool b') .none:=e▸h
theorem AcV (b b':Bool) (s s':ByteArray) (w:World) (d:Nat):(Op.equalIn (d+2) 174 (.agg #[.bool b,.string s]) (.agg #[.bool b',.string s'])).run Tryz.prog w= .ok ((b==b')&&(s==s')) w:=by
 have h91:=Tryz.runUnderlying174
 have ha4:=isAgg4
 unfold Op.equalIn
 simp[h91,part,ha4,Op.equalIn]
 by_cases h1:b=b'
 subst h1
 cases hs:(s==s')<;>simp
 simp[h1]
theorem eqW (x y:Int) (w:World) (d:Nat):(Op.equalIn (d+2) 174 (Ak x) (Ak y)).run Tryz.prog w= .ok (decide (x=y)) w:=by
 unfold Ak
 rw[AcV]
 congr 1
 rw[beq_toListBytes]
 by_cases h:x=y
 subst h;simp
 rw[decide_eq_false h]
 cases h1:((Df x.natAbs).toList==(Df y.natAbs).toList) with
 |false=>simp
 |true=>
  have h3:x.natAbs=y.natAbs:=fX (by simpa using h1)
  have h4:¬(decide (x<0)=decide (y<0)):=λe=>by
   have:x<0↔y<0:=by simpa using e
   apply h
   omega
  simpa using h4
theorem Acp (p q:PL) (w:World):(Op.equal 181 (eH p).val (eH q).val).run Tryz.prog w= .ok (decide (p=q)) w:=by
 have e:∀(x y:Int) (w:World),(Op.equalIn 9999 174 (Ak x) (Ak y)).run Tryz.prog w= .ok (decide (x=y)) w:=λx y w=>eqW x y w 9997
 have h93:=Tryz.runUnderlying181
 have h91:=isAgg174
 have hs:=sizeOf174
 have hin:Tryz.prog.stoodInHeld 181=false:=by kernel_rfl
 unfold Op.equal
 rw[show Op.maxDepth=9999+1 from rfl]
 unfold Op.equalIn
 simp only[AV.val]
 unfold Ak at e
 simp[h93,part,h91,hs,e,hin]
 obtain⟨x,y,z,u⟩:=p
 obtain⟨x',y',z',u'⟩:=q
 simp only[PL.mk.injEq]
 by_cases h1:x=x'<;>by_cases h2:y=y'<;>by_cases h3:z=z'<;>by_cases h4:u=u'<;>simp[h1,h2,h3,h4]
theorem cZ {E:Aq} {l:List Int} {v:Value} (h:VR E (Be l) v):∃A c,v= .slice A l.length c/\Oi E.w v l:=by
 obtain⟨n,hn⟩:∃n,l.length=n:=⟨_,rfl⟩
 unfold Be at h
 rw[hn] at h ⊢
 cases h with
 |sl0 _ _ _ A c=>exact⟨A,c,rfl,.inl ⟨A,c,rfl,List.eq_nil_of_length_eq_zero hn⟩⟩
 |sl _ _ _ _ b q c us hn0 hD hc hr=>
  refine⟨_,c,rfl,.inr ⟨b,q,c,by rw[hn],λi hi=>?_⟩⟩
  have h1:=hc i 0 ω ω
  have h2:=hr i 0 ω ω
  have h3:us i 0= .int .i64 (l.getD i 0):=h2.lit_inv
  rw[<-h3];exact h1
theorem Oh (s:Sg) (hs:Yv s):AF Tryz.prog 78 [Pm s] (.bool (decide (Gz s))):=by
 intro E us hD hn hv
 have h0:=hv 0 (by simp)
 obtain⟨u,rfl⟩:∃u,us=#[u]:=⟨us.getD 0 undef,by
  apply Array.ext
  simpa using hn
  intro i h1 h2
  have:i=0:=by simp at hn;omega
  subst this
  simp[h1]⟩
 simp at h0
 cases h0 with
 |agg _ _ vs hsz hr=>
  have g:=VR.tops hr
  have l0:vs.getD 0 undef= .int .i64 s.f:=(g 0).lit_inv
  have l1:vs.getD 1 undef= .int .i64 s.t:=(g 1).lit_inv
  have l2:vs.getD 2 undef= .int .i64 s.o:=(g 2).lit_inv
  obtain⟨A3,c3,e3,k3⟩:=cZ (l:=s.x) (g 3)
  obtain⟨A4,c4,e4,k4⟩:=cZ (l:=s.y) (g 4)
  obtain⟨A5,c5,e5,k5⟩:=cZ (l:=s.z) (g 5)
  have hvs:vs=#[.int .i64 s.f,.int .i64 s.t,.int .i64 s.o,.slice A3 s.x.length c3,.slice A4 s.y.length c4,.slice A5 s.z.length c5]:=by
   apply Array.ext
   simpa using hsz
   intro i h1 h2
   have e:vs[i]=vs.getD i undef:=by simp[h1]
   rw[e]
   simp at h2
   match i,h2 with
   |0,_=>exact l0
   |1,_=>exact l1
   |2,_=>exact l2
   |3,_=>exact e3
   |4,_=>exact e4
   |5,_=>exact e5
  subst hvs
  rw[e3] at k3
  rw[e4] at k4
  rw[e5] at k5
  refine(eO s A3 A4 A5 c3 c4 c5 E.w k3 k4 k5 (λk i=>?_)).mono ?_
  match k with
  |0=>exact hs.x i
  |1=>exact hs.y i
  |k+2=>exact hs.z i
  rintro e w' ⟨rfl,hb⟩
  exact⟨_,E.D,rfl,.lit _ _,hb,λ_ h=>h,λ_ h=> .inl h,λb hb'=>Nat.lt_of_lt_of_le (hD b hb') hb.size⟩
end Go.Proofs.YthhkfanbmpcmbaaGreatDoor