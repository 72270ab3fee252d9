/- Part 23 of the proof of PL.card_holds, joined by program: no condition beyond the row's own. -/
import Derived.Test.YtihcpmmopejpoaaGreatDoorPL22
import Derived.RangeFuncNested
set_option maxRecDepth 100000
set_option maxHeartbeats 40000000
namespace Go.Proofs.YtihcpmmopejpoaaGreatDoor
open Go.RowKit
variable {B:Nat} {D0:Ar} {s:St} {Q:Exit->St->Prop}
def Af1 (P:Program) (R:Option Nat) (B:Nat) (D0 D1:Ar) (fn:Func) (s:St) (Q:Exit->St->Prop) (_:Fu):Exit->St->Prop:=Af0 P B D1 fn λ_ h' nx'=>∃st pe sp t' n',Aq h' s.nx=some (.loop st pe sp t' n')/\st≠.busy/\
 match pe with
 |none=>Q .normal ⟨s.t,Gx h' s.nx,nx',s.n⟩
 |some c=>AC P R B D0 c ⟨s.t,Gx h' s.nx,nx',s.n⟩ Q
theorem Ab0 (l0 lid:Nat) (hl0:D0.A lid/\D0.π lid=l0) {st0:LoopState} {pe0:Option Code} {sp0:Fu} {t0:Fw} {n0:Nat} (hlp:Aq s.h lid=some (.loop st0 pe0 sp0 t0 n0)) {g:Operand} {ps:Array Tmp} {assign body:Code} (f:FuncId) {fn:Func} {c:Code} (caps:List AV) (n:Nat) (hg:s.ev g= .fn f caps) (hcall:∀(vs:Array Value) w,(callFunc f vs).run Tryz.prog w= .ok (.enter f vs) w) (hf:Tryz.prog.funcs[f]?=some fn) (hc:fn.body=some c) (hn:fn.ntmps=n) (hle:Nat.ble (caps.length+1) n=true)
  (hbody:∀D1,(∀id,D1.A id->id<s.nx+1)->AC Tryz.prog none B D1 c ⟨De (.yld s.nx::caps) 0,hset s.h s.nx (.loop .ready none ⟨ps,assign,body⟩ s.t s.n),s.nx+1,n⟩ (Af1 Tryz.prog (some l0) B D0 D1 fn s Q ⟨ps,assign,body⟩)):AC Tryz.prog (some l0) B D0 (.rangeFunc g ps assign body) s Q:=by
 refine⟨λE a hs=>wpIn_rangeFunc λfid _=>?_⟩
 let sp:Fu:=⟨ps,assign,body⟩
 obtain⟨m0,fid0,tm0,hL0,_,_⟩:=hs.h.loopAt hlp
 have hπ0:E.π lid=l0:=(hs.h.le0.π lid hl0.1).trans hl0.2
 rw[hπ0] at hL0
 have hnid:¬E.A s.nx:=λh=>Nat.lt_irrefl _ (hs.A s.nx h)
 obtain⟨hle2,hb2,hm2⟩:=hs.h.more hnid 0 (.loop { state:= .ready,pending:=none,fn:=fid,tmps:=a.tmps,params:=ps,assign:=assign,body:=body,defers:=m0 })
 obtain⟨E2,hE2⟩:∃E2,E2=E.more s.nx 0 (.loop { state:= .ready,pending:=none,fn:=fid,tmps:=a.tmps,params:=ps,assign:=assign,body:=body,defers:=m0 }):=⟨_,rfl⟩
 rw[<-hE2] at hle2 hb2 hm2
 have hw2:E2.w=E.w.alloc (.loop { state:= .ready,pending:=none,fn:=fid,tmps:=a.tmps,params:=ps,assign:=assign,body:=body,defers:=m0 }):=by rw[hE2];rfl
 have hπ2:E2.π s.nx=E.w.heap.size:=by
  rw[hE2]
  show (if s.nx=s.nx then E.w.heap.size else _)=_
  rw[if_pos rfl]
 have hle02:E.le E2:=hle2
 have hA2:∀id,E2.A id->id<s.nx+1:=λid hid=>by
  rw[hE2] at hid
  rcases hid with hid|hid
  · have:=hs.A id hid;omega
  · omega
 have hA2n:E2.A s.nx:=by rw[hE2];exact .inr rfl
 have hh2:HR B D0 E2 (Aq (hset s.h s.nx (.loop .ready none sp s.t s.n))):=by
  have:(λid=>Aq (hset s.h s.nx (.loop .ready none sp s.t s.n)) id)=λi=>if s.nx=i then some (.loop .ready none sp s.t s.n) else Aq s.h i:=funext λid=>Ee _ _ _ _
  show HR B D0 E2 (λid=>Aq (hset s.h s.nx (.loop .ready none sp s.t s.n)) id)
  rw[this]
  refine hm2 _ (.loop _ _ _ _ _ _ _ m0 fid a.tmps ?_ hs.size λi=>(hs.t i).up hle02)
  rw[hw2]
  have:=World.alloc_heap_new E.w (.loop { state:= .ready,pending:=none,fn:=fid,tmps:=a.tmps,params:=ps,assign:=assign,body:=body,defers:=m0 })
  exact this
 have hgv:VR E (.fn f caps) (a.eval g):=by rw[<-hg];exact hs.ev g
 obtain⟨vs,hvs1,hvs2,hvs3⟩:∃vs:Array Value,a.eval g= .func (.func f) #[] vs/\vs.size=caps.length/\∀i,i<caps.length->VR E (caps.getD i .top) (vs.getD i undef):=by
  generalize a.eval g=z at hgv
  cases hgv with
  |fn _ _ _ vs hn hr=>exact⟨vs,rfl,hn,hr⟩
 refine⟨E.w.heap.size,[],E2.w,{ target:= .fn (.func f) vs,args:=#[.func (.yield E.w.heap.size) #[] #[]] },E2.w,f,
  #[.func (.yield E.w.heap.size) #[] #[]]++vs,E2.w,?_,?_,λ_ _=>trivial,?_,λhf=>by simp[Qr,Fence.wide] at hf,?_⟩
 · rw[hw2];exact run_enterLoop_inner hL0 _ _ _ _ _
 ·
  simp only[resolve,hvs1]
  simp[go_sem]
 · simp[invoke,go_sem,hcall]
 ·
  have hcalls:=Ry (K:=λ_ h' nx'=>∃st pe sp t' n',Aq h' s.nx=some (.loop st pe sp t' n')/\st≠.busy/\
    match pe with
    |none=>Q .normal ⟨s.t,Gx h' s.nx,nx',s.n⟩
    |some c=>AC Tryz.prog (some l0) B D0 c ⟨s.t,Gx h' s.nx,nx',s.n⟩ Q) hf hc n hn (args:= .yld s.nx::caps) (by simpa using hle) hbody (E:=E2) (vs:=#[.func (.yield E.w.heap.size) #[] #[]]++vs) hh2 hA2 (by simp[hvs2];omega) (λi hi=>by
     cases i with
     |zero=>
      have:=VR.yld E2 s.nx hA2n
      rw[hπ2] at this
      have e2:(#[Value.func (.yield E.w.heap.size) #[] #[]]++vs).getD 0 undef= .func (.yield E.w.heap.size) #[] #[]:=by simp[Array.getD_eq_getD_getElem?,Array.getElem?_append]
      rw[e2]
      exact this
     |succ i=>
      have hi2:i<caps.length:=by simpa using hi
      have h3:=(hvs3 i hi2).up hle02
      have e2:(#[Value.func (.yield E.w.heap.size) #[] #[]]++vs).getD (i+1) undef=vs.getD i undef:=by
       simp[Array.getD_eq_getD_getElem?,Array.getElem?_append]
      rw[e2]
      simpa using h3)
  refine callsIn_wide.2 (hcalls.mono ?_)
  rintro e w' ⟨v,r,h',nx',E',rfl,rfl,hr,⟨st,pe,sp',t',n',hl,hst,hk⟩,k1,k2,k3,k4⟩
  obtain⟨m,fid',tm,hL,hn',hr'⟩:=k2.loopAt hl
  have hπ':E'.π s.nx=E.w.heap.size:=(k1.π s.nx hA2n).trans hπ2
  rw[hπ'] at hL
  refine⟨pe,_,run_endLoop hL hst,?_⟩
  obtain⟨v1,v2,v3⟩:=k2.turnLoop (st':= .exhausted) (pe':=pe) (m:=m) (fid:=fid') hl hn' hr'
  rw[hπ'] at v1 v2 v3
  have hle3:=(hle02.trans k1).trans v1
  have hbl:Below B E.w (E'.w.putObj E.w.heap.size (.loop { state:= .exhausted,pending:=pe,fn:=fid',tmps:=tm,params:=sp'.params,assign:=sp'.assign,body:=sp'.body,defers:=m })):=by
   refine Below.trans ?_ (k4.trans v2)
   rw[hw2]
   exact(Below.refl B E.w).alloc hs.h.B _
  have hsim:Il B D0 { E' with w:=E'.w.putObj E.w.heap.size (.loop { state:= .exhausted,pending:=pe,fn:=fid',tmps:=tm,params:=sp'.params,assign:=sp'.assign,body:=sp'.body,defers:=m }) } ⟨s.t,Gx h' s.nx,nx',s.n⟩ { a with defers:=[]++a.defers }:=by
   refine⟨hs.size,hs.df.up hle3.D hle3.blk,λi=>(hs.t i).up hle3,v3.sub λid b hb=>?_,k3⟩
   ·
    rw[Fy] at hb
    by_cases e:s.nx=id
    · rw[if_pos e] at hb;cases hb
    ·
     rw[if_neg e] at hb ⊢
     exact hb
  cases pe with
  |none=>exact⟨_,_,rfl,hk,hsim,hbl⟩
  |some c'=>
   refine Da ?_ (hk.run _ _ hsim)
   rintro e a3 w3 ⟨s3,E3,rfl,hq3,hs3,hb3⟩
   exact⟨s3,E3,rfl,hq3,hs3,hbl.trans hb3⟩
end Go.Proofs.YtihcpmmopejpoaaGreatDoor
namespace Go.Proofs.YtihcpmmopejpoaaGreatDoor
open Go.RowKit
inductive FR where
 |call (c:Bu) (fn:Func)
 |rng (c:Bu) (fn:Func)
 |asg (c:Bu) (sp:Fu)
 |rnd (c:Bu) (sp:Fu)
 |lnt (t:TypeId) (hs:List (TypeId×List AV))
structure MC where
 c:Bu
 f:List FR
def Bu.lsp (c:Bu):Fu:=⟨c.rp,c.ra,c.rb⟩
def QGR (R:Option Nat) (B:Nat) (D0 D1:Ar) (fn:Func) (Q:Exit->St->Prop) (c0:Bu) (sp:Fu):Exit->St->Prop:=Af1 Tryz.prog R B D0 D1 fn c0.s (λe s=>∃s',Hp B D0 s s'/\KQ Tryz.prog R B D0 Q c0.k e s') sp
def QL (P:Program) (B:Nat) (D0:Ar) (fn:Func) (r:AV) (t:TypeId) (hs:List (TypeId×List AV)):Exit->St->Prop:=λe s=>(e= .ret\/e= .normal)/\∃(V:Value) (us:List Value),r= .tup (.lit V::us.map .lit)/\Oh P B D0 fn s (.lit V)/\Aq s.h 0=some (.box t (us.map .lit))/\∀i,i<hs.length->Aq s.h (i+1)=some (.box (hs.getD i (0,[])).1 (hs.getD i (0,[])).2)
inductive wJ (fn0:Func) (r:AV) (B:Nat):List FR->Option Nat->Ar->(Exit->St->Prop)->Prop
 |top (D0:Ar) (h:∀id,D0.A id->id<0):wJ fn0 r B [] none D0 (QF Tryz.prog B D0 fn0 r)
 |lnt (t:TypeId) (hs:List (TypeId×List AV)) (D0:Ar) (h:∀id,D0.A id->id<hs.length+1):wJ fn0 r B [.lnt t hs] none D0 (QL Tryz.prog B D0 fn0 r t hs)
 |call {fs:List FR} {R:Option Nat} {D:Ar} {Q:Exit->St->Prop} (c:Bu) (fn:Func) (D1:Ar) (hD:∀id,D1.A id->id<c.s.nx) (h:wJ fn0 r B fs R D Q):wJ fn0 r B (.call c fn::fs) none D1 (qV Tryz.prog B D1 fn λv h nx=>Go Tryz.prog R B D Q (c.back v h nx))
 |rng {fs:List FR} {R:Option Nat} {D:Ar} {Q:Exit->St->Prop} (c:Bu) (fn:Func) (D1:Ar) (hD:∀id,D1.A id->id<c.s.nx+1) (h:wJ fn0 r B fs R D Q):wJ fn0 r B (.rng c fn::fs) none D1 (QGR R B D D1 fn Q c c.lsp)
 |asg {fs:List FR} {R:Option Nat} {D:Ar} {Q:Exit->St->Prop} (c:Bu) (sp:Fu) (l0:Nat) (D1:Ar) (hD:∀id,D1.A id->id<c.s.nx) (hl:D1.A c.yl/\D1.π c.yl=l0) (h:wJ fn0 r B fs R D Q):wJ fn0 r B (.asg c sp::fs) (some l0) D1 (QY l0 B D1 sp.body c.yl sp (c.ln c.yl) (QR R B D Q c sp))
 |rnd {fs:List FR} {R:Option Nat} {D:Ar} {Q:Exit->St->Prop} (c:Bu) (sp:Fu) (l0:Nat) (D1:Ar) (hD:∀id,D1.A id->id<c.s.nx) (hl:D1.A c.yl/\D1.π c.yl=l0) (h:wJ fn0 r B fs R D Q):wJ fn0 r B (.rnd c sp::fs) (some l0) D1 (QR R B D Q c sp)
def TE (fn0:Func) (φ:AV->Prop) (m:MC):Prop:=∃r,φ r/\∀B R D Q,wJ fn0 r B m.f R D Q->Go Tryz.prog R B D Q m.c
variable {fn0:Func} {φ:AV->Prop} {c c':Bu} {fs:List FR}
theorem gs (h:∀{R:Option Nat} {B:Nat} {D:Ar} {Q:Exit->St->Prop},Go Tryz.prog R B D Q c'->Go Tryz.prog R B D Q c) (t:TE fn0 φ ⟨c',fs⟩):TE fn0 φ ⟨c,fs⟩:=by
 obtain⟨r,h1,h2⟩:=t
 exact⟨r,h1,λB R D Q hc=>h (h2 B R D Q hc)⟩
theorem Ab (n:Nat) (t:TE fn0 φ ⟨run Tryz.prog n c,fs⟩):TE fn0 φ ⟨c,fs⟩:=gs (λh=>Ae n h) t
theorem cE {f:FuncId} {fn:Func} {x:Code} (hf:Tryz.prog.funcs[f]?=some fn)
  (t:TE fn0 φ ⟨⟨.code x,[],⟨De (c.xs.toList.map c.s.ev) 0,c.s.h,c.s.nx,fn.ntmps⟩⟩,.call c fn::fs⟩)
  (hc:fn.body=some x:=by rfl) (ho:c.o.op= .call { callee:= .value (.func f),args:=c.xs,argTypes:=c.ts }:=by kernel_rfl) (hcall:∀(vs:Array Value) w,(callFunc f vs).run Tryz.prog w= .ok (.enter f vs) w:=by intro _ _;kernel_rfl)
  (hle:Nat.ble (c.xs.toList.map c.s.ev).length fn.ntmps=true:=by kernel_rfl) (hok:c.ok=true:=by kernel_rfl) (hg:c.o.guard=none:=by kernel_rfl):TE fn0 φ ⟨c,fs⟩:=by
 obtain⟨r,h1,h2⟩:=t
 exact⟨r,h1,λB R D Q hx=>Als c.s.nx hf (λD1 hD=>h2 _ _ _ _ (.call c fn D1 hD hx)) hc ho hcall hle hok hg rfl⟩
theorem uK {f:FuncId} {fn:Func} {x:Code} (hf:Tryz.prog.funcs[f]?=some fn)
  (t:TE fn0 φ ⟨⟨.code x,[],⟨De (c.xs.toList.map c.s.ev++c.cps) 0,c.s.h,c.s.nx,fn.ntmps⟩⟩,.call c fn::fs⟩)
  (hc:fn.body=some x:=by rfl) (ho:c.o.op= .call { callee:= .value c.fx,args:=c.xs,argTypes:=c.ts }:=by kernel_rfl) (hx:c.s.ev c.fx= .fn f c.cps:=by kernel_rfl) (hcall:∀(vs:Array Value) w,(callFunc f vs).run Tryz.prog w= .ok (.enter f vs) w:=by intro _ _;kernel_rfl)
  (hle:Nat.ble (c.xs.toList.map c.s.ev++c.cps).length fn.ntmps=true:=by kernel_rfl) (hok:c.ok=true:=by kernel_rfl) (hg:c.o.guard=none:=by kernel_rfl):TE fn0 φ ⟨c,fs⟩:=by
 obtain⟨r,h1,h2⟩:=t
 exact⟨r,h1,λB R D Q hy=>mM c.s.nx hf (λD1 hD=>h2 _ _ _ _ (.call c fn D1 hD hy)) hc ho hx hcall hle hok hg rfl⟩
theorem Iw {c0:Bu} {fn:Func} (t:TE fn0 φ ⟨c0.back (c.rI Tryz.prog fn) c.s.h c.s.nx,fs⟩) (hv:(Tt Tryz.prog fn c.s).isSome=true:=by kernel_rfl) (hn:c.isE=true:=by kernel_rfl):TE fn0 φ ⟨c,.call c0 fn::fs⟩:=by
 obtain⟨r,h1,h2⟩:=t
 refine⟨r,h1,λB R D Q hx=>?_⟩
 cases hx with
 |call _ _ D1 hD h=>exact vrI (h2 _ _ _ _ h) hv hn
def yls:List FR->Option Nat
 | .asg c _::_=>some c.yl
 | .rnd c _::_=>some c.yl
 |_=>none
def yD:Option Bc->Bool|some (.loop ..)=>true|_=>false
def yok (fs:List FR) (h:Dt):Bool:=match yls fs with|none=>true|some l=>yD (Aq h l)
theorem lL:∀{o:Option Bc},yD o=true->∃st pe sp t n,o=some (.loop st pe sp t n)
 |some (.loop st pe sp t n),_=>⟨st,pe,sp,t,n,rfl⟩
 |some (.box ..),h=>by cases h
 |some (.vec ..),h=>by cases h
 |none,h=>by cases h
theorem wJ.round {r:AV} {B:Nat} {R:Option Nat} {D:Ar} {Q:Exit->St->Prop} (h:wJ fn0 r B fs R D Q):(R=none/\yls fs=none)\/∃l0 l,R=some l0/\yls fs=some l/\D.A l/\D.π l=l0:=by
 cases h with
 |top=>exact .inl ⟨rfl,rfl⟩
 |lnt=>exact .inl ⟨rfl,rfl⟩
 |call=>exact .inl ⟨rfl,rfl⟩
 |rng=>exact .inl ⟨rfl,rfl⟩
 |asg c sp l0 D1 hD hl=>exact .inr ⟨l0,_,rfl,rfl,hl.1,hl.2⟩
 |rnd c sp l0 D1 hD hl=>exact .inr ⟨l0,_,rfl,rfl,hl.1,hl.2⟩
theorem trg {f:FuncId} {fn:Func} {x:Code} (hf:Tryz.prog.funcs[f]?=some fn)
  (t:TE fn0 φ ⟨⟨.code x,[],⟨De (.yld c.s.nx::c.rc) 0,hset c.s.h c.s.nx (.loop .ready none c.lsp c.s.t c.s.n),c.s.nx+1,fn.ntmps⟩⟩,.rng c fn::fs⟩)
  (hc:fn.body=some x:=by rfl) (hg:c.s.ev c.rg= .fn f c.rc:=by kernel_rfl) (hcall:∀(vs:Array Value) w,(callFunc f vs).run Tryz.prog w= .ok (.enter f vs) w:=by intro _ _;kernel_rfl) (hle:Nat.ble (c.rc.length+1) fn.ntmps=true:=by kernel_rfl) (hR:c.isR=true:=by kernel_rfl) (hy:yok fs c.s.h=true:=by kernel_rfl):TE fn0 φ ⟨c,fs⟩:=by
 obtain⟨r,h1,h2⟩:=t
 refine⟨r,h1,λB R D Q hx=>?_⟩
 have key:=λD1 (hD:∀id,D1.A id->id<c.s.nx+1)=>h2 B none D1 _ (.rng c fn D1 hD hx)
 obtain⟨m,k,s⟩:=c
 unfold Bu.isR at hR
 split at hR
 rename_i g ps asg bd hm
 cases hm
 rcases hx.round with⟨rfl,_⟩|⟨l0,l,rfl,h3,h4⟩
 exact⟨mP (AeA f _ fn.ntmps hg hcall hf hc rfl hle λsp e1 e2 e3 D1 hD=>by
  obtain⟨a,b,d⟩:=sp
  cases e1;cases e2;cases e3
  exact(key D1 hD).m)⟩
 unfold yok at hy
 dsimp only at h3
 rw[h3] at hy
 obtain⟨st,pe,sp,t,n,hlp⟩:=lL hy
 exact⟨mP (Ab0 l0 l h4 hlp f _ fn.ntmps hg hcall hf hc rfl hle λD1 hD=>(key D1 hD).m)⟩
 cases hR
theorem ApK {R:Option Nat} {B:Nat} {D0:Ar} {Q:Exit->St->Prop} {c0:Bu} {D1:Ar} {fn:Func} {sp:Fu} (h:Go Tryz.prog R B D0 Q (c0.af c)) (hl:Aq c.s.h c0.s.nx=some (.loop (c.lst c0.s.nx) (c.lpe c0.s.nx) sp (c.lt c0.s.nx) (c.ln c0.s.nx)):=by kernel_rfl) (hb:AaX (c.lst c0.s.nx)=true:=by kernel_rfl) (hv:(Tt Tryz.prog fn c.s).isSome=true:=by kernel_rfl) (hn:c.isE=true:=by kernel_rfl):Go Tryz.prog none B D1 (QGR R B D0 D1 fn Q c0 sp) c:=by
 refine vrI (K:=λ_ h' nx'=>∃st pe sp t' n',Aq h' c0.s.nx=some (.loop st pe sp t' n')/\st≠.busy/\match pe with
  |none=>∃s',Hp B D0 ⟨c0.s.t,Gx h' c0.s.nx,nx',c0.s.n⟩ s'/\KQ Tryz.prog R B D0 Q c0.k .normal s'
  |some x=>AC Tryz.prog R B D0 x ⟨c0.s.t,Gx h' c0.s.nx,nx',c0.s.n⟩ (λe s=>∃s',Hp B D0 s s'/\KQ Tryz.prog R B D0 Q c0.k e s')) ⟨_,_,_,_,_,hl,(λe=>by rw[e] at hb;cases hb),?_⟩ hv hn
 unfold Bu.af at h
 generalize c.lpe c0.s.nx=pe at h
 cases pe with
 |none=>exact h.m
 |some x=>exact cM h.m λe s hq=>⟨s,Hp.refl s,hq⟩
theorem tyl {sp:Fu} (t:TE fn0 φ ⟨⟨.code sp.assign,[],⟨jN sp.params.toList (c.xs.toList.map c.s.ev) (c.lt c.yl),c.s.h,c.s.nx,c.ln c.yl⟩⟩,.asg c sp::fs⟩)
  (ho:c.o.op= .call { callee:= .value c.fx,args:=c.xs,argTypes:=c.ts }:=by kernel_rfl) (hx:c.s.ev c.fx= .yld c.yl:=by kernel_rfl) (hl:Aq c.s.h c.yl=some (.loop .ready none sp (c.lt c.yl) (c.ln c.yl)):=by kernel_rfl) (hpb:psB sp.params (c.xs.toList.map c.s.ev).length (c.ln c.yl)=true:=by kernel_rfl) (hok:c.ok=true:=by kernel_rfl):TE fn0 φ ⟨c,fs⟩:=by
 obtain⟨r,h1,h2⟩:=t
 exact⟨r,h1,λB R D Q hy=>vyl c.s.nx rfl rfl rfl (λl0 D1 hD hl0=>h2 _ _ _ _ (.asg c sp l0 D1 hD hl0 hy)) ho hx hl hpb hok rfl⟩
theorem tyb {c0:Bu} {sp:Fu} (t:TE fn0 φ ⟨⟨.code sp.body,[],⟨c.s.t,hset c.s.h c0.yl (.loop .busy none sp (c.lt c0.yl) (c0.ln c0.yl)),c.s.nx,c.s.n⟩⟩,.rnd c0 sp::fs⟩) (hl:Aq c.s.h c0.yl=some (.loop .ready none sp (c.lt c0.yl) (c0.ln c0.yl)):=by kernel_rfl) (hn:c.isN=true:=by kernel_rfl) (hk:c.isNil=true:=by kernel_rfl):TE fn0 φ ⟨c,.asg c0 sp::fs⟩:=by
 obtain⟨r,h1,h2⟩:=t
 refine⟨r,h1,λB R D Q hx=>?_⟩
 cases hx with
 |asg _ _ l0 D1 hD hl0 h=>exact vrb (h2 _ _ _ _ (.rnd c0 sp l0 D hD hl0 h)) hl hn hk
theorem Pg {c0:Bu} {sp:Fu} (t:TE fn0 φ ⟨⟨.ops c0.a c0.l.tail,c0.k,⟨Lr c0.s.t c0.o.dst (.bool (rdB c.e)),hset c.s.h c0.yl (.loop (rdS c.e) (rdC c.e) sp (c.lt c0.yl) (c0.ln c0.yl)),c.s.nx,c0.s.n⟩⟩,fs⟩) (hl:Aq c.s.h c0.yl=some (.loop .busy none sp (c.lt c0.yl) (c0.ln c0.yl)):=by kernel_rfl) (hX:c.isX=true:=by kernel_rfl) (hk:c.isNil=true:=by kernel_rfl):TE fn0 φ ⟨c,.rnd c0 sp::fs⟩:=by
 obtain⟨r,h1,h2⟩:=t
 refine⟨r,h1,λB R D Q hx=>?_⟩
 cases hx with
 |rnd _ _ l0 D1 hD hl0 h=>exact vre (h2 _ _ _ _ h) hl hX hk
def Bu.lin (c:Bu):Bu:=⟨.code c.lb,.il c.lb::c.k,c.s⟩
theorem vlo {P:Program} {R:Option Nat} {B:Nat} {D0:Ar} {Q:Exit->St->Prop} (h:Go P R B D0 Q c.lin) (hl:c.isL=true:=by kernel_rfl):Go P R B D0 Q c:=by
 obtain⟨m,k,s⟩:=c
 unfold Bu.isL at hl
 split at hl
 rename_i b hm
 cases hm
 exact⟨Ae9 (kH h.m)⟩
 cases hl
theorem Nv {r:AV} (h:φ r) (hv:Sv Tryz.prog fn0 c.s=some r:=by kernel_rfl) (hn:c.isE=true:=by kernel_rfl):TE fn0 φ ⟨c,[]⟩:=
 ⟨r,h,λB R D Q hx=>by cases hx with|top D0 h=>exact Cu hv hn⟩
theorem Au {f:FuncId} {fn:Func} {args:List AV} (hf:Tryz.prog.funcs[f]?=some fn) {x:Code} (hc:fn.body=some x:=by rfl) (t:TE fn φ ⟨⟨.code x,[],⟨De args 0,[],0,fn.ntmps⟩⟩,[]⟩) (hle:Nat.ble args.length fn.ntmps=true:=by kernel_rfl):∃r,φ r/\AF Tryz.prog f args r:=by
 obtain⟨r,h1,h2⟩:=t
 exact⟨r,h1,As hf hc (λB D0 hD=>h2 B none D0 _ (.top D0 hD)) hle⟩
end Go.Proofs.YtihcpmmopejpoaaGreatDoor
namespace Go.Proofs.YtihcpmmopejpoaaGreatDoor
open Go.RowKit
variable {fn0:Func} {φ:AV->Prop} {c:Bu} {fs:List FR}
theorem iA (d:Nat) (b v:Bool) (hb:b=v) (t:TE fn0 φ ⟨c.add d v,fs⟩) (hd:Br c.s.t d= .bool b:=by kernel_rfl):TE fn0 φ ⟨c,fs⟩:=gs (λh=>Jk d b v hb h hd) t
theorem tsb (d:Nat) (b:Bool) (h1:b=true->TE fn0 φ ⟨c.add d true,fs⟩) (h2:b=false->TE fn0 φ ⟨c.add d false,fs⟩) (hd:Br c.s.t d= .bool b:=by kernel_rfl):TE fn0 φ ⟨c,fs⟩:=
 Ek b (λh=>iA d b true h (h1 h) hd) (λh=>iA d b false h (h2 h) hd)
theorem Aih (d:Nat) (b:Bool) (h1:b=true->TE fn0 φ ⟨c.add d false,fs⟩) (h2:b=false->TE fn0 φ ⟨c.add d true,fs⟩) (hd:Br c.s.t d= .bool (!b):=by kernel_rfl):TE fn0 φ ⟨c,fs⟩:=
 Ek b (λh=>iA d (!b) false (by rw[h];rfl) (h1 h) hd) (λh=>iA d (!b) true (by rw[h];rfl) (h2 h) hd)
theorem Hf (d:Nat) (p:Prop) [Decidable p] (h1:decide p=true->p->TE fn0 φ ⟨c.add d true,fs⟩) (h2:decide p=false->¬p->TE fn0 φ ⟨c.add d false,fs⟩) (hd:Br c.s.t d= .bool (decide p):=by kernel_rfl):TE fn0 φ ⟨c,fs⟩:=
 tsb d (decide p) (λh=>h1 h (of_decide_eq_true h)) (λh=>h2 h (of_decide_eq_false h)) hd
theorem Aii (d:Nat) (p:Prop) [Decidable p] (h1:decide p=true->p->TE fn0 φ ⟨c.add d false,fs⟩) (h2:decide p=false->¬p->TE fn0 φ ⟨c.add d true,fs⟩) (hd:Br c.s.t d= .bool (!decide p):=by kernel_rfl):TE fn0 φ ⟨c,fs⟩:=
 Aih d (decide p) (λh=>h1 h (of_decide_eq_true h)) (λh=>h2 h (of_decide_eq_false h)) hd
def isB:AV->Bool| .lit (.bool _)=>true|_=>false
theorem Eu (d:Nat) (h1:TE fn0 φ ⟨c.add d true,fs⟩) (h2:TE fn0 φ ⟨c.add d false,fs⟩) (hd:isB (Br c.s.t d)=true:=by kernel_rfl):TE fn0 φ ⟨c,fs⟩:=by
 unfold isB at hd
 split at hd
 rename_i b hx
 cases b with
 |true=>exact iA d true true rfl h1 hx
 |false=>exact iA d false false rfl h2 hx
 cases hd
def Bu.rnd (c:Bu) (s:St):Bu:=⟨.code c.lb,.il c.lb::c.k,s⟩
theorem ApJ {P:Program} {R:Option Nat} {B:Nat} {D0:Ar} {Q:Exit->St->Prop} (keep:List Nat) (h:Go P R B D0 Q (c.rnd (Kb keep c.s))) (hl:c.isL=true):Go P R B D0 Q c:=by
 refine Fq _ (Gs keep c.s) (vlo (c:=⟨c.m,c.k,Kb keep c.s⟩) ?_ ?_)
 exact h
 exact hl
theorem Vj (keep:List Nat) (I:Nat->St->Prop) (m:Nat) (h0:I m (Kb keep c.s)) (h:∀m s,I m s->(∀m' s',m'<m->I m' s'->TE fn0 φ ⟨c.rnd s',fs⟩)->TE fn0 φ ⟨c.rnd s,fs⟩) (hl:c.isL=true:=by kernel_rfl):TE fn0 φ ⟨c,fs⟩:=by
 have key:∀n m s,m<n->I m s->TE fn0 φ ⟨c.rnd s,fs⟩:=λn=>by
  induction n with
  |zero=>intro m s h1;exact absurd h1 (Nat.not_lt_zero _)
  |succ n ih=>intro m s h1 h2;exact h m s h2 λm' s' h3 h4=>ih m' s' ω h4
 exact gs (λh=>ApJ keep h hl) (key (m+1) m _ (Nat.lt_succ_self m) h0)
theorem An0 (keep:List Nat) (n:Nat) (F:Nat->Prop) (st:Nat->St) (h0:F 0) (h:∀i,i<=n->F i->(i<n->F (i+1)->TE fn0 φ ⟨c.rnd (st (i+1)),fs⟩)->TE fn0 φ ⟨c.rnd (st i),fs⟩) (hs:Kb keep c.s=st 0:=by kernel_rfl) (hl:c.isL=true:=by kernel_rfl):TE fn0 φ ⟨c,fs⟩:=
 Vj keep (λm s=>∃i,i<=n/\m=n-i/\F i/\s=st i) n ⟨0,Nat.zero_le _,rfl,h0,hs⟩ (λm s ⟨i,h1,h2,h3,h4⟩ hJ=>by
  subst h4
  exact h i h1 h3 λg1 g2=>hJ (n-(i+1)) _ ω ⟨i+1,g1,rfl,g2,rfl⟩) hl
def Bu.ib (c:Bu):Code:=match c.k with| .il b::_=>b|_=> .skip
def Bu.isNI (c:Bu):Bool:=match c.m,c.k with| .out .normal,.il _::_=>true|_,_=>false
def Bu.nxt (c:Bu) (s:St):Bu:=⟨.code c.ib,c.k,s⟩
theorem AoS {P:Program} {R:Option Nat} {B:Nat} {D0:Ar} {Q:Exit->St->Prop} (s':St) (hw:Hp B D0 c.s s') (h:Go P R B D0 Q (c.nxt s')) (hn:c.isNI=true):Go P R B D0 Q c:=by
 refine Fq s' hw ?_
 obtain⟨m,k,s⟩:=c
 unfold Bu.isNI at hn
 split at hn
 rename_i h1 h2
 dsimp only at h1 h2
 subst h1;subst h2
 exact Aic _ h
 cases hn
theorem mI (keep:List Nat) {m:MC} (t:TE fn0 φ m) (hm:(⟨c.nxt (Kb keep c.s),fs⟩:MC)=m:=by kernel_rfl) (hn:c.isNI=true:=by kernel_rfl):TE fn0 φ ⟨c,fs⟩:=by
 subst hm
 exact gs (λh=>AoS _ (Gs keep c.s) h hn) t
def Bu.nrK (keep:List Nat) (c:Bu):Bu:=⟨c.m,c.k,Kb keep c.s⟩
theorem tsh (n d:Nat) (v:Bool) (keep:List Nat) (h:TE fn0 φ ⟨(run Tryz.prog n (c.add d v)).nrK keep,fs⟩) (k:TE fn0 φ ⟨(run Tryz.prog n (c.add d v)).nrK keep,fs⟩->TE fn0 φ ⟨c,fs⟩):TE fn0 φ ⟨c,fs⟩:=k h
theorem Vk (keep:List Nat) {m:MC} (t:TE fn0 φ m) (hm:(⟨c.nrK keep,fs⟩:MC)=m:=by kernel_rfl):TE fn0 φ ⟨c,fs⟩:=by
 subst hm
 exact gs (λh=>Fq _ (Gs keep c.s) h) t
def Bu.wS (c:Bu) (s:St):Bu:=⟨c.m,c.k,s⟩
theorem tjv {α:Type} (n d:Nat) (v:Bool) (st:α->St) (p:α->Prop) (h:∀x,p x->TE fn0 φ ⟨(run Tryz.prog n (c.add d v)).wS (st x),fs⟩) (k:(∀x,p x->TE fn0 φ ⟨(run Tryz.prog n (c.add d v)).wS (st x),fs⟩)->TE fn0 φ ⟨c,fs⟩):TE fn0 φ ⟨c,fs⟩:=k h
def bnd:List FR->Nat
 |[]=>0
 | .call c _::_=>c.s.nx
 | .rng c _::_=>c.s.nx+1
 | .asg c _::_=>c.s.nx
 | .rnd c _::_=>c.s.nx
 | .lnt _ hs::_=>hs.length+1
theorem wJ.bnd {r:AV} {B:Nat} {R:Option Nat} {D:Ar} {Q:Exit->St->Prop} (h:wJ fn0 r B fs R D Q):∀id,D.A id->id<YtihcpmmopejpoaaGreatDoor.bnd fs:=by
 cases h with
 |top D0 h=>exact λid hi=>h id hi
 |lnt t hs D0 h=>exact h
 |call c fn D1 hD h=>exact hD
 |rng c fn D1 hD h=>exact hD
 |asg c sp l0 D1 hD hl h=>exact hD
 |rnd c sp l0 D1 hD hl h=>exact hD
theorem Ft (keep:List Nat) (ρ:List (Nat×Nat)) (nx:Nat) (L:wU) (hfl:lA L) {m:MC} (t:TE fn0 φ m) (hv:bN c.s.h=L:=by kernel_rfl) (hm:(⟨c.nxt ⟨mapT (Vo ρ) (Kb keep c.s).t,zC ρ c.s.h,nx,c.s.n⟩,fs⟩:MC)=m:=by kernel_rfl) (hd:Ki (ρ.map (·.2))=true:=by kernel_rfl) (hd1:Ki (ρ.map (·.1))=true:=by kernel_rfl) (hl:(ρ.all λp=>(Aq c.s.h p.1).isSome&&Nat.blt p.2 nx)=true:=by kernel_rfl) (hk0:(Nat.ble (bnd fs) nx&&ρ.all λp=>Nat.beq p.1 p.2||Nat.ble (bnd fs) p.2)=true:=by kernel_rfl) (hn:c.isNI=true:=by kernel_rfl):TE fn0 φ ⟨c,fs⟩:=by
 subst hm
 obtain⟨r,h1,h2⟩:=t
 exact⟨r,h1,λB R D Q hx=>AoS _ (Hp.trans (Gs keep c.s) λE a hs'=>dK (s:=Kb keep c.s) ρ nx (bnd fs) hx.bnd _ rfl hd hd1 hl hk0 (Ni hv hfl) E a hs') (h2 B R D Q hx) hn⟩
theorem tfg (keep:List Nat) (ρ:List (Nat×Nat)) (nx:Nat) (L:wU) (hfl:lA L) (t:TE fn0 φ ⟨⟨c.m,c.k,⟨mapT (Vo ρ) (Kb keep c.s).t,zC ρ c.s.h,nx,c.s.n⟩⟩,fs⟩) (hv:bN c.s.h=L:=by kernel_rfl) (hd:Ki (ρ.map (·.2))=true:=by kernel_rfl) (hd1:Ki (ρ.map (·.1))=true:=by kernel_rfl) (hl:(ρ.all λp=>(Aq c.s.h p.1).isSome&&Nat.blt p.2 nx)=true:=by kernel_rfl) (hk0:(Nat.ble (bnd fs) nx&&ρ.all λp=>Nat.beq p.1 p.2||Nat.ble (bnd fs) p.2)=true:=by kernel_rfl):TE fn0 φ ⟨c,fs⟩:=by
 obtain⟨r,h1,h2⟩:=t
 exact⟨r,h1,λB R D Q hx=>Fq _ (Hp.trans (Gs keep c.s) λE a hs'=>dK (s:=Kb keep c.s) ρ nx (bnd fs) hx.bnd _ rfl hd hd1 hl hk0 (Ni hv hfl) E a hs') (h2 B R D Q hx)⟩
theorem uL {f:FuncId} {fn:Func} {x:Code} (hf:Tryz.prog.funcs[f]?=some fn)
 (t:∀sp:Fu,sp.params=c.rp->sp.assign=c.ra->sp.body=c.rb->TE fn0 φ ⟨⟨.code x,[],⟨De (.yld c.s.nx::c.rc) 0,hset c.s.h c.s.nx (.loop .ready none sp c.s.t c.s.n),c.s.nx+1,fn.ntmps⟩⟩,.rng c fn::fs⟩)
 (hc:fn.body=some x:=by rfl) (hg:c.s.ev c.rg= .fn f c.rc:=by kernel_rfl) (hcall:∀(vs:Array Value) w,(callFunc f vs).run Tryz.prog w= .ok (.enter f vs) w:=by intro _ _;kernel_rfl) (hle:Nat.ble (c.rc.length+1) fn.ntmps=true:=by kernel_rfl) (hR:c.isR=true:=by kernel_rfl) (hy:yok fs c.s.h=true:=by kernel_rfl):TE fn0 φ ⟨c,fs⟩:=trg hf (t _ rfl rfl rfl) hc hg hcall hle hR hy
theorem iH {sp:Fu} {ps:Array Tmp} {asg:Code} (hps:sp.params=ps) (has:sp.assign=asg) (t:TE fn0 φ ⟨⟨.code asg,[],⟨jN ps.toList (c.xs.toList.map c.s.ev) (c.lt c.yl),c.s.h,c.s.nx,c.ln c.yl⟩⟩,.asg c sp::fs⟩)
  (ho:c.o.op= .call { callee:= .value c.fx,args:=c.xs,argTypes:=c.ts }:=by kernel_rfl) (hx:c.s.ev c.fx= .yld c.yl:=by kernel_rfl) (hl:Aq c.s.h c.yl=some (.loop .ready none sp (c.lt c.yl) (c.ln c.yl)):=by kernel_rfl) (hpb:psB ps (c.xs.toList.map c.s.ev).length (c.ln c.yl)=true:=by kernel_rfl) (hok:c.ok=true:=by kernel_rfl):TE fn0 φ ⟨c,fs⟩:=by
 subst hps;subst has
 exact tyl t ho hx hl hpb hok
theorem iG {c0:Bu} {sp:Fu} {bd:Code} (hbd:sp.body=bd) (t:TE fn0 φ ⟨⟨.code bd,[],⟨c.s.t,hset c.s.h c0.yl (.loop .busy none sp (c.lt c0.yl) (c0.ln c0.yl)),c.s.nx,c.s.n⟩⟩,.rnd c0 sp::fs⟩) (hl:Aq c.s.h c0.yl=some (.loop .ready none sp (c.lt c0.yl) (c0.ln c0.yl)):=by kernel_rfl) (hn:c.isN=true:=by kernel_rfl) (hk:c.isNil=true:=by kernel_rfl):TE fn0 φ ⟨c,.asg c0 sp::fs⟩:=by
 subst hbd
 exact tyb t hl hn hk
theorem aN {c0:Bu} {fn:Func} (t:TE fn0 φ ⟨c0.af c,fs⟩) (hl:yD (Aq c.s.h c0.s.nx)=true:=by kernel_rfl) (hb:AaX (c.lst c0.s.nx)=true:=by kernel_rfl) (hv:(Tt Tryz.prog fn c.s).isSome=true:=by kernel_rfl) (hn:c.isE=true:=by kernel_rfl):TE fn0 φ ⟨c,.rng c0 fn::fs⟩:=by
 obtain⟨r,h1,h2⟩:=t
 refine⟨r,h1,λB R D Q hx=>?_⟩
 obtain⟨st,pe,sp,t,n,hlp⟩:=lL hl
 have hlp:Aq c.s.h c0.s.nx=some (.loop (c.lst c0.s.nx) (c.lpe c0.s.nx) sp (c.lt c0.s.nx) (c.ln c0.s.nx)):=by
  unfold Bu.lst Bu.lpe Bu.lt Bu.ln
  rw[hlp]
 cases hx with
 |rng _ _ D1 hD h=>exact ApK (sp:=sp) (h2 _ _ _ _ h) hlp hb hv hn
abbrev Ai (n:Int):Int:=IntKind.wrap .i64 n
theorem tN {P:Program} {B:Nat} {D0:Ar} {o:Oper} {ev:Operand->AV} {pre:Nat->Option Bc} (T T':TypeId) (x y:Operand) (ho:o.op= .binOp .rem T x y T') (a b r:Int) (hx:ev x= .int a) (hy:ev y= .int b) (hb:b≠0) (hr:a.tmod b=r):Du P B D0 o ev pre (.int r) .none:=by
 refine Bl (.inl rfl) λE a' c _ _ hv=>⟨.int .i64 r,?_,.lit _ _⟩
 have h1:=hv x (by simp[ho,Op.operands])
 have h2:=hv y (by simp[ho,Op.operands])
 rw[hx] at h1
 rw[hy] at h2
 simp only[execOp,ho]
 rw[h1.lit_inv,h2.lit_inv]
 simp[eqGuard,binOp,Op.intDiv,hb,hr]
theorem Ah2 {P:Program} {B:Nat} {D0:Ar} {o:Oper} {ev:Operand->AV} {pre:Nat->Option Bc} (T T':TypeId) (x y:Operand) (ho:o.op= .binOp .quo T x y T') (a b:Int) (hx:ev x= .int a) (hy:ev y= .int b) (hb:b≠0):Du P B D0 o ev pre (.int (Ai (a.tdiv b))) .none:=by
 refine Bl (.inl rfl) λE a' c _ _ hv=>⟨.int .i64 (Ai (a.tdiv b)),?_,.lit _ _⟩
 have h1:=hv x (by simp[ho,Op.operands])
 have h2:=hv y (by simp[ho,Op.operands])
 rw[hx] at h1
 rw[hy] at h2
 simp only[execOp,ho]
 rw[h1.lit_inv,h2.lit_inv]
 simp[eqGuard,binOp,Op.intDiv,hb]
def _root_.Go.Oper.bX (o:Oper):Operand:=match o.op with| .binOp _ _ x _ _=>x|_=>default
def _root_.Go.Oper.bY (o:Oper):Operand:=match o.op with| .binOp _ _ _ y _=>y|_=>default
def _root_.Go.Oper.bT (o:Oper):TypeId:=match o.op with| .binOp _ t _ _ _=>t|_=>0
def _root_.Go.Oper.bU (o:Oper):TypeId:=match o.op with| .binOp _ _ _ _ t=>t|_=>0
theorem AoU {P:Program} {R:Option Nat} {B:Nat} {D0:Ar} {Q:Exit->St->Prop} (a b r:Int) (hb:b≠0) (hr:a.tmod b=r) (hk:Go P R B D0 Q (c.put (.int r) .none)) (ho:c.o.op= .binOp .rem c.o.bT c.o.bX c.o.bY c.o.bU:=by kernel_rfl) (hx:c.s.ev c.o.bX= .int a:=by kernel_rfl) (hy:c.s.ev c.o.bY= .int b:=by kernel_rfl) (hok:c.ok=true:=by kernel_rfl):Go P R B D0 Q c:=
 Oq _ .none (tN _ _ _ _ ho a b r hx hy hb hr) hk hok rfl
theorem AoR {P:Program} {R:Option Nat} {B:Nat} {D0:Ar} {Q:Exit->St->Prop} (a b:Int) (hb:b≠0) (hk:Go P R B D0 Q (c.put (.int (Ai (a.tdiv b))) .none)) (ho:c.o.op= .binOp .quo c.o.bT c.o.bX c.o.bY c.o.bU:=by kernel_rfl) (hx:c.s.ev c.o.bX= .int a:=by kernel_rfl) (hy:c.s.ev c.o.bY= .int b:=by kernel_rfl) (hok:c.ok=true:=by kernel_rfl):Go P R B D0 Q c:=
 Oq _ .none (Ah2 _ _ _ _ ho a b hx hy hb) hk hok rfl
theorem tW {P:Program} {B:Nat} {D0:Ar} {o:Oper} {ev:Operand->AV} {pre:Nat->Option Bc} (a b r:Int) (hb:b≠0) (hr:a.tmod b=r) (ho:o.op= .binOp .rem o.bT o.bX o.bY o.bU:=by kernel_rfl) (hx:ev o.bX= .int a:=by kernel_rfl) (hy:ev o.bY= .int b:=by kernel_rfl):Du P B D0 o ev pre (.int r) .none:=tN _ _ _ _ ho a b r hx hy hb hr
theorem kbE {P:Program} {B:Nat} {D0:Ar} {o:Oper} {ev:Operand->AV} {pre:Nat->Option Bc} {b v:Bool} {f:Bj} (hb:b=v) (h:evG P o ev pre 0=some (.bool b,f):=by kernel_rfl):Du P B D0 o ev pre (.bool v) f:=hb▸Wk h
theorem Adu {P:Program} {B:Nat} {D0:Ar} {o:Oper} {ev:Operand->AV} {pre:Nat->Option Bc} (x:Operand) (f:FuncId) (b:Value) (xs:Array Operand) (ts:Array TypeId) (ho:o.op= .call { callee:= .value x,args:=xs,argTypes:=ts }) (hx:ev x= .lit (.func (.func f) #[b] #[])) (hcall:∀(vs:Array Value) w,(callFunc f vs).run P w= .ok (.enter f vs) w) (args:List AV) (hargs: .lit b::xs.toList.map ev=args) (hfree:args.all AV.free=true) (r:AV) (hf:AF P f args r):Du P B D0 o ev pre r .none:=by
 subst hargs
 refine aB hf hcall λE a hv=>?_
 have h:=hv x (by simp[ho,Op.operands,Call.operands])
 rw[hx] at h
 have hz:=h.lit_inv
 refine⟨#[b]++xs.map a.eval,λw=>by simp[execOp,ho,resolve,Deferred.ofValue,hz,invoke],by simp;omega,λi hi=>?_⟩
 cases i with
 |zero=>
  have e2:(#[b]++xs.map a.eval).getD 0 undef=b:=by simp[Array.getD_eq_getD_getElem?,Array.getElem?_append]
  rw[e2]
  exact .lit _ _
 |succ i=>
  have hi1:i<xs.size:=by simpa using hi
  have e1:(AV.lit b::xs.toList.map ev).getD (i+1) .top=ev xs[i]:=by simp[hi1]
  have e2:(#[b]++xs.map a.eval).getD (i+1) undef=a.eval xs[i]:=by simp[Array.getD_eq_getD_getElem?,Array.getElem?_append,hi1]
  rw[e1,e2]
  refine(hv _ (by simp[ho,Op.operands,Call.operands])).free ?_
  exact List.all_eq_true.1 hfree (ev xs[i]) (List.mem_cons_of_mem _ (List.mem_map.2 ⟨xs[i],by simp,rfl⟩))
theorem vcm {P:Program} {R:Option Nat} {B:Nat} {D0:Ar} {Q:Exit->St->Prop} {f:FuncId} {b:Value} {args:List AV} {r:AV} (hf:AF P f args r) (hk:Go P R B D0 Q (c.put r .none)) (ho:c.o.op= .call { callee:= .value c.fx,args:=c.xs,argTypes:=c.ts }:=by kernel_rfl) (hargs: .lit b::c.xs.toList.map c.s.ev=args:=by kernel_rfl) (hx:c.s.ev c.fx= .lit (.func (.func f) #[b] #[]):=by kernel_rfl) (hfree:args.all AV.free=true:=by kernel_rfl) (hok:c.ok=true:=by kernel_rfl) (hcall:∀(vs:Array Value) w,(callFunc f vs).run P w= .ok (.enter f vs) w:=by intro _ _;kernel_rfl):Go P R B D0 Q c:=
 Oq r .none (Adu c.fx f b c.xs c.ts ho hx hcall args hargs hfree r hf) hk hok rfl
inductive SK where|b|i|s
inductive SC where|one (k:SK)|agg (l:List SK)
def shK:SK->Value->Bool
 | .b,.bool _=>true
 | .i,.int .i64 _=>true
 | .s,.string _=>true
 |_,_=>false
def shL:List SK->List Value->Bool
 |[],[]=>true
 |k::l,v::vs=>shK k v&&shL l vs
 |_,_=>false
def shC:SC->Value->Bool
 | .one k,v=>shK k v
 | .agg l,.agg a=>shL l a.toList
 |_,_=>false
def Anv:List SC->List Value->Bool
 |[],[]=>true
 |k::l,v::vs=>shC k v&&Anv l vs
 |_,_=>false
def shV:List SC->Value->Bool
 |[c],v=>shC c v
 |l,.tuple a=>Anv l a.toList
 |_,_=>false
def shA (σ:List SC):AV->Bool
 | .lit v=>shV σ v
 |_=>false
def Fx (σ:List SC) (r:AV):Prop:=shA σ r=true
def gB:Value->Bool| .bool b=>b|_=>false
def gI:Value->Int| .int _ n=>n|_=>0
def gS:Value->ByteArray| .string s=>s|_=>ByteArray.empty
def gT:Value->Nat->Value
 | .tuple a,i=>a.toList.getD i undef
 | .agg a,i=>a.toList.getD i undef
 |_,_=>undef
def noK:SK->Value->Value
 | .b,v=> .bool (gB v)
 | .i,v=> .int .i64 (gI v)
 | .s,v=> .string (gS v)
theorem Ahu:∀(k:SK) (v:Value),shK k v=true->noK k v=v
 | .b,.bool _,_=>rfl
 | .i,.int .i64 _,_=>rfl
 | .s,.string _,_=>rfl
def noL:List SK->Value->Nat->List Value
 |[],_,_=>[]
 |k::l,v,i=>noK k (gT v i)::noL l v (i+1)
def noC:SC->Value->Value
 | .one k,v=>noK k v
 | .agg l,v=> .agg (noL l v 0).toArray
def Adp:List SC->Value->Nat->List Value
 |[],_,_=>[]
 |k::l,v,i=>noC k (gT v i)::Adp l v (i+1)
def Hh:List SC->Value->Value
 |[c],v=>noC c v
 |l,v=> .tuple (Adp l v 0).toArray
theorem Ahv {v:Value} {a:List Value} (hv:∀i,gT v i=a.getD i undef):∀(l:List SK) (i:Nat),shL l (a.drop i)=true->noL l v i=a.drop i
 |[],i,h=>by
  cases hd:a.drop i with
  |nil=>rfl
  |cons x y=>rw[hd] at h;cases h
 |k::l,i,h=>by
  cases hd:a.drop i with
  |nil=>rw[hd] at h;cases h
  |cons x y=>
   rw[hd] at h
   obtain⟨h1,h2⟩:=Bool.and_eq_true_iff.1 h
   have hy:y=a.drop (i+1):=by rw[<-List.drop_drop,hd];rfl
   have hx:gT v i=x:=by
    rw[hv i]
    have:(a.drop i)[0]?=some x:=by rw[hd];rfl
    rw[List.getElem?_drop] at this
    simp only[Nat.add_zero] at this
    simp[this]
   unfold noL
   rw[hx,Ahu k x h1,Ahv hv l (i+1) (by rw[<-hy];exact h2),<-hy]
theorem Aht:∀(c:SC) (v:Value),shC c v=true->noC c v=v
 | .one k,v,h=>Ahu k v h
 | .agg l,.agg a,h=>by
  have:=Ahv (v:= .agg a) (a:=a.toList) (λ_=>rfl) l 0 (by simpa [shC] using h)
  show Value.agg (noL l (.agg a) 0).toArray=_
  rw[this];simp
theorem oQ {v:Value} {a:List Value} (hv:∀i,gT v i=a.getD i undef):∀(l:List SC) (i:Nat),Anv l (a.drop i)=true->Adp l v i=a.drop i
 |[],i,h=>by
  cases hd:a.drop i with
  |nil=>rfl
  |cons x y=>rw[hd] at h;cases h
 |k::l,i,h=>by
  cases hd:a.drop i with
  |nil=>rw[hd] at h;cases h
  |cons x y=>
   rw[hd] at h
   obtain⟨h1,h2⟩:=Bool.and_eq_true_iff.1 h
   have hy:y=a.drop (i+1):=by rw[<-List.drop_drop,hd];rfl
   have hx:gT v i=x:=by
    rw[hv i]
    have:(a.drop i)[0]?=some x:=by rw[hd];rfl
    rw[List.getElem?_drop] at this
    simp only[Nat.add_zero] at this
    simp[this]
   unfold Adp
   rw[hx,Aht k x h1,oQ hv l (i+1) (by rw[<-hy];exact h2),<-hy]
theorem yQ:∀(l:List SC) (v:Value),shV l v=true->Hh l v=v
 |[c],v,h=>Aht c v h
 |[],.tuple a,h=>by
  have:=oQ (v:= .tuple a) (a:=a.toList) (λ_=>rfl) [] 0 (by simpa [shV] using h)
  show Value.tuple (Adp [] (.tuple a) 0).toArray=_
  rw[this];simp
 |c1::c2::l,.tuple a,h=>by
  have:=oQ (v:= .tuple a) (a:=a.toList) (λ_=>rfl) (c1::c2::l) 0 (by simpa [shV] using h)
  show Value.tuple (Adp (c1::c2::l) (.tuple a) 0).toArray=_
  rw[this];simp
noncomputable def Kl (f:FuncId) (σ:List SC) (args:List AV):Value:=Classical.epsilon λv=>shV σ v=true/\AF Tryz.prog f args (.lit v)
noncomputable def cho (f:FuncId) (σ:List SC) (args:List AV):Value:=Hh σ (Kl f σ args)
theorem Bi {f:FuncId} {σ:List SC} {args:List AV} (h:∃r,Fx σ r/\AF Tryz.prog f args r):AF Tryz.prog f args (.lit (cho f σ args)):=by
 obtain⟨r,h1,h2⟩:=h
 have key:∃v,shV σ v=true/\AF Tryz.prog f args (.lit v):=by
  cases r with
  |lit v=>exact⟨v,h1,h2⟩
  |_=>cases h1
 obtain⟨h3,h4⟩:=Classical.epsilon_spec key
 unfold cho Kl
 rw[yQ σ _ h3]
 exact h4
theorem Dx {G:Prop} {f:FuncId} {σ:List SC} {args:List AV} {v0:Value} (h:AF Tryz.prog f args (.lit (Hh σ v0))) (k:∀v,AF Tryz.prog f args (.lit (Hh σ v))->G):G:=k _ h
theorem Bb {σ:List SC} (h:shA σ ((Sv Tryz.prog fn0 c.s).getD .top)=true:=by kernel_rfl) (hv:(Sv Tryz.prog fn0 c.s).isSome=true:=by kernel_rfl) (hn:c.isE=true:=by kernel_rfl):TE fn0 (Fx σ) ⟨c,[]⟩:=by
 cases he:Sv Tryz.prog fn0 c.s with
 |none=>rw[he] at hv;cases hv
 |some V=>rw[he] at h;exact Nv h he hn
noncomputable def chP (f:FuncId) (σ:List SC) (args:List AV) (ψ:AV->Prop):Value:=Classical.epsilon λv=>(shV σ v=true/\ψ (.lit v))/\AF Tryz.prog f args (.lit v)
theorem Ok {f:FuncId} {σ:List SC} {args:List AV} {ψ:AV->Prop} (h:∃r,(Fx σ r/\ψ r)/\AF Tryz.prog f args r):AF Tryz.prog f args (.lit (Hh σ (chP f σ args ψ)))/\ψ (.lit (Hh σ (chP f σ args ψ))):=by
 obtain⟨r,⟨h1,h3⟩,h2⟩:=h
 have key:∃v,(shV σ v=true/\ψ (.lit v))/\AF Tryz.prog f args (.lit v):=by
  cases r with
  |lit v=>exact⟨v,⟨h1,h3⟩,h2⟩
  |_=>cases h1
 obtain⟨⟨h3,h5⟩,h4⟩:=Classical.epsilon_spec key
 unfold chP
 rw[yQ σ _ h3]
 exact⟨h4,h5⟩
theorem Ey {σ:List SC} {ψ:AV->Prop} (V:AV) (h:ψ V) (hs:shA σ V=true:=by kernel_rfl) (hv:Sv Tryz.prog fn0 c.s=some V:=by kernel_rfl) (hn:c.isE=true:=by kernel_rfl):TE fn0 (λr=>Fx σ r/\ψ r) ⟨c,[]⟩:=Nv ⟨hs,h⟩ hv hn
end Go.Proofs.YtihcpmmopejpoaaGreatDoor
namespace Go.Proofs.YtihcpmmopejpoaaGreatDoor
open Go.Proofs.Tryz
open Go.RowKit
abbrev Dv (n:Nat):AV:= .slc 1 (Al n).length λi=> .lit (.int .u64 (dg (Al n) i:Int))
abbrev Dg (b:Bool) (n:Nat):AV:= .agg [.bool b,Dv n]
theorem Aei (l:List Nat) {i:Nat} (h:i<l.length):(Hq l).getD i undef= .int .u64 (dg l i:Int):=by
 rw[Γ,Dj l i h];rfl
theorem Oz {E':Ar} {w':World} {lo hi n:Nat} {v:Value} (h:Bo w' lo hi v n) (hw:E'.w=w') (hD:∀b,lo<=b->b<hi->E'.D b):VR E' (Dv n) v:=by
 have h1:=h.2
 obtain⟨A,c,rfl⟩:=h.1.slice
 refine .slc _ _ _ _ _ _ h1 (Mj h.1 hw (λb hb=>hD b hb.1 hb.2) λi j hi hj=>?_)
 obtain rfl:j=0:=by omega
 rw[Nat.mul_one,Nat.add_zero,Aei _ hi]
 exact .lit _ _
theorem pQ {E:Ar} {e n:Nat} {f:Nat->AV} {v:Value} (h:VR E (.slc e n f) v):∃a c,v= .slice a n c/\n<=c/\VR E (.sl e n f) v:=by
 cases h with
 |slc _ _ _ _ a c hnc h=>exact⟨a,c,rfl,hnc,h⟩
theorem zQ {E:Ar} {e n:Nat} {f:Nat->AV} {v:Value} (h:VR E (.sl e n f) v):(n=0/\∃a c,v= .slice a 0 c)\/∃b q c,∃us:Nat->Nat->Value,v= .slice (some ⟨b,q,none⟩) n c/\E.D b/\(∀i j,i<n->j<e->E.w.cell? ⟨b,q+i*e+j,none⟩=some (us i j))/\∀i j,i<n->j<e->VR E.fz ((f i).cell j) (us i j):=by
 cases h with
 |sl0 _ _ _ a c=>exact .inl ⟨rfl,a,c,rfl⟩
 |sl _ _ _ _ b q c us hn hD hc hr=>exact .inr ⟨b,q,c,us,rfl,hD,hc,hr⟩
theorem Nq {E:Ar} {n:Nat} {v:Value} (hb:∀b,E.D b->b<E.w.heap.size) (h:VR E.fz (Dv n) v):∃lo hi,Bo E.w lo hi v n/\hi<=E.w.heap.size/\∀b,lo<=b->b<hi->E.D b:=by
 obtain⟨a,c,rfl,hnc,h⟩:=pQ h
 rcases zQ h with⟨h0,a',c',e⟩|⟨b,q,c',us,e,hD,hc,hr⟩
 exact⟨0,0,⟨⟨by rw[Cq,Nat.mul_one],.inl ⟨a,c,by rw[h0],h0⟩⟩,hnc⟩,Nat.zero_le _,λb _ h=>absurd h (Nat.not_lt_zero b)⟩
 cases e
 refine⟨b,b+1,⟨⟨by rw[Cq,Nat.mul_one],.inr ⟨b,q,c,rfl,⟨Nat.le_refl _,Nat.lt_succ_self _⟩,λj u hu=>?_⟩⟩,hnc⟩,hb b hD,λb' h1 h2=>?_⟩
 have hj:j<(Al n).length:=by rw[<-Cq];exact(List.getElem?_eq_some_iff.1 hu).1
 have h1:=hc j 0 hj ω
 have h2:=hr j 0 hj ω
 rw[Nat.mul_one,Nat.add_zero] at h1
 have h3:us j 0= .int .u64 (dg (Al n) j:Int):=VR.lit_inv h2
 rw[h3] at h1
 rw[Dj _ _ hj] at hu
 cases hu
 exact h1
 obtain rfl:b'=b:=by omega
 exact hD
theorem wG {f:FuncId} {args args':List AV} {r r':AV} (h:AF Tryz.prog f args r) (hl:args'.length=args.length) (ha:∀i,i<args.length->∀E v,VR E (args'.getD i .top) v->VR E (args.getD i .top) v) (hr:∀E v,VR E r v->VR E r' v):AF Tryz.prog f args' r':=λE vs hD hn hv=>by
 refine Calls.mono (h E vs hD ω λi hi=>ha i hi _ _ (hv i ω)) ?_
 rintro e w' ⟨v,D',h1,h2,h3⟩
 exact⟨v,D',h1,hr _ _ h2,h3⟩
theorem AlY {vs:Array Value} (h:vs.size=1):vs=#[vs.getD 0 undef]:=by
 obtain⟨l⟩:=vs
 match l,h with
 |[a],_=>rfl
theorem arr2 {vs:Array Value} (h:vs.size=2):vs=#[vs.getD 0 undef,vs.getD 1 undef]:=by
 obtain⟨l⟩:=vs
 match l,h with
 |[a,b],_=>rfl
theorem Ew (n m:Nat):(Al (n*m)).length<=(Al n).length+(Al m).length:=Df (by rw[Nat.pow_add];exact Nat.mul_lt_mul'' Ua Ua)
theorem AaK (n m:Nat):(Al (n+m)).length<=(Al n).length+(Al m).length+1:=by
 refine Df ?_
 have h1:=@Ua n
 have h2:=@Ua m
 have h3:Bw^(Al n).length<=Bw^((Al n).length+(Al m).length):=Nat.pow_le_pow_right (by rw[Po];decide) ω
 have h4:Bw^(Al m).length<=Bw^((Al n).length+(Al m).length):=Nat.pow_le_pow_right (by rw[Po];decide) ω
 rw[Nat.pow_succ]
 have h5:2<=Bw:=by rw[Po];decide
 have h6:=Nat.mul_le_mul_left (Bw^((Al n).length+(Al m).length)) h5
 omega
theorem oM (n m:Nat):(Al (n-m)).length<=(Al n).length:=Gf (Nat.sub_le _ _)
theorem dB (n m:Nat):(Al (n/m)).length<=(Al n).length:=Gf (Nat.div_le_self _ _)
theorem oK {n m:Nat} (h:0<m):(Al (Nat.gcd n m)).length<=(Al m).length:=Gf (Nat.gcd_le_right n h)
theorem oL (n s:Nat):(Al (n*2^s)).length<=(Al n).length+(s/64+1):=by
 refine Nat.le_trans (Ew _ _) (Nat.add_le_add_left (Df ?_) _)
 rw[Po,show (18446744073709551616:Nat)=2^64 by decide,<-Nat.pow_mul]
 exact Nat.pow_lt_pow_right δ ω
theorem Aal (n m:Nat) (hn:(Al n).length<=900000) (hm:(Al m).length<=900000):AF Tryz.prog 213 [Dv n,Dv m] (Dv (n+m)):=Tc λE vs hD hsz hv=>by
 obtain⟨l0,u0,h0,g0,d0⟩:=Nq hD (hv 0 (by simp))
 obtain⟨l1,u1,h1,g1,d1⟩:=Nq hD (hv 1 (by simp))
 rw[arr2 hsz]
 refine(Ajw n m _ _ l0 u0 l1 u1 E.w h0 h1 g0 g1 ω ω).mono ?_
 rintro e w' ⟨v',rfl,h2,hb⟩
 exact⟨v',rfl,hb,λE' hw h3 h4=>Oz h2 hw λb p q=>h4 b p q⟩
theorem mV (n m:Nat) (hn:(Al n).length<=900000) (_:(Al m).length<=900000) (hle:m<=n):AF Tryz.prog 215 [Dv n,Dv m] (Dv (n-m)):=Tc λE vs hD hsz hv=>by
 obtain⟨l0,u0,h0,g0,d0⟩:=Nq hD (hv 0 (by simp))
 obtain⟨l1,u1,h1,g1,d1⟩:=Nq hD (hv 1 (by simp))
 rw[arr2 hsz]
 refine(Zb n m _ _ l0 u0 l1 u1 E.w h0 h1 g0 g1 ω hle).mono ?_
 rintro e w' ⟨v',rfl,h2,hb⟩
 exact⟨v',rfl,hb,λE' hw h3 h4=>Oz h2 hw λb p q=>h4 b p q⟩
theorem Aje (n m:Nat) (hn:(Al n).length<=400000) (hm:(Al m).length<=400000):AF Tryz.prog 233 [Dv n,Dv m] (Dv (n*m)):=Tc λE vs hD hsz hv=>by
 obtain⟨l0,u0,h0,g0,d0⟩:=Nq hD (hv 0 (by simp))
 obtain⟨l1,u1,h1,g1,d1⟩:=Nq hD (hv 1 (by simp))
 rw[arr2 hsz]
 refine(oO n m _ _ l0 u0 l1 u1 E.w h0 h1 g0 g1 ω ω).mono ?_
 rintro e w' ⟨v',rfl,h2,hb⟩
 exact⟨v',rfl,hb,λE' hw h3 h4=>Oz h2 hw λb p q=>h4 b p q⟩
theorem Ajj (n s:Nat) (hn:(Al n).length<=400000) (hs:s<=6400000):AF Tryz.prog 185 [Dv n,.int (s:Int)] (Dv (n*2^s)):=Tc λE vs hD hsz hv=>by
 obtain⟨l0,u0,h0,g0,d0⟩:=Nq hD (hv 0 (by simp))
 have e1:vs.getD 1 undef= .int .i64 (s:Int):=VR.lit_inv (hv 1 (by simp))
 rw[arr2 hsz,e1]
 refine(pO n s _ l0 u0 E.w h0 g0 hn hs).mono ?_
 rintro e w' ⟨v',rfl,h2,hb⟩
 exact⟨v',rfl,hb,λE' hw h3 h4=>Oz h2 hw λb p q=>h4 b p q⟩
theorem Na (n:Nat) (hn:(Al n).length<=1000000):AF Tryz.prog 162 [Dv n] (.int (bitLen n:Int)):=Tc λE vs hD hsz hv=>by
 obtain⟨l0,u0,h0,g0,d0⟩:=Nq hD (hv 0 (by simp))
 rw[AlY hsz]
 refine(uG n _ l0 u0 E.w h0 hn).mono ?_
 rintro e w' ⟨rfl,rfl⟩
 exact⟨_,rfl,Below.refl _ _,λE' hw h3 h4=> .lit _ _⟩
theorem Kk (n:Nat) (hn:(be n).length<=400000):AF Tryz.prog 163 [Dv n] (.lit (.string (Cj n))):=Tc λE vs hD hsz hv=>by
 obtain⟨l0,u0,h0,g0,d0⟩:=Nq hD (hv 0 (by simp))
 rw[AlY hsz]
 refine(AdY n _ _ l0 u0 E.w h0 g0 rfl hn).mono ?_
 rintro e w' ⟨rfl,hb⟩
 exact⟨_,rfl,hb,λE' hw h3 h4=> .lit _ _⟩
theorem Xe (n:Nat) (hn:(be n).length<=400000):AF Tryz.prog 170 [.lit (.string (Cj n))] (Dv n):=Ajd (vs:=[_]) λw=>by
 refine(Ahg n _ w rfl hn).mono ?_
 rintro e w' ⟨v',rfl,h2,hb⟩
 exact⟨v',rfl,hb,λE' hw h4=>Oz h2 hw λb p q=>h4 b p q⟩
theorem cQ (n m:Nat) (hn:(Al n).length<=100000) (hm:(Al m).length<=100000) (h0:0<m):AF Tryz.prog 216 [Dv n,Dv m] (.tup [Dv (n/m),Dv (n%m)]):=Tc λE vs hD hsz hv=>by
 obtain⟨l0,u0,k0,g0,d0⟩:=Nq hD (hv 0 (by simp))
 obtain⟨l1,u1,k1,g1,d1⟩:=Nq hD (hv 1 (by simp))
 have hv0:=hv 0 (by simp)
 rw[arr2 hsz]
 refine(Ams n m _ _ l0 u0 l1 u1 E.w k0 k1 g0 g1 hn hm h0).mono ?_
 rintro e w' ⟨q,r,rfl,hq,hr,hb⟩
 refine⟨_,rfl,hb,λE' hw h3 h4=>AoQ (Oz hq hw λb p q=>h4 b p q) ?_⟩
 rcases hr with⟨hlt,rfl⟩|hr
 rw[Nat.mod_eq_of_lt hlt]
 refine hv0.up (Ar.fz_le_of h3 λb hb'=>?_)
 rw[hw]
 exact hb.block b (hD b hb')
 exact Oz hr hw λb p q=>h4 b p q
theorem Amp {n m k:Nat} (hA:k<(Al n).length) (hB:k<(Al m).length) (hd:(Al n).drop (k+1)=(Al m).drop (k+1)) (h:dg (Al n) k<dg (Al m) k):eH n m (-1):=by
 have:=Xv (Cl n) hA hB hd h
 rw[Cf,Cf] at this
 exact⟨ω,ω⟩
theorem Amo {n m k:Nat} (hA:k<(Al n).length) (hB:k<(Al m).length) (hd:(Al n).drop (k+1)=(Al m).drop (k+1)) (h:dg (Al m) k<dg (Al n) k):eH n m 1:=by
 have:=Xv (Cl m) hB hA hd.symm h
 rw[Cf,Cf] at this
 exact⟨ω,ω⟩
theorem Amn {n m:Nat} (h:(Al n).drop 0=(Al m).drop 0):eH n m 0:=by
 simp only[List.drop_zero] at h
 have:=AaL h
 subst this
 exact⟨ω,ω⟩
theorem AjJ {n m:Nat} (hne:(Al n).length≠(Al m).length):eH n m (((Al n).length:Int)-((Al m).length:Int)):=by
 rcases Nat.lt_or_gt_of_ne hne with h|h
 have:=oI h;exact⟨ω,ω⟩
 have:=oI h;exact⟨ω,ω⟩
theorem AcA {n m k j:Nat} (hj:k+1=j) (hA:k<(Al n).length) (hB:k<(Al m).length) (hd:(Al n).drop j=(Al m).drop j) (h1:¬(dg (Al n) k:Int)<(dg (Al m) k:Int)) (h2:¬(dg (Al m) k:Int)<(dg (Al n) k:Int)):(Al n).drop k=(Al m).drop k:=kT hA hB (by rw[hj];exact hd) ω
theorem AaU (n:Nat) (y:Nat) (h0:(Al n).length<=100000/\(Al y).length<=100000):∃r,(Fx [.one .i] r/\(∀x,r= .int x->eH n y x))/\AF Tryz.prog 214 [Dv n,Dv y] r:=by
 refine Au func214 rfl ?_
 refine Ab 15 (Aii 10 (((Al n).length:Int)=((Al y).length:Int)) (λhx1 hx1d=>?_) (λhx1 hx1d=>?_))
 refine Ab 8 (gs (λh9=>Cy (.int .i64 (IntKind.wrap .i64 (((Al n).length:Int)-1))) (.int .i64 (((Al n).length:Int)-1)) h9 (congrArg (Value.int .i64) (IntWalk.i64_in _ ω))) (Ab 4 (Vj [0,1,5] (λm s=>∃j,m=j+1/\(j<=(Al n).length/\(Al n).length=(Al y).length/\(Al n).drop j=(Al y).drop j)/\s=⟨[(0,Dv n),(1,Dv y),(5,.int ((j:Int)-1))],[],0,43⟩) ((Al n).length+1) ⟨(Al n).length,rfl,⟨Nat.le_refl _,ω,by rw[List.drop_of_length_le ζ,List.drop_of_length_le ω]⟩,κ⟩ ?_)))
 rintro _ _ ⟨j,rfl,hF,rfl⟩ hJ1
 refine Ab 7 (Hf 20 ((0:Int)<=(j:Int)-1) (λhx2 hx2d=>?_) (λhx2 hx2d=>?_))
 refine Ab 7 (gs (Cn [(2,Cv (Dv n) ((j:Int)-1).toNat,.none),(6,Cv (Dv y) ((j:Int)-1).toNat,.none)] [0,1,5,23] ⟨AgS ((j:Int)-1) ((j:Int)-1).toNat ((Al n).length),AgS ((j:Int)-1) ((j:Int)-1).toNat ((Al y).length),trivial⟩ ·) (Ab 1 (Hf 23 (((dg (Al n) (((j:Int)-1).toNat):Nat):Int)<((dg (Al y) (((j:Int)-1).toNat):Nat):Int)) (λhx3 hx3d=>?_) (λhx3 hx3d=>?_))))
 exact Ab 13 (Ey (.int (-1)) (λx hx=>by cases hx;exact Amp (k:=((j:Int)-1).toNat) ω ω (by rw[show ((j:Int)-1).toNat+1=j by omega];exact hF.2.2) ω))
 refine Ab 2 (gs (Cn [(2,Cv (Dv n) ((j:Int)-1).toNat,.none),(6,Cv (Dv y) ((j:Int)-1).toNat,.none)] [0,1,5,33] ⟨AgS ((j:Int)-1) ((j:Int)-1).toNat ((Al n).length),AgS ((j:Int)-1) ((j:Int)-1).toNat ((Al y).length),trivial⟩ ·) (Ab 1 (Hf 33 (((dg (Al y) (((j:Int)-1).toNat):Nat):Int)<((dg (Al n) (((j:Int)-1).toNat):Nat):Int)) (λhx4 hx4d=>?_) (λhx4 hx4d=>?_))))
 exact Ab 13 (Ey (.int 1) (λx hx=>by cases hx;exact Amo (k:=((j:Int)-1).toNat) ω ω (by rw[show ((j:Int)-1).toNat+1=j by omega];exact hF.2.2) ω))
 exact Ab 7 (gs (Db ((j:Int)-1-1) (((((j:Int)-1).toNat:Nat):Int)-1) ·) (Ab 2 (mI [0,1,5] (hJ1 _ _ (by omega:((j:Int)-1).toNat+1<j+1) ⟨((j:Int)-1).toNat,rfl,⟨ω,hF.2.1,AcA (j:=j) ω ω ω hF.2.2 hx3d hx4d⟩,rfl⟩))))
 exact Ab 12 (Ey (.int 0) (λx hx=>by cases hx;exact Amn (by have:=hF.2.2;rw[show j=0 by omega] at this;exact this)))
 exact Ab 7 (gs (λh9=>Cy (.int .i64 (IntKind.wrap .i64 (((Al n).length:Int)-((Al y).length:Int)))) (.int .i64 (((Al n).length:Int)-((Al y).length:Int))) h9 (congrArg (Value.int .i64) (IntWalk.i64_in _ ω))) (Ab 5 (Ey (.int (((Al n).length:Int)-((Al y).length:Int))) (λx hx=>by cases hx;exact AjJ ω))))
noncomputable def lO (n:Nat) (y:Nat):Value:=chP 214 [.one .i] [Dv n,Dv y] λr=>∀x,r= .int x->eH n y x
theorem Aam (n:Nat) (y:Nat) (h0:(Al n).length<=100000/\(Al y).length<=100000):AF Tryz.prog 214 [Dv n,Dv y] (.lit (Hh [.one .i] (lO n y))):=(Ok (AaU n y h0)).1
def Nh (b:Bool) (n:Nat) (c:Bool) (m:Nat):Bool:=if b=c then b else if m<=n then b else c
def Lm (b:Bool) (n:Nat) (c:Bool) (m:Nat):Nat:=if b=c then n+m else if m<=n then n-m else m-n
def Et (b:Bool) (n m:Nat):Nat:=if (b&&decide (0<n%m))=true then n/m+1 else n/m
def nQ (b:Bool) (n m:Nat):Nat:=if (b&&decide (0<n%m))=true then m-n%m else n%m
theorem Ib (b:Bool) (n:Nat) (c:Bool) (m:Nat):(Al (Lm b n c m)).length<=(Al n).length+(Al m).length+1:=by
 unfold Lm
 split
 exact AaK n m
 split
 have:=oM n m;omega
 have:=oM m n;omega
theorem Ub:(Al 1).length=1:=by rw[AaM];rfl
theorem Lh (b:Bool) (n m:Nat):(Al (Et b n m)).length<=(Al n).length+2:=by
 have h:=dB n m
 unfold Et
 split
 have:=AaK (n/m) 1;rw[Ub] at this;omega
 omega
theorem AgY (b:Bool) {n m:Nat} (h:0<m):(Al (nQ b n m)).length<=(Al m).length:=by
 unfold nQ
 split
 exact oM _ _
 exact Gf (Nat.le_of_lt (Nat.mod_lt _ h))
theorem Tm {n:Nat} (h:(Al n).length<=40000):(be n).length<=400000:=by have:=Yj n;omega
theorem Yi {n:Nat} (h:0<n):0<(Al n).length:=List.length_pos_iff.2 λe=>by have:=Mg.1 e;omega
theorem Zz {n:Nat} (h:(Al n).length=0):n=0:=Mg.1 (List.length_eq_zero_iff.1 h)
theorem AkZ {E:Ar} {e n:Nat} {f g:Nat->AV} {v:Value} (h:VR E (.slc e n f) v) (hfg:∀i,i<n->f i=g i):VR E (.slc e n g) v:=by
 obtain⟨a,c,rfl,hnc,h⟩:=pQ h
 refine .slc _ _ _ _ _ _ hnc ?_
 rcases zQ h with⟨rfl,a',c',e1⟩|⟨b,q,c',us,e1,hD,hc,hr⟩
 cases e1;exact .sl0 _ _ _ _ _
 cases e1
 by_cases h0:0<n
 exact .sl _ _ _ _ _ _ _ us h0 hD hc λi j hi hj=>by rw[<-hfg i hi];exact hr i j hi hj
 obtain rfl:n=0:=by omega
 exact .sl0 _ _ _ _ _
abbrev Anc:AV:= .slc 1 1 λ_=> .lit (.int .u64 1)
theorem Aba {E:Ar} {v:Value} (h:VR E Anc v):VR E (Dv 1) v:=by
 have e:Dv 1= .slc 1 1 λi=> .lit (.int .u64 (dg (Al 1) i:Int)):=by unfold Dv;rw[Ub]
 rw[e]
 exact AkZ h λi hi=>by
  obtain rfl:i=0:=by omega
  rw[AaM];rfl
theorem qL (n:Nat) (hn:(Al n).length<=800000):AF Tryz.prog 213 [Dv n,Anc] (Dv (n+1)):=
 wG (Aal n 1 ω (by rw[Ub];decide)) rfl (λi hi E v h=>by
  match i,hi with
  |0,_=>exact h
  |1,_=>exact Aba h) λE v h=>h
theorem dX (n s:Nat) (t:Int) (ht:t=(s:Int)) (hn:(Al n).length<=400000) (hs:s<=6400000):AF Tryz.prog 185 [Dv n,.int t] (Dv (n*2^s)):=by subst ht;exact Ajj n s hn hs
theorem qM (s:Nat) (t:Int) (ht:t=(s:Int)) (hs:s<=6400000):AF Tryz.prog 185 [Anc,.int t] (Dv (1*2^s)):=
 wG (dX 1 s t ht (by rw[Ub];decide) hs) rfl (λi hi E v h=>by
  match i,hi with
  |0,_=>exact Aba h
  |1,_=>exact h) λE v h=>h
theorem Cz (z:Int) (hz:Bn z):AF Tryz.prog 166 [WA z] (Dg (decide (z<0)) z.natAbs):=by
 have hd:=hz.digits
 refine As func166 rfl λB D0 hA0=>?_
 exact Ae 7 (Cn [(4,_,.none)] [2] ⟨Be (Xe z.natAbs (Tm ω)),trivial⟩ (Ae 2 (Cu)))
theorem Va (b:Bool) (n:Nat):AF Tryz.prog 168 [Dg b n] (Dg (!b) n):=by
 refine As func168 rfl λB D0 hA0=>?_
 exact Ae 18 (Cu)
theorem Qk (b:Bool) (n:Nat) (c:Bool) (m:Nat) (hn:(Al n).length<=30000) (hm:(Al m).length<=30000):AF Tryz.prog 200 [Dg b n,Dg c m] (Dg (!decide (b=c)) (n*m)):=by
 refine As func200 rfl λB D0 hA0=>?_
 exact Ae 8 (Cn [(4,.bool (!decide (b=c)),.none),(9,_,.none)] [4] ⟨Ea (.bool (!decide (b=c))) rfl,Be (Aje n m ω ω),trivial⟩ (Ae 2 (Cu)))
theorem AaV {n m:Nat} (h:(Al n).length<=100000/\(Al m).length<=100000):0<=gI (lO n m)↔m<=n:=by
 have:=(Ok (AaU n m h)).2 _ rfl
 have h1:=this.lt
 have h2:=this.gt
 constructor
 intro h3;exact Nat.le_of_not_lt λh4=>by have:=h1.2 h4;exact absurd (show (0:Int)<=gI (lO n m) from h3) (by have:gI (lO n m)<0:=this;omega)
 intro h3;exact Int.not_lt.1 λh4=>by have:=h1.1 h4;omega
theorem AeX (b:Bool) (n m:Nat) (hn:(Al n).length<=30000) (hm:(Al m).length<=30000):AF Tryz.prog 167 [Dg b n,Dg b m] (Dg b (n+m)):=by
 refine As func167 rfl λB D0 hA0=>?_
 exact Ae 15 (Cy (.bool (decide (b=b))) (.bool (decide (b=b))) (Ae 3 (Jk 5 (decide (b=b)) true (decide_eq_true rfl) (Ae 2 (Cn [(6,_,.none)] [4] ⟨Be (Aal n m ω ω),trivial⟩ (Ae 4 (Cu)))))))
theorem AeY (b:Bool) (n:Nat) (c:Bool) (m:Nat) (hn:(Al n).length<=30000) (hm:(Al m).length<=30000) (h:decide (b=c)=false) (hle:m<=n):AF Tryz.prog 167 [Dg b n,Dg c m] (Dg b (n-m)):=by
 have hc:=decide_eq_true ((AaV ⟨(by omega:(Al n).length<=100000),(by omega:(Al m).length<=100000)⟩).2 hle)
 refine As func167 rfl λB D0 hA0=>?_
 exact Ae 15 (Cy (.bool (decide (b=c))) (.bool (decide (b=c))) (Ae 3 (Jk 5 (decide (b=c)) false h (Ae 7 (Ao (Aam n m ω) (Ae 4 (Jk 19 (decide ((0:Int)<=(gI (lO n m)))) true hc (Ae 2 (Cn [(6,_,.none)] [4] ⟨Be (mV n m ω ω ω),trivial⟩ (Ae 4 (Cu)))))))))))
theorem AeZ (b:Bool) (n:Nat) (c:Bool) (m:Nat) (hn:(Al n).length<=30000) (hm:(Al m).length<=30000) (h:decide (b=c)=false) (hle:¬m<=n):AF Tryz.prog 167 [Dg b n,Dg c m] (Dg c (m-n)):=by
 have hc:=decide_eq_false (λh=>hle ((AaV ⟨(by omega:(Al n).length<=100000),(by omega:(Al m).length<=100000)⟩).1 h))
 refine As func167 rfl λB D0 hA0=>?_
 exact Ae 15 (Cy (.bool (decide (b=c))) (.bool (decide (b=c))) (Ae 3 (Jk 5 (decide (b=c)) false h (Ae 7 (Ao (Aam n m ω) (Ae 4 (Jk 19 (decide ((0:Int)<=(gI (lO n m)))) false hc (Ae 5 (Cn [(6,_,.none)] [4] ⟨Be (mV m n ω ω ω),trivial⟩ (Ae 2 (Cu)))))))))))
theorem Mz (b:Bool) (n:Nat) (c:Bool) (m:Nat) (hn:(Al n).length<=30000) (hm:(Al m).length<=30000):AF Tryz.prog 167 [Dg b n,Dg c m] (Dg (Nh b n c m) (Lm b n c m)):=by
 unfold Nh Lm
 by_cases h:b=c
 subst h;rw[if_pos rfl,if_pos rfl];exact AeX b n m hn hm
 rw[if_neg h,if_neg h]
 by_cases hle:m<=n
 rw[if_pos hle,if_pos hle];exact AeY b n c m hn hm (decide_eq_false h) hle
 rw[if_neg hle,if_neg hle];exact AeZ b n c m hn hm (decide_eq_false h) hle
theorem Ahx (b:Bool) (n:Nat):∃r,Fx [.one .i] r/\AF Tryz.prog 169 [Dg b n] r:=by
 refine Au func169 rfl ?_
 refine Ab 17 (Hf 3 (((Al n).length:Int)=0) (λhx1 hx1d=>?_) (λhx1 hx1d=>?_))
 exact Ab 9 (Bb)
 refine Ab 8 (Eu 8 ?_ ?_)
 exact Ab 9 (Bb)
 exact Ab 10 (Bb)
noncomputable def AmT (b:Bool) (n:Nat):Value:=Kl 169 [.one .i] [Dg b n]
theorem Afd (b:Bool) (n:Nat):AF Tryz.prog 169 [Dg b n] (.lit (Hh [.one .i] (AmT b n))):=Bi (Ahx b n)
theorem Ahy (b:Bool) (n:Nat) (h0:(Al n).length<=30000):∃r,Fx [.agg [.b,.s],.one .i] r/\AF Tryz.prog 121 [Dg b n] r:=by
 refine Au func121 rfl ?_
 refine Ab 12 (gs (Ao (Na n ω) ·) (Ab 3 (Hf 7 ((65536:Int)<(bitLen n:Int)) (λhx1 hx1d=>?_) (λhx1 hx1d=>?_))))
 exact Ab 10 (Bb)
 refine Ab 4 ?_
 refine Ek b (λhx2=>?_) (λhx2=>?_)
 exact gs (Cn [(1,.bool true,(.read 0)),(10,_,.none)] [2,3] ⟨kbE hx2,Be (Kk n (Tm ω)),trivial⟩ ·) (Ab 2 (Bb))
 exact gs (Cn [(1,.bool false,(.read 0)),(10,_,.none)] [2,3] ⟨kbE hx2,Be (Kk n (Tm ω)),trivial⟩ ·) (Ab 2 (Bb))
noncomputable def AmV (b:Bool) (n:Nat):Value:=Kl 121 [.agg [.b,.s],.one .i] [Dg b n]
theorem Nb (b:Bool) (n:Nat) (h0:(Al n).length<=30000):AF Tryz.prog 121 [Dg b n] (.lit (Hh [.agg [.b,.s],.one .i] (AmV b n))):=Bi (Ahy b n h0)
theorem Afa (n:Nat) (c:Bool) (m:Nat) (hn:(Al n).length<=30000) (hm:(Al m).length<=30000) (hm0:0<m) (h:decide ((0:Int)<((Al (n%m)).length:Int))=true):AF Tryz.prog 186 [Dg true n,Dg c m] (.tup [Dg (!decide (true=c)) (n/m+1),Dg false (m-n%m)]):=by
 have hq:=dB n m
 have hr:=Gf (Nat.le_of_lt (Nat.mod_lt n hm0))
 refine As func186 rfl λB D0 hA0=>?_
 exact Ae 14 (Ao (cQ n m ω ω ω) (Ae 19 (Jk 22 (decide ((0:Int)<((Al (n%m)).length:Int))) true h (Ae 1 (Cn [(1,.osl 4 1 1,(.new 4 (.vec 158 1 1 (λ_=> .lit (.int .u64 1))))),(2,Dv ((n/m)+1),(.drop 4)),(6,_,.none)] [2,3,4,5,6,7] ⟨Ef (Ie 201 1 #[(0,(.const (.int .u64 1)))] κ underlying201 1 sizeOf158 _ zeroValue158 κ β β β 4 [.lit (.int .u64 1)] κ (λ_=> .lit (.int .u64 1)) κ),Ef (Gj 213 #[.tmp 23,.tmp 24] #[201,201] κ (λ_ _=>by kernel_rfl) 4 (.vec 158 1 1 (λ_=> .lit (.int .u64 1))) κ (λ_ _ _ _ h=>by cases h;exact(Ce λ_ _=>rfl)) [Dv (n/m),.osl 4 1 1] κ [Dv (n/m),.slc 1 1 (λ_=> .lit (.int .u64 1))] κ (Dv ((n/m)+1)) (qL (n/m) ω)),Be (mV m (n%m) ω ω (Nat.le_of_lt (Nat.mod_lt _ hm0))),trivial⟩ (Ae 7 (Cy (.bool (!decide (true=c))) (.bool (!decide (true=c))) (Ae 9 (Cu)))))))))
theorem Afb (n:Nat) (c:Bool) (m:Nat) (hn:(Al n).length<=30000) (hm:(Al m).length<=30000) (hm0:0<m) (h:decide ((0:Int)<((Al (n%m)).length:Int))=false):AF Tryz.prog 186 [Dg true n,Dg c m] (.tup [Dg (!decide (true=c)) (n/m),Dg false (n%m)]):=by
 have hq:=dB n m
 have hr:=Gf (Nat.le_of_lt (Nat.mod_lt n hm0))
 refine As func186 rfl λB D0 hA0=>?_
 exact Ae 14 (Ao (cQ n m ω ω ω) (Ae 19 (Jk 22 (decide ((0:Int)<((Al (n%m)).length:Int))) false h (Ae 9 (Cy (.bool (!decide (true=c))) (.bool (!decide (true=c))) (Ae 9 (Cu)))))))
theorem Afc (n:Nat) (c:Bool) (m:Nat) (hn:(Al n).length<=30000) (hm:(Al m).length<=30000) (hm0:0<m):AF Tryz.prog 186 [Dg false n,Dg c m] (.tup [Dg (!decide (false=c)) (n/m),Dg false (n%m)]):=by
 have hq:=dB n m
 have hr:=Gf (Nat.le_of_lt (Nat.mod_lt n hm0))
 refine As func186 rfl λB D0 hA0=>?_
 exact Ae 14 (Ao (cQ n m ω ω ω) (Ae 28 (Cy (.bool (!decide (false=c))) (.bool (!decide (false=c))) (Ae 9 (Cu)))))
theorem Iz (b:Bool) (n:Nat) (c:Bool) (m:Nat) (hn:(Al n).length<=30000) (hm:(Al m).length<=30000) (hm0:0<m):AF Tryz.prog 186 [Dg b n,Dg c m] (.tup [Dg (!decide (b=c)) (Et b n m),Dg false (nQ b n m)]):=by
 unfold Et nQ
 cases b with
 |false=>exact Afc n c m hn hm hm0
 |true=>
  by_cases h:0<n%m
  have hl:=Yi h
  have e:(true&&decide (0<n%m))=true:=by rw[decide_eq_true h];rfl
  rw[if_pos e,if_pos e]
  exact Afa n c m hn hm hm0 (decide_eq_true ω)
  have e:¬(true&&decide (0<n%m))=true:=by rw[decide_eq_false h];decide
  rw[if_neg e,if_neg e]
  exact Afb n c m hn hm hm0 (decide_eq_false λg=>h (Nat.pos_of_ne_zero λe0=>by rw[e0,Co] at g;exact absurd g δ))
theorem Ado {a b G:Nat} (h:Nat.gcd a b=G) (hl:(Al b).length<=30000) (hb:0<b):Nat.gcd b (a%b)=G/\(Al b).length<=30000/\(Al (a%b)).length<=30000:=⟨by rw[<-h,Nat.gcd_comm a b,Nat.gcd_rec b a,Nat.gcd_comm],hl,Nat.le_trans (Gf (Nat.le_of_lt (Nat.mod_lt _ hb))) hl⟩
theorem Ahs {a b G:Nat} (h:Nat.gcd a b=G) (hb:b=0):a=G:=by rw[hb,Nat.gcd_zero_right] at h;exact h
theorem sY {n:Nat} (h:0<(Al n).length):0<n:=Nat.pos_of_ne_zero λe=>by rw[e,Co] at h;exact absurd h δ
theorem cR (n k:Nat) (hn:(Al n).length<=30000) (hm:(Al k).length<=30000):AF Tryz.prog 171 [Dv n,Dv k] (Dv (Nat.gcd n k)):=by
 refine As func171 rfl λB D0 hA0=>?_
 refine Ae 7 (vlp [0,1] (λm s=>∃a b,m=b+1/\(Nat.gcd a b=Nat.gcd n k/\(Al a).length<=30000/\(Al b).length<=30000)/\s=⟨[(0,Dv a),(1,Dv b)],[],0,19⟩) (k+1) ⟨n,k,rfl,⟨rfl,hn,hm⟩,κ⟩ ?_)
 rintro _ _ ⟨a,b,rfl,hF,rfl⟩ J1 hJ1
 refine Ae 8 (Hu 9 ((0:Int)<((Al b).length:Int)) (λhx1 hx1d=>?_) (λhx1 hx1d=>?_))
 ·
  refine Ae 4 ?_
  have hb0:0<b:=sY ω
  have hb1:=Nat.mod_lt a hb0
  exact Ae 4 (Ao (cQ a b ω ω hb0) (Ae 14 (vD [0,1] (hJ1 _ _ (by omega:(a%b)+1<b+1) ⟨b,a%b,rfl,Ado hF.1 hF.2.2 hb0,rfl⟩))))
 ·
  exact Ae 13 (Fd (Dv a) (congrArg Dv (Ahs hF.1 (Zz ω))))
structure Rw where
 neg:Bool
 mag:ByteArray
abbrev Fr (w:Rw):AV:= .lit (.agg #[.bool w.neg,.string w.mag])
def Jh (w:Rw):Bool:=if h:0<w.mag.size then decide ((w.mag[0]'h).toNat≠0)&&decide (w.mag.size<=8192) else !w.neg
theorem uW (ng:Bool) (s:ByteArray) (w:World):Calls Tryz.prog 175 #[.agg #[.bool ng,.string s]] w λe w'=>e= .returned (.bool (Jh ⟨ng,s⟩))/\Below w.heap.size w w':=by
 have hbw:Below w.heap.size w (w.alloc (.cells #[.bool ng,.string s] 169)):=(Below.refl _ _).alloc ζ _
 have HBW:=Lib.hid hbw
 clear hbw
 by_cases hn0:s.size=0
 ·
  have he:s.toList.isEmpty=true:=by
   rw[ByteArray.toList_eq]
   have:s.data.toList.length=0:=by rw[Array.length_toList];exact hn0
   rw[List.length_eq_zero_iff.1 this];rfl
  have HR:Hid (Jh ⟨ng,s⟩= !ng):=by unfold Hid Jh;rw[dif_neg (by simpa using hn0)]
  rw[HR.out]
  clear hn0 HR
  go_enter func175,ntmps175
  go_wp2_with fail
  go_ret
  exact⟨rfl,HBW.out⟩
 ·
  have he:s.toList.isEmpty=false:=by
   rw[ByteArray.toList_eq]
   have:s.data.toList.length≠0:=by rw[Array.length_toList];exact hn0
   cases h:s.data.toList with
   |nil=>rw[h] at this;exact absurd rfl this
   |cons _ _=>rfl
  have hps:0<s.size:=Nat.pos_of_ne_zero hn0
  have HR:Hid (Jh ⟨ng,s⟩=(decide ((s[0]'hps).toNat≠0)&&decide (s.size<=8192))):=by unfold Hid Jh;rw[dif_pos hps]
  rw[HR.out]
  clear hn0 HR
  obtain⟨L,hL⟩:∃L,L=s.size:=⟨_,rfl⟩
  rw[<-hL]
  have hLs:(s.size:Int)=(L:Int):=by omega
  by_cases hx0:(s[0]'hps).toNat=0
  ·
   have HR:Hid ((decide ((s[0]'hps).toNat≠0)&&decide (L<=8192))=false):=by unfold Hid;rw[decide_eq_false (by simpa using hx0)];rfl
   rw[HR.out]
   have hxb:(((s[0]'hps).toNat:Int) != 0)=false:=by simp[hx0]
   clear hx0 HR
   go_enter func175,ntmps175
   go_wp2_with fail
   go_ret
   exact⟨rfl,HBW.out⟩
  ·
   have HR:Hid ((decide ((s[0]'hps).toNat≠0)&&decide (L<=8192))=decide ((L:Int)<=8192)):=by
    unfold Hid
    rw[decide_eq_true (by simpa using hx0)]
    exact decide_eq_decide.2 ω
   rw[HR.out]
   have hxb:(((s[0]'hps).toNat:Int) != 0)=true:=by simp[hx0]
   clear hx0 HR
   go_enter func175,ntmps175
   go_wp2_with fail
   go_ret
   exact⟨rfl,HBW.out⟩
theorem Gi (a:Rw):AF Tryz.prog 175 [Fr a] (.bool (Jh a)):=mU (vs:=[_]) λw=>uW a.neg a.mag w
theorem Lj {a:Rw} (h:Jh a=true):∃z,Bn z/\Fr a=WA z:=by
 obtain⟨ng,s⟩:=a
 unfold Jh at h
 split at h
 rename_i hps
 rw[Bool.and_eq_true,decide_eq_true_eq,decide_eq_true_eq] at h
 obtain⟨h1,h2⟩:=h
 have hhd:s.data.toList.head?≠some 0:=λe=>by
  have e2:s.data.toList[0]?=some 0:=by rw[<-List.head?_eq_getElem?];exact e
  have hp:0<s.data.toList.length:=by rw[Array.length_toList];exact hps
  rw[List.getElem?_eq_getElem hp] at e2
  have e3:s.data.toList[0]=0:=Option.some.inj e2
  apply h1
  show (s.data[0]'hps).toNat=0
  rw[show s.data[0]'hps=s.data.toList[0] from rfl,e3];rfl
 have hb:=Amd hhd
 obtain⟨n,hn⟩:∃n,n=vA s.data.toList:=⟨_,rfl⟩
 rw[<-hn] at hb
 have hs:Cj n=s:=by unfold Cj;rw[hb]
 have hn0:n≠0:=λe=>by
  rw[e,Je] at hb
  have:s.data.toList.length=0:=by rw[<-hb];rfl
  rw[Array.length_toList] at this
  have h3:0<s.data.size:=hps
  omega
 have hlen:(be n).length<=8192:=by rw[hb,Array.length_toList];exact h2
 rw[Ve] at hlen
 have hf:bitLen n<=65536:=by omega
 cases ng with
 |true=>exact⟨-(n:Int),by unfold Bn;simpa using hf,by show AV.lit (.agg #[.bool true,.string s])= .lit (Ak (-(n:Int)));unfold Ak;rw[Int.natAbs_neg,Int.natAbs_natCast,hs,decide_eq_true ω]⟩
 |false=>exact⟨(n:Int),by unfold Bn;simpa using hf,by show AV.lit (.agg #[.bool false,.string s])= .lit (Ak (n:Int));unfold Ak;rw[Int.natAbs_natCast,hs,decide_eq_false ω]⟩
 rename_i hps
 have hng:ng=false:=by simpa using h
 subst hng
 have hs:s=Cj 0:=by
  rw[Qn]
  obtain⟨⟨l⟩⟩:=s
  have:l.length=0:=by have h3:¬0<l.length:=hps;omega
  rw[List.length_eq_zero_iff.1 this]
 refine⟨0,by unfold Bn;decide,?_⟩
 show AV.lit (.agg #[.bool false,.string s])= .lit (Ak 0)
 rw[hs];rfl
theorem Akr {z:Int} (h:Bn z):Jh ⟨decide (z<0),Cj z.natAbs⟩=true:=by
 unfold Jh
 have hl:(Cj z.natAbs).size=(be z.natAbs).length:=by simp[Cj,ByteArray.size]
 by_cases hp:0<(Cj z.natAbs).size
 have hn:z.natAbs≠0:=λe=>by rw[hl,e,Je] at hp;exact absurd hp δ
 have h1:=AfK hn ω
 have h2:=h.bytes
 rw[dif_pos hp,Bool.and_eq_true,decide_eq_true_eq,decide_eq_true_eq]
 exact⟨h1,by show (Cj z.natAbs).size<=8192;omega⟩
 rw[dif_neg hp]
 have h0:z.natAbs=0:=Nat.eq_zero_of_not_pos λg=>by
  have:=@kL z.natAbs
  rw[rD,decide_eq_false ω] at this
  cases hb:be z.natAbs with
  |nil=>rw[hb] at this;cases this
  |cons a l=>rw[hb] at hl;simp at hl;omega
 obtain rfl:z=0:=by omega
 rfl
theorem Ed (x:Int) (hx:Bn x):AF Tryz.prog 175 [WA x] (.bool true):=by
 have:=Gi ⟨decide (x<0),Cj x.natAbs⟩
 rw[Akr hx] at this
 exact this
def Ha (z:Int):Int:=if bitLen z.natAbs<=65536 then z else 0
def It (z:Int):Int:=if bitLen z.natAbs<=65536 then 0 else 7
theorem Ga {z:Int} (h:Bn z):Ha z=z:=if_pos h
theorem Ju {z:Int} (h:Bn z):It z=0:=if_pos h
theorem AlG {b v:Bool} {n:Nat} (hv:v=(b&&decide (0<n))):Value.agg #[.bool v,.string (Cj n)]=Ak (Dw b n):=by
 unfold Ak
 rw[AkS,Yy,hv]
theorem Aes:Value.agg #[.bool false,.string ⟨#[]⟩]=Ak 0:=by unfold Ak;rw[show (0:Int).natAbs=0 from rfl,Qn];rfl
theorem AgZ {n:Nat} (h:¬((Al n).length:Int)=0):n≠0:=λe=>by rw[e,Co] at h;exact h rfl
theorem sW (n m:Nat):(Al (Nat.gcd n m)).length<=(Al n).length+(Al m).length:=by
 rcases Nat.eq_zero_or_pos m with rfl|h
 rw[Nat.gcd_zero_right];omega
 have:=oK (n:=n) h;omega
theorem Abg {n:Nat}:decide ((0:Int)<((Al n).length:Int))=decide (0<n):=decide_eq_decide.2 ⟨λh=>sY ω,λh=>by have:=Yi h;omega⟩
theorem pM (b:Bool) (n:Nat) (c:Bool) (m:Nat):Dw (Nh b n c m) (Lm b n c m)=Dw b n+Dw c m:=by
 unfold Nh Lm
 by_cases h:b=c
 subst h;rw[if_pos rfl,if_pos rfl];exact pN b n m
 rw[if_neg h,if_neg h]
 by_cases hm:m<=n
 rw[if_pos hm,if_pos hm];exact zM h hm
 rw[if_neg hm,if_neg hm];exact zO h ω
theorem uD (x:Int):Dw (!decide (x<0)) x.natAbs= -x:=by unfold Dw;by_cases h:x<0<;>simp[h]<;>omega
theorem AhW (x y:Int):Dw (Nh (decide (x<0)) x.natAbs (decide (y<0)) y.natAbs) (Lm (decide (x<0)) x.natAbs (decide (y<0)) y.natAbs)=x+y:=by rw[pM,Ke,Ke]
theorem uE (x y:Int):Dw (Nh (decide (x<0)) x.natAbs (!decide (y<0)) y.natAbs) (Lm (decide (x<0)) x.natAbs (!decide (y<0)) y.natAbs)=x-y:=by rw[pM,Ke,uD];omega
theorem AaW (a b:Bool):(!decide (a=b))=(a != b):=by cases a<;>cases b<;>rfl
theorem gR (x y:Int):Dw (!decide (decide (x<0)=decide (y<0))) (x.natAbs*y.natAbs)=x*y:=by rw[AaW,AkR,Ke,Ke]
theorem Yz (x y:Int) (hy:y≠0):Dw (!decide (decide (x<0)=decide (y<0))) (Et (decide (x<0)) x.natAbs y.natAbs)=x/y/\Dw false (nQ (decide (x<0)) x.natAbs y.natAbs)=x%y:=by
 have hm:0<y.natAbs:=by omega
 have key:∀b:Bool,Dw b x.natAbs=x->Dw (!decide (b=decide (y<0))) (Et b x.natAbs y.natAbs)=x/y/\Dw false (nQ b x.natAbs y.natAbs)=x%y:=λb hb=>by
  have h2:x=Dw b x.natAbs:=hb.symm
  have h3:y=Dw (decide (y<0)) y.natAbs:=(Ke y).symm
  rw[AaW]
  unfold Et nQ
  cases b with
  |false=>
   obtain⟨k1,k2⟩:=AdP (mg:=decide (y<0)) (n:=x.natAbs) hm
   rw[<-h2,Ke] at k1 k2
   rw[k1,k2]
   cases decide (y<0)<;>exact⟨rfl,rfl⟩
  |true=>
   by_cases h:0<x.natAbs%y.natAbs
   obtain⟨k1,k2⟩:=zL (mg:=decide (y<0)) (n:=x.natAbs) hm h
   rw[<-h2,Ke] at k1 k2
   rw[k1,k2,decide_eq_true h]
   cases decide (y<0)<;>exact⟨rfl,rfl⟩
   obtain⟨k1,k2⟩:=AdQ (mg:=decide (y<0)) (n:=x.natAbs) hm ω
   rw[<-h2,Ke] at k1 k2
   rw[k1,k2,decide_eq_false h]
   cases decide (y<0)<;>exact⟨rfl,rfl⟩
 exact key _ (Ke x)
theorem gU (b:Bool) (n:Nat):(Dw b n).sign=if n=0 then 0 else if b=true then -1 else 1:=by
 unfold Dw
 by_cases h:n=0
 subst h;cases b<;>rfl
 rw[if_neg h]
 cases b with
 |true=>rw[if_pos rfl,if_pos rfl];exact Int.sign_eq_neg_one_of_neg ω
 |false=>rw[if_neg δ,if_neg δ];exact Int.sign_eq_one_of_pos ω
theorem Ac6 {n:Nat} (h:(Al n).length=1):dg (Al n) 0=n:=by
 have:=Cf n
 cases hl:Al n with
 |nil=>rw[hl] at h;cases h
 |cons a l=>
  rw[hl] at h this
  cases l with
  |nil=>simpa [val,dg] using this
  |cons _ _=>simp at h
theorem Ac7 {n:Nat} (h:1<(Al n).length):18446744073709551616<=n:=Nat.le_of_not_lt λg=>by
 have:=Df (n:=n) (k:=1) (by rw[Nat.pow_one,Po];exact g)
 omega
def iR (z:Int):Int:=if -9223372036854775808<=z/\z<=9223372036854775807 then z else 0
def iE (z:Int):Int:=if -9223372036854775808<=z/\z<=9223372036854775807 then 0 else 3
def Dp (n:Int):Nat:=(n%18446744073709551616).toNat
theorem Vn (n:Int):IntKind.wrap .u64 n=((Dp n:Nat):Int):=by
 unfold Dp;show n%18446744073709551616=_;omega
theorem Zf (n:Int):Dp n<Bw:=by unfold Dp;rw[Po];omega
theorem Ze (n:Int):(Al (Dp n)).length<=1:=Df (by rw[Nat.pow_one];exact Zf n)
theorem Aik {n:Int} (h0: -9223372036854775808<=n) (h:n<0):Dp (0-((Dp n:Nat):Int))=n.natAbs:=by unfold Dp;omega
theorem Ail {n:Int} (h1:n<=9223372036854775807) (h:¬n<0):Dp n=n.natAbs:=by unfold Dp;omega
theorem Xh (x:Nat) (hx:x<Bw):AF Tryz.prog 120 [.slc 1 1 λ_=> .lit (.int .u64 (x:Int))] (Dv x):=Tc λE vs hD hsz hv=>by
 have hv0:=hv 0 (by simp)
 obtain⟨a,c,e,hnc,h⟩:=pQ hv0
 rw[e] at h
 rw[AlY hsz,e]
 have hs:∃b,E.D b/\Bq E.w b (b+1) 1 (.slice a 1 c) [x].length (Hq [x]):=by
  rcases zQ h with⟨h0,_⟩|⟨b,q,c',us,e1,hDb,hc,hr⟩
  exact absurd h0 δ
  cases e1
  refine⟨b,hDb,rfl,.inr ⟨b,q,c,rfl,⟨Nat.le_refl _,Nat.lt_succ_self _⟩,λj u hu=>?_⟩⟩
  match j,hu with
  |0,hu=>
   have h1:=hc 0 0 δ δ
   have h2:us 0 0= .int .u64 (x:Int):=VR.lit_inv (hr 0 0 δ δ)
   rw[h2] at h1
   cases hu
   have h3:E.w.cell? ⟨b,q+0*1+0,none⟩=some (.int .u64 (x:Int)):=h1
   simpa using h3
  |j+1,hu=>simp[Hq] at hu
 obtain⟨b,hDb,hs⟩:=hs
 refine(Uv [x] _ b (b+1) E.w hs hnc (λy hy=>by simp at hy;subst hy;exact hx) (by simp)).mono ?_
 rintro e w' ⟨v',rfl,h2,rfl⟩
 have hval:val [x]=x:=by simp[val]
 rw[hval] at h2
 exact⟨v',rfl,Below.refl _ _,λE' hw h3 h4=>Oz h2 hw λb' p q=>by
  obtain rfl:b'=b:=by omega
  exact h3 _ hDb⟩
theorem wW {n:Nat} (h:0<n):((Cj n).toList==(⟨#[]⟩:ByteArray).toList)=false:=by
 have:=@kL n
 rw[decide_eq_false ω] at this
 cases hb:(Cj n).toList with
 |nil=>rw[hb] at this;cases this
 |cons a l=>
  have e0:(⟨#[]⟩:ByteArray).toList=[]:=by rw[ByteArray.toList_eq]
  rw[e0];rfl
theorem Hw (x y:Int) (hx:Bn x) (hy:Bn y):AF Tryz.prog 165 [WA x,WA y] (.bool true):=by
 refine As func165 rfl λB D0 hA0=>?_
 exact Ae 10 (Ao (Ed x θ) (Ae 2 (Ao (Ed y θ) (Ae 5 (Cu)))))
theorem AbN (b:Bool) (n:Nat) (hl:(Al n).length<=30000) (hs:bitLen n<=65536):AF Tryz.prog 121 [Dg b n] (.lit (.tuple #[Ak (Ha (Dw b n)),.int .i64 (It (Dw b n))])):=by
 have e1:Ha (Dw b n)=Dw b n:=if_pos (by rw[Yy];exact hs)
 have e2:It (Dw b n)=0:=if_pos (by rw[Yy];exact hs)
 refine As func121 rfl λB D0 hA0=>?_
 refine Ae 12 (Ao (Na n ω) (Ae 3 (Jk 7 (decide ((65536:Int)<(bitLen n:Int))) false (decide_eq_false ω) (Ae 4 ?_))))
 refine Ek b (λhx1=>?_) (λhx1=>?_)
 ·
  exact Cn [(1,.bool true,(.read 0)),(10,_,.none)] [2,3] ⟨kbE hx1,Be (Kk n (Tm ω)),trivial⟩ (Ae 2 (Fd (.lit (.tuple #[.agg #[.bool (decide ((0:Int)<((Al n).length:Int))),.string (Cj n)],.int .i64 0])) (by rw[AlG (b:=b) (show decide ((0:Int)<((Al n).length:Int))=(b&&decide (0<n)) by rw[Abg,hx1];rfl),e1,e2])))
 ·
  exact Cn [(1,.bool false,(.read 0)),(10,_,.none)] [2,3] ⟨kbE hx1,Be (Kk n (Tm ω)),trivial⟩ (Ae 2 (Fd (.lit (.tuple #[.agg #[.bool false,.string (Cj n)],.int .i64 0])) (by rw[AlG (b:=b) (show false=(b&&decide (0<n)) by rw[hx1];rfl),e1,e2])))
theorem AbO (b:Bool) (n:Nat) (hl:(Al n).length<=30000) (hs:¬bitLen n<=65536):AF Tryz.prog 121 [Dg b n] (.lit (.tuple #[Ak (Ha (Dw b n)),.int .i64 (It (Dw b n))])):=by
 have e1:Ha (Dw b n)=0:=if_neg (by rw[Yy];exact hs)
 have e2:It (Dw b n)=7:=if_neg (by rw[Yy];exact hs)
 refine As func121 rfl λB D0 hA0=>?_
 exact Ae 12 (Ao (Na n ω) (Ae 3 (Jk 7 (decide ((65536:Int)<(bitLen n:Int))) true (decide_eq_true ω) (Ae 10 (Fd (.lit (.tuple #[.agg #[.bool false,.string ⟨#[]⟩],.int .i64 7])) (by rw[e1,e2,Aes]))))))
theorem Fg (b:Bool) (n:Nat) (hl:(Al n).length<=30000):AF Tryz.prog 121 [Dg b n] (.lit (.tuple #[Ak (Ha (Dw b n)),.int .i64 (It (Dw b n))])):=(Decidable.em (bitLen n<=65536)).elim (AbN b n hl) (AbO b n hl)
theorem Zl (b:Bool) (n:Nat) (_:(Al n).length<=30000):AF Tryz.prog 169 [Dg b n] (.int (Dw b n).sign):=by
 have h9:=@Abg n
 refine As func169 rfl λB D0 hA0=>?_
 refine Ae 17 (Hu 3 (((Al n).length:Int)=0) (λhx1 hx1d=>?_) (λhx1 hx1d=>?_))
 ·
  exact Ae 9 (Fd (.int 0) (congrArg AV.int (by rw[gU,if_pos (Zz ω)])))
 ·
  refine Ae 8 (vsb 8 b (λhx2=>?_) (λhx2=>?_))
  ·
   exact Ae 9 (Fd (.int (-1)) (congrArg AV.int (by rw[gU,if_neg (AgZ ω),if_pos hx2])))
  ·
   exact Ae 10 (Fd (.int 1) (congrArg AV.int (by rw[gU,if_neg (AgZ ω),if_neg (by rw[hx2];decide)])))
theorem qP (x y:Int) (hx:Bn x) (hy:Bn y):AF Tryz.prog 148 [WA x,WA y] (.lit (.tuple #[Ak (Ha (x+y)),.int .i64 (It (x+y))])):=by
 have hd:=hx.digits
 have he:=hy.digits
 have h1:=Ib (decide (x<0)) x.natAbs (decide (y<0)) y.natAbs
 refine As func148 rfl λB D0 hA0=>?_
 exact Ae 13 (Ao (Hw x y θ θ) (Ae 7 (Cn [(1,_,.none),(3,_,.none),(4,_,.none),(5,_,.none)] [4,5] ⟨Be (Cz x θ),Be (Cz y θ),Be (Mz (decide (x<0)) x.natAbs (decide (y<0)) y.natAbs ω ω),Be (Fg (Nh (decide (x<0)) x.natAbs (decide (y<0)) y.natAbs) (Lm (decide (x<0)) x.natAbs (decide (y<0)) y.natAbs) ω),trivial⟩ (Ae 2 (Fd (.lit (.tuple #[Ak (Ha (Dw (Nh (decide (x<0)) x.natAbs (decide (y<0)) y.natAbs) (Lm (decide (x<0)) x.natAbs (decide (y<0)) y.natAbs))),.int .i64 (It (Dw (Nh (decide (x<0)) x.natAbs (decide (y<0)) y.natAbs) (Lm (decide (x<0)) x.natAbs (decide (y<0)) y.natAbs)))])) (by rw[AhW]))))))
theorem Afs (x y:Int) (hx:Bn x) (hy:Bn y):AF Tryz.prog 235 [WA x,WA y] (.lit (.tuple #[Ak (Ha (x-y)),.int .i64 (It (x-y))])):=by
 have hd:=hx.digits
 have he:=hy.digits
 have h1:=Ib (decide (x<0)) x.natAbs (!decide (y<0)) y.natAbs
 refine As func235 rfl λB D0 hA0=>?_
 exact Ae 13 (Ao (Hw x y θ θ) (Ae 7 (Cn [(1,_,.none),(3,_,.none),(4,_,.none),(5,_,.none),(6,_,.none)] [4,5] ⟨Be (Cz x θ),Be (Cz y θ),Be (Va (decide (y<0)) y.natAbs),Be (Mz (decide (x<0)) x.natAbs (!(decide (y<0))) y.natAbs ω ω),Be (Fg (Nh (decide (x<0)) x.natAbs (!(decide (y<0))) y.natAbs) (Lm (decide (x<0)) x.natAbs (!(decide (y<0))) y.natAbs) ω),trivial⟩ (Ae 2 (Fd (.lit (.tuple #[Ak (Ha (Dw (Nh (decide (x<0)) x.natAbs (!(decide (y<0))) y.natAbs) (Lm (decide (x<0)) x.natAbs (!(decide (y<0))) y.natAbs))),.int .i64 (It (Dw (Nh (decide (x<0)) x.natAbs (!(decide (y<0))) y.natAbs) (Lm (decide (x<0)) x.natAbs (!(decide (y<0))) y.natAbs)))])) (by rw[uE]))))))
theorem qT (x y:Int) (hx:Bn x) (hy:Bn y):AF Tryz.prog 164 [WA x,WA y] (.lit (.tuple #[Ak (Ha (x*y)),.int .i64 (It (x*y))])):=by
 have hd:=hx.digits
 have he:=hy.digits
 have h1:=Ew x.natAbs y.natAbs
 refine As func164 rfl λB D0 hA0=>?_
 exact Ae 13 (Ao (Hw x y θ θ) (Ae 7 (Cn [(1,_,.none),(3,_,.none),(4,_,.none),(5,_,.none)] [4,5] ⟨Be (Cz x θ),Be (Cz y θ),Be (Qk (decide (x<0)) x.natAbs (decide (y<0)) y.natAbs ω ω),Be (Fg (!decide ((decide (x<0))=(decide (y<0)))) (x.natAbs*y.natAbs) ω),trivial⟩ (Ae 2 (Fd (.lit (.tuple #[Ak (Ha (Dw (!decide ((decide (x<0))=(decide (y<0)))) (x.natAbs*y.natAbs))),.int .i64 (It (Dw (!decide ((decide (x<0))=(decide (y<0)))) (x.natAbs*y.natAbs)))])) (by rw[gR]))))))
theorem Afn (x y:Int) (hx:Bn x) (hy:Bn y):AF Tryz.prog 126 [WA x,WA y] (.lit (.tuple #[Ak (Ha (Nat.gcd x.natAbs y.natAbs:Int)),.int .i64 (It (Nat.gcd x.natAbs y.natAbs:Int))])):=by
 have hd:=hx.digits
 have he:=hy.digits
 have h1:=sW x.natAbs y.natAbs
 refine As func126 rfl λB D0 hA0=>?_
 exact Ae 13 (Ao (Hw x y θ θ) (Ae 7 (Cn [(2,_,.none),(5,_,.none),(6,_,.none),(8,_,.none)] [4,5] ⟨Be (Xe x.natAbs (Tm ω)),Be (Xe y.natAbs (Tm ω)),Be (cR x.natAbs y.natAbs ω ω),Be (Fg false (Nat.gcd x.natAbs y.natAbs) ω),trivial⟩ (Ae 2 (Fd (.lit (.tuple #[Ak (Ha (Dw false (Nat.gcd x.natAbs y.natAbs))),.int .i64 (It (Dw false (Nat.gcd x.natAbs y.natAbs)))])) (by rw[show ∀g:Nat,Dw false g=(g:Int) from λ_=>rfl]))))))
theorem aR (x y:Int) (hx:Bn x) (hy:Bn y):AF Tryz.prog 125 [WA x,WA y] (.int (x-y).sign):=by
 have hd:=hx.digits
 have he:=hy.digits
 have h1:=Ib (decide (x<0)) x.natAbs (!decide (y<0)) y.natAbs
 refine As func125 rfl λB D0 hA0=>?_
 exact Ae 12 (Ao (Hw x y θ θ) (Ae 7 (Cn [(1,_,.none),(3,_,.none),(4,_,.none),(5,_,.none),(6,_,.none)] [4] ⟨Be (Cz x θ),Be (Cz y θ),Be (Va (decide (y<0)) y.natAbs),Be (Mz (decide (x<0)) x.natAbs (!(decide (y<0))) y.natAbs ω ω),Be (Zl (Nh (decide (x<0)) x.natAbs (!(decide (y<0))) y.natAbs) (Lm (decide (x<0)) x.natAbs (!(decide (y<0))) y.natAbs) ω),trivial⟩ (Ae 2 (Fd (.int ((Dw (Nh (decide (x<0)) x.natAbs (!(decide (y<0))) y.natAbs) (Lm (decide (x<0)) x.natAbs (!(decide (y<0))) y.natAbs)).sign)) (by rw[uE]))))))
theorem qU (x:Int) (hx:Bn x):AF Tryz.prog 137 [WA x] (.lit (.tuple #[Ak (Ha (-x)),.int .i64 (It (-x))])):=by
 have hd:=hx.digits
 refine As func137 rfl λB D0 hA0=>?_
 exact Ae 11 (Ao (Ed x θ) (Ae 9 (Ao (Cz x θ) (Ao (Va (decide (x<0)) x.natAbs) (Ao (Fg (!(decide (x<0))) x.natAbs ω) (Ae 7 (Fd (.lit (.tuple #[Ak (Ha (Dw (!(decide (x<0))) x.natAbs)),.int .i64 (It (Dw (!(decide (x<0))) x.natAbs))])) (by rw[uD]))))))))
theorem Nf (x:Int) (hx:Bn x):AF Tryz.prog 176 [WA x] (.int x.sign):=by
 have hd:=hx.digits
 refine As func176 rfl λB D0 hA0=>?_
 exact Ae 10 (Ao (Ed x θ) (Ae 9 (Ao (Cz x θ) (Ao (Zl (decide (x<0)) x.natAbs ω) (Ae 4 (Fd (.int ((Dw (decide (x<0)) x.natAbs).sign)) (by rw[Ke])))))))
theorem mZ (x:Int) (hx:Bn x):AF Tryz.prog 217 [WA x] (.int (bitLen x.natAbs:Int)):=by
 have hd:=hx.digits
 refine As func217 rfl λB D0 hA0=>?_
 exact Ae 10 (Ao (Ed x θ) (Ae 10 (Ao (Xe x.natAbs (Tm ω)) (Ao (Na x.natAbs ω) (Ae 4 (Cu))))))
theorem Ajo (x y:Int) (hx:Bn x) (hy:Bn y) (hy0:y≠0):AF Tryz.prog 172 [WA x,WA y] (.lit (.tuple #[Ak (x/y),Ak (x%y),.int .i64 0])):=by
 have hd:=hx.digits
 have he:=hy.digits
 have hm0:0<y.natAbs:=by omega
 have hq1:=Lh (decide (x<0)) x.natAbs y.natAbs
 have hq2:=AgY (decide (x<0)) (n:=x.natAbs) hm0
 have hs:=Yz x y hy0
 have hb:((Cj y.natAbs).toList==(⟨#[]⟩:ByteArray).toList)=false:=wW hm0
 refine As func172 rfl λB D0 hA0=>?_
 refine Ae 14 (Ao (Hw x y θ θ) (Ae 11 (Cy (.bool ((Cj y.natAbs).toList==(⟨#[]⟩:ByteArray).toList)) (.bool false) ?_ (congrArg Value.bool hb))))
 exact Ae 6 (Cn [(1,_,.none),(3,_,.none),(4,_,.none)] [4,5,7,8] ⟨Be (Cz x θ),Be (Cz y θ),Be (Iz (decide (x<0)) x.natAbs (decide (y<0)) y.natAbs ω ω ω),trivial⟩ (Ae 4 (Ao (Fg (!decide ((decide (x<0))=(decide (y<0)))) (Et (decide (x<0)) x.natAbs y.natAbs) ω) (Ae 9 (Ao (Fg false (nQ (decide (x<0)) x.natAbs y.natAbs) ω) (Ae 7 (Cn [] [4,5,6] trivial (Ae 2 (Fd (.lit (.tuple #[Ak (Ha (Dw (!decide ((decide (x<0))=(decide (y<0)))) (Et (decide (x<0)) x.natAbs y.natAbs))),Ak (Ha (Dw false (nQ (decide (x<0)) x.natAbs y.natAbs))),.int .i64 0])) (by rw[hs.1,hs.2,Ga (Rt hx),Ga (Akk hy hy0)]))))))))))
theorem Ep (n:Int) (h0: -9223372036854775808<=n) (h1:n<=9223372036854775807):AF Tryz.prog 97 [.int n] (WA n):=by
 have hd1:=Ze n
 have hd2:=Ze (0-((Dp n:Nat):Int))
 refine As func97 rfl λB D0 hA0=>?_
 refine Ae 8 (Cy (.int .u64 (IntKind.wrap .u64 n)) (.int .u64 ((Dp n:Nat):Int)) ?_ (congrArg (Value.int .u64) (Vn n)))
 refine Ae 10 (Hu 9 (n<0) (λhx1 hx1d=>?_) (λhx1 hx1d=>?_))
 ·
  refine Ae 3 (Cy (.int .u64 (IntKind.wrap .u64 (0-((Dp n:Nat):Int)))) (.int .u64 ((Dp (0-((Dp n:Nat):Int)):Nat):Int)) ?_ (congrArg (Value.int .u64) (Vn _)))
  refine Ae 8 (Kf 1 158 1 1 (λ_=> .lit (.int .u64 ((Dp (0-((Dp n:Nat):Int)):Nat):Int))) ?_)
  exact Ct (Dv (Dp (0-((Dp n:Nat):Int)))) (.drop 1) (Gj 120 #[.tmp 16] #[201] κ (λ_ _=>by kernel_rfl) 1 (.vec 158 1 1 (λ_=> .lit (.int .u64 ((Dp (0-((Dp n:Nat):Int)):Nat):Int)))) κ (λ_ _ _ _ h=>by cases h;exact(Ce λ_ _=>rfl)) [.osl 1 1 1] κ [.slc 1 1 (λ_=> .lit (.int .u64 ((Dp (0-((Dp n:Nat):Int)):Nat):Int)))] κ (Dv (Dp (0-((Dp n:Nat):Int)))) (Xh (Dp (0-((Dp n:Nat):Int))) (Zf _))) (Ae 1 (Ao (Fg (decide (n<0)) (Dp (0-((Dp n:Nat):Int))) ω) (Ae 15 (Fd (.lit (Ak (Ha (Dw (decide (n<0)) (Dp (0-((Dp n:Nat):Int))))))) (by rw[Aik h0 (of_decide_eq_true hx1),Ke,Ga (Eg h0 h1)])))))
 ·
  refine Ae 8 (Kf 1 158 1 1 (λ_=> .lit (.int .u64 ((Dp n:Nat):Int))) ?_)
  exact Ct (Dv (Dp n)) (.drop 1) (Gj 120 #[.tmp 16] #[201] κ (λ_ _=>by kernel_rfl) 1 (.vec 158 1 1 (λ_=> .lit (.int .u64 ((Dp n:Nat):Int)))) κ (λ_ _ _ _ h=>by cases h;exact(Ce λ_ _=>rfl)) [.osl 1 1 1] κ [.slc 1 1 (λ_=> .lit (.int .u64 ((Dp n:Nat):Int)))] κ (Dv (Dp n)) (Xh (Dp n) (Zf _))) (Ae 1 (Ao (Fg (decide (n<0)) (Dp n) ω) (Ae 15 (Fd (.lit (Ak (Ha (Dw (decide (n<0)) (Dp n))))) (by rw[Ail h1 (of_decide_eq_false hx1),Ke,Ga (Eg h0 h1)])))))
theorem qS (z:Int) (h:Bn z):AF Tryz.prog 189 [WA z] (.lit (.tuple #[.int .i64 (iR z),.int .i64 (iE z)])):=by
 have hd:=h.digits
 have k0:=@Zz z.natAbs
 have k1:=@Ac6 z.natAbs
 have k2:=@Ac7 z.natAbs
 refine As func189 rfl λB D0 hA0=>?_
 refine Ae 11 (Ao (Ed z h) (Ae 9 (Ao (Cz z h) (Ae 15 (Hu 10 (((Al z.natAbs).length:Int)=0) (λhx1 hx1d=>?_) (λhx1 hx1d=>?_))))))
 ·
  exact Ae 10 (Fd (.lit (.tuple #[.int .i64 0,.int .i64 0])) (by(obtain rfl:z=0:=(ω));rfl))
 ·
  refine Ae 8 (Hu 20 ((1:Int)<((Al z.natAbs).length:Int)) (λhx2 hx2d=>?_) (λhx2 hx2d=>?_))
  ·
   exact Ae 31 (Fd (.lit (.tuple #[.int .i64 0,.int .i64 3])) (by unfold iR iE;rw[if_neg (λg=>by omega),if_neg (λg=>by omega)]))
  ·
   refine Ae 4 (pU 24 (z<0) (λhx3 hx3d=>?_) (λhx3 hx3d=>?_))
   ·
    refine Ae 10 (Hk 0 ((Al z.natAbs).length) (Ae 6 (Hu 15 ((9223372036854775808:Int)<((dg (Al z.natAbs) 0:Nat):Int)) (λhx4 hx4d=>?_) (λhx4 hx4d=>?_))))
    ·
     exact Ae 10 (Fd (.lit (.tuple #[.int .i64 0,.int .i64 3])) (by unfold iR iE;rw[if_neg (λg=>by omega),if_neg (λg=>by omega)]))
    ·
     refine Ae 8 (Jk 39 (decide (z<0)) true hx3 (Ae 5 (Hk 0 ((Al z.natAbs).length) (Ae 1 (Cy (.int .u64 (IntKind.wrap .u64 (0-((dg (Al z.natAbs) 0:Nat):Int)))) (.int .u64 (18446744073709551616-((dg (Al z.natAbs) 0:Nat):Int))) ?_ (congrArg (Value.int .u64) (show (0-((dg (Al z.natAbs) 0:Nat):Int))%18446744073709551616=_ by omega)))))))
     refine Cy (.int .i64 (IntKind.wrap .i64 (18446744073709551616-((dg (Al z.natAbs) 0:Nat):Int)))) (.int .i64 z) ?_ (congrArg (Value.int .i64) (by simp[IntKind.wrap,IntKind.bits,IntKind.signed];omega))
     exact Ae 7 (Fd (.lit (.tuple #[.int .i64 z,.int .i64 0])) (by unfold iR iE;rw[if_pos ⟨ω,ω⟩,if_pos ⟨ω,ω⟩]))
   ·
    refine Ae 2 (Hk 0 ((Al z.natAbs).length) (Ae 5 (Hu 32 ((9223372036854775808:Int)<=((dg (Al z.natAbs) 0:Nat):Int)) (λhx5 hx5d=>?_) (λhx5 hx5d=>?_))))
    ·
     exact Ae 19 (Fd (.lit (.tuple #[.int .i64 0,.int .i64 3])) (by unfold iR iE;rw[if_neg (λg=>by omega),if_neg (λg=>by omega)]))
    ·
     refine Ae 2 (Hk 0 ((Al z.natAbs).length) (Ae 6 (Hu 15 ((9223372036854775808:Int)<((dg (Al z.natAbs) 0:Nat):Int)) (λhx6 hx6d=>?_) (λhx6 hx6d=>?_))))
     ·
      exact Ae 10 (Fd (.lit (.tuple #[.int .i64 0,.int .i64 3])) (by unfold iR iE;rw[if_neg (λg=>by omega),if_neg (λg=>by omega)]))
     ·
      refine Ae 8 (Jk 39 (decide (z<0)) false hx3 (Ae 8 (Hk 0 ((Al z.natAbs).length) (Ae 1 (Cy (.int .i64 (IntKind.wrap .i64 ((dg (Al z.natAbs) 0:Nat):Int))) (.int .i64 z) ?_ (congrArg (Value.int .i64) (by simp[IntKind.wrap,IntKind.bits,IntKind.signed];omega)))))))
      exact Ae 5 (Fd (.lit (.tuple #[.int .i64 z,.int .i64 0])) (by unfold iR iE;rw[if_pos ⟨ω,ω⟩,if_pos ⟨ω,ω⟩]))
theorem mY (x y:Int) (hx:Bn x) (hy:Bn y) (hz:Bn (x+y)):AF Tryz.prog 148 [WA x,WA y] (.lit (.tuple #[Ak (x+y),.int .i64 0])):=by
 have:=qP x y hx hy
 rwa [Ga hz,Ju hz] at this
theorem cV (x y:Int) (hx:Bn x) (hy:Bn y) (hz:Bn (x*y)):AF Tryz.prog 164 [WA x,WA y] (.lit (.tuple #[Ak (x*y),.int .i64 0])):=by
 have:=qT x y hx hy
 rwa [Ga hz,Ju hz] at this
theorem Ajn (x y:Int) (hx:Bn x) (hy:Bn y):AF Tryz.prog 126 [WA x,WA y] (.lit (.tuple #[Ak (Nat.gcd x.natAbs y.natAbs:Int),.int .i64 0])):=by
 have:=Afn x y hx hy
 rwa [Ga (oG hx hy),Ju (oG hx hy)] at this
theorem aJ {f:FuncId} {args:List AV} {σ:List SC} {r:AV} (h:AF Tryz.prog f args r) (hs:shA σ r=true:=by kernel_rfl):∃r,Fx σ r/\AF Tryz.prog f args r:=⟨_,hs,h⟩
theorem Qi (a b:Rw):AF Tryz.prog 165 [Fr a,Fr b] (.bool (Jh a&&Jh b)):=by
 refine As func165 rfl λB D0 hA0=>?_
 refine Ae 10 (Ao (Gi a) (Ae 1 (vsb 7 (Jh a) (λhx1=>?_) (λhx1=>?_))))
 ·
  exact Ae 1 (Ao (Gi b) (Ae 5 (Fd (.bool (Jh b)) (congrArg AV.bool (by rw[hx1];rfl)))))
 ·
  exact Ae 7 (Fd (.bool false) (congrArg AV.bool (by rw[hx1];rfl)))
theorem Aiz (x y:Int) (hx:Bn x) (hy:Bn y):∃r,Fx [.agg [.b,.s],.one .i] r/\AF Tryz.prog 148 [.lit (Ak x),.lit (Ak y)] r:=aJ (qP x y hx hy)
theorem Aeq (a:Rw) (b:Rw) (h:(Jh a&&Jh b)=false):∃r,Fx [.agg [.b,.s],.one .i] r/\AF Tryz.prog 148 [Fr a,Fr b] r:=by
 refine Au func148 rfl ?_
 exact Ab 13 (gs (Ao (Qi a b) ·) (Ab 3 (iA 9 (!(Jh a&&Jh b)) true (by rw[h];rfl) (Ab 10 (Bb)))))
theorem Aiy (a:Rw) (b:Rw):∃r,Fx [.agg [.b,.s],.one .i] r/\AF Tryz.prog 148 [Fr a,Fr b] r:=by
 cases h:(Jh a&&Jh b) with
 |false=>exact Aeq a b h
 |true=>
  obtain⟨h1,h2⟩:=Bool.and_eq_true_iff.1 h
  obtain⟨x,hx,ex⟩:=Lj h1
  obtain⟨y,hy,ey⟩:=Lj h2
  rw[ex,ey]
  exact Aiz x y hx hy
noncomputable def AnA (a:Rw) (b:Rw):Value:=Kl 148 [.agg [.b,.s],.one .i] [Fr a,Fr b]
theorem qQ (a:Rw) (b:Rw):AF Tryz.prog 148 [Fr a,Fr b] (.lit (Hh [.agg [.b,.s],.one .i] (AnA a b))):=Bi (Aiy a b)
theorem AiH (x y:Int) (hx:Bn x) (hy:Bn y):∃r,Fx [.agg [.b,.s],.one .i] r/\AF Tryz.prog 235 [.lit (Ak x),.lit (Ak y)] r:=aJ (Afs x y hx hy)
theorem Ae0 (a:Rw) (b:Rw) (h:(Jh a&&Jh b)=false):∃r,Fx [.agg [.b,.s],.one .i] r/\AF Tryz.prog 235 [Fr a,Fr b] r:=by
 refine Au func235 rfl ?_
 exact Ab 13 (gs (Ao (Qi a b) ·) (Ab 3 (iA 9 (!(Jh a&&Jh b)) true (by rw[h];rfl) (Ab 10 (Bb)))))
theorem AiG (a:Rw) (b:Rw):∃r,Fx [.agg [.b,.s],.one .i] r/\AF Tryz.prog 235 [Fr a,Fr b] r:=by
 cases h:(Jh a&&Jh b) with
 |false=>exact Ae0 a b h
 |true=>
  obtain⟨h1,h2⟩:=Bool.and_eq_true_iff.1 h
  obtain⟨x,hx,ex⟩:=Lj h1
  obtain⟨y,hy,ey⟩:=Lj h2
  rw[ex,ey]
  exact AiH x y hx hy
noncomputable def AnH (a:Rw) (b:Rw):Value:=Kl 235 [.agg [.b,.s],.one .i] [Fr a,Fr b]
theorem Aft (a:Rw) (b:Rw):AF Tryz.prog 235 [Fr a,Fr b] (.lit (Hh [.agg [.b,.s],.one .i] (AnH a b))):=Bi (AiG a b)
theorem Ai9 (x y:Int) (hx:Bn x) (hy:Bn y):∃r,Fx [.agg [.b,.s],.one .i] r/\AF Tryz.prog 164 [.lit (Ak x),.lit (Ak y)] r:=aJ (qT x y hx hy)
theorem Aev (a:Rw) (b:Rw) (h:(Jh a&&Jh b)=false):∃r,Fx [.agg [.b,.s],.one .i] r/\AF Tryz.prog 164 [Fr a,Fr b] r:=by
 refine Au func164 rfl ?_
 exact Ab 13 (gs (Ao (Qi a b) ·) (Ab 3 (iA 9 (!(Jh a&&Jh b)) true (by rw[h];rfl) (Ab 10 (Bb)))))
theorem Ai8 (a:Rw) (b:Rw):∃r,Fx [.agg [.b,.s],.one .i] r/\AF Tryz.prog 164 [Fr a,Fr b] r:=by
 cases h:(Jh a&&Jh b) with
 |false=>exact Aev a b h
 |true=>
  obtain⟨h1,h2⟩:=Bool.and_eq_true_iff.1 h
  obtain⟨x,hx,ex⟩:=Lj h1
  obtain⟨y,hy,ey⟩:=Lj h2
  rw[ex,ey]
  exact Ai9 x y hx hy
noncomputable def AnF (a:Rw) (b:Rw):Value:=Kl 164 [.agg [.b,.s],.one .i] [Fr a,Fr b]
theorem eD (a:Rw) (b:Rw):AF Tryz.prog 164 [Fr a,Fr b] (.lit (Hh [.agg [.b,.s],.one .i] (AnF a b))):=Bi (Ai8 a b)
theorem Ai2 (x y:Int) (hx:Bn x) (hy:Bn y):∃r,Fx [.one .i] r/\AF Tryz.prog 125 [.lit (Ak x),.lit (Ak y)] r:=aJ (aR x y hx hy)
theorem Aer (a:Rw) (b:Rw) (h:(Jh a&&Jh b)=false):∃r,Fx [.one .i] r/\AF Tryz.prog 125 [Fr a,Fr b] r:=by
 refine Au func125 rfl ?_
 exact Ab 12 (gs (Ao (Qi a b) ·) (Ab 3 (iA 8 (!(Jh a&&Jh b)) true (by rw[h];rfl) (Ab 8 (Bb)))))
theorem Ai1 (a:Rw) (b:Rw):∃r,Fx [.one .i] r/\AF Tryz.prog 125 [Fr a,Fr b] r:=by
 cases h:(Jh a&&Jh b) with
 |false=>exact Aer a b h
 |true=>
  obtain⟨h1,h2⟩:=Bool.and_eq_true_iff.1 h
  obtain⟨x,hx,ex⟩:=Lj h1
  obtain⟨y,hy,ey⟩:=Lj h2
  rw[ex,ey]
  exact Ai2 x y hx hy
noncomputable def AnC (a:Rw) (b:Rw):Value:=Kl 125 [.one .i] [Fr a,Fr b]
theorem Tg (a:Rw) (b:Rw):AF Tryz.prog 125 [Fr a,Fr b] (.lit (Hh [.one .i] (AnC a b))):=Bi (Ai1 a b)
theorem AiB (x:Int) (hx:Bn x):∃r,Fx [.agg [.b,.s],.one .i] r/\AF Tryz.prog 137 [.lit (Ak x)] r:=aJ (qU x hx)
theorem Aew (a:Rw) (h:Jh a=false):∃r,Fx [.agg [.b,.s],.one .i] r/\AF Tryz.prog 137 [Fr a] r:=by
 refine Au func137 rfl ?_
 exact Ab 11 (gs (Ao (Gi a) ·) (Ab 3 (iA 6 (!Jh a) true (by rw[h];rfl) (Ab 10 (Bb)))))
theorem AiA (a:Rw):∃r,Fx [.agg [.b,.s],.one .i] r/\AF Tryz.prog 137 [Fr a] r:=by
 cases h:Jh a with
 |false=>exact Aew a h
 |true=>
  obtain⟨x,hx,ex⟩:=Lj h
  rw[ex]
  exact AiB x hx
noncomputable def AnG (a:Rw):Value:=Kl 137 [.agg [.b,.s],.one .i] [Fr a]
theorem Afr (a:Rw):AF Tryz.prog 137 [Fr a] (.lit (Hh [.agg [.b,.s],.one .i] (AnG a))):=Bi (AiA a)
theorem Ai7 (x:Int) (hx:Bn x):∃r,Fx [.one .i] r/\AF Tryz.prog 217 [.lit (Ak x)] r:=aJ (mZ x hx)
theorem Aeu (a:Rw) (h:Jh a=false):∃r,Fx [.one .i] r/\AF Tryz.prog 217 [Fr a] r:=by
 refine Au func217 rfl ?_
 exact Ab 10 (gs (Ao (Gi a) ·) (Ab 3 (iA 5 (!Jh a) true (by rw[h];rfl) (Ab 8 (Bb)))))
theorem Ai6 (a:Rw):∃r,Fx [.one .i] r/\AF Tryz.prog 217 [Fr a] r:=by
 cases h:Jh a with
 |false=>exact Aeu a h
 |true=>
  obtain⟨x,hx,ex⟩:=Lj h
  rw[ex]
  exact Ai7 x hx
noncomputable def AnE (a:Rw):Value:=Kl 217 [.one .i] [Fr a]
theorem Afp (a:Rw):AF Tryz.prog 217 [Fr a] (.lit (Hh [.one .i] (AnE a))):=Bi (Ai6 a)
theorem Alv (n:Int):∃r,Fx [.agg [.b,.s]] r/\AF Tryz.prog 97 [.int n] r:=by
 have hd1:=Ze n
 have hd2:=Ze (0-((Dp n:Nat):Int))
 refine Au func97 rfl ?_
 refine Ab 8 (gs (λh9=>Cy (.int .u64 (IntKind.wrap .u64 n)) (.int .u64 ((Dp n:Nat):Int)) h9 (congrArg (Value.int .u64) (Vn n))) (Ab 10 (Eu 9 ?_ ?_)))
 exact Ab 3 (gs (λh9=>Cy (.int .u64 (IntKind.wrap .u64 (0-((Dp n:Nat):Int)))) (.int .u64 ((Dp (0-((Dp n:Nat):Int)):Nat):Int)) h9 (congrArg (Value.int .u64) (Vn _))) (Ab 8 (gs (Kf 1 158 1 1 (λ_=> .lit (.int .u64 ((Dp (0-((Dp n:Nat):Int)):Nat):Int))) ·) (gs (Ct (Dv (Dp (0-((Dp n:Nat):Int)))) (.drop 1) (Gj 120 #[.tmp 16] #[201] κ (λ_ _=>by kernel_rfl) 1 (.vec 158 1 1 (λ_=> .lit (.int .u64 ((Dp (0-((Dp n:Nat):Int)):Nat):Int)))) κ (λ_ _ _ _ h=>by cases h;exact(Ce λ_ _=>rfl)) [.osl 1 1 1] κ [.slc 1 1 (λ_=> .lit (.int .u64 ((Dp (0-((Dp n:Nat):Int)):Nat):Int)))] κ (Dv (Dp (0-((Dp n:Nat):Int)))) (Xh (Dp (0-((Dp n:Nat):Int))) (Zf _))) ·) (Ab 1 (Dx (Nb (decide (n<0)) (Dp (0-((Dp n:Nat):Int))) ω) λv1 hv1=>(gs (Ao hv1 ·) (Ab 15 (Bb)))))))))
 exact Ab 8 (gs (Kf 1 158 1 1 (λ_=> .lit (.int .u64 ((Dp n:Nat):Int))) ·) (gs (Ct (Dv (Dp n)) (.drop 1) (Gj 120 #[.tmp 16] #[201] κ (λ_ _=>by kernel_rfl) 1 (.vec 158 1 1 (λ_=> .lit (.int .u64 ((Dp n:Nat):Int)))) κ (λ_ _ _ _ h=>by cases h;exact(Ce λ_ _=>rfl)) [.osl 1 1 1] κ [.slc 1 1 (λ_=> .lit (.int .u64 ((Dp n:Nat):Int)))] κ (Dv (Dp n)) (Xh (Dp n) (Zf _))) ·) (Ab 1 (Dx (Nb (decide (n<0)) (Dp n) ω) λv2 hv2=>(gs (Ao hv2 ·) (Ab 15 (Bb)))))))
noncomputable def AoX (n:Int):Value:=Kl 97 [.agg [.b,.s]] [.int n]
theorem Lz (n:Int):AF Tryz.prog 97 [.int n] (.lit (Hh [.agg [.b,.s]] (AoX n))):=Bi (Alv n)
theorem cS (x y:Int) (hx:Bn x) (hy:Bn y) (hz:Bn (x+y)):AF Tryz.prog 124 [WA x,WA y] (WA (x+y)):=by
 refine As func124 rfl λB D0 hA0=>?_
 exact Ae 11 (Ao (mY x y hx hy hz) (Ae 15 (Cu)))
theorem Ly (x y:Int) (hx:Bn x) (hy:Bn y) (hz:Bn (x*y)):AF Tryz.prog 123 [WA x,WA y] (WA (x*y)):=by
 refine As func123 rfl λB D0 hA0=>?_
 exact Ae 11 (Ao (cV x y hx hy hz) (Ae 15 (Cu)))
theorem cT (x y:Int) (hx:Bn x) (hy:Bn y):AF Tryz.prog 100 [WA x,WA y] (WA (Nat.gcd x.natAbs y.natAbs:Int)):=by
 refine As func100 rfl λB D0 hA0=>?_
 exact Ae 11 (Ao (Ajn x y hx hy) (Ae 15 (Cu)))
theorem cU (x y:Int) (hx:Bn x) (hy:Bn y) (h0:y≠0):AF Tryz.prog 128 [WA x,WA y] (WA (x/y)):=by
 refine As func128 rfl λB D0 hA0=>?_
 exact Ae 11 (Ao (Ajo x y hx hy h0) (Ae 18 (Cu)))
theorem Nc (n:Int) (k:Nat) (h0: -9223372036854775808<=n) (h1:n<=9223372036854775807) (hk:k<=1000) (hf:∀j,j<=k->Bn (n^j)):AF Tryz.prog 127 [.int n,.int (k:Int)] (WA (n^k)):=by
 refine As func127 rfl λB D0 hA0=>?_
 refine Ae 7 (Ao (Ep 1 δ δ) (Ae 12 (vlp [0,4,5,7,8] (λm s=>∃(i:Nat) (z:Int),m=k-i/\(z=n^i/\i<=k)/\s=⟨[(0,.int n),(4,.ptr 0 0),(5,.ptr 1 0),(7,.int (k:Int)),(8,.int (i:Int))],[(0,.box 169 [.bool false,.lit (.string ⟨#[]⟩)]),(1,.box 169 [.bool (decide (z<0)),.lit (.string (Cj (z).natAbs))])],2,16⟩) (k-0) ⟨0,1,rfl,⟨(Int.pow_zero n).symm,Nat.zero_le _⟩,κ⟩ ?_)))
 rintro _ _ ⟨i,z,rfl,hF,rfl⟩ J1 hJ1
 refine Ae 6 (Hu 9 ((i:Int)<(k:Int)) (λhx1 hx1d=>?_) (λhx1 hx1d=>?_))
 ·
  exact Ae 5 (Cn [(2,_,.none),(3,_,.none)] [0,4,5,7,8] ⟨Be (Ep n h0 h1),Be (Ly z n (by rw[hF.1];exact hf i ω) (Eg h0 h1) (by rw[hF.1,<-Int.pow_succ];exact hf (i+1) ω)),trivial⟩ (Ae 3 (Db ((i:Int)+1) ((i+1:Nat):Int) (Ae 2 (vD [0,4,5,7,8] (hJ1 _ _ (by omega:k-(i+1)<k-i) ⟨i+1,z*n,rfl,⟨by rw[hF.1,<-Int.pow_succ],ω⟩,rfl⟩))))))
 ·
  exact Ae 13 (Fd (.lit (Ak z)) (by rw[hF.1,show i=k by omega]))
theorem AhP (x y:Int) (w:World) (hx:Bn x) (hy:Bn y) (hr:Bn (x+y)):Calls Tryz.prog 124 #[Ak x,Ak y] w λe w'=>e= .returned (Ak (x+y))/\Below w.heap.size w w':=(cS x y hx hy hr).lits (l:=[_,_]) w
theorem uH (x y:Int) (w:World) (hx:Bn x) (hy:Bn y) (hr:Bn (x*y)):Calls Tryz.prog 123 #[Ak x,Ak y] w λe w'=>e= .returned (Ak (x*y))/\Below w.heap.size w w':=(Ly x y hx hy hr).lits (l:=[_,_]) w
theorem AhV (x y:Int) (w:World) (hx:Bn x) (hy:Bn y):Calls Tryz.prog 100 #[Ak x,Ak y] w λe w'=>e= .returned (Ak (Nat.gcd x.natAbs y.natAbs:Int))/\Below w.heap.size w w':=(cT x y hx hy).lits (l:=[_,_]) w
theorem Ss (n:Int) (w:World) (h0: -9223372036854775808<=n) (h1:n<=9223372036854775807):Calls Tryz.prog 97 #[.int .i64 n] w λe w'=>e= .returned (Ak n)/\Below w.heap.size w w':=(Ep n h0 h1).lits (l:=[_]) w
theorem pV (x y:Int) (w:World) (hx:Bn x) (hy:Bn y):Calls Tryz.prog 125 #[Ak x,Ak y] w λe w'=>e= .returned (.int .i64 (x-y).sign)/\Below w.heap.size w w':=(aR x y hx hy).lits (l:=[_,_]) w
theorem Abt (w:World) (o o':Obj):((w.alloc o).alloc o').heap[w.heap.size]?=some o/\((w.alloc o).alloc o').heap[w.heap.size+1]?=some o':=by
 constructor
 show ((w.heap.push o).push o')[w.heap.size]?=some o
 simp[Array.getElem?_push]
 have:=heap_alloc_new (w.alloc o) o'
 rwa [World.size_alloc] at this
theorem Below.store2 {B:Nat} {a w:World} {b:Nat} (h:Below B a w) (hb:B<=b) (u0 u1:Value):Below B a ((w.setCell ⟨b,0,none⟩ u0).setCell ⟨b,1,none⟩ u1):=(h.setCell (p:=⟨b,0,none⟩) hb u0).setCell (p:=⟨b,1,none⟩) hb u1
theorem kN {w:World} {b:Nat} {x0 x1:Value} {t:TypeId} {fz:Nat×Nat} (h:w.heap[b]?=some (.cells #[x0,x1] t fz)):w.cell? ⟨b,0,none⟩=some x0/\w.cell? ⟨b,1,none⟩=some x1:=by
 constructor<;>simp[World.cell?,h]
theorem Ag9 {w:World} {b:Nat} {x0 x1:Value} {t:TypeId} (h:w.heap[b]?=some (.cells #[x0,x1] t (0,0))) (i:Nat):w.frozen? ⟨b,i,none⟩=false:=by simp[World.frozen?,h]
theorem Si {w:World} {b:Nat} (u0 u1:Value) {k:Nat} (hk:k≠b):((w.setCell ⟨b,0,none⟩ u0).setCell ⟨b,1,none⟩ u1).heap[k]?=w.heap[k]?:=by
 rw[Below.heap_setCell _ ⟨b,1,none⟩ _ _ hk,Below.heap_setCell _ ⟨b,0,none⟩ _ _ hk]
theorem AdX {w:World} {b:Nat} {x0 x1:Value} {t:TypeId} {fz:Nat×Nat} (hb:w.heap[b]?=some (.cells #[x0,x1] t fz)) (u0 u1:Value):((w.setCell ⟨b,0,none⟩ u0).setCell ⟨b,1,none⟩ u1).heap[b]?=some (.cells #[u0,u1] t fz):=by
 simp[World.setCell,Array.getElem?_modify,hb]
theorem xA {w:World} {b:Nat} {x0 x1:Value} {t:TypeId} {fz:Nat×Nat} (h:w.heap[b]?=some (.cells #[x0,x1] t fz)):∀j u,[x0,x1][j]?=some u->w.cell? ⟨b,0+j,none⟩=some u:=by
 intro j u hu
 rw[Nat.zero_add]
 match j with
 |0=>simp at hu;subst hu;exact(kN h).1
 |1=>simp at hu;subst hu;exact(kN h).2
 |j+2=>simp at hu
def Ma (w:World) (b:Nat) (z:Int):Prop:=w.heap[b]?=some (.cells #[.bool (decide (z<0)),.string (Cj z.natAbs)] 169 (0,0))
theorem Ma.cells {w:World} {b:Nat} {z:Int} (h:Ma w b z):w.cell? ⟨b,0,none⟩=some (.bool (decide (z<0)))/\w.cell? ⟨b,1,none⟩=some (.string (Cj z.natAbs)):=kN h
theorem Ma.lt {w:World} {b:Nat} {z:Int} (h:Ma w b z):b<w.heap.size:=(Ξ h).1
theorem Ma.up {w w':World} {b B:Nat} {z:Int} (h:Ma w b z) (hb:Below B w w') (hl:b<B):Ma w' b z:=(hb.block b hl).trans h
theorem Ma.store {w:World} {b:Nat} {z:Int} (h:Ma w b z) (y:Int):Ma ((w.setCell ⟨b,0,none⟩ (.bool (decide (y<0)))).setCell ⟨b,1,none⟩ (.string (Cj y.natAbs))) b y:=AdX h _ _
theorem Ma.new (w:World) (z:Int):Ma (w.alloc (.cells #[.bool (decide (z<0)),.string (Cj z.natAbs)] 169)) w.heap.size z:=heap_alloc_new w _
def Dc:Nat->Nat->Nat
 |_,0=>1
 |0,_+1=>0
 |n+1,k+1=>Dc n k+Dc n (k+1)
def Sy (n k:Nat):List Int:=(List.range 36).map λi=>if i/6<n\/(i/6=n/\i%6<k) then (Dc (i/6) (i%6):Int) else 0
theorem Fl (n k:Nat):(Sy n k).length=36:=by simp[Sy]
theorem kO:Sy 0 0=List.replicate 36 0:=by decide
theorem Aa3:∀n,n<6->∀k,k<6->(Sy n k).set (n*6+k) (Dc n k)=Sy n (k+1):=by decide
theorem Aa2:∀n,n<6->∀k,k<6->∀m,m<n->∀j,j<6->(Sy n k).getD (m*6+j) 0=Dc m j:=by decide
theorem AjE (n:Nat) (h:n<6):∀d,n+1+d=6->Sy n (n+1)=Sy (n+1) 0:=by
 intro d hd
 have:∀n,n<6->Sy n (n+1)=Sy (n+1) 0:=by decide
 exact this n h
def Hd (w:World) (b:Nat) (t:TypeId) (l:List Int):Prop:=w.heap[b]?=some (.cells (Dk l).toArray t (0,0))
theorem Hd.cell {w:World} {b:Nat} {t:TypeId} {l:List Int} (h:Hd w b t l) {i:Nat} (hi:i<l.length):w.cell? ⟨b,i,none⟩=some (.int .i64 (l.getD i 0)):=by
 simp[World.cell?,show w.heap[b]?=_ from h,Dk,hi]
theorem Hd.frozen {w:World} {b:Nat} {t:TypeId} {l:List Int} (h:Hd w b t l) (i:Nat):w.frozen? ⟨b,i,none⟩=false:=by
 simp[World.frozen?,show w.heap[b]?=_ from h]
theorem Hd.set {w:World} {b:Nat} {t:TypeId} {l:List Int} (h:Hd w b t l) (i:Nat) (x:Int):Hd (w.setCell ⟨b,i,none⟩ (.int .i64 x)) b t (l.set i x):=by
 unfold Hd at*
 simp[World.setCell,Array.getElem?_modify,h,Dk,List.map_set]
theorem Hd.other {w:World} {b:Nat} {t:TypeId} {l:List Int} (h:Hd w b t l) (p:Addr) (u:Value) (hp:b≠p.block):Hd (w.setCell p u) b t l:=(Below.heap_setCell w p u b hp).trans h
theorem Yx {P:Program} {T:TypeId} {b o:Nat} (cs:List Value) (w:World) (hT:(isAgg T).run P w= .ok true w) (hn:(sizeOf T).run P w= .ok cs.length w) (hc:∀j u,cs[j]?=some u->w.cell? ⟨b,o+j,none⟩=some u):
  (loadVar T ⟨b,o,none⟩).run P w= .ok (.agg cs.toArray) w:=by
 have:=Sf (P:=P) (w:=w) (b:=b) (o:=o) cs 0 #[] (λj u hu=>by rw[Nat.zero_add];exact hc j u hu)
 simp[loadVar,hT,hn,loadCells,this]
theorem zK {P:Program} {T:TypeId} {b:Nat} (cs:List Value) (w:World) (hn:(sizeOf T).run P w= .ok cs.length w) (hc:∀j,j<cs.length->(w.cell? ⟨b,j,none⟩).isSome=true) (hf:∀j,j<cs.length->w.frozen? ⟨b,j,none⟩=false) (h1:∀v∈cs,v.oneCell'=true):
  (Instr.storeAt T (.pointer (some ⟨b,0,none⟩)) (.agg cs.toArray)).run P w= .ok () (w.setCells b 0 cs):=by
 have hs:=run_storeCells_cells (P:=P) b 0 cs 0 w (by simpa using hc) (by simpa using hf) h1
 simp[Instr.storeAt,Instr.sureAddr,storeVar,hn,Value.cells,hs]
theorem cL {P:Program} {w:World} {ops:Array Oper} {rest:List Oper} {o:Oper} {a:Act} {Q:Exit->Act->World->Prop} (hgd:o.guard=none) (T:TypeId) (x:Operand) (ho:o.op= .load T x) (b:Nat) (cs:List Value) (hx:a.eval x= .pointer (some ⟨b,0,none⟩))
  (hT:(isAgg T).run P w= .ok true w) (hn:(sizeOf T).run P w= .ok cs.length w) (hc:∀j u,cs[j]?=some u->w.cell? ⟨b,0+j,none⟩=some u) (h:wpList P ops Q rest (a.put o.dst (.agg cs.toArray)) w):wpList P ops Q (o::rest) a w:=by
 refine wpList_plain hgd λK hK=>?_
 have hrun:=Hn (P:=P) (T:=T) (b:=b) (o:=0) cs w hT hn hc
 unfold Oper.wp
 simp[execOp,ho,hx,hrun,Result.andThen]
 exact hK _ _ h
theorem Ra {P:Program} {w:World} {ops:Array Oper} {rest:List Oper} {o:Oper} {a:Act} {Q:Exit->Act->World->Prop} (hgd:o.guard=none) (hd:o.dst=none) (T:TypeId) (x y:Operand) (ho:o.op= .store T x y) (b:Nat) (cs:List Value) (hx:a.eval x= .pointer (some ⟨b,0,none⟩)) (hy:a.eval y= .agg cs.toArray)
  (hn:(sizeOf T).run P w= .ok cs.length w) (hc:∀j,j<cs.length->(w.cell? ⟨b,j,none⟩).isSome=true) (hf:∀j,j<cs.length->w.frozen? ⟨b,j,none⟩=false) (h1:∀v∈cs,v.oneCell'=true) (h:wpList P ops Q rest a (w.setCells b 0 cs)):wpList P ops Q (o::rest) a w:=by
 refine wpList_plain hgd λK hK=>?_
 have hrun:=zK (P:=P) (T:=T) (b:=b) cs w hn hc hf h1
 unfold Oper.wp
 simp[execOp,ho,hx,hy,hrun,Result.andThen]
 have e:a.put o.dst undef=a:=by rw[hd];rfl
 have h2:=hK _ _ h
 rw[<-e] at h2
 exact h2
theorem Hd.load {w:World} {b:Nat} {t:TypeId} {l:List Int} (h:Hd w b t l):∀j u,(Dk l)[j]?=some u->w.cell? ⟨b,0+j,none⟩=some u:=λj u hu=>by
 rw[Nat.zero_add]
 simp only[World.cell?,show w.heap[b]?=_ from h]
 simpa using hu
theorem sR (l:List Int):∀v∈Dk l,v.oneCell'=true:=by
 intro v hv
 obtain⟨x,_,rfl⟩:=List.mem_map.1 hv
 rfl
theorem Zc (w:World):(sizeOf 207).run Tryz.prog w= .ok (Dk (Sy 6 0)).length w:=κ
theorem Abq (w:World):(isAgg 207).run Tryz.prog w= .ok true w:=κ
structure ChJ (w:World) (n k:Nat) (wr:World):Prop where
 tab:Hd wr (w.heap.size+1) 207 (Sy n k)
 res:Hd wr w.heap.size 207 (Sy 0 0)
 below:Below w.heap.size w wr
def Alf:Value:= .agg (Dk (Sy 6 0)).toArray
theorem rO (w:World):Calls Tryz.prog 122 #[] w λe w'=>e= .returned Alf/\Below w.heap.size w w':=by
 go_enter func122,ntmps122
 go_upto_region 2 with fail
 obtain⟨W,hW⟩:∃W,W=(w.alloc (.cells (Dk (Sy 0 0)).toArray 207)).alloc (.cells (Dk (Sy 0 0)).toArray 207):=⟨_,rfl⟩
 have h2:=Abt w (.cells (Dk (Sy 0 0)).toArray 207) (.cells (Dk (Sy 0 0)).toArray 207)
 rw[<-hW] at h2
 have HJ0:Hid (ChJ w 0 0 W):=⟨h2.2,h2.1,by rw[hW];exact((Below.refl _ _).alloc ζ _).alloc (by simp) _⟩
 have hlit:((Dk (Sy 0 0)).toArray:Array Value)=#[.int .i64 0,.int .i64 0,.int .i64 0,.int .i64 0,.int .i64 0,.int .i64 0,.int .i64 0,.int .i64 0,.int .i64 0,.int .i64 0,.int .i64 0,.int .i64 0,.int .i64 0,.int .i64 0,.int .i64 0,.int .i64 0,.int .i64 0,.int .i64 0,.int .i64 0,.int .i64 0,.int .i64 0,.int .i64 0,.int .i64 0,.int .i64 0,.int .i64 0,.int .i64 0,.int .i64 0,.int .i64 0,.int .i64 0,.int .i64 0,.int .i64 0,.int .i64 0,.int .i64 0,.int .i64 0,.int .i64 0,.int .i64 0]:=by rw[kO];rfl
 rw[hlit] at hW
 rw[<-hW]
 clear hW h2 hlit
 go_wp2_with fail
 go_loopw [2,3,4] (λ_ _ iv wr=>∃n:Nat,n<=6/\iv= .int .i64 (n:Int)/\Hid (ChJ w n 0 wr)) (λ_ _ iv _=>6-(intOf iv).toNat)
 case atStart=>exact⟨0,ω,rfl,HJ0⟩
 case round=>
  obtain⟨n,hn,rfl,HJ⟩:=hrel
  clear HJ0
  by_cases hn6:n=6
  ·
   subst hn6
   have HT:=Lib.hid HJ.out.tab
   have HR:=Lib.hid HJ.out.res
   have HBW:=Lib.hid HJ.out.below
   clear HJ
   go_wp2_with (first
    |(refine cL rfl 207 (.tmp 1) rfl (w.heap.size+1) (Dk (Sy 6 0)) rfl (Abq _) (Zc _) HT.out.load ?_)
    |(refine Ra rfl rfl 207 (.tmp 0) (.tmp 34) rfl w.heap.size (Dk (Sy 6 0)) rfl rfl (Zc _) ?_ ?_ (sR _) ?_))
   ·
    intro j hj
    rw[HR.out.cell (by simpa [Dk,Fl] using hj)];rfl
   · intro j _;exact HR.out.frozen j
   ·
    have hcell:∀j u,(Dk (Sy 6 0))[j]?=some u->(wr.setCells w.heap.size 0 (Dk (Sy 6 0))).cell? ⟨w.heap.size,0+j,none⟩=some u:=by
     intro j u hu
     have hj:=(List.getElem?_eq_some_iff.1 hu).1
     have:=World.cell?_setCells_in w.heap.size (Dk (Sy 6 0)) 0 wr (λj hj=>by rw[Nat.zero_add,HR.out.cell (by simpa [Dk,Fl] using hj)];rfl) j hj
     rw[this,<-hu,List.getElem?_eq_getElem hj]
    have hl:=Yx (P:=Tryz.prog) (T:=207) (b:=w.heap.size) (o:=0) (Dk (Sy 6 0)) _ (Abq _) (Zc _) hcell
    refine bodyPost_ret (v:=Alf) (by simp[results,results122,Act.put,asAddr,hl,Alf]) rfl ?_
    exact⟨rfl,Fk ζ _ _ HBW.out⟩
  ·
   have hnl:n<6:=by omega
   have hni:(n:Int)<6:=by omega
   have c0:=HJ.out.tab.cell (i:=n*6) (by rw[Fl];omega)
   have f0:=HJ.out.tab.frozen (n*6)
   have HJ1:Hid (ChJ w n 1 (wr.setCell ⟨w.heap.size+1,n*6,none⟩ (.int .i64 1))):=by
    refine⟨?_,HJ.out.res.other _ _ (by show w.heap.size≠w.heap.size+1;omega),HJ.out.below.setCell (by show w.heap.size<=w.heap.size+1;omega) _⟩
    have:=HJ.out.tab.set (n*6) 1
    have h3:=Aa3 n hnl 0 ω
    rw[Nat.add_zero,show ((Dc n 0:Nat):Int)=1 by cases n<;>rfl] at h3
    rw[h3] at this
    exact this
   generalize (Sy n 0).getD (n*6) 0=z at*
   go_wp2_with fail
   clear HJ c0 f0
   go_loopw [3] (λkv wr=>∃k:Nat,1<=k/\k<=n+1/\kv= .int .i64 (k:Int)/\Hid (ChJ w n k wr)) (λkv _=>n+1-(intOf kv).toNat)
   case atStart=>exact⟨1,ω,ω,rfl,HJ1⟩
   case round=>
    obtain⟨k,hk1,hkn,rfl,HJ⟩:=hrel
    clear HJ1
    by_cases hkk:k=n+1
    ·
     subst hkk
     have HNX:Hid (ChJ w (n+1) 0 wr):=by
      have h1:=HJ.out
      refine⟨?_,h1.res,h1.below⟩
      rw[<-AjE n hnl (5-n) ω];exact h1.tab
     have hle:¬((n:Int)+1)<=(n:Int):=by omega
     clear HJ
     go_wp2_with fail
     exact⟨⟨n+1,ω,rfl,HNX⟩,by simp only[intOf];omega⟩
    ·
     have hkl:k<=n:=by omega
     have hki:(k:Int)<=(n:Int):=by omega
     obtain⟨m,hm⟩:∃m,n=m+1:=⟨n-1,ω⟩
     obtain⟨j,hj⟩:∃j,k=j+1:=⟨k-1,ω⟩
     have hmw:IntKind.i64.wrap ((n:Int)-1)=(m:Int):=by rw[IntWalk.i64_in _ ω];omega
     have hjw:IntKind.i64.wrap ((k:Int)-1)=(j:Int):=by rw[IntWalk.i64_in _ ω];omega
     have hmi:(m:Int)<6:=by omega
     have hji:(j:Int)<6:=by omega
     have hki6:(k:Int)<6:=by omega
     have ga:wr.cell? ⟨w.heap.size+1,m*6+j,none⟩=some (.int .i64 (Dc m j:Int)):=by
      rw[HJ.out.tab.cell (by rw[Fl];omega),Aa2 n hnl k ω m ω j ω]
     have gb:wr.cell? ⟨w.heap.size+1,m*6+k,none⟩=some (.int .i64 (Dc m k:Int)):=by
      rw[HJ.out.tab.cell (by rw[Fl];omega),Aa2 n hnl k ω m ω k ω]
     have gc:=HJ.out.tab.cell (i:=n*6+k) (by rw[Fl];omega)
     have gf:=HJ.out.tab.frozen (n*6+k)
     have HNX:Hid (ChJ w n (k+1) (wr.setCell ⟨w.heap.size+1,n*6+k,none⟩ (.int .i64 (Dc n k:Int))).drew):=by
      refine⟨?_,(HJ.out.res.other _ _ (by show w.heap.size≠w.heap.size+1;omega):Hd _ _ _ _),(HJ.out.below.setCell (by show w.heap.size<=w.heap.size+1;omega) _).drew⟩
      have:=HJ.out.tab.set (n*6+k) (Dc n k:Int)
      rw[Aa3 n hnl k ω] at this
      exact this
     have hsum:IntKind.i64.wrap ((Dc m j:Int)+(Dc m k:Int))=(Dc n k:Int):=by
      have hb:∀m,m<6->∀j,j<6->Dc m j<=100:=by decide
      have h1:=hb m ω j ω
      have h2:=hb m ω k ω
      rw[IntWalk.i64_in _ ω,hm,hj];rfl
     have hk6:k<6:=by omega
     have hm6:m<6:=by omega
     have hj6:j<6:=by omega
     clear hm hj
     generalize (Sy n k).getD (n*6+k) 0=zz at*
     generalize Dc m j=ca at*
     generalize Dc m k=cb at*
     generalize Dc n k=cc at*
     clear HJ
     go_wp2_with fail
     go_region
     obtain⟨w3,hw3⟩:∃w3,w3=(wr.setCell ⟨w.heap.size+1,n*6+k,none⟩ (.int .i64 (cc:Int))).drew:=⟨_,rfl⟩
     rw[<-hw3] at HNX ⊢
     clear hw3 ga gb gc gf
     go_wp2_with fail
     exact⟨⟨k+1,ω,ω,rfl,HNX⟩,by simp only[intOf];omega⟩
theorem Aj0 (w:World):(sizeOf 171).run Tryz.prog w= .ok 3 w:=κ
theorem Ama (w:World):(isAgg 171).run Tryz.prog w= .ok true w:=κ
theorem AfH (f t o:Int) (Ax Ay Az:Option Addr) (nx cx ny cy nz cz:Nat) (w:World):
  Calls Tryz.prog 98 #[.agg #[.int .i64 f,.int .i64 t,.int .i64 o,.slice Ax nx cx,.slice Ay ny cy,.slice Az nz cz]] w λe w'=>e= .returned (.agg #[.slice Ax nx cx,.slice Ay ny cy,.slice Az nz cz])/\Below w.heap.size w w':=by
 go_enter func98,ntmps98
 go_upto_region 1 with fail
 go_wp2_with fail
 obtain⟨V,hV⟩:∃V,V=(w.alloc (.cells #[.int .i64 f,.int .i64 t,.int .i64 o,.slice Ax nx cx,.slice Ay ny cy,.slice Az nz cz] 110)).alloc (.cells #[.slice Ax nx cx,.slice Ay ny cy,.slice Az nz cz] 171):=⟨_,rfl⟩
 have h2:=(Abt w (.cells #[.int .i64 f,.int .i64 t,.int .i64 o,.slice Ax nx cx,.slice Ay ny cy,.slice Az nz cz] 110) (.cells #[.slice Ax nx cx,.slice Ay ny cy,.slice Az nz cz] 171)).2
 rw[<-hV] at h2
 have hb:Below w.heap.size w V:=by rw[hV];exact((Below.refl _ _).alloc ζ _).alloc (by simp) _
 rw[<-hV]
 clear hV
 have hl:=Yx (P:=Tryz.prog) (T:=171) (b:=w.heap.size+1) (o:=0) [.slice Ax nx cx,.slice Ay ny cy,.slice Az nz cz] V (Ama V) (Aj0 V) (λj u hu=>by
  rw[Nat.zero_add]
  simp only[World.cell?,h2]
  simpa using hu)
 exact bodyPost_ret (v:= .agg #[.slice Ax nx cx,.slice Ay ny cy,.slice Az nz cz]) (by simp[results,results98,asAddr,hl]) rfl ⟨rfl,hb⟩
abbrev Aw (l:List Int):AV:= .sl 1 l.length λi=> .int (l.getD i 0)
abbrev Lk (s:Sg):AV:= .agg [.int s.f,.int s.t,.int s.o,Aw s.x,Aw s.y,Aw s.z]
theorem AiU (s:Sg):AF Tryz.prog 98 [Lk s] (.agg [Aw s.x,Aw s.y,Aw s.z]):=by
 refine As func98 rfl λB D0 hA0=>?_
 exact Ae 19 (Cu)
def Rv (n j k:Nat):Nat:=60/Dc n k*Dc j k
def Mk (l:List Int) (j:Nat):Nat->Int
 |0=>0
 |k+1=>Mk l j k+l.getD k 0*(Rv (l.length-1) j k:Int)
def Zn (l:List Int) (o:Int) (n:Nat):Prop:=∀j,j<n->((Mk l j (j+1)).natAbs:Int)<=62914560*o
theorem xR:∀n,n<6->∀j,j<6->∀k,k<6->Rv n j k<=600:=by decide
theorem xB:∀n,n<6->∀k,k<=n->1<=Dc n k/\Dc n k<=10:=by
 intro n hn k hk
 have:∀n,n<6->∀k,k<6->k<=n->1<=Dc n k/\Dc n k<=10:=by decide
 exact this n hn k ω hk
theorem Acm:∀n,n<6->∀k,k<6->Dc n k<=10:=by decide
theorem Zv {z:Int} (h:z.natAbs<2^200):Bn z:=by
 unfold Bn
 exact Nat.le_trans (Fh.2 h) δ
theorem Abp {l:List Int} {j:Nat} (hl:l.length<=6) (hj:j<6) (h:∀i,-9223372036854775808<=l.getD i 0/\l.getD i 0<=9223372036854775807):∀k,k<=6->(Mk l j k).natAbs<=k*(9223372036854775808*600)
 |0,_=>by simp[Mk]
 |k+1,hk=>by
  have h1:=Abp hl hj h k ω
  have h2:=xR (l.length-1) ω j hj k ω
  have h3:=h k
  have h4:(l.getD k 0).natAbs<=9223372036854775808:=by omega
  have h5:(l.getD k 0*(Rv (l.length-1) j k:Int)).natAbs<=9223372036854775808*600:=by
   rw[Int.natAbs_mul,Int.natAbs_natCast]
   exact Nat.mul_le_mul h4 h2
  have h6:(Mk l j (k+1)).natAbs<=(Mk l j k).natAbs+(l.getD k 0*(Rv (l.length-1) j k:Int)).natAbs:=by
   show (Mk l j k+l.getD k 0*(Rv (l.length-1) j k:Int)).natAbs<=_
   exact Int.natAbs_add_le _ _
  omega
theorem gW {l:List Int} {j k:Nat} (hl:l.length<=6) (hj:j<6) (hk:k<=6) (h:∀i,-9223372036854775808<=l.getD i 0/\l.getD i 0<=9223372036854775807):Bn (Mk l j k):=by
 refine Zv ?_
 have:=Abp hl hj h k hk
 have h2:k*(9223372036854775808*600)<=6*(9223372036854775808*600):=Nat.mul_le_mul_right _ hk
 exact Nat.lt_of_le_of_lt (Nat.le_trans this h2) δ
theorem Aif {l:List Int} {n j k:Nat} (hn:n<6) (hj:j<6) (hk:k<6) (h:∀i,-9223372036854775808<=l.getD i 0/\l.getD i 0<=9223372036854775807):Bn (l.getD k 0*(Rv n j k:Int)):=by
 refine Zv ?_
 have h2:=xR n hn j hj k hk
 have h3:=h k
 have h4:(l.getD k 0).natAbs<=9223372036854775808:=by omega
 rw[Int.natAbs_mul,Int.natAbs_natCast]
 exact Nat.lt_of_le_of_lt (Nat.mul_le_mul h4 h2) δ
theorem tF {o:Int} (h0: -9223372036854775808<=o) (h1:o<=9223372036854775807):Bn (62914560*o):=by
 refine Zv ?_
 have h4:o.natAbs<=9223372036854775808:=by omega
 rw[Int.natAbs_mul]
 exact Nat.lt_of_le_of_lt (Nat.mul_le_mul ζ h4) δ
theorem AfO {l:List Int} {o:Int} {n:Nat} (h:Zn l o n) (h2:((Mk l n (n+1)).natAbs:Int)<=62914560*o):Zn l o (n+1):=λj hj=>by
 by_cases e:j=n
 rw[e];exact h2
 exact h j ω
theorem Alg:((Dk (Sy 0 0)).toArray:Array Value)=#[.int .i64 0,.int .i64 0,.int .i64 0,.int .i64 0,.int .i64 0,.int .i64 0,.int .i64 0,.int .i64 0,.int .i64 0,.int .i64 0,.int .i64 0,.int .i64 0,.int .i64 0,.int .i64 0,.int .i64 0,.int .i64 0,.int .i64 0,.int .i64 0,.int .i64 0,.int .i64 0,.int .i64 0,.int .i64 0,.int .i64 0,.int .i64 0,.int .i64 0,.int .i64 0,.int .i64 0,.int .i64 0,.int .i64 0,.int .i64 0,.int .i64 0,.int .i64 0,.int .i64 0,.int .i64 0,.int .i64 0,.int .i64 0]:=by rw[kO];rfl
def bV (w:World) (tb:Nat):Prop:=∀i,i<36->w.cell? ⟨tb,i,none⟩=some (.int .i64 ((Sy 6 0).getD i 0))
theorem Ale {w:World} {tb:Nat} {t:TypeId} {l:List Int} (h:Hd w tb t l) (hl:l.length=36):bV (w.setCells tb 0 (Dk (Sy 6 0))) tb:=by
 intro i hi
 have hj:i<(Dk (Sy 6 0)).length:=by simpa [Dk,Fl] using hi
 have:=World.cell?_setCells_in tb (Dk (Sy 6 0)) 0 w (λj hj=>by rw[Nat.zero_add,h.cell (by rw[hl];simpa [Dk,Fl] using hj)];rfl) i hj
 rw[Nat.zero_add] at this
 rw[this]
 simp[Dk,Fl,hi]
theorem bV.up {w w':World} {tb B:Nat} (h:bV w tb) (hb:Below B w w') (hl:tb<B):bV w' tb:=λi hi=>(hb.cell (p:=⟨tb,i,none⟩) hl).trans (h i hi)
theorem Vf {P:Program} {ops:Array Oper} {n:Nat} {C:World->Prop} {R:Nat->Value->World->Prop} {a0:Act} {Q:Exit->Act->World->Prop} {i:Nat} {o:Oper} (T e:TypeId) (t t':Nat) (b off len size:Nat) (j:Int) (k:Nat) (h1:1<len) (ho:o.op= .indexAddr T (.tmp t) (.tmp t')) (hx:Ih ops n R a0 (.tmp t)=is (.pointer (some ⟨b,off,none⟩))) (hx':Ih ops n R a0 (.tmp t')=is (.int .i64 j))
  (hT:P.underlying T=some (.array len e)) (hsz:∀w,(sizeOf e).run P w= .ok size w) (hj:j=(k:Int)) (hk:k<len) (hr:R i=is (.pointer (some ⟨b,off+k*size,none⟩))):Kz P ops n C R a0 Q i o:=
 lR t t' _ _ (.pointer (some ⟨b,off+k*size,none⟩)) (by rw[ho];rfl) hx hx' (λa w _ h1 h2=>by
  have e1:a.eval (.tmp t)= .pointer (some ⟨b,off,none⟩):=by simpa [Act.eval] using h1
  have e2:a.eval (.tmp t')= .int .i64 j:=by simpa [Act.eval] using h2
  have hj2:(0:Int)<=j/\j<(len:Int):=by omega
  have hj3:j.toNat=k:=by omega
  have hl:¬len<=1:=by omega
  simp[execOp,ho,e1,e2,Instr.indexAt,Instr.sureAddr,asIntOf,run_underlying hT,hj2,hj3,hsz,Ei]) hr
theorem xX (w:World):(sizeOf 3).run Tryz.prog w= .ok 1 w:=κ
theorem uA (w:World):(sizeOf 206).run Tryz.prog w= .ok 6 w:=κ
structure BoJ (w:World) (l:List Int) (o mo:Int) (tb sb j:Nat) (wr:World):Prop where
 tab:bV wr tb
 most:Ma wr sb mo
 bnd:Zn l o j
 below:Below w.heap.size w wr
structure BoK (w:World) (l:List Int) (mo:Int) (tb sb xb j k:Nat) (wr:World):Prop where
 tab:bV wr tb
 most:Ma wr sb mo
 sum:Ma wr xb (Mk l j k)
 below:Below w.heap.size w wr
theorem Aa1:∀m,m<6->∀j,j<6->(Sy 6 0).getD (m*6+j) 0=Dc m j:=by decide
theorem bV.store2 {w:World} {tb xb:Nat} (h:bV w tb) (hne:tb≠xb) (u u':Value):bV ((w.setCell ⟨xb,0,none⟩ u).setCell ⟨xb,1,none⟩ u') tb:=λi hi=>(World.cell?_of_block (Si _ _ hne)).trans (h i hi)
theorem Rz {P:Program} {f:FuncId} {args:Array Value} {v:Value} {wr:World} (h:∀wa,Calls P f args wa λe w'=>e= .returned v/\Below wa.heap.size wa w'):∀wa,Below wr.heap.size wr wa->Calls P f args wa λe w'=>∃v',e= .returned v'/\Below wr.heap.size wr w'/\Below wa.heap.size wa w'/\is v v' w':=λwa hC=>by
 refine(h wa).mono ?_
 rintro e w' ⟨rfl,hb⟩
 exact⟨_,rfl,hC.trans (hb.mono hC.size),hb,rfl⟩
instance (l:List Int) (o:Int) (n:Nat):Decidable (Zn l o n):=by unfold Zn;infer_instance
theorem rK (l:List Int) (o:Int) (b q c:Nat) (w:World) (hs:∀i,i<l.length->w.cell? ⟨b,q+i*1,none⟩=some (.int .i64 (l.getD i 0))) (h1:1<=l.length) (h6:l.length<=6) (hi:∀i,-9223372036854775808<=l.getD i 0/\l.getD i 0<=9223372036854775807)
  (ho0: -9223372036854775808<=o) (ho1:o<=9223372036854775807):
  Calls Tryz.prog 99 #[.slice (some ⟨b,q,none⟩) l.length c,.int .i64 o] w λe w'=>e= .returned (.bool (decide (Zn l o l.length)))/\Below w.heap.size w w':=by
 have HCH:=Lib.hid rO
 have HOM:=Lib.hid (λw=>Ss 62914560 w δ δ)
 have HOO:=Lib.hid (λw=>Ss o w ho0 ho1)
 have HMM:=Lib.hid (λw=>uH 62914560 o w (Eg δ δ) (Eg ho0 ho1) (tF ho0 ho1))
 have HFM0:=Lib.hid (tF ho0 ho1)
 have HS:=Lib.hid hs
 have HI:=Lib.hid hi
 obtain⟨n,hn⟩:∃n:Nat,l.length=n+1:=⟨l.length-1,ω⟩
 have hw:IntKind.i64.wrap ((l.length:Int)-1)=(n:Int):=by rw[IntWalk.i64_in _ ω];omega
 have hbw:b<w.heap.size:=by
  have:=hs 0 ω
  simp only[World.cell?] at this
  cases h:w.heap[b]? with
  |none=>rw[h] at this;cases this
  |some x=>exact(Ξ h).1
 clear hs hi ho0 ho1
 go_enter func99,ntmps99
 go_upto_region 1 with fail
 go_wp2_with fail
 refine(HCH.out _).mono ?_
 rintro e w1 ⟨rfl,hb1⟩
 have HB1:Hid (Below w.heap.size w w1):=hb1
 have hs1:w.heap.size<=w1.heap.size:=hb1.size
 clear hb1 HCH
 obtain⟨W,hW⟩:∃W,W=w1.alloc (.cells (Dk (Sy 0 0)).toArray 207):=⟨_,rfl⟩
 have HT0:Hid (Hd W w1.heap.size 207 (Sy 0 0)):=by unfold Hid Hd;rw[hW];exact heap_alloc_new w1 _
 have HB2:Hid (Below w.heap.size w W):=by unfold Hid;rw[hW];exact HB1.out.alloc hs1 _
 have hsW:W.heap.size=w1.heap.size+1:=by rw[hW];simp
 rw[Alg] at hW
 obtain⟨tb,htb⟩:∃tb,tb=w1.heap.size:=⟨_,rfl⟩
 rw[<-htb] at HT0 hsW hs1
 unfold Alf
 go_upto_region 2 with(first|(rw[<-hW];refine Ra rfl rfl 207 (.tmp 5) (.tmp 11) rfl tb (Dk (Sy 6 0)) (by rw[htb];rfl) rfl (Zc _) ?_ ?_ (sR _) ?_))
 ·
  intro j hj
  rw[HT0.out.cell (by simpa [Dk,Fl] using hj)];rfl
 · intro j _;exact HT0.out.frozen j
 rw[<-htb]
 obtain⟨W3,hW3⟩:∃W3,W3=W.setCells tb 0 (Dk (Sy 6 0)):=⟨_,rfl⟩
 have HT:Hid (bV W3 tb):=by unfold Hid;rw[hW3];exact Ale HT0.out (Fl _ _)
 have HB3:Hid (Below w.heap.size w W3):=by unfold Hid;rw[hW3];exact Fk hs1 _ _ HB2.out
 have hs3:tb<W3.heap.size:=by
  have:=HT.out 0 ω
  simp only[World.cell?] at this
  cases h:W3.heap[tb]? with
  |none=>rw[h] at this;cases this
  |some x=>exact(Ξ h).1
 rw[<-hW3]
 clear hW hW3 HT0 HB1 HB2 hsW htb
 go_wp2_with fail
 refine(HOM.out _).mono ?_
 rintro e w4 ⟨rfl,hb4⟩
 have HB4:Hid (Below W3.heap.size W3 w4):=hb4
 clear hb4 HOM
 go_wp2_with fail
 refine(HOO.out _).mono ?_
 rintro e w5 ⟨rfl,hb5⟩
 have HB5:Hid (Below W3.heap.size W3 w5):=HB4.out.trans (hb5.mono HB4.out.size)
 clear hb5 HB4 HOO
 go_wp2_with fail
 refine(HMM.out _).mono ?_
 rintro e w6 ⟨rfl,hb6⟩
 have HB6:Hid (Below W3.heap.size W3 w6):=HB5.out.trans (hb6.mono HB5.out.size)
 clear hb6 HB5 HMM
 have hs6:W3.heap.size<=w6.heap.size:=HB6.out.size
 obtain⟨mo,hmo⟩:∃mo:Int,mo=62914560*o:=⟨_,rfl⟩
 have HMO:=Lib.hid hmo
 have HFM:Hid (Bn mo):=by unfold Hid;rw[hmo];exact HFM0.out
 rw[<-hmo]
 clear hmo
 unfold Ak
 obtain⟨mg,hmg⟩:∃g,g=decide (mo<0):=⟨_,rfl⟩
 obtain⟨ms,hms⟩:∃g,g=Cj mo.natAbs:=⟨_,rfl⟩
 rw[<-hmg,<-hms]
 obtain⟨V,hV⟩:∃V,V=w6.alloc (.cells #[.bool mg,.string ms] 169):=⟨_,rfl⟩
 obtain⟨sb,hsb⟩:∃sb,sb=w6.heap.size:=⟨_,rfl⟩
 have HV:Hid (Ma V sb mo):=by unfold Hid;rw[hV,hsb,hmg,hms];exact Ma.new w6 _
 have HTV:Hid (bV V tb):=by unfold Hid;rw[hV];exact HT.out.up (HB6.out.alloc hs6 _) hs3
 have HBV:Hid (Below w.heap.size w V):=by unfold Hid;rw[hV];exact HB3.out.trans ((HB6.out.alloc hs6 _).mono HB3.out.size)
 have hsV:sb<V.heap.size:=by rw[hV,hsb];simp
 have htV:tb<sb:=by omega
 clear HT HB3 HB6 hmg hms hs3
 go_upto_region 3 with fail
 rw[<-hV,<-hsb]
 clear hV hsb hs6
 go_wp2_with fail
 have HJ0:Hid (BoJ w l o mo tb sb 0 V):=⟨HTV.out,HV.out,λj hj=>absurd hj (Nat.not_lt_zero j),HBV.out⟩
 clear HTV HV HBV hsV
 go_loopw [21] (λjv wr=>∃j:Nat,j<=l.length/\jv= .int .i64 (j:Int)/\Hid (BoJ w l o mo tb sb j wr)) (λjv _=>l.length-(intOf jv).toNat)
 case atStart=>exact⟨0,Nat.zero_le _,rfl,HJ0⟩
 case round=>
  obtain⟨j,hj,rfl,HJ⟩:=hrel
  clear HJ0
  by_cases hjl:j=l.length
  ·
   subst hjl
   have HR:Hid (decide (Zn l o l.length)=true/\Below w.heap.size w wr):=⟨decide_eq_true HJ.out.bnd,HJ.out.below⟩
   clear HJ
   go_wp2_with fail
   exact bodyPost_ret (v:= .bool true) (by simp[results,results99]) rfl ⟨by rw[HR.out.1],HR.out.2⟩
  ·
   have hjl2:j<l.length:=by omega
   have hji:(j:Int)<(l.length:Int):=by omega
   have HJ1:Hid (BoK w l mo tb sb wr.heap.size j 0 (wr.alloc (.cells #[.bool false,.string ⟨#[]⟩] 169))):=by
    have h:=HJ.out
    have hb:Below wr.heap.size wr (wr.alloc (.cells #[.bool false,.string ⟨#[]⟩] 169)):=(Below.refl _ _).alloc ζ _
    have htl:tb<wr.heap.size:=Nat.lt_trans htV h.most.lt
    refine⟨h.tab.up hb htl,h.most.up hb h.most.lt,?_,h.below.trans (hb.mono h.below.size)⟩
    have:=heap_alloc_new wr (.cells #[.bool false,.string ⟨#[]⟩] 169)
    unfold Ma
    rw[this,show Mk l j 0=0 from rfl,show (0:Int).natAbs=0 from rfl,Qn]
    rfl
   have HBND:=Lib.hid HJ.out.bnd
   have hxb0:=HJ.out.below.size
   have hxb1:=HJ.out.most.lt
   obtain⟨xb,hxb⟩:∃xb,xb=wr.heap.size:=⟨_,rfl⟩
   obtain⟨X,hX⟩:∃X,X=wr.alloc (.cells #[.bool false,.string ⟨#[]⟩] 169):=⟨_,rfl⟩
   rw[<-hxb] at hxb0 hxb1
   rw[<-hxb,<-hX] at HJ1
   clear HJ
   go_upto_region 8 with fail
   rw[<-hX,<-hxb]
   clear hX hxb
   have hw1:IntKind.i64.wrap ((j:Int)+1)=((j+1:Nat):Int):=by rw[IntWalk.i64_in _ ω];omega
   go_wp2_with fail
   have hn6:n<6:=by omega
   have hj6:j<6:=by omega
   go_loopw [26] (λkv wr=>∃k:Nat,k<=j+1/\kv= .int .i64 (k:Int)/\Hid (BoK w l mo tb sb xb j k wr)) (λkv _=>j+1-(intOf kv).toNat)
   case atStart=>exact⟨0,Nat.zero_le _,rfl,HJ1⟩
   case round=>
    obtain⟨k,hk,rfl,HK⟩:=hrel
    clear HJ1
    by_cases hkj:k=j+1
    ·
     subst hkj
     have htx:tb≠xb:=by omega
     have hsx:sb≠xb:=by omega
     obtain⟨su,hsu⟩:∃su,su=Mk l j (j+1):=⟨_,rfl⟩
     have hfs:Bn su:=by rw[hsu];exact gW h6 hj6 ω HI.out
     have hfa:Bn (su.natAbs:Int):=by unfold Bn at hfs ⊢;rw[Int.natAbs_natCast];exact hfs
     have HK2:=HK.out
     have hKs:=HK2.sum
     rw[<-hsu] at hKs
     obtain⟨c0,c1⟩:=hKs.cells
     have f0:=Ag9 hKs 0
     obtain⟨Y,hY⟩:∃Y,Y=wr.setCell ⟨xb,0,none⟩ (.bool false):=⟨_,rfl⟩
     have hYx:Y.heap[xb]?=some (.cells #[.bool false,.string (Cj su.natAbs)] 169 (0,0)):=by
      rw[hY];simp[World.setCell,Array.getElem?_modify,show wr.heap[xb]?=_ from hKs]
     have hYs:Ma Y sb mo:=by unfold Ma;rw[hY,Below.heap_setCell _ ⟨xb,0,none⟩ _ _ hsx];exact HK2.most
     have hYt:bV Y tb:=λi hi=>by rw[hY];exact(World.cell?_of_block (Below.heap_setCell _ ⟨xb,0,none⟩ _ _ htx)).trans (HK2.tab i hi)
     have hYb:Below w.heap.size w Y:=by rw[hY];exact HK2.below.setCell (p:=⟨xb,0,none⟩) hxb0 _
     have HJN:Hid (∀w7,Below Y.heap.size Y w7->(su.natAbs:Int)<=mo->BoJ w l o mo tb sb (j+1) w7):=λw7 hb hle=>by
      refine⟨hYt.up hb (Nat.lt_trans htV hYs.lt),hYs.up hb hYs.lt,AfO HBND.out ?_,hYb.trans (hb.mono hYb.size)⟩
      rw[<-hsu,<-HMO.out];exact hle
     have HJF:Hid (mo<(su.natAbs:Int)->decide (Zn l o l.length)=false):=λhlt=>decide_eq_false λh=>by
      have:=h j hjl2
      rw[<-hsu,<-HMO.out] at this
      omega
     have HYB:=Lib.hid hYb
     obtain⟨sg,hsg⟩:∃sg,sg=((su.natAbs:Int)-mo).sign:=⟨_,rfl⟩
     have HCMP:=Lib.hid (λwa=>pV (su.natAbs:Int) mo wa hfa HFM.out)
     rw[<-hsg] at HCMP
     obtain⟨y0,y1⟩:=kN hYx
     obtain⟨m0,m1⟩:=hYs.cells
     unfold Ak at HCMP
     rw[Int.natAbs_natCast,show decide ((su.natAbs:Int)<0)=false from decide_eq_false ω] at HCMP
     obtain⟨us,hus⟩:∃g,g=Cj su.natAbs:=⟨_,rfl⟩
     obtain⟨mg2,hmg2⟩:∃g,g=decide (mo<0):=⟨_,rfl⟩
     obtain⟨ms2,hms2⟩:∃g,g=Cj mo.natAbs:=⟨_,rfl⟩
     rw[<-hus,<-hmg2,<-hms2] at HCMP
     rw[<-hus] at y1
     rw[<-hmg2] at m0
     rw[<-hms2] at m1
     have HSG:Hid (((su.natAbs:Int)<=mo/\sg<=0)\/(mo<(su.natAbs:Int)/\0<sg)):=by
      unfold Hid
      obtain⟨t,ht⟩:∃t,t=(su.natAbs:Int)-mo:=⟨_,rfl⟩
      rw[<-ht] at hsg
      rcases Int.lt_trichotomy t 0 with h|h|h
      · exact .inl ⟨ω,by rw[hsg,Int.sign_eq_neg_one_of_neg h];decide⟩
      · exact .inl ⟨ω,by rw[hsg,h];decide⟩
      · exact .inr ⟨ω,by rw[hsg,Int.sign_eq_one_of_pos h];decide⟩
     clear hsg hus hmg2 hms2 hfs hfa HK HK2 hKs hYx hYs hYt hYb hsu HBND
     go_upto_region 14 with fail
     rw[<-hY]
     clear hY c0 c1 f0
     go_wp2_with fail
     refine(HCMP.out _).mono ?_
     rintro e w7 ⟨rfl,hb7⟩
     have HB7:Hid (Below Y.heap.size Y w7):=hb7
     clear hb7 HCMP
     rcases HSG.out with⟨hle,hs0⟩|⟨hlt,hs0⟩
     ·
      have HNX:=Lib.hid (HJN.out w7 HB7.out hle)
      have hs1:¬(0:Int)<sg:=by omega
      clear HJN HJF hle HSG
      go_wp2_with fail
      exact⟨⟨j+1,ω,rfl,HNX⟩,by simp only[intOf];omega⟩
     ·
      have HF2:=Lib.hid (HJF.out hlt)
      have HBW:=Lib.hid (HYB.out.trans (HB7.out.mono HYB.out.size))
      clear HJN HJF hlt HSG
      go_wp2_with fail
      exact bodyPost_ret (v:= .bool false) (by simp[results,results99]) rfl ⟨by rw[HF2.out],HBW.out⟩
    ·
     have hkj2:k<j+1:=by omega
     have hki:(k:Int)<((j+1:Nat):Int):=by omega
     have hkl:k<l.length:=by omega
     have hk6:k<6:=by omega
     have htx:tb≠xb:=by omega
     have hsx:sb≠xb:=by omega
     have hwx:w.heap.size<=xb:=hxb0
     have HNX:Hid (∀w2,Below wr.heap.size wr w2->BoK w l mo tb sb xb j (k+1) ((w2.setCell ⟨xb,0,none⟩ (.bool (decide (Mk l j (k+1)<0)))).setCell ⟨xb,1,none⟩ (.string (Cj (Mk l j (k+1)).natAbs)))):=λw2 hb=>by
      have h:=HK.out
      have hsl:=h.sum.lt
      exact⟨(h.tab.up hb (by have:=h.most.lt;omega)).store2 htx _ _,(Si _ _ hsx).trans (h.most.up hb h.most.lt),(h.sum.up hb hsl).store _,Below.store2 (h.below.trans (hb.mono h.below.size)) hwx _ _⟩
     obtain⟨x,hx⟩:∃x,x=l.getD k 0:=⟨_,rfl⟩
     obtain⟨fa,hfa⟩:∃fa:Nat,fa=Rv n j k:=⟨_,rfl⟩
     have hfle:fa<=600:=by rw[hfa];exact xR n hn6 j hj6 k hk6
     have hxi:=HI.out k
     have hsum:Mk l j (k+1)=Mk l j k+x*(fa:Int):=by
      show Mk l j k+l.getD k 0*(Rv (l.length-1) j k:Int)=_
      rw[hx,hfa,show l.length-1=n by omega]
     have HOX:=Lib.hid (Rz (wr:=wr) (λwa=>Ss x wa (by rw[hx];exact hxi.1) (by rw[hx];exact hxi.2)))
     have HOF:=Lib.hid (Rz (wr:=wr) (λwa=>Ss (fa:Int) wa ω ω))
     have hfx:Bn x:=by rw[hx];exact Eg hxi.1 hxi.2
     have hff:Bn (fa:Int):=Eg ω ω
     have hfp:Bn (x*(fa:Int)):=by rw[hx,hfa];exact Aif hn6 hj6 hk6 HI.out
     have HML:=Lib.hid (Rz (wr:=wr) (λwa=>uH x (fa:Int) wa hfx hff hfp))
     have HAD:=Lib.hid (Rz (wr:=wr) (λwa=>AhP (Mk l j k) (x*(fa:Int)) wa (gW h6 hj6 ω HI.out) hfp (by rw[<-hsum];exact gW h6 hj6 ω HI.out)))
     rw[<-hsum] at HAD
     have CX:Hid (∀wa,Below wr.heap.size wr wa->wa.heap[xb]?=some (.cells #[.bool (decide (Mk l j k<0)),.string (Cj (Mk l j k).natAbs)] 169 (0,0))):=λwa hb=>HK.out.sum.up hb HK.out.sum.lt
     have CS:Hid (∀wa,Below wr.heap.size wr wa->wa.cell? ⟨b,q+k*1,none⟩=some (.int .i64 x)):=λwa hb=>by
      rw[hx,<-HS.out k hkl]
      exact(HK.out.below.trans (hb.mono HK.out.below.size)).cell (p:=⟨b,q+k*1,none⟩) hbw
     obtain⟨cn,hcn⟩:∃z:Nat,z=Dc n k:=⟨_,rfl⟩
     obtain⟨cj,hcj⟩:∃z:Nat,z=Dc j k:=⟨_,rfl⟩
     have hcn1:1<=cn/\cn<=10:=by rw[hcn];exact xB n hn6 k ω
     have hcj1:cj<=10:=by rw[hcj];exact Acm j hj6 k hk6
     have CN:Hid (∀wa,Below wr.heap.size wr wa->wa.cell? ⟨tb,0+n*6+k*1,none⟩=some (.int .i64 (cn:Int))):=λwa hb=>by
      have h:=HK.out.tab.up hb (by have:=HK.out.most.lt;omega) (n*6+k) ω
      rw[Nat.zero_add,Nat.mul_one,h,Aa1 n hn6 k hk6,hcn]
     have CJ:Hid (∀wa,Below wr.heap.size wr wa->wa.cell? ⟨tb,0+j*6+k*1,none⟩=some (.int .i64 (cj:Int))):=λwa hb=>by
      have h:=HK.out.tab.up hb (by have:=HK.out.most.lt;omega) (j*6+k) ω
      rw[Nat.zero_add,Nat.mul_one,h,Aa1 j hj6 k hk6,hcj]
     obtain⟨qa,hqa⟩:∃z:Nat,z=60/cn:=⟨_,rfl⟩
     have hqle:qa<=60:=by rw[hqa];exact Nat.div_le_self _ _
     have HQ:Hid (IntKind.i64.wrap (Int.tdiv 60 (cn:Int))=(qa:Int)):=by
      unfold Hid
      rw[show Int.tdiv 60 (cn:Int)=((60/cn:Nat):Int) from rfl,<-hqa,IntWalk.i64_in _ ω]
     have HFA:Hid (IntKind.i64.wrap ((qa:Int)*(cj:Int))=(fa:Int)):=by
      unfold Hid
      have e:(qa:Int)*(cj:Int)=(fa:Int):=by rw[hfa,hqa,hcj,hcn];unfold Rv;rw[Int.natCast_mul]
      rw[e,IntWalk.i64_in _ ω]
     have hcn0:¬((cn:Int)=0):=by omega
     unfold Ak at HOX HOF HML HAD
     obtain⟨xg,hxg⟩:∃g,g=decide (x<0):=⟨_,rfl⟩
     obtain⟨xs,hxs⟩:∃g,g=Cj x.natAbs:=⟨_,rfl⟩
     obtain⟨fg,hfg⟩:∃g,g=decide ((fa:Int)<0):=⟨_,rfl⟩
     obtain⟨fs,hfs⟩:∃g,g=Cj (fa:Int).natAbs:=⟨_,rfl⟩
     obtain⟨pg,hpg⟩:∃g,g=decide (x*(fa:Int)<0):=⟨_,rfl⟩
     obtain⟨ps,hps⟩:∃g,g=Cj (x*(fa:Int)).natAbs:=⟨_,rfl⟩
     obtain⟨ug,hug⟩:∃g,g=decide (Mk l j k<0):=⟨_,rfl⟩
     obtain⟨us,hus⟩:∃g,g=Cj (Mk l j k).natAbs:=⟨_,rfl⟩
     obtain⟨vg,hvg⟩:∃g,g=decide (Mk l j (k+1)<0):=⟨_,rfl⟩
     obtain⟨vs,hvs⟩:∃g,g=Cj (Mk l j (k+1)).natAbs:=⟨_,rfl⟩
     rw[<-hxg,<-hxs] at HOX HML
     rw[<-hfg,<-hfs] at HOF HML
     rw[<-hpg,<-hps] at HML HAD
     rw[<-hug,<-hus] at HAD CX
     rw[<-hvg,<-hvs] at HAD HNX
     clear hxg hxs hfg hfs hpg hps hug hus hvg hvs hfx hff hfp hsum hxi hqa hcn hcj hfa hx HK
     go_wp2_with fail
     refine Jr 21 57 (λw'=>Below wr.heap.size wr w') [is (.agg #[.bool ug,.string us]),is (.slice (some ⟨b,q,none⟩) (n+1) c),is (.int .i64 (k:Int)),is (.pointer (some ⟨b,q+k*1,none⟩)),is (.int .i64 x),is (.agg #[.bool xg,.string xs]),is (.int .i64 (n:Int)),is (.int .i64 (k:Int)),is (.pointer (some ⟨tb,0+n*6,none⟩)),is (.pointer (some ⟨tb,0+n*6+k*1,none⟩)),is (.int .i64 (cn:Int)),is (.int .i64 (qa:Int)),is (.int .i64 (j:Int)),is (.int .i64 (k:Int)),is (.pointer (some ⟨tb,0+j*6,none⟩)),is (.pointer (some ⟨tb,0+j*6+k*1,none⟩)),is (.int .i64 (cj:Int)),is (.int .i64 (fa:Int)),is (.agg #[.bool fg,.string fs]),is (.agg #[.bool pg,.string ps]),is (.agg #[.bool vg,.string vs])] κ κ rfl δ ?hst ?h0 ?hop ?htail
     case hst=>
      simp only[List.mem_cons,List.mem_nil_iff,or_false,forall_eq_or_imp,forall_eq]
      exact⟨Aj _,Aj _,Aj _,Aj _,Aj _,Aj _,Aj _,Aj _,Aj _,Aj _,Aj _,Aj _,Aj _,Aj _,Aj _,Aj _,Aj _,Aj _,Aj _,Aj _,Aj _⟩
     case h0=>exact(Below.refl _ _).drew
     case hop=>
      refine⟨?_,?_,?_,?_,?_,?_,?_,?_,?_,?_,?_,?_,?_,?_,?_,?_,?_,?_,?_,?_,?_,trivial⟩
      · exact Dh 169 (.tmp 9) (.pointer (some ⟨xb,0,none⟩)) (.agg #[.bool ug,.string us]) rfl κ (λwa hC=>Hn [.bool ug,.string us] wa κ κ (xA (CX.out wa hC))) rfl
      · exact Dd (.tmp 0) (is (.slice (some ⟨b,q,none⟩) (n+1) c)) rfl κ (λ_ _ _ h=>h)
      · exact Dd (.tmp 10) (is (.int .i64 (k:Int))) rfl κ (λ_ _ _ h=>h)
      · exact Nr 70 3 30 31 b q (n+1) c 1 (k:Int) k rfl κ κ underlying70 xX rfl ω rfl
      · exact Dh 3 (.tmp 32) (.pointer (some ⟨b,q+k*1,none⟩)) (.int .i64 x) rfl κ (λwa hC=>Cb wa κ (CS.out wa hC)) rfl
      · exact Gt 97 [.tmp 33] _ [.int .i64 x] rfl (λ_ _=>by kernel_rfl) ⟨κ,trivial⟩ HOX.out
      · exact Dd (.tmp 7) (is (.int .i64 (n:Int))) rfl κ (λ_ _ _ h=>h)
      · exact Dd (.tmp 10) (is (.int .i64 (k:Int))) rfl κ (λ_ _ _ h=>h)
      · exact Vf 207 206 5 35 tb 0 6 6 (n:Int) n δ rfl κ κ underlying207 uA rfl ω rfl
      · exact Vf 206 3 37 36 tb (0+n*6) 6 1 (k:Int) k δ rfl κ κ underlying206 xX rfl ω rfl
      · exact Dh 3 (.tmp 38) (.pointer (some ⟨tb,0+n*6+k*1,none⟩)) (.int .i64 (cn:Int)) rfl κ (λwa hC=>Cb wa κ (CN.out wa hC)) rfl
      · exact Aoy 39 (.int .i64 60) (.int .i64 (cn:Int)) (.int .i64 (qa:Int)) rfl κ (λa wa _ e1=>by have hq:=HQ.out;go_simp;clear hq;omega) rfl
      · exact Dd (.tmp 8) (is (.int .i64 (j:Int))) rfl κ (λ_ _ _ h=>h)
      · exact Dd (.tmp 10) (is (.int .i64 (k:Int))) rfl κ (λ_ _ _ h=>h)
      · exact Vf 207 206 5 41 tb 0 6 6 (j:Int) j δ rfl κ κ underlying207 uA rfl ω rfl
      · exact Vf 206 3 43 42 tb (0+j*6) 6 1 (k:Int) k δ rfl κ κ underlying206 xX rfl ω rfl
      · exact Dh 3 (.tmp 44) (.pointer (some ⟨tb,0+j*6+k*1,none⟩)) (.int .i64 (cj:Int)) rfl κ (λwa hC=>Cb wa κ (CJ.out wa hC)) rfl
      · exact lR 40 45 (.int .i64 (qa:Int)) (.int .i64 (cj:Int)) (.int .i64 (fa:Int)) rfl κ κ (λa wa _ e1 e2=>by have hq:=HFA.out;go_simp) rfl
      · exact Gt 97 [.tmp 46] _ [.int .i64 (fa:Int)] rfl (λ_ _=>by kernel_rfl) ⟨κ,trivial⟩ HOF.out
      · exact Gt 123 [.tmp 34,.tmp 47] _ [.agg #[.bool xg,.string xs],.agg #[.bool fg,.string fs]] rfl (λ_ _=>by kernel_rfl) ⟨κ,κ,trivial⟩ HML.out
      · exact Gt 124 [.tmp 29,.tmp 48] _ [.agg #[.bool ug,.string us],.agg #[.bool pg,.string ps]] rfl (λ_ _=>by kernel_rfl) ⟨κ,κ,trivial⟩ HAD.out
     case htail=>
     intro τ w2 hC hR
     have r20:τ 20= .agg #[.bool vg,.string vs]:=hR 20 δ
     simp only[Cw,List.getElem?_toArray,List.getElem?_cons_succ,List.getElem?_cons_zero,Option.bind_some,Act.put,List.setIfInBounds_toArray,List.set_cons_succ,List.set_cons_zero,List.drop_succ_cons,List.drop_zero,r20]
     clear hR r20
     have HN2:=Lib.hid (HNX.out w2 hC)
     have h1:=CX.out w2 hC
     obtain⟨c0,c1⟩:=kN h1
     have f0:=Ag9 h1 0
     have f1:=Ag9 h1 1
     clear hC h1 CX CS CN CJ HOX HOF HML HAD HNX HQ HFA
     go_wp2_with fail
     exact⟨⟨k+1,ω,rfl,HN2⟩,by simp only[intOf];omega⟩
def Pn (c:List Int) (o:Int):Prop:=1<=c.length/\c.length<=6/\(1<c.length->c.getD (c.length-1) 0≠0)/\Zn c o c.length
instance (c:List Int) (o:Int):Decidable (Pn c o):=by unfold Pn;infer_instance
def Od (g:Nat) (l:List Int):Nat:=l.foldl (λg x=>Nat.gcd g x.natAbs) g
def Tj (f t o:Int):Prop:=0<=f/\f<t/\t<=3600000/\1<=o/\o<=4294967296
instance (f t o:Int):Decidable (Tj f t o):=by unfold Tj;infer_instance
def Hy (s:Sg):Prop:=Tj s.f s.t s.o/\Pn s.x s.o/\Pn s.y s.o/\Pn s.z s.o/\Od (Od (Od s.o.natAbs s.x) s.y) s.z=1
instance (s:Sg):Decidable (Hy s):=by unfold Hy;infer_instance
theorem AgL (f t o:Int) (Ax Ay Az:Option Addr) (nx cx ny cy nz cz:Nat) (w:World) (hh:¬Tj f t o):
  Calls Tryz.prog 75 #[.agg #[.int .i64 f,.int .i64 t,.int .i64 o,.slice Ax nx cx,.slice Ay ny cy,.slice Az nz cz]] w λe w'=>e= .returned (.bool false)/\Below w.heap.size w w':=by
 have hc:f<0\/(¬f<0/\t<=f)\/(¬f<0/\¬t<=f/\3600000<t)\/(¬f<0/\¬t<=f/\¬3600000<t/\o<1)\/(¬f<0/\¬t<=f/\¬3600000<t/\¬o<1/\4294967296<o):=by
  unfold Tj at hh;omega
 clear hh
 obtain⟨W,hW⟩:∃W,W=w.alloc (.cells #[.int .i64 f,.int .i64 t,.int .i64 o,.slice Ax nx cx,.slice Ay ny cy,.slice Az nz cz] 110):=⟨_,rfl⟩
 have hb:=heap_alloc_new w (.cells #[.int .i64 f,.int .i64 t,.int .i64 o,.slice Ax nx cx,.slice Ay ny cy,.slice Az nz cz] 110)
 rw[<-hW] at hb
 have s0:W.cell? ⟨w.heap.size,0,none⟩=some (.int .i64 f):=by simp[World.cell?,hb]
 have s1:W.cell? ⟨w.heap.size,1,none⟩=some (.int .i64 t):=by simp[World.cell?,hb]
 have s2:W.cell? ⟨w.heap.size,2,none⟩=some (.int .i64 o):=by simp[World.cell?,hb]
 have HB:Hid (Below w.heap.size w W):=by unfold Hid;rw[hW];exact(Below.refl _ _).alloc ζ _
 clear hb
 rcases hc with h|⟨h,h2⟩|⟨h,h2,h3⟩|⟨h,h2,h3,h4⟩|⟨h,h2,h3,h4,h5⟩
 all_goals
  go_enter func75,ntmps75
  go_upto_region 1 with fail
  rw[<-hW]
  clear hW
  go_wp2_with fail
  exact bodyPost_ret (v:= .bool false) (by simp[results,results75]) rfl ⟨rfl,HB.out⟩
theorem AkN (v0 v1 v2:Value) (w:World):(Instr.index 171 (.agg #[v0,v1,v2]) (.int .i64 ((0:Nat):Int))).run Tryz.prog w= .ok v0 w:=by
 kernel_rfl
theorem AkO (v0 v1 v2:Value) (w:World):(Instr.index 171 (.agg #[v0,v1,v2]) (.int .i64 ((1:Nat):Int))).run Tryz.prog w= .ok v1 w:=by
 kernel_rfl
theorem AkP (v0 v1 v2:Value) (w:World):(Instr.index 171 (.agg #[v0,v1,v2]) (.int .i64 ((2:Nat):Int))).run Tryz.prog w= .ok v2 w:=by
 kernel_rfl
theorem zI {v0 v1 v2 v:Value} {k:Nat} (hk:k<3) (h:(#[v0,v1,v2]:Array Value)[k]?=some v) (w:World):(Instr.index 171 (.agg #[v0,v1,v2]) (.int .i64 (k:Int))).run Tryz.prog w= .ok v w:=by
 match k with
 |0=>simp at h;rw[<-h];exact AkN v0 v1 v2 w
 |1=>simp at h;rw[<-h];exact AkO v0 v1 v2 w
 |2=>simp at h;rw[<-h];exact AkP v0 v1 v2 w
theorem jK {w:World} {ops:Array Oper} {rest:List Oper} {o:Oper} {a:Act} {Q:Exit->Act->World->Prop} (hgd:o.guard=none) (x y:Operand) (ho:o.op= .index 171 x y) (v0 v1 v2 v:Value) (k:Nat) (hx:a.eval x= .agg #[v0,v1,v2]) (hy:a.eval y= .int .i64 (k:Int)) (hk:k<3) (hv:(#[v0,v1,v2]:Array Value)[k]?=some v)
  (h:wpList Tryz.prog ops Q rest (a.put o.dst v) w):wpList Tryz.prog ops Q (o::rest) a w:=by
 refine wpList_plain hgd λK hK=>?_
 have hrun:=zI hk hv w
 unfold Oper.wp
 simp[execOp,ho,hx,hy,hrun,Result.andThen]
 exact hK _ _ h
def Ti (w:World) (v:Value) (l:List Int):Prop:=(∃A c,v= .slice A 0 c/\l=[])\/∃b q c,v= .slice (some ⟨b,q,none⟩) l.length c/\∀i,i<l.length->w.cell? ⟨b,q+i*1,none⟩=some (.int .i64 (l.getD i 0))
def axL (s:Sg):Nat->List Int
 |0=>s.x
 |1=>s.y
 |_=>s.z
def gK (s:Sg):Nat->Nat
 |0=>s.o.natAbs
 |k+1=>Od (gK s k) (axL s k)
structure VaJ (w:World) (s:Sg) (gb k:Nat) (wr:World):Prop where
 over:wr.cell? ⟨w.heap.size,2,none⟩=some (.int .i64 s.o)
 box:Ma wr gb (gK s k:Int)
 ok:∀i,i<k->Pn (axL s i) s.o
 fit:Bn (gK s k:Int)
 below:Below w.heap.size w wr
structure VaK (w:World) (s:Sg) (l:List Int) (gb k i:Nat) (wr:World):Prop where
 over:wr.cell? ⟨w.heap.size,2,none⟩=some (.int .i64 s.o)
 box:Ma wr gb (Od (gK s k) (l.take i):Int)
 fit:Bn (Od (gK s k) (l.take i):Int)
 below:Below w.heap.size w wr
theorem lE (g:Nat) (l:List Int) {i:Nat} (h:i<l.length):Od g (l.take (i+1))=Nat.gcd (Od g (l.take i)) (l.getD i 0).natAbs:=by
 unfold Od
 rw[List.take_succ_eq_append_getElem h,List.foldl_append]
 simp[h]
theorem rC {n m:Nat} (h:(Cj n).toList=(Cj m).toList):n=m:=by
 rw[ByteArray.toList_eq,ByteArray.toList_eq] at h
 exact AfL h
theorem AcN (s:Sg) (Ax Ay Az:Option Addr) (cx cy cz:Nat) (w:World) (hh:Tj s.f s.t s.o)
  (hx:Ti w (.slice Ax s.x.length cx) s.x) (hy:Ti w (.slice Ay s.y.length cy) s.y) (hz:Ti w (.slice Az s.z.length cz) s.z)
  (hi:∀k i,-9223372036854775808<=(axL s k).getD i 0/\(axL s k).getD i 0<=9223372036854775807):
  Calls Tryz.prog 75 #[.agg #[.int .i64 s.f,.int .i64 s.t,.int .i64 s.o,.slice Ax s.x.length cx,.slice Ay s.y.length cy,.slice Az s.z.length cz]] w λe w'=>e= .returned (.bool (decide (Hy s)))/\Below w.heap.size w w':=by
 have HH:=Lib.hid hh
 have HI:=Lib.hid hi
 have HX:Hid (∀k,k<3->∃A c,(#[.slice Ax s.x.length cx,.slice Ay s.y.length cy,.slice Az s.z.length cz]:Array Value)[k]?=some (.slice A (axL s k).length c)/\Ti w (.slice A (axL s k).length c) (axL s k)):=by
  intro k hk
  match k with
  |0=>exact⟨_,_,rfl,hx⟩
  |1=>exact⟨_,_,rfl,hy⟩
  |2=>exact⟨_,_,rfl,hz⟩
 clear hx hy hz hi
 obtain⟨f,hf⟩:∃f,f=s.f:=⟨_,rfl⟩
 obtain⟨t,ht⟩:∃t,t=s.t:=⟨_,rfl⟩
 obtain⟨o,ho⟩:∃o,o=s.o:=⟨_,rfl⟩
 have HSO:=Lib.hid ho
 obtain⟨h,h2,h3,h4,h5⟩:=hh
 rw[<-hf] at h h2
 rw[<-ht] at h2 h3
 rw[<-ho] at h4 h5
 have g1:¬f<0:=by omega
 have g2:¬t<=f:=by omega
 have g3:¬3600000<t:=by omega
 have g4:¬o<1:=by omega
 have g5:¬4294967296<o:=by omega
 rw[<-hf,<-ht,<-ho]
 clear hf ht ho
 have HOO:=Lib.hid (λw=>Ss o w ω ω)
 have HAX:=Lib.hid (λw=>AfH f t o Ax Ay Az s.x.length cx s.y.length cy s.z.length cz w)
 obtain⟨W,hW⟩:∃W,W=w.alloc (.cells #[.int .i64 f,.int .i64 t,.int .i64 o,.slice Ax s.x.length cx,.slice Ay s.y.length cy,.slice Az s.z.length cz] 110):=⟨_,rfl⟩
 have hb:=heap_alloc_new w (.cells #[.int .i64 f,.int .i64 t,.int .i64 o,.slice Ax s.x.length cx,.slice Ay s.y.length cy,.slice Az s.z.length cz] 110)
 rw[<-hW] at hb
 have hsW:W.heap.size=w.heap.size+1:=by rw[hW];simp
 have s0:W.cell? ⟨w.heap.size,0,none⟩=some (.int .i64 f):=by simp[World.cell?,hb]
 have s1:W.cell? ⟨w.heap.size,1,none⟩=some (.int .i64 t):=by simp[World.cell?,hb]
 have s2:W.cell? ⟨w.heap.size,2,none⟩=some (.int .i64 o):=by simp[World.cell?,hb]
 have HBK:=Lib.hid hb
 have HB:Hid (Below w.heap.size w W):=by unfold Hid;rw[hW];exact(Below.refl _ _).alloc ζ _
 clear hb
 go_enter func75,ntmps75
 go_upto_region 1 with fail
 rw[<-hW]
 clear hW
 go_upto_region 3 with fail
 go_wp2_with fail
 refine(HOO.out _).mono ?_
 rintro e w1 ⟨rfl,hb1⟩
 have HB1:Hid (Below W.heap.size W w1):=hb1
 clear hb1 HOO s0 s1 s2
 have hs1:=HB1.out.size
 unfold Ak
 obtain⟨og,hog⟩:∃g,g=decide (o<0):=⟨_,rfl⟩
 obtain⟨os,hos⟩:∃g,g=Cj o.natAbs:=⟨_,rfl⟩
 rw[<-hog,<-hos]
 obtain⟨V,hV⟩:∃V,V=w1.alloc (.cells #[.bool og,.string os] 169):=⟨_,rfl⟩
 obtain⟨gb,hgb⟩:∃gb,gb=w1.heap.size:=⟨_,rfl⟩
 have hVb:Below W.heap.size W V:=by rw[hV];exact HB1.out.alloc hs1 _
 have HF0:Hid (Bn (gK s 0:Int)):=by
  unfold Hid
  have e:((gK s 0:Nat):Int)=o:=by show (s.o.natAbs:Int)=o;rw[<-HSO.out];omega
  rw[e];exact Eg ω ω
 have HV:Hid (Ma V gb (gK s 0:Int)):=by
  unfold Hid
  have e:((gK s 0:Nat):Int)=o:=by show (s.o.natAbs:Int)=o;rw[<-HSO.out];omega
  rw[e,hV,hgb,hog,hos];exact Ma.new w1 _
 have hsV:gb<V.heap.size:=by rw[hV,hgb];simp
 have hVk:V.heap[w.heap.size]?=some (.cells #[.int .i64 f,.int .i64 t,.int .i64 o,.slice Ax s.x.length cx,.slice Ay s.y.length cy,.slice Az s.z.length cz] 110 (0,0)):=(hVb.block w.heap.size ω).trans HBK.out
 have HBV:Hid (Below w.heap.size w V):=HB.out.trans (hVb.mono HB.out.size)
 have hgw:w.heap.size<gb:=by omega
 have s0:V.cell? ⟨w.heap.size,0,none⟩=some (.int .i64 f):=by simp[World.cell?,hVk]
 have s1:V.cell? ⟨w.heap.size,1,none⟩=some (.int .i64 t):=by simp[World.cell?,hVk]
 have s2:V.cell? ⟨w.heap.size,2,none⟩=some (.int .i64 o):=by simp[World.cell?,hVk]
 have s3:V.cell? ⟨w.heap.size,3,none⟩=some (.slice Ax s.x.length cx):=by simp[World.cell?,hVk]
 have s4:V.cell? ⟨w.heap.size,4,none⟩=some (.slice Ay s.y.length cy):=by simp[World.cell?,hVk]
 have s5:V.cell? ⟨w.heap.size,5,none⟩=some (.slice Az s.z.length cz):=by simp[World.cell?,hVk]
 clear hVb hVk hog hos HB1 HB HBK
 go_upto_region 4 with fail
 rw[<-hV,<-hgb]
 clear hV hgb hs1
 go_wp2_with fail
 refine(HAX.out _).mono ?_
 rintro e w2 ⟨rfl,hb2⟩
 have HJ0:Hid (VaJ w s gb 0 w2):=⟨by rw[<-HSO.out];exact(hb2.cell (p:=⟨w.heap.size,2,none⟩) (by show w.heap.size<_;omega)).trans s2,HV.out.up hb2 hsV,λi hi=>absurd hi (Nat.not_lt_zero i),HF0.out,HBV.out.trans (hb2.mono HBV.out.size)⟩
 clear hb2 s0 s1 s2 s3 s4 s5 HV HBV HAX hsV hsW
 go_wp2_with fail
 go_loopw [38] (λkv wr=>∃k:Nat,k<=3/\kv= .int .i64 (k:Int)/\Hid (VaJ w s gb k wr)) (λkv _=>3-(intOf kv).toNat)
 case atStart=>exact⟨0,Nat.zero_le _,rfl,HJ0⟩
 case round=>
  obtain⟨k,hk,rfl,HJ⟩:=hrel
  clear HJ0
  by_cases hk3:k=3
  ·
   subst hk3
   have CX:Hid (∀wa,Below wr.heap.size wr wa->wa.heap[gb]?=some (.cells #[.bool (decide ((gK s 3:Int)<0)),.string (Cj (gK s 3))] 169 (0,0))):=λwa hb=>HJ.out.box.up hb HJ.out.box.lt
   rw[show decide ((gK s 3:Int)<0)=false from decide_eq_false ω] at CX
   have HO1:=Lib.hid (Rz (wr:=wr) (λwa=>Ss 1 wa δ δ))
   unfold Ak at HO1
   rw[show decide ((1:Int)<0)=false from rfl,show (1:Int).natAbs=1 from rfl] at HO1
   have HBW:=Lib.hid HJ.out.below
   have HSE:Hid (Hy s↔gK s 3=1):=by
    constructor
    · exact λh=>h.2.2.2.2
    · exact λh=>⟨HH.out,HJ.out.ok 0 ω,HJ.out.ok 1 ω,HJ.out.ok 2 ω,h⟩
   obtain⟨us,hus⟩:∃g,g=Cj (gK s 3):=⟨_,rfl⟩
   obtain⟨vs,hvs⟩:∃g,g=Cj 1:=⟨_,rfl⟩
   have HUV:Hid ((us=vs/\decide (Hy s)=true)\/(¬us.toList=vs.toList/\decide (Hy s)=false)):=by
    by_cases h:gK s 3=1
    · exact .inl ⟨by rw[hus,hvs,h],decide_eq_true (HSE.out.2 h)⟩
    ·
     refine .inr ⟨λe=>?_,decide_eq_false λh2=>h (HSE.out.1 h2)⟩
     rw[hus,hvs] at e
     exact h (rC e)
   rw[<-hus] at CX
   rw[<-hvs] at HO1
   clear hus hvs HJ HSE
   go_wp2_with fail
   refine Jr 2 85 (λw'=>Below wr.heap.size wr w') [is (.agg #[.bool false,.string us]),is (.agg #[.bool false,.string vs])] κ κ rfl δ ?hst ?h0 ?hop ?htail
   case hst=>
    simp only[List.mem_cons,List.mem_nil_iff,or_false,forall_eq_or_imp,forall_eq]
    exact⟨Aj _,Aj _⟩
   case h0=>exact(Below.refl _ _).drew
   case hop=>
    refine⟨?_,?_,trivial⟩
    · exact Dh 169 (.tmp 3) (.pointer (some ⟨gb,0,none⟩)) (.agg #[.bool false,.string us]) rfl κ (λwa hC=>Hn [.bool false,.string us] wa κ κ (xA (CX.out wa hC))) rfl
    · exact Gt 97 [.const (.int .i64 1)] _ [.int .i64 1] rfl (λ_ _=>by kernel_rfl) ⟨κ,trivial⟩ HO1.out
   case htail=>
   intro τ w2 hC hR
   have r0:τ 0= .agg #[.bool false,.string us]:=hR 0 δ
   have r1:τ 1= .agg #[.bool false,.string vs]:=hR 1 δ
   simp only[Cw,List.getElem?_toArray,List.getElem?_cons_succ,List.getElem?_cons_zero,Option.bind_some,Act.put,List.setIfInBounds_toArray,List.set_cons_succ,List.set_cons_zero,List.drop_succ_cons,List.drop_zero,r0,r1]
   clear hR r0 r1
   have HBX:=Lib.hid (HBW.out.trans (hC.mono HBW.out.size))
   clear hC
   rcases HUV.out with⟨huv,hd⟩|⟨huv,hd⟩
   ·
    subst huv
    have HD:=Lib.hid hd
    clear hd
    go_wp2_with fail
    exact bodyPost_ret (v:= .bool true) (by simp[results,results75]) rfl ⟨by rw[HD.out],HBX.out⟩
   ·
    have HD:=Lib.hid hd
    clear hd
    go_wp2_with fail
    exact bodyPost_ret (v:= .bool false) (by simp[results,results75]) rfl ⟨by rw[HD.out],HBX.out⟩
  ·
   have hkl:k<3:=by omega
   have hki:(k:Int)<3:=by omega
   obtain⟨A,c,hidx,hco⟩:=HX.out k hkl
   have HCO:=Lib.hid hco
   have HIX:=Lib.hid hidx
   clear hco hidx
   go_upto_region 7 with(refine jK rfl (.tmp 37) (.tmp 38) rfl _ _ _ (.slice A (axL s k).length c) k rfl rfl hkl HIX.out ?_)
   obtain⟨l,hl⟩:∃l,l=axL s k:=⟨_,rfl⟩
   have HLI:Hid (∀i,-9223372036854775808<=l.getD i 0/\l.getD i 0<=9223372036854775807):=by unfold Hid;rw[hl];exact HI.out k
   have HL:=Lib.hid hl
   rw[<-hl] at HCO ⊢
   have HBAD:Hid (¬Pn l o->decide (Hy s)=false):=λhn=>decide_eq_false λh=>by
    obtain⟨_,h0,h1,h2,_⟩:=h
    apply hn
    rw[HSO.out,hl]
    match k with
    |0=>exact h0
    |1=>exact h1
    |2=>exact h2
   have HBW:=Lib.hid HJ.out.below
   clear hl
   by_cases l1:l.length<1
   ·
    have HF:Hid (decide (Hy s)=false):=HBAD.out λh=>by have:=h.1;omega
    have l1':(l.length:Int)<1:=by omega
    clear HBAD HCO HL HJ HLI
    go_wp2_with fail
    exact bodyPost_ret (v:= .bool false) (by simp[results,results75]) rfl ⟨by rw[HF.out],HBW.out⟩
   by_cases l6:6<l.length
   ·
    have HF:Hid (decide (Hy s)=false):=HBAD.out λh=>by have:=h.2.1;omega
    have l1':¬(l.length:Int)<1:=by omega
    have l6':(6:Int)<(l.length:Int):=by omega
    clear HBAD HCO HL HJ HLI
    go_wp2_with fail
    exact bodyPost_ret (v:= .bool false) (by simp[results,results75]) rfl ⟨by rw[HF.out],HBW.out⟩
   obtain⟨b,q,c2,hA,hcell⟩:∃b q c2,(Value.slice A l.length c)= .slice (some ⟨b,q,none⟩) l.length c2/\∀i,i<l.length->w.cell? ⟨b,q+i*1,none⟩=some (.int .i64 (l.getD i 0)):=by
    rcases HCO.out with⟨_,_,_,e⟩|h
    · rw[e] at l1;exact absurd δ l1
    · exact h
   injection hA with hA1 _ hA2
   subst hA1
   subst hA2
   have hbw:b<w.heap.size:=by
    have:=hcell 0 ω
    simp only[World.cell?] at this
    cases h:w.heap[b]? with
    |none=>rw[h] at this;cases this
    |some x=>exact(Ξ h).1
   have HC:Hid (∀wa,Below w.heap.size w wa->∀i,i<l.length->wa.cell? ⟨b,q+i*1,none⟩=some (.int .i64 (l.getD i 0))):=λwa hb i hi=>(hb.cell (p:=⟨b,q+i*1,none⟩) hbw).trans (hcell i hi)
   have HBD:Hid (∀wa,Below w.heap.size w wa->Calls Tryz.prog 99 #[.slice (some ⟨b,q,none⟩) l.length c,.int .i64 o] wa λe w'=>e= .returned (.bool (decide (Zn l o l.length)))/\Below wa.heap.size wa w'):=λwa hb=>
    rK l o b q c wa (HC.out wa hb) ω ω HLI.out ω ω
   obtain⟨m,hm⟩:∃m,l.length=m+1:=⟨l.length-1,ω⟩
   have HM:=Lib.hid hm
   have hwm:IntKind.i64.wrap ((l.length:Int)-1)=(m:Int):=by rw[IntWalk.i64_in _ ω];omega
   have hml:m<l.length:=by omega
   have hmi:(m:Int)<(l.length:Int):=by omega
   have o2:wr.cell? ⟨w.heap.size,2,none⟩=some (.int .i64 o):=by rw[HSO.out];exact HJ.out.over
   have cm:=HC.out wr HBW.out m hml
   rw[Nat.mul_one] at cm
   have l1':¬(l.length:Int)<1:=by omega
   have l6':¬(6:Int)<(l.length:Int):=by omega
   obtain⟨x,hx⟩:∃x,x=l.getD m 0:=⟨_,rfl⟩
   rw[<-hx] at cm
   clear hcell hm
   by_cases lz:1<l.length/\x=0
   ·
    have HF:Hid (decide (Hy s)=false):=HBAD.out λh=>by
     apply h.2.2.1 lz.1
     rw[show l.length-1=m by have:=HM.out;omega,<-hx]
     exact lz.2
    have lone:(1:Int)<(l.length:Int):=by omega
    obtain⟨_,lz⟩:=lz
    clear HBAD HCO HL HJ HLI HBD HC hx
    go_wp2_with fail
    exact bodyPost_ret (v:= .bool false) (by simp[results,results75]) rfl ⟨by rw[HF.out],HBW.out⟩
   have HLZ:=Lib.hid lz
   have lzz:(¬(1:Int)<(l.length:Int))\/((1:Int)<(l.length:Int)/\¬x=0):=by omega
   have HAX2:Hid (Zn l o l.length->Pn l o):=λh=>⟨ω,ω,λh1=>by
    have:=HM.out
    rw[show l.length-1=m by omega,<-hx]
    intro e
    exact HLZ.out ⟨h1,e⟩,h⟩
   have HNB:Hid (decide (Zn l o l.length)=false->decide (Hy s)=false):=λh=>HBAD.out λh2=>(of_decide_eq_false h) h2.2.2.2
   clear lz HLZ HBAD hx HCO
   obtain⟨bb,hbb⟩:∃bb,bb=decide (Zn l o l.length):=⟨_,rfl⟩
   rw[<-hbb] at HBD HNB
   have HBB:=Lib.hid hbb
   clear hbb
   rcases lzz with lone|⟨lone,lx⟩
   all_goals
    go_wp2_with fail
    refine(HBD.out _ HBW.out).mono ?_
    rintro e w3 ⟨rfl,hb3⟩
    have HB3:Hid (Below wr.heap.size wr w3):=hb3
    clear hb3
    cases bb
    ·
     have HF:=Lib.hid (HNB.out rfl)
     have HBX:=Lib.hid (HBW.out.trans (HB3.out.mono HBW.out.size))
     go_wp2_with fail
     exact bodyPost_ret (v:= .bool false) (by simp[results,results75]) rfl ⟨by rw[HF.out],HBX.out⟩
    ·
     have HOK:Hid (Pn l o):=HAX2.out (of_decide_eq_true HBB.out.symm)
     have HK0:Hid (VaK w s l gb k 0 w3):=by
      have h:=HJ.out
      exact⟨(HB3.out.cell (p:=⟨w.heap.size,2,none⟩) (by have:=h.box.lt;show w.heap.size<_;omega)).trans h.over,h.box.up HB3.out h.box.lt,h.fit,h.below.trans (HB3.out.mono h.below.size)⟩
     have HJO:=Lib.hid HJ.out.ok
     clear HJ HAX2 HNB HBB HB3 HBD cm o2 HBW
     go_wp2_with fail
     go_loopw [72] (λiv wr=>∃i:Nat,i<=l.length/\iv= .int .i64 (i:Int)/\Hid (VaK w s l gb k i wr)) (λiv _=>l.length-(intOf iv).toNat)
     case atStart=>exact⟨0,Nat.zero_le _,rfl,HK0⟩
     case round=>
      obtain⟨i,hi,rfl,HK⟩:=hrel
      clear HK0
      by_cases hil:i=l.length
      ·
       subst hil
       have HNX:Hid (VaJ w s gb (k+1) wr):=by
        have h:=HK.out
        have e:Od (gK s k) (l.take l.length)=gK s (k+1):=by rw[List.take_length];show _=Od (gK s k) (axL s k);rw[HL.out]
        refine⟨h.over,by rw[<-e];exact h.box,λi hi=>?_,by rw[<-e];exact h.fit,h.below⟩
        by_cases eik:i=k
        · rw[eik,<-HL.out,<-HSO.out];exact HOK.out
        · exact HJO.out i ω
       clear HK HJO HOK
       go_wp2_with fail
       exact⟨⟨k+1,ω,rfl,HNX⟩,by simp only[intOf];omega⟩
      ·
       have hil2:i<l.length:=by omega
       have hii:(i:Int)<(l.length:Int):=by omega
       have ci:=HC.out wr HK.out.below i hil2
       rw[Nat.mul_one] at ci
       have HNX:Hid (∀w2,Below wr.heap.size wr w2->VaK w s l gb k (i+1) ((w2.setCell ⟨gb,0,none⟩ (.bool (decide ((Od (gK s k) (l.take (i+1)):Int)<0)))).setCell ⟨gb,1,none⟩ (.string (Cj (Od (gK s k) (l.take (i+1)):Int).natAbs)))):=λw2 hb=>by
        have h:=HK.out
        refine⟨?_,(h.box.up hb h.box.lt).store _,?_,Below.store2 (h.below.trans (hb.mono h.below.size)) ω _ _⟩
        · exact(World.cell?_of_block (Si _ _ (by show w.heap.size≠gb;omega))).trans ((hb.cell (p:=⟨w.heap.size,2,none⟩) (by have:=h.box.lt;show w.heap.size<_;omega)).trans h.over)
        ·
         rw[lE _ _ hil2]
         have:=oG h.fit (Eg (HLI.out i).1 (HLI.out i).2)
         rw[Int.natAbs_natCast] at this
         exact this
       obtain⟨x,hx⟩:∃x,x=l.getD i 0:=⟨_,rfl⟩
       have hxi:=HLI.out i
       rw[<-hx] at hxi ci
       have HOX:=Lib.hid (Rz (wr:=wr) (λwa=>Ss x wa hxi.1 hxi.2))
       have HGC:=Lib.hid (Rz (wr:=wr) (λwa=>AhV (Od (gK s k) (l.take i):Int) x wa HK.out.fit (Eg hxi.1 hxi.2)))
       rw[Int.natAbs_natCast,hx,<-lE _ _ hil2,<-hx] at HGC
       have CX:Hid (∀wa,Below wr.heap.size wr wa->wa.heap[gb]?=some (.cells #[.bool (decide ((Od (gK s k) (l.take i):Int)<0)),.string (Cj (Od (gK s k) (l.take i):Int).natAbs)] 169 (0,0))):=λwa hb=>HK.out.box.up hb HK.out.box.lt
       unfold Ak at HOX HGC
       obtain⟨xg,hxg⟩:∃g,g=decide (x<0):=⟨_,rfl⟩
       obtain⟨xs,hxs⟩:∃g,g=Cj x.natAbs:=⟨_,rfl⟩
       obtain⟨ug,hug⟩:∃g,g=decide ((Od (gK s k) (l.take i):Int)<0):=⟨_,rfl⟩
       obtain⟨us,hus⟩:∃g,g=Cj (Od (gK s k) (l.take i):Int).natAbs:=⟨_,rfl⟩
       obtain⟨vg,hvg⟩:∃g,g=decide ((Od (gK s k) (l.take (i+1)):Int)<0):=⟨_,rfl⟩
       obtain⟨vs,hvs⟩:∃g,g=Cj (Od (gK s k) (l.take (i+1)):Int).natAbs:=⟨_,rfl⟩
       rw[<-hxg,<-hxs] at HOX HGC
       rw[<-hug,<-hus] at HGC CX
       rw[<-hvg,<-hvs] at HGC HNX
       clear hxg hxs hug hus hvg hvs hxi hx HK HJO HOK
       go_wp2_with fail
       refine Jr 4 85 (λw'=>Below wr.heap.size wr w') [is (.agg #[.bool ug,.string us]),is (.int .i64 x),is (.agg #[.bool xg,.string xs]),is (.agg #[.bool vg,.string vs])] κ κ rfl δ ?hst ?h0 ?hop ?htail
       case hst=>
        simp only[List.mem_cons,List.mem_nil_iff,or_false,forall_eq_or_imp,forall_eq]
        exact⟨Aj _,Aj _,Aj _,Aj _⟩
       case h0=>exact(Below.refl _ _).drew
       case hop=>
        refine⟨?_,?_,?_,?_,trivial⟩
        · exact Dh 169 (.tmp 3) (.pointer (some ⟨gb,0,none⟩)) (.agg #[.bool ug,.string us]) rfl κ (λwa hC=>Hn [.bool ug,.string us] wa κ κ (xA (CX.out wa hC))) rfl
        · exact Dd (.tmp 7) (is (.int .i64 x)) rfl κ (λ_ _ _ h=>h)
        · exact Gt 97 [.tmp 77] _ [.int .i64 x] rfl (λ_ _=>by kernel_rfl) ⟨κ,trivial⟩ HOX.out
        · exact Gt 100 [.tmp 76,.tmp 78] _ [.agg #[.bool ug,.string us],.agg #[.bool xg,.string xs]] rfl (λ_ _=>by kernel_rfl) ⟨κ,κ,trivial⟩ HGC.out
       case htail=>
       intro τ w2 hC hR
       have r3:τ 3= .agg #[.bool vg,.string vs]:=hR 3 δ
       simp only[Cw,List.getElem?_toArray,List.getElem?_cons_succ,List.getElem?_cons_zero,Option.bind_some,Act.put,List.setIfInBounds_toArray,List.set_cons_succ,List.set_cons_zero,List.drop_succ_cons,List.drop_zero,r3]
       clear hR r3
       have HN2:=Lib.hid (HNX.out w2 hC)
       have h1:=CX.out w2 hC
       obtain⟨c0,c1⟩:=kN h1
       have f0:=Ag9 h1 0
       have f1:=Ag9 h1 1
       clear hC h1 CX HOX HGC HNX
       go_wp2_with fail
       exact⟨⟨i+1,ω,rfl,HN2⟩,by simp only[intOf];omega⟩
theorem pL (s:Sg) (Ax Ay Az:Option Addr) (cx cy cz:Nat) (w:World)
  (hx:Ti w (.slice Ax s.x.length cx) s.x) (hy:Ti w (.slice Ay s.y.length cy) s.y) (hz:Ti w (.slice Az s.z.length cz) s.z)
  (hi:∀k i,-9223372036854775808<=(axL s k).getD i 0/\(axL s k).getD i 0<=9223372036854775807):
  Calls Tryz.prog 75 #[.agg #[.int .i64 s.f,.int .i64 s.t,.int .i64 s.o,.slice Ax s.x.length cx,.slice Ay s.y.length cy,.slice Az s.z.length cz]] w λe w'=>e= .returned (.bool (decide (Hy s)))/\Below w.heap.size w w':=by
 by_cases hh:Tj s.f s.t s.o
 exact AcN s Ax Ay Az cx cy cz w hh hx hy hz hi
 refine(AgL s.f s.t s.o Ax Ay Az _ cx _ cy _ cz w hh).mono ?_
 rintro e w' ⟨rfl,hb⟩
 exact⟨by rw[decide_eq_false (λh:Hy s=>hh h.1)],hb⟩
end Go.Proofs.YtihcpmmopejpoaaGreatDoor
namespace Go.Proofs.YtihcpmmopejpoaaGreatDoor
open Go.RowKit
structure Bd (e:Nat) (z:Int):Prop where
 le:z.natAbs<=2^e
theorem Bd.fit {e:Nat} {z:Int} (h:Bd e z) (he:e<=60000):Bn z:=by
 unfold Bn
 have h1:z.natAbs<2^(e+1):=by
  have:=h.le
  have h2:0<2^e:=Nat.pow_pos δ
  rw[Nat.pow_succ]
  omega
 exact Nat.le_trans (Fh.2 h1) ω
theorem Bd.mono {e f:Nat} {z:Int} (h:Bd e z) (hf:e<=f):Bd f z:=⟨Nat.le_trans h.le (Nat.pow_le_pow_right δ hf)⟩
theorem Bd.add {e:Nat} {x y:Int} (h:Bd e x) (k:Bd e y):Bd (e+1) (x+y):=⟨by
 have:=Int.natAbs_add_le x y
 have h1:=h.le
 have h2:=k.le
 rw[Nat.pow_succ]
 omega⟩
theorem Bd.mul {e f:Nat} {x y:Int} (h:Bd e x) (k:Bd f y):Bd (e+f) (x*y):=⟨by
 rw[Int.natAbs_mul,Nat.pow_add]
 exact Nat.mul_le_mul h.le k.le⟩
theorem Bd.pow {e:Nat} {x:Int} (h:Bd e x) (k:Nat):Bd (e*k) (x^k):=⟨by
 rw[Int.natAbs_pow,Nat.pow_mul]
 exact Nat.pow_le_pow_left h.le k⟩
theorem Bd.int {x:Int} (h0: -9223372036854775808<=x) (h1:x<=9223372036854775807):Bd 63 x:=⟨by
 have:(2:Nat)^63=9223372036854775808:=by decide
 omega⟩
theorem Bd.zero (e:Nat):Bd e 0:=⟨by simp⟩
theorem Bd.div {e:Nat} {x:Int} (h:Bd e x) (y:Int):Bd e (x/y):=⟨Nat.le_trans (Int.natAbs_ediv_le_natAbs x y) h.le⟩
theorem Bd.gcd {e:Nat} {x y:Int} (h:Bd e x) (k:Bd e y):Bd e (Nat.gcd x.natAbs y.natAbs:Int):=⟨by
 rw[Int.natAbs_natCast]
 by_cases hx:x.natAbs=0
 rw[hx,Nat.gcd_zero_left];exact k.le
 exact Nat.le_trans (Nat.gcd_le_left _ ω) h.le⟩
def gG (l:List Int) (a d:Int):Nat->Int
 |0=>0
 |k+1=>gG l a d k+l.getD k 0*(a^k*d^(5-k))
abbrev Cg (x:Int):Prop:= -9223372036854775808<=x/\x<=9223372036854775807
structure Zo (s:Sg):Prop where
 f:Cg s.f
 t:Cg s.t
 o:Cg s.o
 x:∀i,Cg (s.x.getD i 0)
 y:∀i,Cg (s.y.getD i 0)
 z:∀i,Cg (s.z.getD i 0)
theorem Sk {x a d:Int} (hx:Cg x) (ha:Cg a) (hd:Cg d) {k:Nat} (hk:k<=5):Bd 378 (x*(a^k*d^(5-k))):=
 ((Bd.int hx.1 hx.2).mul (((Bd.int ha.1 ha.2).pow k).mul ((Bd.int hd.1 hd.2).pow (5-k)))).mono ω
theorem pB {l:List Int} {a d:Int} (hl:∀i,Cg (l.getD i 0)) (ha:Cg a) (hd:Cg d):∀k,k<=6->Bd (378+k) (gG l a d k)
 |0,_=>Bd.zero _
 |k+1,hk=>(pB hl ha hd k ω).add ((Sk (hl k) ha hd ω).mono ω)
def plX (s:Sg) (a d:Int):Int:=gG s.x a d s.x.length
def plY (s:Sg) (a d:Int):Int:=gG s.y a d s.y.length
def plZ (s:Sg) (a d:Int):Int:=gG s.z a d s.z.length
def mA (s:Sg) (d:Int):Int:=s.o*d^5
def plG (s:Sg) (a d:Int):Int:=((Nat.gcd ((Nat.gcd (Nat.gcd (mA s d).natAbs (plX s a d).natAbs:Int).natAbs (plY s a d).natAbs:Nat):Int).natAbs (plZ s a d).natAbs:Nat):Int)
structure PL where
 x:Int
 y:Int
 z:Int
 o:Int
deriving DecidableEq
def Ig (s:Sg) (a d:Int):PL:=⟨plX s a d/plG s a d,plY s a d/plG s a d,plZ s a d/plG s a d,mA s d/plG s a d⟩
end Go.Proofs.YtihcpmmopejpoaaGreatDoor