/- Part 23 of the proof of PF.card_holds: no condition beyond the row's. -/
import Derived.Test.YtihcpmmopejpoaaGreatDoorPF22
import Derived.RangeFuncNested
set_option maxRecDepth 100000
set_option maxHeartbeats 40000000
namespace Go.Proofs.YtihcpmmopejpoaaGreatDoor
open Go.RowKit
variable {B:Nat} {D0:Ar} {s:St} {Q:Exit->St->Prop}
def AfA (P:Program) (R:Option Nat) (B:Nat) (D0 D1:Ar) (fn:Func) (s:St) (Q:Exit->St->Prop) (_:Fz):Exit->St->Prop:=Af9 P B D1 fn λ_ h' nx'=>∃st pe sp t' n',Aq h' s.nx=some (.loop st pe sp t' n')/\st≠.busy/\
 match pe with
 |none=>Q .normal ⟨s.t,Hf h' s.nx,nx',s.n⟩
 |some c=>AC P R B D0 c ⟨s.t,Hf h' s.nx,nx',s.n⟩ Q
theorem AbA (l0 lid:Nat) (hl0:D0.A lid/\D0.π lid=l0) {st0:LoopState} {pe0:Option Code} {sp0:Fz} {t0:Gb} {n0:Nat} (hlp:Aq s.h lid=some (.loop st0 pe0 sp0 t0 n0)) {g:Operand} {ps:Array Tmp} {assign body:Code} (f:FuncId) {fn:Func} {c:Code} (caps:List AV) (n:Nat) (hg:s.ev g= .fn f caps) (hcall:∀(vs:Array Value) w,(callFunc f vs).run Tryz.prog w= .ok (.enter f vs) w) (hf:Tryz.prog.funcs[f]?=some fn) (hc:fn.body=some c) (hn:fn.ntmps=n) (hle:Nat.ble (caps.length+1) n=true)
  (hbody:∀D1,(∀id,D1.A id->id<s.nx+1)->AC Tryz.prog none B D1 c ⟨Df (.yld s.nx::caps) 0,hset s.h s.nx (.loop .ready none ⟨ps,assign,body⟩ s.t s.n),s.nx+1,n⟩ (AfA Tryz.prog (some l0) B D0 D1 fn s Q ⟨ps,assign,body⟩)):AC Tryz.prog (some l0) B D0 (.rangeFunc g ps assign body) s Q:=by
 refine⟨λE a hs=>wpIn_rangeFunc λfid _=>?_⟩
 let sp:Fz:=⟨ps,assign,body⟩
 obtain⟨m0,fid0,tm0,hL0,_,_⟩:=hs.h.loopAt hlp
 have hπ0:E.π lid=l0:=(hs.h.le0.π lid hl0.1).trans hl0.2
 rw[hπ0] at hL0
 have hnid:¬E.A s.nx:=λh=>Nat.lt_irrefl _ (hs.A s.nx h)
 obtain⟨hle2,hb2,hm2⟩:=hs.h.more hnid 0 (.loop { state:= .ready,pending:=none,fn:=fid,tmps:=a.tmps,params:=ps,assign:=assign,body:=body,defers:=m0 })
 obtain⟨E2,hE2⟩:∃E2,E2=E.more s.nx 0 (.loop { state:= .ready,pending:=none,fn:=fid,tmps:=a.tmps,params:=ps,assign:=assign,body:=body,defers:=m0 }):=⟨_,rfl⟩
 rw[<-hE2] at hle2 hb2 hm2
 have hw2:E2.w=E.w.alloc (.loop { state:= .ready,pending:=none,fn:=fid,tmps:=a.tmps,params:=ps,assign:=assign,body:=body,defers:=m0 }):=by rw[hE2];rfl
 have hπ2:E2.π s.nx=E.w.heap.size:=by
  rw[hE2]
  show (if s.nx=s.nx then E.w.heap.size else _)=_
  rw[if_pos rfl]
 have hle02:E.le E2:=hle2
 have hA2:∀id,E2.A id->id<s.nx+1:=λid hid=>by
  rw[hE2] at hid
  rcases hid with hid|hid
  · have:=hs.A id hid;omega
  · omega
 have hA2n:E2.A s.nx:=by rw[hE2];exact .inr rfl
 have hh2:HR B D0 E2 (Aq (hset s.h s.nx (.loop .ready none sp s.t s.n))):=by
  have:(λid=>Aq (hset s.h s.nx (.loop .ready none sp s.t s.n)) id)=λi=>if s.nx=i then some (.loop .ready none sp s.t s.n) else Aq s.h i:=funext λid=>Ef _ _ _ _
  show HR B D0 E2 (λid=>Aq (hset s.h s.nx (.loop .ready none sp s.t s.n)) id)
  rw[this]
  refine hm2 _ (.loop _ _ _ _ _ _ _ m0 fid a.tmps ?_ hs.size λi=>(hs.t i).up hle02)
  rw[hw2]
  have:=World.alloc_heap_new E.w (.loop { state:= .ready,pending:=none,fn:=fid,tmps:=a.tmps,params:=ps,assign:=assign,body:=body,defers:=m0 })
  exact this
 have hgv:VR E (.fn f caps) (a.eval g):=by rw[<-hg];exact hs.ev g
 obtain⟨vs,hvs1,hvs2,hvs3⟩:∃vs:Array Value,a.eval g= .func (.func f) #[] vs/\vs.size=caps.length/\∀i,i<caps.length->VR E (caps.getD i .top) (vs.getD i undef):=by
  generalize a.eval g=z at hgv
  cases hgv with
  |fn _ _ _ vs hn hr=>exact⟨vs,rfl,hn,hr⟩
 refine⟨E.w.heap.size,[],E2.w,{ target:= .fn (.func f) vs,args:=#[.func (.yield E.w.heap.size) #[] #[]] },E2.w,f,
  #[.func (.yield E.w.heap.size) #[] #[]]++vs,E2.w,?_,?_,λ_ _=>trivial,?_,λhf=>by simp[Qt,Fence.wide] at hf,?_⟩
 · rw[hw2];exact run_enterLoop_inner hL0 _ _ _ _ _
 ·
  simp only[resolve,hvs1]
  simp[go_sem]
 · simp[invoke,go_sem,hcall]
 ·
  have hcalls:=Rz (K:=λ_ h' nx'=>∃st pe sp t' n',Aq h' s.nx=some (.loop st pe sp t' n')/\st≠.busy/\
    match pe with
    |none=>Q .normal ⟨s.t,Hf h' s.nx,nx',s.n⟩
    |some c=>AC Tryz.prog (some l0) B D0 c ⟨s.t,Hf h' s.nx,nx',s.n⟩ Q) hf hc n hn (args:= .yld s.nx::caps) (by simpa using hle) hbody (E:=E2) (vs:=#[.func (.yield E.w.heap.size) #[] #[]]++vs) hh2 hA2 (by simp[hvs2];omega) (λi hi=>by
     cases i with
     |zero=>
      have:=VR.yld E2 s.nx hA2n
      rw[hπ2] at this
      have e2:(#[Value.func (.yield E.w.heap.size) #[] #[]]++vs).getD 0 undef= .func (.yield E.w.heap.size) #[] #[]:=by simp[Array.getD_eq_getD_getElem?,Array.getElem?_append]
      rw[e2]
      exact this
     |succ i=>
      have hi2:i<caps.length:=by simpa using hi
      have h3:=(hvs3 i hi2).up hle02
      have e2:(#[Value.func (.yield E.w.heap.size) #[] #[]]++vs).getD (i+1) undef=vs.getD i undef:=by
       simp[Array.getD_eq_getD_getElem?,Array.getElem?_append]
      rw[e2]
      simpa using h3)
  refine callsIn_wide.2 (hcalls.mono ?_)
  rintro e w' ⟨v,r,h',nx',E',rfl,rfl,hr,⟨st,pe,sp',t',n',hl,hst,hk⟩,k1,k2,k3,k4⟩
  obtain⟨m,fid',tm,hL,hn',hr'⟩:=k2.loopAt hl
  have hπ':E'.π s.nx=E.w.heap.size:=(k1.π s.nx hA2n).trans hπ2
  rw[hπ'] at hL
  refine⟨pe,_,run_endLoop hL hst,?_⟩
  obtain⟨v1,v2,v3⟩:=k2.turnLoop (st':= .exhausted) (pe':=pe) (m:=m) (fid:=fid') hl hn' hr'
  rw[hπ'] at v1 v2 v3
  have hle3:=(hle02.trans k1).trans v1
  have hbl:Below B E.w (E'.w.putObj E.w.heap.size (.loop { state:= .exhausted,pending:=pe,fn:=fid',tmps:=tm,params:=sp'.params,assign:=sp'.assign,body:=sp'.body,defers:=m })):=by
   refine Below.trans ?_ (k4.trans v2)
   rw[hw2]
   exact(Below.refl B E.w).alloc hs.h.B _
  have hsim:Im B D0 { E' with w:=E'.w.putObj E.w.heap.size (.loop { state:= .exhausted,pending:=pe,fn:=fid',tmps:=tm,params:=sp'.params,assign:=sp'.assign,body:=sp'.body,defers:=m }) } ⟨s.t,Hf h' s.nx,nx',s.n⟩ { a with defers:=[]++a.defers }:=by
   refine⟨hs.size,hs.df.up hle3.D hle3.blk,λi=>(hs.t i).up hle3,v3.sub λid b hb=>?_,k3⟩
   ·
    rw[Gd] at hb
    by_cases e:s.nx=id
    · rw[if_pos e] at hb;cases hb
    ·
     rw[if_neg e] at hb ⊢
     exact hb
  cases pe with
  |none=>exact⟨_,_,rfl,hk,hsim,hbl⟩
  |some c'=>
   refine Db ?_ (hk.run _ _ hsim)
   rintro e a3 w3 ⟨s3,E3,rfl,hq3,hs3,hb3⟩
   exact⟨s3,E3,rfl,hq3,hs3,hbl.trans hb3⟩
end Go.Proofs.YtihcpmmopejpoaaGreatDoor
namespace Go.Proofs.YtihcpmmopejpoaaGreatDoor
open Go.RowKit
inductive FR where
 |call (c:Bu) (fn:Func)
 |rng (c:Bu) (fn:Func)
 |asg (c:Bu) (sp:Fz)
 |rnd (c:Bu) (sp:Fz)
 |lnt (t:TypeId) (hs:List (TypeId×List AV))
structure MC where
 c:Bu
 f:List FR
def Bu.lsp (c:Bu):Fz:=⟨c.rp,c.ra,c.rb⟩
def QGR (R:Option Nat) (B:Nat) (D0 D1:Ar) (fn:Func) (Q:Exit->St->Prop) (c0:Bu) (sp:Fz):Exit->St->Prop:=AfA Tryz.prog R B D0 D1 fn c0.s (λe s=>∃s',Hv B D0 s s'/\KQ Tryz.prog R B D0 Q c0.k e s') sp
def QL (P:Program) (B:Nat) (D0:Ar) (fn:Func) (r:AV) (t:TypeId) (hs:List (TypeId×List AV)):Exit->St->Prop:=λe s=>(e= .ret\/e= .normal)/\∃(V:Value) (us:List Value),r= .tup (.lit V::us.map .lit)/\Oj P B D0 fn s (.lit V)/\Aq s.h 0=some (.box t (us.map .lit))/\∀i,i<hs.length->Aq s.h (i+1)=some (.box (hs.getD i (0,[])).1 (hs.getD i (0,[])).2)
inductive wU (fn0:Func) (r:AV) (B:Nat):List FR->Option Nat->Ar->(Exit->St->Prop)->Prop
 |top (D0:Ar) (h:∀id,D0.A id->id<0):wU fn0 r B [] none D0 (QF Tryz.prog B D0 fn0 r)
 |lnt (t:TypeId) (hs:List (TypeId×List AV)) (D0:Ar) (h:∀id,D0.A id->id<hs.length+1):wU fn0 r B [.lnt t hs] none D0 (QL Tryz.prog B D0 fn0 r t hs)
 |call {fs:List FR} {R:Option Nat} {D:Ar} {Q:Exit->St->Prop} (c:Bu) (fn:Func) (D1:Ar) (hD:∀id,D1.A id->id<c.s.nx) (h:wU fn0 r B fs R D Q):wU fn0 r B (.call c fn::fs) none D1 (rA Tryz.prog B D1 fn λv h nx=>Go Tryz.prog R B D Q (c.back v h nx))
 |rng {fs:List FR} {R:Option Nat} {D:Ar} {Q:Exit->St->Prop} (c:Bu) (fn:Func) (D1:Ar) (hD:∀id,D1.A id->id<c.s.nx+1) (h:wU fn0 r B fs R D Q):wU fn0 r B (.rng c fn::fs) none D1 (QGR R B D D1 fn Q c c.lsp)
 |asg {fs:List FR} {R:Option Nat} {D:Ar} {Q:Exit->St->Prop} (c:Bu) (sp:Fz) (l0:Nat) (D1:Ar) (hD:∀id,D1.A id->id<c.s.nx) (hl:D1.A c.yl/\D1.π c.yl=l0) (h:wU fn0 r B fs R D Q):wU fn0 r B (.asg c sp::fs) (some l0) D1 (QY l0 B D1 sp.body c.yl sp (c.ln c.yl) (QR R B D Q c sp))
 |rnd {fs:List FR} {R:Option Nat} {D:Ar} {Q:Exit->St->Prop} (c:Bu) (sp:Fz) (l0:Nat) (D1:Ar) (hD:∀id,D1.A id->id<c.s.nx) (hl:D1.A c.yl/\D1.π c.yl=l0) (h:wU fn0 r B fs R D Q):wU fn0 r B (.rnd c sp::fs) (some l0) D1 (QR R B D Q c sp)
def TE (fn0:Func) (φ:AV->Prop) (m:MC):Prop:=∃r,φ r/\∀B R D Q,wU fn0 r B m.f R D Q->Go Tryz.prog R B D Q m.c
variable {fn0:Func} {φ:AV->Prop} {c c':Bu} {fs:List FR}
theorem gs (h:∀{R:Option Nat} {B:Nat} {D:Ar} {Q:Exit->St->Prop},Go Tryz.prog R B D Q c'->Go Tryz.prog R B D Q c) (t:TE fn0 φ ⟨c',fs⟩):TE fn0 φ ⟨c,fs⟩:=by
 obtain⟨r,h1,h2⟩:=t
 exact⟨r,h1,λB R D Q hc=>h (h2 B R D Q hc)⟩
theorem Ab (n:Nat) (t:TE fn0 φ ⟨run Tryz.prog n c,fs⟩):TE fn0 φ ⟨c,fs⟩:=gs (λh=>Ae n h) t
theorem cE {f:FuncId} {fn:Func} {x:Code} (hf:Tryz.prog.funcs[f]?=some fn)
  (t:TE fn0 φ ⟨⟨.code x,[],⟨Df (c.xs.toList.map c.s.ev) 0,c.s.h,c.s.nx,fn.ntmps⟩⟩,.call c fn::fs⟩)
  (hc:fn.body=some x:=by rfl) (ho:c.o.op= .call { callee:= .value (.func f),args:=c.xs,argTypes:=c.ts }:=by kernel_rfl) (hcall:∀(vs:Array Value) w,(callFunc f vs).run Tryz.prog w= .ok (.enter f vs) w:=by intro _ _;kernel_rfl)
  (hle:Nat.ble (c.xs.toList.map c.s.ev).length fn.ntmps=true:=by kernel_rfl) (hok:c.ok=true:=by kernel_rfl) (hg:c.o.guard=none:=by kernel_rfl):TE fn0 φ ⟨c,fs⟩:=by
 obtain⟨r,h1,h2⟩:=t
 exact⟨r,h1,λB R D Q hx=>Al4 c.s.nx hf (λD1 hD=>h2 _ _ _ _ (.call c fn D1 hD hx)) hc ho hcall hle hok hg rfl⟩
theorem uS {f:FuncId} {fn:Func} {x:Code} (hf:Tryz.prog.funcs[f]?=some fn)
  (t:TE fn0 φ ⟨⟨.code x,[],⟨Df (c.xs.toList.map c.s.ev++c.cps) 0,c.s.h,c.s.nx,fn.ntmps⟩⟩,.call c fn::fs⟩)
  (hc:fn.body=some x:=by rfl) (ho:c.o.op= .call { callee:= .value c.fx,args:=c.xs,argTypes:=c.ts }:=by kernel_rfl) (hx:c.s.ev c.fx= .fn f c.cps:=by kernel_rfl) (hcall:∀(vs:Array Value) w,(callFunc f vs).run Tryz.prog w= .ok (.enter f vs) w:=by intro _ _;kernel_rfl)
  (hle:Nat.ble (c.xs.toList.map c.s.ev++c.cps).length fn.ntmps=true:=by kernel_rfl) (hok:c.ok=true:=by kernel_rfl) (hg:c.o.guard=none:=by kernel_rfl):TE fn0 φ ⟨c,fs⟩:=by
 obtain⟨r,h1,h2⟩:=t
 exact⟨r,h1,λB R D Q hy=>mL c.s.nx hf (λD1 hD=>h2 _ _ _ _ (.call c fn D1 hD hy)) hc ho hx hcall hle hok hg rfl⟩
theorem Iy {c0:Bu} {fn:Func} (t:TE fn0 φ ⟨c0.back (c.rI Tryz.prog fn) c.s.h c.s.nx,fs⟩) (hv:(Tw Tryz.prog fn c.s).isSome=true:=by kernel_rfl) (hn:c.isE=true:=by kernel_rfl):TE fn0 φ ⟨c,.call c0 fn::fs⟩:=by
 obtain⟨r,h1,h2⟩:=t
 refine⟨r,h1,λB R D Q hx=>?_⟩
 cases hx with
 |call _ _ D1 hD h=>exact vrI (h2 _ _ _ _ h) hv hn
def yls:List FR->Option Nat
 | .asg c _::_=>some c.yl
 | .rnd c _::_=>some c.yl
 |_=>none
def yM:Option Bc->Bool|some (.loop ..)=>true|_=>false
def yok (fs:List FR) (h:Du):Bool:=match yls fs with|none=>true|some l=>yM (Aq h l)
theorem lK:∀{o:Option Bc},yM o=true->∃st pe sp t n,o=some (.loop st pe sp t n)
 |some (.loop st pe sp t n),_=>⟨st,pe,sp,t,n,rfl⟩
 |some (.box ..),h=>by cases h
 |some (.vec ..),h=>by cases h
 |none,h=>by cases h
theorem wU.round {r:AV} {B:Nat} {R:Option Nat} {D:Ar} {Q:Exit->St->Prop} (h:wU fn0 r B fs R D Q):(R=none/\yls fs=none)\/∃l0 l,R=some l0/\yls fs=some l/\D.A l/\D.π l=l0:=by
 cases h with
 |top=>exact .inl ⟨rfl,rfl⟩
 |lnt=>exact .inl ⟨rfl,rfl⟩
 |call=>exact .inl ⟨rfl,rfl⟩
 |rng=>exact .inl ⟨rfl,rfl⟩
 |asg c sp l0 D1 hD hl=>exact .inr ⟨l0,_,rfl,rfl,hl.1,hl.2⟩
 |rnd c sp l0 D1 hD hl=>exact .inr ⟨l0,_,rfl,rfl,hl.1,hl.2⟩
theorem trg {f:FuncId} {fn:Func} {x:Code} (hf:Tryz.prog.funcs[f]?=some fn)
  (t:TE fn0 φ ⟨⟨.code x,[],⟨Df (.yld c.s.nx::c.rc) 0,hset c.s.h c.s.nx (.loop .ready none c.lsp c.s.t c.s.n),c.s.nx+1,fn.ntmps⟩⟩,.rng c fn::fs⟩)
  (hc:fn.body=some x:=by rfl) (hg:c.s.ev c.rg= .fn f c.rc:=by kernel_rfl) (hcall:∀(vs:Array Value) w,(callFunc f vs).run Tryz.prog w= .ok (.enter f vs) w:=by intro _ _;kernel_rfl) (hle:Nat.ble (c.rc.length+1) fn.ntmps=true:=by kernel_rfl) (hR:c.isR=true:=by kernel_rfl) (hy:yok fs c.s.h=true:=by kernel_rfl):TE fn0 φ ⟨c,fs⟩:=by
 obtain⟨r,h1,h2⟩:=t
 refine⟨r,h1,λB R D Q hx=>?_⟩
 have key:=λD1 (hD:∀id,D1.A id->id<c.s.nx+1)=>h2 B none D1 _ (.rng c fn D1 hD hx)
 obtain⟨m,k,s⟩:=c
 unfold Bu.isR at hR
 split at hR
 rename_i g ps asg bd hm
 cases hm
 rcases hx.round with⟨rfl,_⟩|⟨l0,l,rfl,h3,h4⟩
 exact⟨mO (AeI f _ fn.ntmps hg hcall hf hc rfl hle λsp e1 e2 e3 D1 hD=>by
  obtain⟨a,b,d⟩:=sp
  cases e1;cases e2;cases e3
  exact(key D1 hD).m)⟩
 unfold yok at hy
 dsimp only at h3
 rw[h3] at hy
 obtain⟨st,pe,sp,t,n,hlp⟩:=lK hy
 exact⟨mO (AbA l0 l h4 hlp f _ fn.ntmps hg hcall hf hc rfl hle λD1 hD=>(key D1 hD).m)⟩
 cases hR
theorem ApY {R:Option Nat} {B:Nat} {D0:Ar} {Q:Exit->St->Prop} {c0:Bu} {D1:Ar} {fn:Func} {sp:Fz} (h:Go Tryz.prog R B D0 Q (c0.af c)) (hl:Aq c.s.h c0.s.nx=some (.loop (c.lst c0.s.nx) (c.lpe c0.s.nx) sp (c.lt c0.s.nx) (c.ln c0.s.nx)):=by kernel_rfl) (hb:Abh (c.lst c0.s.nx)=true:=by kernel_rfl) (hv:(Tw Tryz.prog fn c.s).isSome=true:=by kernel_rfl) (hn:c.isE=true:=by kernel_rfl):Go Tryz.prog none B D1 (QGR R B D0 D1 fn Q c0 sp) c:=by
 refine vrI (K:=λ_ h' nx'=>∃st pe sp t' n',Aq h' c0.s.nx=some (.loop st pe sp t' n')/\st≠.busy/\match pe with
  |none=>∃s',Hv B D0 ⟨c0.s.t,Hf h' c0.s.nx,nx',c0.s.n⟩ s'/\KQ Tryz.prog R B D0 Q c0.k .normal s'
  |some x=>AC Tryz.prog R B D0 x ⟨c0.s.t,Hf h' c0.s.nx,nx',c0.s.n⟩ (λe s=>∃s',Hv B D0 s s'/\KQ Tryz.prog R B D0 Q c0.k e s')) ⟨_,_,_,_,_,hl,(λe=>by rw[e] at hb;cases hb),?_⟩ hv hn
 unfold Bu.af at h
 generalize c.lpe c0.s.nx=pe at h
 cases pe with
 |none=>exact h.m
 |some x=>exact cM h.m λe s hq=>⟨s,Hv.refl s,hq⟩
theorem tyl {sp:Fz} (t:TE fn0 φ ⟨⟨.code sp.assign,[],⟨jN sp.params.toList (c.xs.toList.map c.s.ev) (c.lt c.yl),c.s.h,c.s.nx,c.ln c.yl⟩⟩,.asg c sp::fs⟩)
  (ho:c.o.op= .call { callee:= .value c.fx,args:=c.xs,argTypes:=c.ts }:=by kernel_rfl) (hx:c.s.ev c.fx= .yld c.yl:=by kernel_rfl) (hl:Aq c.s.h c.yl=some (.loop .ready none sp (c.lt c.yl) (c.ln c.yl)):=by kernel_rfl) (hpb:psB sp.params (c.xs.toList.map c.s.ev).length (c.ln c.yl)=true:=by kernel_rfl) (hok:c.ok=true:=by kernel_rfl):TE fn0 φ ⟨c,fs⟩:=by
 obtain⟨r,h1,h2⟩:=t
 exact⟨r,h1,λB R D Q hy=>vyl c.s.nx rfl rfl rfl (λl0 D1 hD hl0=>h2 _ _ _ _ (.asg c sp l0 D1 hD hl0 hy)) ho hx hl hpb hok rfl⟩
theorem tyb {c0:Bu} {sp:Fz} (t:TE fn0 φ ⟨⟨.code sp.body,[],⟨c.s.t,hset c.s.h c0.yl (.loop .busy none sp (c.lt c0.yl) (c0.ln c0.yl)),c.s.nx,c.s.n⟩⟩,.rnd c0 sp::fs⟩) (hl:Aq c.s.h c0.yl=some (.loop .ready none sp (c.lt c0.yl) (c0.ln c0.yl)):=by kernel_rfl) (hn:c.isN=true:=by kernel_rfl) (hk:c.isNil=true:=by kernel_rfl):TE fn0 φ ⟨c,.asg c0 sp::fs⟩:=by
 obtain⟨r,h1,h2⟩:=t
 refine⟨r,h1,λB R D Q hx=>?_⟩
 cases hx with
 |asg _ _ l0 D1 hD hl0 h=>exact vrb (h2 _ _ _ _ (.rnd c0 sp l0 D hD hl0 h)) hl hn hk
theorem Pj {c0:Bu} {sp:Fz} (t:TE fn0 φ ⟨⟨.ops c0.a c0.l.tail,c0.k,⟨Lz c0.s.t c0.o.dst (.bool (rdB c.e)),hset c.s.h c0.yl (.loop (rdS c.e) (rdC c.e) sp (c.lt c0.yl) (c0.ln c0.yl)),c.s.nx,c0.s.n⟩⟩,fs⟩) (hl:Aq c.s.h c0.yl=some (.loop .busy none sp (c.lt c0.yl) (c0.ln c0.yl)):=by kernel_rfl) (hX:c.isX=true:=by kernel_rfl) (hk:c.isNil=true:=by kernel_rfl):TE fn0 φ ⟨c,.rnd c0 sp::fs⟩:=by
 obtain⟨r,h1,h2⟩:=t
 refine⟨r,h1,λB R D Q hx=>?_⟩
 cases hx with
 |rnd _ _ l0 D1 hD hl0 h=>exact vre (h2 _ _ _ _ h) hl hX hk
def Bu.lin (c:Bu):Bu:=⟨.code c.lb,.il c.lb::c.k,c.s⟩
theorem vlo {P:Program} {R:Option Nat} {B:Nat} {D0:Ar} {Q:Exit->St->Prop} (h:Go P R B D0 Q c.lin) (hl:c.isL=true:=by kernel_rfl):Go P R B D0 Q c:=by
 obtain⟨m,k,s⟩:=c
 unfold Bu.isL at hl
 split at hl
 rename_i b hm
 cases hm
 exact⟨AeH (kH h.m)⟩
 cases hl
theorem Nz {r:AV} (h:φ r) (hv:Sy Tryz.prog fn0 c.s=some r:=by kernel_rfl) (hn:c.isE=true:=by kernel_rfl):TE fn0 φ ⟨c,[]⟩:=
 ⟨r,h,λB R D Q hx=>by cases hx with|top D0 h=>exact Ck hv hn⟩
theorem Au {f:FuncId} {fn:Func} {args:List AV} (hf:Tryz.prog.funcs[f]?=some fn) {x:Code} (hc:fn.body=some x:=by rfl) (t:TE fn φ ⟨⟨.code x,[],⟨Df args 0,[],0,fn.ntmps⟩⟩,[]⟩) (hle:Nat.ble args.length fn.ntmps=true:=by kernel_rfl):∃r,φ r/\AF Tryz.prog f args r:=by
 obtain⟨r,h1,h2⟩:=t
 exact⟨r,h1,As hf hc (λB D0 hD=>h2 B none D0 _ (.top D0 hD)) hle⟩
end Go.Proofs.YtihcpmmopejpoaaGreatDoor
namespace Go.Proofs.YtihcpmmopejpoaaGreatDoor
open Go.RowKit
variable {fn0:Func} {φ:AV->Prop} {c:Bu} {fs:List FR}
theorem iA (d:Nat) (b v:Bool) (hb:b=v) (t:TE fn0 φ ⟨c.add d v,fs⟩) (hd:Br c.s.t d= .bool b:=by kernel_rfl):TE fn0 φ ⟨c,fs⟩:=gs (λh=>Jb d b v hb h hd) t
theorem tsb (d:Nat) (b:Bool) (h1:b=true->TE fn0 φ ⟨c.add d true,fs⟩) (h2:b=false->TE fn0 φ ⟨c.add d false,fs⟩) (hd:Br c.s.t d= .bool b:=by kernel_rfl):TE fn0 φ ⟨c,fs⟩:=
 Ek b (λh=>iA d b true h (h1 h) hd) (λh=>iA d b false h (h2 h) hd)
theorem Ais (d:Nat) (b:Bool) (h1:b=true->TE fn0 φ ⟨c.add d false,fs⟩) (h2:b=false->TE fn0 φ ⟨c.add d true,fs⟩) (hd:Br c.s.t d= .bool (!b):=by kernel_rfl):TE fn0 φ ⟨c,fs⟩:=
 Ek b (λh=>iA d (!b) false (by rw[h];rfl) (h1 h) hd) (λh=>iA d (!b) true (by rw[h];rfl) (h2 h) hd)
theorem Hn (d:Nat) (p:Prop) [Decidable p] (h1:decide p=true->p->TE fn0 φ ⟨c.add d true,fs⟩) (h2:decide p=false->¬p->TE fn0 φ ⟨c.add d false,fs⟩) (hd:Br c.s.t d= .bool (decide p):=by kernel_rfl):TE fn0 φ ⟨c,fs⟩:=
 tsb d (decide p) (λh=>h1 h (of_decide_eq_true h)) (λh=>h2 h (of_decide_eq_false h)) hd
theorem Ait (d:Nat) (p:Prop) [Decidable p] (h1:decide p=true->p->TE fn0 φ ⟨c.add d false,fs⟩) (h2:decide p=false->¬p->TE fn0 φ ⟨c.add d true,fs⟩) (hd:Br c.s.t d= .bool (!decide p):=by kernel_rfl):TE fn0 φ ⟨c,fs⟩:=
 Ais d (decide p) (λh=>h1 h (of_decide_eq_true h)) (λh=>h2 h (of_decide_eq_false h)) hd
def isB:AV->Bool| .lit (.bool _)=>true|_=>false
theorem Ew (d:Nat) (h1:TE fn0 φ ⟨c.add d true,fs⟩) (h2:TE fn0 φ ⟨c.add d false,fs⟩) (hd:isB (Br c.s.t d)=true:=by kernel_rfl):TE fn0 φ ⟨c,fs⟩:=by
 unfold isB at hd
 split at hd
 rename_i b hx
 cases b with
 |true=>exact iA d true true rfl h1 hx
 |false=>exact iA d false false rfl h2 hx
 cases hd
def Bu.rnd (c:Bu) (s:St):Bu:=⟨.code c.lb,.il c.lb::c.k,s⟩
theorem ApX {P:Program} {R:Option Nat} {B:Nat} {D0:Ar} {Q:Exit->St->Prop} (keep:List Nat) (h:Go P R B D0 Q (c.rnd (Ke keep c.s))) (hl:c.isL=true):Go P R B D0 Q c:=by
 refine Fw _ (Ha keep c.s) (vlo (c:=⟨c.m,c.k,Ke keep c.s⟩) ?_ ?_)
 exact h
 exact hl
theorem Vl (keep:List Nat) (I:Nat->St->Prop) (m:Nat) (h0:I m (Ke keep c.s)) (h:∀m s,I m s->(∀m' s',m'<m->I m' s'->TE fn0 φ ⟨c.rnd s',fs⟩)->TE fn0 φ ⟨c.rnd s,fs⟩) (hl:c.isL=true:=by kernel_rfl):TE fn0 φ ⟨c,fs⟩:=by
 have key:∀n m s,m<n->I m s->TE fn0 φ ⟨c.rnd s,fs⟩:=λn=>by
  induction n with
  |zero=>intro m s h1;exact absurd h1 (Nat.not_lt_zero _)
  |succ n ih=>intro m s h1 h2;exact h m s h2 λm' s' h3 h4=>ih m' s' ω h4
 exact gs (λh=>ApX keep h hl) (key (m+1) m _ (Nat.lt_succ_self m) h0)
theorem AnF (keep:List Nat) (n:Nat) (F:Nat->Prop) (st:Nat->St) (h0:F 0) (h:∀i,i<=n->F i->(i<n->F (i+1)->TE fn0 φ ⟨c.rnd (st (i+1)),fs⟩)->TE fn0 φ ⟨c.rnd (st i),fs⟩) (hs:Ke keep c.s=st 0:=by kernel_rfl) (hl:c.isL=true:=by kernel_rfl):TE fn0 φ ⟨c,fs⟩:=
 Vl keep (λm s=>∃i,i<=n/\m=n-i/\F i/\s=st i) n ⟨0,Nat.zero_le _,rfl,h0,hs⟩ (λm s ⟨i,h1,h2,h3,h4⟩ hJ=>by
  subst h4
  exact h i h1 h3 λg1 g2=>hJ (n-(i+1)) _ ω ⟨i+1,g1,rfl,g2,rfl⟩) hl
def Bu.ib (c:Bu):Code:=match c.k with| .il b::_=>b|_=> .skip
def Bu.isNI (c:Bu):Bool:=match c.m,c.k with| .out .normal,.il _::_=>true|_,_=>false
def Bu.nxt (c:Bu) (s:St):Bu:=⟨.code c.ib,c.k,s⟩
theorem Aph {P:Program} {R:Option Nat} {B:Nat} {D0:Ar} {Q:Exit->St->Prop} (s':St) (hw:Hv B D0 c.s s') (h:Go P R B D0 Q (c.nxt s')) (hn:c.isNI=true):Go P R B D0 Q c:=by
 refine Fw s' hw ?_
 obtain⟨m,k,s⟩:=c
 unfold Bu.isNI at hn
 split at hn
 rename_i h1 h2
 dsimp only at h1 h2
 subst h1;subst h2
 exact Ain _ h
 cases hn
theorem mH (keep:List Nat) {m:MC} (t:TE fn0 φ m) (hm:(⟨c.nxt (Ke keep c.s),fs⟩:MC)=m:=by kernel_rfl) (hn:c.isNI=true:=by kernel_rfl):TE fn0 φ ⟨c,fs⟩:=by
 subst hm
 exact gs (λh=>Aph _ (Ha keep c.s) h hn) t
def Bu.nrK (keep:List Nat) (c:Bu):Bu:=⟨c.m,c.k,Ke keep c.s⟩
theorem tsh (n d:Nat) (v:Bool) (keep:List Nat) (h:TE fn0 φ ⟨(run Tryz.prog n (c.add d v)).nrK keep,fs⟩) (k:TE fn0 φ ⟨(run Tryz.prog n (c.add d v)).nrK keep,fs⟩->TE fn0 φ ⟨c,fs⟩):TE fn0 φ ⟨c,fs⟩:=k h
theorem Vm (keep:List Nat) {m:MC} (t:TE fn0 φ m) (hm:(⟨c.nrK keep,fs⟩:MC)=m:=by kernel_rfl):TE fn0 φ ⟨c,fs⟩:=by
 subst hm
 exact gs (λh=>Fw _ (Ha keep c.s) h) t
def Bu.wS (c:Bu) (s:St):Bu:=⟨c.m,c.k,s⟩
theorem tjv {α:Type} (n d:Nat) (v:Bool) (st:α->St) (p:α->Prop) (h:∀x,p x->TE fn0 φ ⟨(run Tryz.prog n (c.add d v)).wS (st x),fs⟩) (k:(∀x,p x->TE fn0 φ ⟨(run Tryz.prog n (c.add d v)).wS (st x),fs⟩)->TE fn0 φ ⟨c,fs⟩):TE fn0 φ ⟨c,fs⟩:=k h
def bnd:List FR->Nat
 |[]=>0
 | .call c _::_=>c.s.nx
 | .rng c _::_=>c.s.nx+1
 | .asg c _::_=>c.s.nx
 | .rnd c _::_=>c.s.nx
 | .lnt _ hs::_=>hs.length+1
theorem wU.bnd {r:AV} {B:Nat} {R:Option Nat} {D:Ar} {Q:Exit->St->Prop} (h:wU fn0 r B fs R D Q):∀id,D.A id->id<YtihcpmmopejpoaaGreatDoor.bnd fs:=by
 cases h with
 |top D0 h=>exact λid hi=>h id hi
 |lnt t hs D0 h=>exact h
 |call c fn D1 hD h=>exact hD
 |rng c fn D1 hD h=>exact hD
 |asg c sp l0 D1 hD hl h=>exact hD
 |rnd c sp l0 D1 hD hl h=>exact hD
theorem Fy (keep:List Nat) (ρ:List (Nat×Nat)) (nx:Nat) (L:xD) (hfl:kZ L) {m:MC} (t:TE fn0 φ m) (hv:bN c.s.h=L:=by kernel_rfl) (hm:(⟨c.nxt ⟨mapT (Vr ρ) (Ke keep c.s).t,zJ ρ c.s.h,nx,c.s.n⟩,fs⟩:MC)=m:=by kernel_rfl) (hd:Km (ρ.map (·.2))=true:=by kernel_rfl) (hd1:Km (ρ.map (·.1))=true:=by kernel_rfl) (hl:(ρ.all λp=>(Aq c.s.h p.1).isSome&&Nat.blt p.2 nx)=true:=by kernel_rfl) (hk0:(Nat.ble (bnd fs) nx&&ρ.all λp=>Nat.beq p.1 p.2||Nat.ble (bnd fs) p.2)=true:=by kernel_rfl) (hn:c.isNI=true:=by kernel_rfl):TE fn0 φ ⟨c,fs⟩:=by
 subst hm
 obtain⟨r,h1,h2⟩:=t
 exact⟨r,h1,λB R D Q hx=>Aph _ (Hv.trans (Ha keep c.s) λE a hs'=>dK (s:=Ke keep c.s) ρ nx (bnd fs) hx.bnd _ rfl hd hd1 hl hk0 (No hv hfl) E a hs') (h2 B R D Q hx) hn⟩
theorem tfg (keep:List Nat) (ρ:List (Nat×Nat)) (nx:Nat) (L:xD) (hfl:kZ L) (t:TE fn0 φ ⟨⟨c.m,c.k,⟨mapT (Vr ρ) (Ke keep c.s).t,zJ ρ c.s.h,nx,c.s.n⟩⟩,fs⟩) (hv:bN c.s.h=L:=by kernel_rfl) (hd:Km (ρ.map (·.2))=true:=by kernel_rfl) (hd1:Km (ρ.map (·.1))=true:=by kernel_rfl) (hl:(ρ.all λp=>(Aq c.s.h p.1).isSome&&Nat.blt p.2 nx)=true:=by kernel_rfl) (hk0:(Nat.ble (bnd fs) nx&&ρ.all λp=>Nat.beq p.1 p.2||Nat.ble (bnd fs) p.2)=true:=by kernel_rfl):TE fn0 φ ⟨c,fs⟩:=by
 obtain⟨r,h1,h2⟩:=t
 exact⟨r,h1,λB R D Q hx=>Fw _ (Hv.trans (Ha keep c.s) λE a hs'=>dK (s:=Ke keep c.s) ρ nx (bnd fs) hx.bnd _ rfl hd hd1 hl hk0 (No hv hfl) E a hs') (h2 B R D Q hx)⟩
theorem uT {f:FuncId} {fn:Func} {x:Code} (hf:Tryz.prog.funcs[f]?=some fn)
 (t:∀sp:Fz,sp.params=c.rp->sp.assign=c.ra->sp.body=c.rb->TE fn0 φ ⟨⟨.code x,[],⟨Df (.yld c.s.nx::c.rc) 0,hset c.s.h c.s.nx (.loop .ready none sp c.s.t c.s.n),c.s.nx+1,fn.ntmps⟩⟩,.rng c fn::fs⟩)
 (hc:fn.body=some x:=by rfl) (hg:c.s.ev c.rg= .fn f c.rc:=by kernel_rfl) (hcall:∀(vs:Array Value) w,(callFunc f vs).run Tryz.prog w= .ok (.enter f vs) w:=by intro _ _;kernel_rfl) (hle:Nat.ble (c.rc.length+1) fn.ntmps=true:=by kernel_rfl) (hR:c.isR=true:=by kernel_rfl) (hy:yok fs c.s.h=true:=by kernel_rfl):TE fn0 φ ⟨c,fs⟩:=trg hf (t _ rfl rfl rfl) hc hg hcall hle hR hy
theorem iH {sp:Fz} {ps:Array Tmp} {asg:Code} (hps:sp.params=ps) (has:sp.assign=asg) (t:TE fn0 φ ⟨⟨.code asg,[],⟨jN ps.toList (c.xs.toList.map c.s.ev) (c.lt c.yl),c.s.h,c.s.nx,c.ln c.yl⟩⟩,.asg c sp::fs⟩)
  (ho:c.o.op= .call { callee:= .value c.fx,args:=c.xs,argTypes:=c.ts }:=by kernel_rfl) (hx:c.s.ev c.fx= .yld c.yl:=by kernel_rfl) (hl:Aq c.s.h c.yl=some (.loop .ready none sp (c.lt c.yl) (c.ln c.yl)):=by kernel_rfl) (hpb:psB ps (c.xs.toList.map c.s.ev).length (c.ln c.yl)=true:=by kernel_rfl) (hok:c.ok=true:=by kernel_rfl):TE fn0 φ ⟨c,fs⟩:=by
 subst hps;subst has
 exact tyl t ho hx hl hpb hok
theorem iG {c0:Bu} {sp:Fz} {bd:Code} (hbd:sp.body=bd) (t:TE fn0 φ ⟨⟨.code bd,[],⟨c.s.t,hset c.s.h c0.yl (.loop .busy none sp (c.lt c0.yl) (c0.ln c0.yl)),c.s.nx,c.s.n⟩⟩,.rnd c0 sp::fs⟩) (hl:Aq c.s.h c0.yl=some (.loop .ready none sp (c.lt c0.yl) (c0.ln c0.yl)):=by kernel_rfl) (hn:c.isN=true:=by kernel_rfl) (hk:c.isNil=true:=by kernel_rfl):TE fn0 φ ⟨c,.asg c0 sp::fs⟩:=by
 subst hbd
 exact tyb t hl hn hk
theorem aN {c0:Bu} {fn:Func} (t:TE fn0 φ ⟨c0.af c,fs⟩) (hl:yM (Aq c.s.h c0.s.nx)=true:=by kernel_rfl) (hb:Abh (c.lst c0.s.nx)=true:=by kernel_rfl) (hv:(Tw Tryz.prog fn c.s).isSome=true:=by kernel_rfl) (hn:c.isE=true:=by kernel_rfl):TE fn0 φ ⟨c,.rng c0 fn::fs⟩:=by
 obtain⟨r,h1,h2⟩:=t
 refine⟨r,h1,λB R D Q hx=>?_⟩
 obtain⟨st,pe,sp,t,n,hlp⟩:=lK hl
 have hlp:Aq c.s.h c0.s.nx=some (.loop (c.lst c0.s.nx) (c.lpe c0.s.nx) sp (c.lt c0.s.nx) (c.ln c0.s.nx)):=by
  unfold Bu.lst Bu.lpe Bu.lt Bu.ln
  rw[hlp]
 cases hx with
 |rng _ _ D1 hD h=>exact ApY (sp:=sp) (h2 _ _ _ _ h) hlp hb hv hn
abbrev Ai (n:Int):Int:=IntKind.wrap .i64 n
theorem tU {P:Program} {B:Nat} {D0:Ar} {o:Oper} {ev:Operand->AV} {pre:Nat->Option Bc} (T T':TypeId) (x y:Operand) (ho:o.op= .binOp .rem T x y T') (a b r:Int) (hx:ev x= .int a) (hy:ev y= .int b) (hb:b≠0) (hr:a.tmod b=r):Dv P B D0 o ev pre (.int r) .none:=by
 refine Bl (.inl rfl) λE a' c _ _ hv=>⟨.int .i64 r,?_,.lit _ _⟩
 have h1:=hv x (by simp[ho,Op.operands])
 have h2:=hv y (by simp[ho,Op.operands])
 rw[hx] at h1
 rw[hy] at h2
 simp only[execOp,ho]
 rw[h1.lit_inv,h2.lit_inv]
 simp[eqGuard,binOp,Op.intDiv,hb,hr]
theorem AhE {P:Program} {B:Nat} {D0:Ar} {o:Oper} {ev:Operand->AV} {pre:Nat->Option Bc} (T T':TypeId) (x y:Operand) (ho:o.op= .binOp .quo T x y T') (a b:Int) (hx:ev x= .int a) (hy:ev y= .int b) (hb:b≠0):Dv P B D0 o ev pre (.int (Ai (a.tdiv b))) .none:=by
 refine Bl (.inl rfl) λE a' c _ _ hv=>⟨.int .i64 (Ai (a.tdiv b)),?_,.lit _ _⟩
 have h1:=hv x (by simp[ho,Op.operands])
 have h2:=hv y (by simp[ho,Op.operands])
 rw[hx] at h1
 rw[hy] at h2
 simp only[execOp,ho]
 rw[h1.lit_inv,h2.lit_inv]
 simp[eqGuard,binOp,Op.intDiv,hb]
def _root_.Go.Oper.bX (o:Oper):Operand:=match o.op with| .binOp _ _ x _ _=>x|_=>default
def _root_.Go.Oper.bY (o:Oper):Operand:=match o.op with| .binOp _ _ _ y _=>y|_=>default
def _root_.Go.Oper.bT (o:Oper):TypeId:=match o.op with| .binOp _ t _ _ _=>t|_=>0
def _root_.Go.Oper.bU (o:Oper):TypeId:=match o.op with| .binOp _ _ _ _ t=>t|_=>0
theorem Apj {P:Program} {R:Option Nat} {B:Nat} {D0:Ar} {Q:Exit->St->Prop} (a b r:Int) (hb:b≠0) (hr:a.tmod b=r) (hk:Go P R B D0 Q (c.put (.int r) .none)) (ho:c.o.op= .binOp .rem c.o.bT c.o.bX c.o.bY c.o.bU:=by kernel_rfl) (hx:c.s.ev c.o.bX= .int a:=by kernel_rfl) (hy:c.s.ev c.o.bY= .int b:=by kernel_rfl) (hok:c.ok=true:=by kernel_rfl):Go P R B D0 Q c:=
 Ou _ .none (tU _ _ _ _ ho a b r hx hy hb hr) hk hok rfl
theorem Apg {P:Program} {R:Option Nat} {B:Nat} {D0:Ar} {Q:Exit->St->Prop} (a b:Int) (hb:b≠0) (hk:Go P R B D0 Q (c.put (.int (Ai (a.tdiv b))) .none)) (ho:c.o.op= .binOp .quo c.o.bT c.o.bX c.o.bY c.o.bU:=by kernel_rfl) (hx:c.s.ev c.o.bX= .int a:=by kernel_rfl) (hy:c.s.ev c.o.bY= .int b:=by kernel_rfl) (hok:c.ok=true:=by kernel_rfl):Go P R B D0 Q c:=
 Ou _ .none (AhE _ _ _ _ ho a b hx hy hb) hk hok rfl
theorem uD {P:Program} {B:Nat} {D0:Ar} {o:Oper} {ev:Operand->AV} {pre:Nat->Option Bc} (a b r:Int) (hb:b≠0) (hr:a.tmod b=r) (ho:o.op= .binOp .rem o.bT o.bX o.bY o.bU:=by kernel_rfl) (hx:ev o.bX= .int a:=by kernel_rfl) (hy:ev o.bY= .int b:=by kernel_rfl):Dv P B D0 o ev pre (.int r) .none:=tU _ _ _ _ ho a b r hx hy hb hr
theorem kbE {P:Program} {B:Nat} {D0:Ar} {o:Oper} {ev:Operand->AV} {pre:Nat->Option Bc} {b v:Bool} {f:Bj} (hb:b=v) (h:evG P o ev pre 0=some (.bool b,f):=by kernel_rfl):Dv P B D0 o ev pre (.bool v) f:=hb▸Wk h
theorem Ad2 {P:Program} {B:Nat} {D0:Ar} {o:Oper} {ev:Operand->AV} {pre:Nat->Option Bc} (x:Operand) (f:FuncId) (b:Value) (xs:Array Operand) (ts:Array TypeId) (ho:o.op= .call { callee:= .value x,args:=xs,argTypes:=ts }) (hx:ev x= .lit (.func (.func f) #[b] #[])) (hcall:∀(vs:Array Value) w,(callFunc f vs).run P w= .ok (.enter f vs) w) (args:List AV) (hargs: .lit b::xs.toList.map ev=args) (hfree:args.all AV.free=true) (r:AV) (hf:AF P f args r):Dv P B D0 o ev pre r .none:=by
 subst hargs
 refine aB hf hcall λE a hv=>?_
 have h:=hv x (by simp[ho,Op.operands,Call.operands])
 rw[hx] at h
 have hz:=h.lit_inv
 refine⟨#[b]++xs.map a.eval,λw=>by simp[execOp,ho,resolve,Deferred.ofValue,hz,invoke],by simp;omega,λi hi=>?_⟩
 cases i with
 |zero=>
  have e2:(#[b]++xs.map a.eval).getD 0 undef=b:=by simp[Array.getD_eq_getD_getElem?,Array.getElem?_append]
  rw[e2]
  exact .lit _ _
 |succ i=>
  have hi1:i<xs.size:=by simpa using hi
  have e1:(AV.lit b::xs.toList.map ev).getD (i+1) .top=ev xs[i]:=by simp[hi1]
  have e2:(#[b]++xs.map a.eval).getD (i+1) undef=a.eval xs[i]:=by simp[Array.getD_eq_getD_getElem?,Array.getElem?_append,hi1]
  rw[e1,e2]
  refine(hv _ (by simp[ho,Op.operands,Call.operands])).free ?_
  exact List.all_eq_true.1 hfree (ev xs[i]) (List.mem_cons_of_mem _ (List.mem_map.2 ⟨xs[i],by simp,rfl⟩))
theorem vcm {P:Program} {R:Option Nat} {B:Nat} {D0:Ar} {Q:Exit->St->Prop} {f:FuncId} {b:Value} {args:List AV} {r:AV} (hf:AF P f args r) (hk:Go P R B D0 Q (c.put r .none)) (ho:c.o.op= .call { callee:= .value c.fx,args:=c.xs,argTypes:=c.ts }:=by kernel_rfl) (hargs: .lit b::c.xs.toList.map c.s.ev=args:=by kernel_rfl) (hx:c.s.ev c.fx= .lit (.func (.func f) #[b] #[]):=by kernel_rfl) (hfree:args.all AV.free=true:=by kernel_rfl) (hok:c.ok=true:=by kernel_rfl) (hcall:∀(vs:Array Value) w,(callFunc f vs).run P w= .ok (.enter f vs) w:=by intro _ _;kernel_rfl):Go P R B D0 Q c:=
 Ou r .none (Ad2 c.fx f b c.xs c.ts ho hx hcall args hargs hfree r hf) hk hok rfl
inductive SK where|b|i|s
inductive SC where|one (k:SK)|agg (l:List SK)
def shK:SK->Value->Bool
 | .b,.bool _=>true
 | .i,.int .i64 _=>true
 | .s,.string _=>true
 |_,_=>false
def shL:List SK->List Value->Bool
 |[],[]=>true
 |k::l,v::vs=>shK k v&&shL l vs
 |_,_=>false
def shC:SC->Value->Bool
 | .one k,v=>shK k v
 | .agg l,.agg a=>shL l a.toList
 |_,_=>false
def AnB:List SC->List Value->Bool
 |[],[]=>true
 |k::l,v::vs=>shC k v&&AnB l vs
 |_,_=>false
def shV:List SC->Value->Bool
 |[c],v=>shC c v
 |l,.tuple a=>AnB l a.toList
 |_,_=>false
def shA (σ:List SC):AV->Bool
 | .lit v=>shV σ v
 |_=>false
def Gc (σ:List SC) (r:AV):Prop:=shA σ r=true
def gB:Value->Bool| .bool b=>b|_=>false
def gI:Value->Int| .int _ n=>n|_=>0
def gS:Value->ByteArray| .string s=>s|_=>ByteArray.empty
def gT:Value->Nat->Value
 | .tuple a,i=>a.toList.getD i undef
 | .agg a,i=>a.toList.getD i undef
 |_,_=>undef
def noK:SK->Value->Value
 | .b,v=> .bool (gB v)
 | .i,v=> .int .i64 (gI v)
 | .s,v=> .string (gS v)
theorem Ah6:∀(k:SK) (v:Value),shK k v=true->noK k v=v
 | .b,.bool _,_=>rfl
 | .i,.int .i64 _,_=>rfl
 | .s,.string _,_=>rfl
def noL:List SK->Value->Nat->List Value
 |[],_,_=>[]
 |k::l,v,i=>noK k (gT v i)::noL l v (i+1)
def noC:SC->Value->Value
 | .one k,v=>noK k v
 | .agg l,v=> .agg (noL l v 0).toArray
def Adx:List SC->Value->Nat->List Value
 |[],_,_=>[]
 |k::l,v,i=>noC k (gT v i)::Adx l v (i+1)
def Hp:List SC->Value->Value
 |[c],v=>noC c v
 |l,v=> .tuple (Adx l v 0).toArray
theorem Ah7 {v:Value} {a:List Value} (hv:∀i,gT v i=a.getD i undef):∀(l:List SK) (i:Nat),shL l (a.drop i)=true->noL l v i=a.drop i
 |[],i,h=>by
  cases hd:a.drop i with
  |nil=>rfl
  |cons x y=>rw[hd] at h;cases h
 |k::l,i,h=>by
  cases hd:a.drop i with
  |nil=>rw[hd] at h;cases h
  |cons x y=>
   rw[hd] at h
   obtain⟨h1,h2⟩:=Bool.and_eq_true_iff.1 h
   have hy:y=a.drop (i+1):=by rw[<-List.drop_drop,hd];rfl
   have hx:gT v i=x:=by
    rw[hv i]
    have:(a.drop i)[0]?=some x:=by rw[hd];rfl
    rw[List.getElem?_drop] at this
    simp only[Nat.add_zero] at this
    simp[this]
   unfold noL
   rw[hx,Ah6 k x h1,Ah7 hv l (i+1) (by rw[<-hy];exact h2),<-hy]
theorem Ah5:∀(c:SC) (v:Value),shC c v=true->noC c v=v
 | .one k,v,h=>Ah6 k v h
 | .agg l,.agg a,h=>by
  have:=Ah7 (v:= .agg a) (a:=a.toList) (λ_=>rfl) l 0 (by simpa [shC] using h)
  show Value.agg (noL l (.agg a) 0).toArray=_
  rw[this];simp
theorem oU {v:Value} {a:List Value} (hv:∀i,gT v i=a.getD i undef):∀(l:List SC) (i:Nat),AnB l (a.drop i)=true->Adx l v i=a.drop i
 |[],i,h=>by
  cases hd:a.drop i with
  |nil=>rfl
  |cons x y=>rw[hd] at h;cases h
 |k::l,i,h=>by
  cases hd:a.drop i with
  |nil=>rw[hd] at h;cases h
  |cons x y=>
   rw[hd] at h
   obtain⟨h1,h2⟩:=Bool.and_eq_true_iff.1 h
   have hy:y=a.drop (i+1):=by rw[<-List.drop_drop,hd];rfl
   have hx:gT v i=x:=by
    rw[hv i]
    have:(a.drop i)[0]?=some x:=by rw[hd];rfl
    rw[List.getElem?_drop] at this
    simp only[Nat.add_zero] at this
    simp[this]
   unfold Adx
   rw[hx,Ah5 k x h1,oU hv l (i+1) (by rw[<-hy];exact h2),<-hy]
theorem yY:∀(l:List SC) (v:Value),shV l v=true->Hp l v=v
 |[c],v,h=>Ah5 c v h
 |[],.tuple a,h=>by
  have:=oU (v:= .tuple a) (a:=a.toList) (λ_=>rfl) [] 0 (by simpa [shV] using h)
  show Value.tuple (Adx [] (.tuple a) 0).toArray=_
  rw[this];simp
 |c1::c2::l,.tuple a,h=>by
  have:=oU (v:= .tuple a) (a:=a.toList) (λ_=>rfl) (c1::c2::l) 0 (by simpa [shV] using h)
  show Value.tuple (Adx (c1::c2::l) (.tuple a) 0).toArray=_
  rw[this];simp
noncomputable def Kp (f:FuncId) (σ:List SC) (args:List AV):Value:=Classical.epsilon λv=>shV σ v=true/\AF Tryz.prog f args (.lit v)
noncomputable def cho (f:FuncId) (σ:List SC) (args:List AV):Value:=Hp σ (Kp f σ args)
theorem Bi {f:FuncId} {σ:List SC} {args:List AV} (h:∃r,Gc σ r/\AF Tryz.prog f args r):AF Tryz.prog f args (.lit (cho f σ args)):=by
 obtain⟨r,h1,h2⟩:=h
 have key:∃v,shV σ v=true/\AF Tryz.prog f args (.lit v):=by
  cases r with
  |lit v=>exact⟨v,h1,h2⟩
  |_=>cases h1
 obtain⟨h3,h4⟩:=Classical.epsilon_spec key
 unfold cho Kp
 rw[yY σ _ h3]
 exact h4
theorem Dy {G:Prop} {f:FuncId} {σ:List SC} {args:List AV} {v0:Value} (h:AF Tryz.prog f args (.lit (Hp σ v0))) (k:∀v,AF Tryz.prog f args (.lit (Hp σ v))->G):G:=k _ h
theorem Bb {σ:List SC} (h:shA σ ((Sy Tryz.prog fn0 c.s).getD .top)=true:=by kernel_rfl) (hv:(Sy Tryz.prog fn0 c.s).isSome=true:=by kernel_rfl) (hn:c.isE=true:=by kernel_rfl):TE fn0 (Gc σ) ⟨c,[]⟩:=by
 cases he:Sy Tryz.prog fn0 c.s with
 |none=>rw[he] at hv;cases hv
 |some V=>rw[he] at h;exact Nz h he hn
noncomputable def chP (f:FuncId) (σ:List SC) (args:List AV) (ψ:AV->Prop):Value:=Classical.epsilon λv=>(shV σ v=true/\ψ (.lit v))/\AF Tryz.prog f args (.lit v)
theorem Om {f:FuncId} {σ:List SC} {args:List AV} {ψ:AV->Prop} (h:∃r,(Gc σ r/\ψ r)/\AF Tryz.prog f args r):AF Tryz.prog f args (.lit (Hp σ (chP f σ args ψ)))/\ψ (.lit (Hp σ (chP f σ args ψ))):=by
 obtain⟨r,⟨h1,h3⟩,h2⟩:=h
 have key:∃v,(shV σ v=true/\ψ (.lit v))/\AF Tryz.prog f args (.lit v):=by
  cases r with
  |lit v=>exact⟨v,⟨h1,h3⟩,h2⟩
  |_=>cases h1
 obtain⟨⟨h3,h5⟩,h4⟩:=Classical.epsilon_spec key
 unfold chP
 rw[yY σ _ h3]
 exact⟨h4,h5⟩
theorem Fa {σ:List SC} {ψ:AV->Prop} (V:AV) (h:ψ V) (hs:shA σ V=true:=by kernel_rfl) (hv:Sy Tryz.prog fn0 c.s=some V:=by kernel_rfl) (hn:c.isE=true:=by kernel_rfl):TE fn0 (λr=>Gc σ r/\ψ r) ⟨c,[]⟩:=Nz ⟨hs,h⟩ hv hn
end Go.Proofs.YtihcpmmopejpoaaGreatDoor
namespace Go.Proofs.YtihcpmmopejpoaaGreatDoor
open Go.Proofs.Tryz
open Go.RowKit
abbrev Dw (n:Nat):AV:= .slc 1 (Al n).length λi=> .lit (.int .u64 (dg (Al n) i:Int))
abbrev Di (b:Bool) (n:Nat):AV:= .agg [.bool b,Dw n]
theorem Aeq (l:List Nat) {i:Nat} (h:i<l.length):(Hw l).getD i undef= .int .u64 (dg l i:Int):=by
 rw[Γ,Dl l i h];rfl
theorem Pb {E':Ar} {w':World} {lo hi n:Nat} {v:Value} (h:Bo w' lo hi v n) (hw:E'.w=w') (hD:∀b,lo<=b->b<hi->E'.D b):VR E' (Dw n) v:=by
 have h1:=h.2
 obtain⟨A,c,rfl⟩:=h.1.slice
 refine .slc _ _ _ _ _ _ h1 (Le h.1 hw (λb hb=>hD b hb.1 hb.2) λi j hi hj=>?_)
 obtain rfl:j=0:=by omega
 rw[Nat.mul_one,Nat.add_zero,Aeq _ hi]
 exact .lit _ _
theorem pT {E:Ar} {e n:Nat} {f:Nat->AV} {v:Value} (h:VR E (.slc e n f) v):∃a c,v= .slice a n c/\n<=c/\VR E (.sl e n f) v:=by
 cases h with
 |slc _ _ _ _ a c hnc h=>exact⟨a,c,rfl,hnc,h⟩
theorem zZ {E:Ar} {e n:Nat} {f:Nat->AV} {v:Value} (h:VR E (.sl e n f) v):(n=0/\∃a c,v= .slice a 0 c)\/∃b q c,∃us:Nat->Nat->Value,v= .slice (some ⟨b,q,none⟩) n c/\E.D b/\(∀i j,i<n->j<e->E.w.cell? ⟨b,q+i*e+j,none⟩=some (us i j))/\∀i j,i<n->j<e->VR E.fz ((f i).cell j) (us i j):=by
 cases h with
 |sl0 _ _ _ a c=>exact .inl ⟨rfl,a,c,rfl⟩
 |sl _ _ _ _ b q c us hn hD hc hr=>exact .inr ⟨b,q,c,us,rfl,hD,hc,hr⟩
theorem Nu {E:Ar} {n:Nat} {v:Value} (hb:∀b,E.D b->b<E.w.heap.size) (h:VR E.fz (Dw n) v):∃lo hi,Bo E.w lo hi v n/\hi<=E.w.heap.size/\∀b,lo<=b->b<hi->E.D b:=by
 obtain⟨a,c,rfl,hnc,h⟩:=pT h
 rcases zZ h with⟨h0,a',c',e⟩|⟨b,q,c',us,e,hD,hc,hr⟩
 exact⟨0,0,⟨⟨by rw[Cr,Nat.mul_one],.inl ⟨a,c,by rw[h0],h0⟩⟩,hnc⟩,Nat.zero_le _,λb _ h=>absurd h (Nat.not_lt_zero b)⟩
 cases e
 refine⟨b,b+1,⟨⟨by rw[Cr,Nat.mul_one],.inr ⟨b,q,c,rfl,⟨Nat.le_refl _,Nat.lt_succ_self _⟩,λj u hu=>?_⟩⟩,hnc⟩,hb b hD,λb' h1 h2=>?_⟩
 have hj:j<(Al n).length:=by rw[<-Cr];exact(List.getElem?_eq_some_iff.1 hu).1
 have h1:=hc j 0 hj ω
 have h2:=hr j 0 hj ω
 rw[Nat.mul_one,Nat.add_zero] at h1
 have h3:us j 0= .int .u64 (dg (Al n) j:Int):=VR.lit_inv h2
 rw[h3] at h1
 rw[Dl _ _ hj] at hu
 cases hu
 exact h1
 obtain rfl:b'=b:=by omega
 exact hD
theorem wQ {f:FuncId} {args args':List AV} {r r':AV} (h:AF Tryz.prog f args r) (hl:args'.length=args.length) (ha:∀i,i<args.length->∀E v,VR E (args'.getD i .top) v->VR E (args.getD i .top) v) (hr:∀E v,VR E r v->VR E r' v):AF Tryz.prog f args' r':=λE vs hD hn hv=>by
 refine Calls.mono (h E vs hD ω λi hi=>ha i hi _ _ (hv i ω)) ?_
 rintro e w' ⟨v,D',h1,h2,h3⟩
 exact⟨v,D',h1,hr _ _ h2,h3⟩
theorem Amm {vs:Array Value} (h:vs.size=1):vs=#[vs.getD 0 undef]:=by
 obtain⟨l⟩:=vs
 match l,h with
 |[a],_=>rfl
theorem arr2 {vs:Array Value} (h:vs.size=2):vs=#[vs.getD 0 undef,vs.getD 1 undef]:=by
 obtain⟨l⟩:=vs
 match l,h with
 |[a,b],_=>rfl
theorem Ey (n m:Nat):(Al (n*m)).length<=(Al n).length+(Al m).length:=Dg (by rw[Nat.pow_add];exact Nat.mul_lt_mul'' Ud Ud)
theorem AaW (n m:Nat):(Al (n+m)).length<=(Al n).length+(Al m).length+1:=by
 refine Dg ?_
 have h1:=@Ud n
 have h2:=@Ud m
 have h3:Bw^(Al n).length<=Bw^((Al n).length+(Al m).length):=Nat.pow_le_pow_right (by rw[Po];decide) ω
 have h4:Bw^(Al m).length<=Bw^((Al n).length+(Al m).length):=Nat.pow_le_pow_right (by rw[Po];decide) ω
 rw[Nat.pow_succ]
 have h5:2<=Bw:=by rw[Po];decide
 have h6:=Nat.mul_le_mul_left (Bw^((Al n).length+(Al m).length)) h5
 omega
theorem oO (n m:Nat):(Al (n-m)).length<=(Al n).length:=Gk (Nat.sub_le _ _)
theorem dB (n m:Nat):(Al (n/m)).length<=(Al n).length:=Gk (Nat.div_le_self _ _)
theorem oM {n m:Nat} (h:0<m):(Al (Nat.gcd n m)).length<=(Al m).length:=Gk (Nat.gcd_le_right n h)
theorem oN (n s:Nat):(Al (n*2^s)).length<=(Al n).length+(s/64+1):=by
 refine Nat.le_trans (Ey _ _) (Nat.add_le_add_left (Dg ?_) _)
 rw[Po,show (18446744073709551616:Nat)=2^64 by decide,<-Nat.pow_mul]
 exact Nat.pow_lt_pow_right δ ω
theorem Aat (n m:Nat) (hn:(Al n).length<=900000) (hm:(Al m).length<=900000):AF Tryz.prog 213 [Dw n,Dw m] (Dw (n+m)):=Tf λE vs hD hsz hv=>by
 obtain⟨l0,u0,h0,g0,d0⟩:=Nu hD (hv 0 (by simp))
 obtain⟨l1,u1,h1,g1,d1⟩:=Nu hD (hv 1 (by simp))
 rw[arr2 hsz]
 refine(Aj9 n m _ _ l0 u0 l1 u1 E.w h0 h1 g0 g1 ω ω).mono ?_
 rintro e w' ⟨v',rfl,h2,hb⟩
 exact⟨v',rfl,hb,λE' hw h3 h4=>Pb h2 hw λb p q=>h4 b p q⟩
theorem mV (n m:Nat) (hn:(Al n).length<=900000) (_:(Al m).length<=900000) (hle:m<=n):AF Tryz.prog 215 [Dw n,Dw m] (Dw (n-m)):=Tf λE vs hD hsz hv=>by
 obtain⟨l0,u0,h0,g0,d0⟩:=Nu hD (hv 0 (by simp))
 obtain⟨l1,u1,h1,g1,d1⟩:=Nu hD (hv 1 (by simp))
 rw[arr2 hsz]
 refine(Zb n m _ _ l0 u0 l1 u1 E.w h0 h1 g0 g1 ω hle).mono ?_
 rintro e w' ⟨v',rfl,h2,hb⟩
 exact⟨v',rfl,hb,λE' hw h3 h4=>Pb h2 hw λb p q=>h4 b p q⟩
theorem Ajr (n m:Nat) (hn:(Al n).length<=400000) (hm:(Al m).length<=400000):AF Tryz.prog 233 [Dw n,Dw m] (Dw (n*m)):=Tf λE vs hD hsz hv=>by
 obtain⟨l0,u0,h0,g0,d0⟩:=Nu hD (hv 0 (by simp))
 obtain⟨l1,u1,h1,g1,d1⟩:=Nu hD (hv 1 (by simp))
 rw[arr2 hsz]
 refine(oR n m _ _ l0 u0 l1 u1 E.w h0 h1 g0 g1 ω ω).mono ?_
 rintro e w' ⟨v',rfl,h2,hb⟩
 exact⟨v',rfl,hb,λE' hw h3 h4=>Pb h2 hw λb p q=>h4 b p q⟩
theorem Ajw (n s:Nat) (hn:(Al n).length<=400000) (hs:s<=6400000):AF Tryz.prog 185 [Dw n,.int (s:Int)] (Dw (n*2^s)):=Tf λE vs hD hsz hv=>by
 obtain⟨l0,u0,h0,g0,d0⟩:=Nu hD (hv 0 (by simp))
 have e1:vs.getD 1 undef= .int .i64 (s:Int):=VR.lit_inv (hv 1 (by simp))
 rw[arr2 hsz,e1]
 refine(pR n s _ l0 u0 E.w h0 g0 hn hs).mono ?_
 rintro e w' ⟨v',rfl,h2,hb⟩
 exact⟨v',rfl,hb,λE' hw h3 h4=>Pb h2 hw λb p q=>h4 b p q⟩
theorem Ng (n:Nat) (hn:(Al n).length<=1000000):AF Tryz.prog 162 [Dw n] (.int (bitLen n:Int)):=Tf λE vs hD hsz hv=>by
 obtain⟨l0,u0,h0,g0,d0⟩:=Nu hD (hv 0 (by simp))
 rw[Amm hsz]
 refine(uN n _ l0 u0 E.w h0 hn).mono ?_
 rintro e w' ⟨rfl,rfl⟩
 exact⟨_,rfl,Below.refl _ _,λE' hw h3 h4=> .lit _ _⟩
theorem Ko (n:Nat) (hn:(be n).length<=400000):AF Tryz.prog 163 [Dw n] (.lit (.string (Ci n))):=Tf λE vs hD hsz hv=>by
 obtain⟨l0,u0,h0,g0,d0⟩:=Nu hD (hv 0 (by simp))
 rw[Amm hsz]
 refine(Aeg n _ _ l0 u0 E.w h0 g0 rfl hn).mono ?_
 rintro e w' ⟨rfl,hb⟩
 exact⟨_,rfl,hb,λE' hw h3 h4=> .lit _ _⟩
theorem Xg (n:Nat) (hn:(be n).length<=400000):AF Tryz.prog 170 [.lit (.string (Ci n))] (Dw n):=Ajq (vs:=[_]) λw=>by
 refine(Ahs n _ w rfl hn).mono ?_
 rintro e w' ⟨v',rfl,h2,hb⟩
 exact⟨v',rfl,hb,λE' hw h4=>Pb h2 hw λb p q=>h4 b p q⟩
theorem cQ (n m:Nat) (hn:(Al n).length<=100000) (hm:(Al m).length<=100000) (h0:0<m):AF Tryz.prog 216 [Dw n,Dw m] (.tup [Dw (n/m),Dw (n%m)]):=Tf λE vs hD hsz hv=>by
 obtain⟨l0,u0,k0,g0,d0⟩:=Nu hD (hv 0 (by simp))
 obtain⟨l1,u1,k1,g1,d1⟩:=Nu hD (hv 1 (by simp))
 have hv0:=hv 0 (by simp)
 rw[arr2 hsz]
 refine(Am6 n m _ _ l0 u0 l1 u1 E.w k0 k1 g0 g1 hn hm h0).mono ?_
 rintro e w' ⟨q,r,rfl,hq,hr,hb⟩
 refine⟨_,rfl,hb,λE' hw h3 h4=>Apf (Pb hq hw λb p q=>h4 b p q) ?_⟩
 rcases hr with⟨hlt,rfl⟩|hr
 rw[Nat.mod_eq_of_lt hlt]
 refine hv0.up (Ar.fz_le_of h3 λb hb'=>?_)
 rw[hw]
 exact hb.block b (hD b hb')
 exact Pb hr hw λb p q=>h4 b p q
theorem Am3 {n m k:Nat} (hA:k<(Al n).length) (hB:k<(Al m).length) (hd:(Al n).drop (k+1)=(Al m).drop (k+1)) (h:dg (Al n) k<dg (Al m) k):eG n m (-1):=by
 have:=Xw (Cm n) hA hB hd h
 rw[Cf,Cf] at this
 exact⟨ω,ω⟩
theorem Am2 {n m k:Nat} (hA:k<(Al n).length) (hB:k<(Al m).length) (hd:(Al n).drop (k+1)=(Al m).drop (k+1)) (h:dg (Al m) k<dg (Al n) k):eG n m 1:=by
 have:=Xw (Cm m) hB hA hd.symm h
 rw[Cf,Cf] at this
 exact⟨ω,ω⟩
theorem Am1 {n m:Nat} (h:(Al n).drop 0=(Al m).drop 0):eG n m 0:=by
 simp only[List.drop_zero] at h
 have:=AaX h
 subst this
 exact⟨ω,ω⟩
theorem AjX {n m:Nat} (hne:(Al n).length≠(Al m).length):eG n m (((Al n).length:Int)-((Al m).length:Int)):=by
 rcases Nat.lt_or_gt_of_ne hne with h|h
 have:=oK h;exact⟨ω,ω⟩
 have:=oK h;exact⟨ω,ω⟩
theorem AcI {n m k j:Nat} (hj:k+1=j) (hA:k<(Al n).length) (hB:k<(Al m).length) (hd:(Al n).drop j=(Al m).drop j) (h1:¬(dg (Al n) k:Int)<(dg (Al m) k:Int)) (h2:¬(dg (Al m) k:Int)<(dg (Al n) k:Int)):(Al n).drop k=(Al m).drop k:=kS hA hB (by rw[hj];exact hd) ω
theorem Abe (n:Nat) (y:Nat) (h0:(Al n).length<=100000/\(Al y).length<=100000):∃r,(Gc [.one .i] r/\(∀x,r= .int x->eG n y x))/\AF Tryz.prog 214 [Dw n,Dw y] r:=by
 refine Au func214 rfl ?_
 refine Ab 15 (Ait 10 (((Al n).length:Int)=((Al y).length:Int)) (λhx1 hx1d=>?_) (λhx1 hx1d=>?_))
 refine Ab 8 (gs (λh9=>Cz (.int .i64 (IntKind.wrap .i64 (((Al n).length:Int)-1))) (.int .i64 (((Al n).length:Int)-1)) h9 (congrArg (Value.int .i64) (IntWalk.i64_in _ ω))) (Ab 4 (Vl [0,1,5] (λm s=>∃j,m=j+1/\(j<=(Al n).length/\(Al n).length=(Al y).length/\(Al n).drop j=(Al y).drop j)/\s=⟨[(0,Dw n),(1,Dw y),(5,.int ((j:Int)-1))],[],0,43⟩) ((Al n).length+1) ⟨(Al n).length,rfl,⟨Nat.le_refl _,ω,by rw[List.drop_of_length_le ζ,List.drop_of_length_le ω]⟩,κ⟩ ?_)))
 rintro _ _ ⟨j,rfl,hF,rfl⟩ hJ1
 refine Ab 7 (Hn 20 ((0:Int)<=(j:Int)-1) (λhx2 hx2d=>?_) (λhx2 hx2d=>?_))
 refine Ab 7 (gs (Cp [(2,Cw (Dw n) ((j:Int)-1).toNat,.none),(6,Cw (Dw y) ((j:Int)-1).toNat,.none)] [0,1,5,23] ⟨Ahe ((j:Int)-1) ((j:Int)-1).toNat ((Al n).length),Ahe ((j:Int)-1) ((j:Int)-1).toNat ((Al y).length),trivial⟩ ·) (Ab 1 (Hn 23 (((dg (Al n) (((j:Int)-1).toNat):Nat):Int)<((dg (Al y) (((j:Int)-1).toNat):Nat):Int)) (λhx3 hx3d=>?_) (λhx3 hx3d=>?_))))
 exact Ab 13 (Fa (.int (-1)) (λx hx=>by cases hx;exact Am3 (k:=((j:Int)-1).toNat) ω ω (by rw[show ((j:Int)-1).toNat+1=j by omega];exact hF.2.2) ω))
 refine Ab 2 (gs (Cp [(2,Cw (Dw n) ((j:Int)-1).toNat,.none),(6,Cw (Dw y) ((j:Int)-1).toNat,.none)] [0,1,5,33] ⟨Ahe ((j:Int)-1) ((j:Int)-1).toNat ((Al n).length),Ahe ((j:Int)-1) ((j:Int)-1).toNat ((Al y).length),trivial⟩ ·) (Ab 1 (Hn 33 (((dg (Al y) (((j:Int)-1).toNat):Nat):Int)<((dg (Al n) (((j:Int)-1).toNat):Nat):Int)) (λhx4 hx4d=>?_) (λhx4 hx4d=>?_))))
 exact Ab 13 (Fa (.int 1) (λx hx=>by cases hx;exact Am2 (k:=((j:Int)-1).toNat) ω ω (by rw[show ((j:Int)-1).toNat+1=j by omega];exact hF.2.2) ω))
 exact Ab 7 (gs (Cv ((j:Int)-1-1) (((((j:Int)-1).toNat:Nat):Int)-1) ·) (Ab 2 (mH [0,1,5] (hJ1 _ _ (by omega:((j:Int)-1).toNat+1<j+1) ⟨((j:Int)-1).toNat,rfl,⟨ω,hF.2.1,AcI (j:=j) ω ω ω hF.2.2 hx3d hx4d⟩,rfl⟩))))
 exact Ab 12 (Fa (.int 0) (λx hx=>by cases hx;exact Am1 (by have:=hF.2.2;rw[show j=0 by omega] at this;exact this)))
 exact Ab 7 (gs (λh9=>Cz (.int .i64 (IntKind.wrap .i64 (((Al n).length:Int)-((Al y).length:Int)))) (.int .i64 (((Al n).length:Int)-((Al y).length:Int))) h9 (congrArg (Value.int .i64) (IntWalk.i64_in _ ω))) (Ab 5 (Fa (.int (((Al n).length:Int)-((Al y).length:Int))) (λx hx=>by cases hx;exact AjX ω))))
noncomputable def lN (n:Nat) (y:Nat):Value:=chP 214 [.one .i] [Dw n,Dw y] λr=>∀x,r= .int x->eG n y x
theorem Aau (n:Nat) (y:Nat) (h0:(Al n).length<=100000/\(Al y).length<=100000):AF Tryz.prog 214 [Dw n,Dw y] (.lit (Hp [.one .i] (lN n y))):=(Om (Abe n y h0)).1
def Nn (b:Bool) (n:Nat) (c:Bool) (m:Nat):Bool:=if b=c then b else if m<=n then b else c
def Lv (b:Bool) (n:Nat) (c:Bool) (m:Nat):Nat:=if b=c then n+m else if m<=n then n-m else m-n
def Ev (b:Bool) (n m:Nat):Nat:=if (b&&decide (0<n%m))=true then n/m+1 else n/m
def nQ (b:Bool) (n m:Nat):Nat:=if (b&&decide (0<n%m))=true then m-n%m else n%m
theorem Ie (b:Bool) (n:Nat) (c:Bool) (m:Nat):(Al (Lv b n c m)).length<=(Al n).length+(Al m).length+1:=by
 unfold Lv
 split
 exact AaW n m
 split
 have:=oO n m;omega
 have:=oO m n;omega
theorem Ue:(Al 1).length=1:=by rw[AaY];rfl
theorem Lp (b:Bool) (n m:Nat):(Al (Ev b n m)).length<=(Al n).length+2:=by
 have h:=dB n m
 unfold Ev
 split
 have:=AaW (n/m) 1;rw[Ue] at this;omega
 omega
theorem Ahk (b:Bool) {n m:Nat} (h:0<m):(Al (nQ b n m)).length<=(Al m).length:=by
 unfold nQ
 split
 exact oO _ _
 exact Gk (Nat.le_of_lt (Nat.mod_lt _ h))
theorem Tp {n:Nat} (h:(Al n).length<=40000):(be n).length<=400000:=by have:=Yk n;omega
theorem Yj {n:Nat} (h:0<n):0<(Al n).length:=List.length_pos_iff.2 λe=>by have:=Mo.1 e;omega
theorem Zz {n:Nat} (h:(Al n).length=0):n=0:=Mo.1 (List.length_eq_zero_iff.1 h)
theorem Alm {E:Ar} {e n:Nat} {f g:Nat->AV} {v:Value} (h:VR E (.slc e n f) v) (hfg:∀i,i<n->f i=g i):VR E (.slc e n g) v:=by
 obtain⟨a,c,rfl,hnc,h⟩:=pT h
 refine .slc _ _ _ _ _ _ hnc ?_
 rcases zZ h with⟨rfl,a',c',e1⟩|⟨b,q,c',us,e1,hD,hc,hr⟩
 cases e1;exact .sl0 _ _ _ _ _
 cases e1
 by_cases h0:0<n
 exact .sl _ _ _ _ _ _ _ us h0 hD hc λi j hi hj=>by rw[<-hfg i hi];exact hr i j hi hj
 obtain rfl:n=0:=by omega
 exact .sl0 _ _ _ _ _
abbrev Anr:AV:= .slc 1 1 λ_=> .lit (.int .u64 1)
theorem Abk {E:Ar} {v:Value} (h:VR E Anr v):VR E (Dw 1) v:=by
 have e:Dw 1= .slc 1 1 λi=> .lit (.int .u64 (dg (Al 1) i:Int)):=by unfold Dw;rw[Ue]
 rw[e]
 exact Alm h λi hi=>by
  obtain rfl:i=0:=by omega
  rw[AaY];rfl
theorem qQ (n:Nat) (hn:(Al n).length<=800000):AF Tryz.prog 213 [Dw n,Anr] (Dw (n+1)):=
 wQ (Aat n 1 ω (by rw[Ue];decide)) rfl (λi hi E v h=>by
  match i,hi with
  |0,_=>exact h
  |1,_=>exact Abk h) λE v h=>h
theorem dX (n s:Nat) (t:Int) (ht:t=(s:Int)) (hn:(Al n).length<=400000) (hs:s<=6400000):AF Tryz.prog 185 [Dw n,.int t] (Dw (n*2^s)):=by subst ht;exact Ajw n s hn hs
theorem qR (s:Nat) (t:Int) (ht:t=(s:Int)) (hs:s<=6400000):AF Tryz.prog 185 [Anr,.int t] (Dw (1*2^s)):=
 wQ (dX 1 s t ht (by rw[Ue];decide) hs) rfl (λi hi E v h=>by
  match i,hi with
  |0,_=>exact Abk h
  |1,_=>exact h) λE v h=>h
theorem Da (z:Int) (hz:Bn z):AF Tryz.prog 166 [WA z] (Di (decide (z<0)) z.natAbs):=by
 have hd:=hz.digits
 refine As func166 rfl λB D0 hA0=>?_
 exact Ae 7 (Cp [(4,_,.none)] [2] ⟨Be (Xg z.natAbs (Tp ω)),trivial⟩ (Ae 2 (Ck)))
theorem Vd (b:Bool) (n:Nat):AF Tryz.prog 168 [Di b n] (Di (!b) n):=by
 refine As func168 rfl λB D0 hA0=>?_
 exact Ae 18 (Ck)
theorem Qm (b:Bool) (n:Nat) (c:Bool) (m:Nat) (hn:(Al n).length<=30000) (hm:(Al m).length<=30000):AF Tryz.prog 200 [Di b n,Di c m] (Di (!decide (b=c)) (n*m)):=by
 refine As func200 rfl λB D0 hA0=>?_
 exact Ae 8 (Cp [(4,.bool (!decide (b=c)),.none),(9,_,.none)] [4] ⟨En (.bool (!decide (b=c))) rfl,Be (Ajr n m ω ω),trivial⟩ (Ae 2 (Ck)))
theorem Abf {n m:Nat} (h:(Al n).length<=100000/\(Al m).length<=100000):0<=gI (lN n m)↔m<=n:=by
 have:=(Om (Abe n m h)).2 _ rfl
 have h1:=this.lt
 have h2:=this.gt
 constructor
 intro h3;exact Nat.le_of_not_lt λh4=>by have:=h1.2 h4;exact absurd (show (0:Int)<=gI (lN n m) from h3) (by have:gI (lN n m)<0:=this;omega)
 intro h3;exact Int.not_lt.1 λh4=>by have:=h1.1 h4;omega
theorem Aff (b:Bool) (n m:Nat) (hn:(Al n).length<=30000) (hm:(Al m).length<=30000):AF Tryz.prog 167 [Di b n,Di b m] (Di b (n+m)):=by
 refine As func167 rfl λB D0 hA0=>?_
 exact Ae 15 (Cz (.bool (decide (b=b))) (.bool (decide (b=b))) (Ae 3 (Jb 5 (decide (b=b)) true (decide_eq_true rfl) (Ae 2 (Cp [(6,_,.none)] [4] ⟨Be (Aat n m ω ω),trivial⟩ (Ae 4 (Ck)))))))
theorem Afg (b:Bool) (n:Nat) (c:Bool) (m:Nat) (hn:(Al n).length<=30000) (hm:(Al m).length<=30000) (h:decide (b=c)=false) (hle:m<=n):AF Tryz.prog 167 [Di b n,Di c m] (Di b (n-m)):=by
 have hc:=decide_eq_true ((Abf ⟨(by omega:(Al n).length<=100000),(by omega:(Al m).length<=100000)⟩).2 hle)
 refine As func167 rfl λB D0 hA0=>?_
 exact Ae 15 (Cz (.bool (decide (b=c))) (.bool (decide (b=c))) (Ae 3 (Jb 5 (decide (b=c)) false h (Ae 7 (Ao (Aau n m ω) (Ae 4 (Jb 19 (decide ((0:Int)<=(gI (lN n m)))) true hc (Ae 2 (Cp [(6,_,.none)] [4] ⟨Be (mV n m ω ω ω),trivial⟩ (Ae 4 (Ck)))))))))))
theorem Afh (b:Bool) (n:Nat) (c:Bool) (m:Nat) (hn:(Al n).length<=30000) (hm:(Al m).length<=30000) (h:decide (b=c)=false) (hle:¬m<=n):AF Tryz.prog 167 [Di b n,Di c m] (Di c (m-n)):=by
 have hc:=decide_eq_false (λh=>hle ((Abf ⟨(by omega:(Al n).length<=100000),(by omega:(Al m).length<=100000)⟩).1 h))
 refine As func167 rfl λB D0 hA0=>?_
 exact Ae 15 (Cz (.bool (decide (b=c))) (.bool (decide (b=c))) (Ae 3 (Jb 5 (decide (b=c)) false h (Ae 7 (Ao (Aau n m ω) (Ae 4 (Jb 19 (decide ((0:Int)<=(gI (lN n m)))) false hc (Ae 5 (Cp [(6,_,.none)] [4] ⟨Be (mV m n ω ω ω),trivial⟩ (Ae 2 (Ck)))))))))))
theorem Nf (b:Bool) (n:Nat) (c:Bool) (m:Nat) (hn:(Al n).length<=30000) (hm:(Al m).length<=30000):AF Tryz.prog 167 [Di b n,Di c m] (Di (Nn b n c m) (Lv b n c m)):=by
 unfold Nn Lv
 by_cases h:b=c
 subst h;rw[if_pos rfl,if_pos rfl];exact Aff b n m hn hm
 rw[if_neg h,if_neg h]
 by_cases hle:m<=n
 rw[if_pos hle,if_pos hle];exact Afg b n c m hn hm (decide_eq_false h) hle
 rw[if_neg hle,if_neg hle];exact Afh b n c m hn hm (decide_eq_false h) hle
theorem Ah9 (b:Bool) (n:Nat):∃r,Gc [.one .i] r/\AF Tryz.prog 169 [Di b n] r:=by
 refine Au func169 rfl ?_
 refine Ab 17 (Hn 3 (((Al n).length:Int)=0) (λhx1 hx1d=>?_) (λhx1 hx1d=>?_))
 exact Ab 9 (Bb)
 refine Ab 8 (Ew 8 ?_ ?_)
 exact Ab 9 (Bb)
 exact Ab 10 (Bb)
noncomputable def Ani (b:Bool) (n:Nat):Value:=Kp 169 [.one .i] [Di b n]
theorem Afl (b:Bool) (n:Nat):AF Tryz.prog 169 [Di b n] (.lit (Hp [.one .i] (Ani b n))):=Bi (Ah9 b n)
theorem AhA (b:Bool) (n:Nat) (h0:(Al n).length<=30000):∃r,Gc [.agg [.b,.s],.one .i] r/\AF Tryz.prog 121 [Di b n] r:=by
 refine Au func121 rfl ?_
 refine Ab 12 (gs (Ao (Ng n ω) ·) (Ab 3 (Hn 7 ((65536:Int)<(bitLen n:Int)) (λhx1 hx1d=>?_) (λhx1 hx1d=>?_))))
 exact Ab 10 (Bb)
 refine Ab 4 ?_
 refine Ek b (λhx2=>?_) (λhx2=>?_)
 exact gs (Cp [(1,.bool true,(.read 0)),(10,_,.none)] [2,3] ⟨kbE hx2,Be (Ko n (Tp ω)),trivial⟩ ·) (Ab 2 (Bb))
 exact gs (Cp [(1,.bool false,(.read 0)),(10,_,.none)] [2,3] ⟨kbE hx2,Be (Ko n (Tp ω)),trivial⟩ ·) (Ab 2 (Bb))
noncomputable def Ank (b:Bool) (n:Nat):Value:=Kp 121 [.agg [.b,.s],.one .i] [Di b n]
theorem Nh (b:Bool) (n:Nat) (h0:(Al n).length<=30000):AF Tryz.prog 121 [Di b n] (.lit (Hp [.agg [.b,.s],.one .i] (Ank b n))):=Bi (AhA b n h0)
theorem Afi (n:Nat) (c:Bool) (m:Nat) (hn:(Al n).length<=30000) (hm:(Al m).length<=30000) (hm0:0<m) (h:decide ((0:Int)<((Al (n%m)).length:Int))=true):AF Tryz.prog 186 [Di true n,Di c m] (.tup [Di (!decide (true=c)) (n/m+1),Di false (m-n%m)]):=by
 have hq:=dB n m
 have hr:=Gk (Nat.le_of_lt (Nat.mod_lt n hm0))
 refine As func186 rfl λB D0 hA0=>?_
 exact Ae 14 (Ao (cQ n m ω ω ω) (Ae 19 (Jb 22 (decide ((0:Int)<((Al (n%m)).length:Int))) true h (Ae 1 (Cp [(1,.osl 4 1 1,(.new 4 (.vec 158 1 1 (λ_=> .lit (.int .u64 1))))),(2,Dw ((n/m)+1),(.drop 4)),(6,_,.none)] [2,3,4,5,6,7] ⟨Eb (Ig 201 1 #[(0,(.const (.int .u64 1)))] κ underlying201 1 sizeOf158 _ zeroValue158 κ β β β 4 [.lit (.int .u64 1)] κ (λ_=> .lit (.int .u64 1)) κ),Eb (Gr 213 #[.tmp 23,.tmp 24] #[201,201] κ (λ_ _=>by kernel_rfl) 4 (.vec 158 1 1 (λ_=> .lit (.int .u64 1))) κ (λ_ _ _ _ h=>by cases h;exact(Ce λ_ _=>rfl)) [Dw (n/m),.osl 4 1 1] κ [Dw (n/m),.slc 1 1 (λ_=> .lit (.int .u64 1))] κ (Dw ((n/m)+1)) (qQ (n/m) ω)),Be (mV m (n%m) ω ω (Nat.le_of_lt (Nat.mod_lt _ hm0))),trivial⟩ (Ae 7 (Cz (.bool (!decide (true=c))) (.bool (!decide (true=c))) (Ae 9 (Ck)))))))))
theorem Afj (n:Nat) (c:Bool) (m:Nat) (hn:(Al n).length<=30000) (hm:(Al m).length<=30000) (hm0:0<m) (h:decide ((0:Int)<((Al (n%m)).length:Int))=false):AF Tryz.prog 186 [Di true n,Di c m] (.tup [Di (!decide (true=c)) (n/m),Di false (n%m)]):=by
 have hq:=dB n m
 have hr:=Gk (Nat.le_of_lt (Nat.mod_lt n hm0))
 refine As func186 rfl λB D0 hA0=>?_
 exact Ae 14 (Ao (cQ n m ω ω ω) (Ae 19 (Jb 22 (decide ((0:Int)<((Al (n%m)).length:Int))) false h (Ae 9 (Cz (.bool (!decide (true=c))) (.bool (!decide (true=c))) (Ae 9 (Ck)))))))
theorem Afk (n:Nat) (c:Bool) (m:Nat) (hn:(Al n).length<=30000) (hm:(Al m).length<=30000) (hm0:0<m):AF Tryz.prog 186 [Di false n,Di c m] (.tup [Di (!decide (false=c)) (n/m),Di false (n%m)]):=by
 have hq:=dB n m
 have hr:=Gk (Nat.le_of_lt (Nat.mod_lt n hm0))
 refine As func186 rfl λB D0 hA0=>?_
 exact Ae 14 (Ao (cQ n m ω ω ω) (Ae 28 (Cz (.bool (!decide (false=c))) (.bool (!decide (false=c))) (Ae 9 (Ck)))))
theorem Jc (b:Bool) (n:Nat) (c:Bool) (m:Nat) (hn:(Al n).length<=30000) (hm:(Al m).length<=30000) (hm0:0<m):AF Tryz.prog 186 [Di b n,Di c m] (.tup [Di (!decide (b=c)) (Ev b n m),Di false (nQ b n m)]):=by
 unfold Ev nQ
 cases b with
 |false=>exact Afk n c m hn hm hm0
 |true=>
  by_cases h:0<n%m
  have hl:=Yj h
  have e:(true&&decide (0<n%m))=true:=by rw[decide_eq_true h];rfl
  rw[if_pos e,if_pos e]
  exact Afi n c m hn hm hm0 (decide_eq_true ω)
  have e:¬(true&&decide (0<n%m))=true:=by rw[decide_eq_false h];decide
  rw[if_neg e,if_neg e]
  exact Afj n c m hn hm hm0 (decide_eq_false λg=>h (Nat.pos_of_ne_zero λe0=>by rw[e0,Co] at g;exact absurd g δ))
theorem Adw {a b G:Nat} (h:Nat.gcd a b=G) (hl:(Al b).length<=30000) (hb:0<b):Nat.gcd b (a%b)=G/\(Al b).length<=30000/\(Al (a%b)).length<=30000:=⟨by rw[<-h,Nat.gcd_comm a b,Nat.gcd_rec b a,Nat.gcd_comm],hl,Nat.le_trans (Gk (Nat.le_of_lt (Nat.mod_lt _ hb))) hl⟩
theorem Ah4 {a b G:Nat} (h:Nat.gcd a b=G) (hb:b=0):a=G:=by rw[hb,Nat.gcd_zero_right] at h;exact h
theorem tF {n:Nat} (h:0<(Al n).length):0<n:=Nat.pos_of_ne_zero λe=>by rw[e,Co] at h;exact absurd h δ
theorem cR (n k:Nat) (hn:(Al n).length<=30000) (hm:(Al k).length<=30000):AF Tryz.prog 171 [Dw n,Dw k] (Dw (Nat.gcd n k)):=by
 refine As func171 rfl λB D0 hA0=>?_
 refine Ae 7 (vlp [0,1] (λm s=>∃a b,m=b+1/\(Nat.gcd a b=Nat.gcd n k/\(Al a).length<=30000/\(Al b).length<=30000)/\s=⟨[(0,Dw a),(1,Dw b)],[],0,19⟩) (k+1) ⟨n,k,rfl,⟨rfl,hn,hm⟩,κ⟩ ?_)
 rintro _ _ ⟨a,b,rfl,hF,rfl⟩ J1 hJ1
 refine Ae 8 (Gp 9 ((0:Int)<((Al b).length:Int)) (λhx1 hx1d=>?_) (λhx1 hx1d=>?_))
 ·
  refine Ae 4 ?_
  have hb0:0<b:=tF ω
  have hb1:=Nat.mod_lt a hb0
  exact Ae 4 (Ao (cQ a b ω ω hb0) (Ae 14 (qA [0,1] (hJ1 _ _ (by omega:(a%b)+1<b+1) ⟨b,a%b,rfl,Adw hF.1 hF.2.2 hb0,rfl⟩))))
 ·
  exact Ae 13 (Fd (Dw a) (congrArg Dw (Ah4 hF.1 (Zz ω))))
structure Rw where
 neg:Bool
 mag:ByteArray
abbrev Fx (w:Rw):AV:= .lit (.agg #[.bool w.neg,.string w.mag])
def Jk (w:Rw):Bool:=if h:0<w.mag.size then decide ((w.mag[0]'h).toNat≠0)&&decide (w.mag.size<=8192) else !w.neg
theorem vF (ng:Bool) (s:ByteArray) (w:World):Calls Tryz.prog 175 #[.agg #[.bool ng,.string s]] w λe w'=>e= .returned (.bool (Jk ⟨ng,s⟩))/\Below w.heap.size w w':=by
 have hbw:Below w.heap.size w (w.alloc (.cells #[.bool ng,.string s] 169)):=Ψ.alloc ζ _
 have HBW:=Δ hbw
 clear hbw
 by_cases hn0:s.size=0
 ·
  have he:s.toList.isEmpty=true:=by
   rw[ByteArray.toList_eq]
   have:s.data.toList.length=0:=by rw[Array.length_toList];exact hn0
   rw[List.length_eq_zero_iff.1 this];rfl
  have HR:Hid (Jk ⟨ng,s⟩= !ng):=by unfold Hid Jk;rw[dif_neg (by simpa using hn0)]
  rw[HR.out]
  clear hn0 HR
  go_enter func175,ntmps175
  go_wp2_with fail
  go_ret
  exact⟨rfl,HBW.out⟩
 ·
  have he:s.toList.isEmpty=false:=by
   rw[ByteArray.toList_eq]
   have:s.data.toList.length≠0:=by rw[Array.length_toList];exact hn0
   cases h:s.data.toList with
   |nil=>rw[h] at this;exact absurd rfl this
   |cons _ _=>rfl
  have hps:0<s.size:=Nat.pos_of_ne_zero hn0
  have HR:Hid (Jk ⟨ng,s⟩=(decide ((s[0]'hps).toNat≠0)&&decide (s.size<=8192))):=by unfold Hid Jk;rw[dif_pos hps]
  rw[HR.out]
  clear hn0 HR
  obtain⟨L,hL⟩:∃L,L=s.size:=⟨_,rfl⟩
  rw[<-hL]
  have hLs:(s.size:Int)=(L:Int):=by omega
  by_cases hx0:(s[0]'hps).toNat=0
  ·
   have HR:Hid ((decide ((s[0]'hps).toNat≠0)&&decide (L<=8192))=false):=by unfold Hid;rw[decide_eq_false (by simpa using hx0)];rfl
   rw[HR.out]
   have hxb:(((s[0]'hps).toNat:Int) != 0)=false:=by simp[hx0]
   clear hx0 HR
   go_enter func175,ntmps175
   go_wp2_with fail
   go_ret
   exact⟨rfl,HBW.out⟩
  ·
   have HR:Hid ((decide ((s[0]'hps).toNat≠0)&&decide (L<=8192))=decide ((L:Int)<=8192)):=by
    unfold Hid
    rw[decide_eq_true (by simpa using hx0)]
    exact decide_eq_decide.2 ω
   rw[HR.out]
   have hxb:(((s[0]'hps).toNat:Int) != 0)=true:=by simp[hx0]
   clear hx0 HR
   go_enter func175,ntmps175
   go_wp2_with fail
   go_ret
   exact⟨rfl,HBW.out⟩
theorem Gq (a:Rw):AF Tryz.prog 175 [Fx a] (.bool (Jk a)):=mU (vs:=[_]) λw=>vF a.neg a.mag w
theorem Ls {a:Rw} (h:Jk a=true):∃z,Bn z/\Fx a=WA z:=by
 obtain⟨ng,s⟩:=a
 unfold Jk at h
 split at h
 rename_i hps
 rw[Bool.and_eq_true,decide_eq_true_eq,decide_eq_true_eq] at h
 obtain⟨h1,h2⟩:=h
 have hhd:s.data.toList.head?≠some 0:=λe=>by
  have e2:s.data.toList[0]?=some 0:=by rw[<-List.head?_eq_getElem?];exact e
  have hp:0<s.data.toList.length:=by rw[Array.length_toList];exact hps
  rw[List.getElem?_eq_getElem hp] at e2
  have e3:s.data.toList[0]=0:=Option.some.inj e2
  apply h1
  show (s.data[0]'hps).toNat=0
  rw[show s.data[0]'hps=s.data.toList[0] from rfl,e3];rfl
 have hb:=Amr hhd
 obtain⟨n,hn⟩:∃n,n=vI s.data.toList:=⟨_,rfl⟩
 rw[<-hn] at hb
 have hs:Ci n=s:=by unfold Ci;rw[hb]
 have hn0:n≠0:=λe=>by
  rw[e,Ji] at hb
  have:s.data.toList.length=0:=by rw[<-hb];rfl
  rw[Array.length_toList] at this
  have h3:0<s.data.size:=hps
  omega
 have hlen:(be n).length<=8192:=by rw[hb,Array.length_toList];exact h2
 rw[Vh] at hlen
 have hf:bitLen n<=65536:=by omega
 cases ng with
 |true=>exact⟨-(n:Int),by unfold Bn;simpa using hf,by show AV.lit (.agg #[.bool true,.string s])= .lit (Ak (-(n:Int)));unfold Ak;rw[Int.natAbs_neg,Int.natAbs_natCast,hs,decide_eq_true ω]⟩
 |false=>exact⟨(n:Int),by unfold Bn;simpa using hf,by show AV.lit (.agg #[.bool false,.string s])= .lit (Ak (n:Int));unfold Ak;rw[Int.natAbs_natCast,hs,decide_eq_false ω]⟩
 rename_i hps
 have hng:ng=false:=by simpa using h
 subst hng
 have hs:s=Ci 0:=by
  rw[Qp]
  obtain⟨⟨l⟩⟩:=s
  have:l.length=0:=by have h3:¬0<l.length:=hps;omega
  rw[List.length_eq_zero_iff.1 this]
 refine⟨0,by unfold Bn;decide,?_⟩
 show AV.lit (.agg #[.bool false,.string s])= .lit (Ak 0)
 rw[hs];rfl
theorem Ak4 {z:Int} (h:Bn z):Jk ⟨decide (z<0),Ci z.natAbs⟩=true:=by
 unfold Jk
 have hl:(Ci z.natAbs).size=(be z.natAbs).length:=by simp[Ci,ByteArray.size]
 by_cases hp:0<(Ci z.natAbs).size
 have hn:z.natAbs≠0:=λe=>by rw[hl,e,Ji] at hp;exact absurd hp δ
 have h1:=AfT hn ω
 have h2:=h.bytes
 rw[dif_pos hp,Bool.and_eq_true,decide_eq_true_eq,decide_eq_true_eq]
 exact⟨h1,by show (Ci z.natAbs).size<=8192;omega⟩
 rw[dif_neg hp]
 have h0:z.natAbs=0:=Nat.eq_zero_of_not_pos λg=>by
  have:=@kL z.natAbs
  rw[rJ,decide_eq_false ω] at this
  cases hb:be z.natAbs with
  |nil=>rw[hb] at this;cases this
  |cons a l=>rw[hb] at hl;simp at hl;omega
 obtain rfl:z=0:=by omega
 rfl
theorem Ee (x:Int) (hx:Bn x):AF Tryz.prog 175 [WA x] (.bool true):=by
 have:=Gq ⟨decide (x<0),Ci x.natAbs⟩
 rw[Ak4 hx] at this
 exact this
def Hi (z:Int):Int:=if bitLen z.natAbs<=65536 then z else 0
def Iv (z:Int):Int:=if bitLen z.natAbs<=65536 then 0 else 7
theorem Gf {z:Int} (h:Bn z):Hi z=z:=if_pos h
theorem Jz {z:Int} (h:Bn z):Iv z=0:=if_pos h
theorem AlT {b v:Bool} {n:Nat} (hv:v=(b&&decide (0<n))):Value.agg #[.bool v,.string (Ci n)]=Ak (Dx b n):=by
 unfold Ak
 rw[Alf,Yy,hv]
theorem Ae0:Value.agg #[.bool false,.string ⟨#[]⟩]=Ak 0:=by unfold Ak;rw[show (0:Int).natAbs=0 from rfl,Qp];rfl
theorem Ahl {n:Nat} (h:¬((Al n).length:Int)=0):n≠0:=λe=>by rw[e,Co] at h;exact h rfl
theorem tD (n m:Nat):(Al (Nat.gcd n m)).length<=(Al n).length+(Al m).length:=by
 rcases Nat.eq_zero_or_pos m with rfl|h
 rw[Nat.gcd_zero_right];omega
 have:=oM (n:=n) h;omega
theorem Abq {n:Nat}:decide ((0:Int)<((Al n).length:Int))=decide (0<n):=decide_eq_decide.2 ⟨λh=>tF ω,λh=>by have:=Yj h;omega⟩
theorem pP (b:Bool) (n:Nat) (c:Bool) (m:Nat):Dx (Nn b n c m) (Lv b n c m)=Dx b n+Dx c m:=by
 unfold Nn Lv
 by_cases h:b=c
 subst h;rw[if_pos rfl,if_pos rfl];exact pQ b n m
 rw[if_neg h,if_neg h]
 by_cases hm:m<=n
 rw[if_pos hm,if_pos hm];exact zW h hm
 rw[if_neg hm,if_neg hm];exact zX h ω
theorem uK (x:Int):Dx (!decide (x<0)) x.natAbs= -x:=by unfold Dx;by_cases h:x<0<;>simp[h]<;>omega
theorem Aii (x y:Int):Dx (Nn (decide (x<0)) x.natAbs (decide (y<0)) y.natAbs) (Lv (decide (x<0)) x.natAbs (decide (y<0)) y.natAbs)=x+y:=by rw[pP,Kh,Kh]
theorem uL (x y:Int):Dx (Nn (decide (x<0)) x.natAbs (!decide (y<0)) y.natAbs) (Lv (decide (x<0)) x.natAbs (!decide (y<0)) y.natAbs)=x-y:=by rw[pP,Kh,uK];omega
theorem Abg (a b:Bool):(!decide (a=b))=(a != b):=by cases a<;>cases b<;>rfl
theorem gR (x y:Int):Dx (!decide (decide (x<0)=decide (y<0))) (x.natAbs*y.natAbs)=x*y:=by rw[Abg,Ale,Kh,Kh]
theorem Yz (x y:Int) (hy:y≠0):Dx (!decide (decide (x<0)=decide (y<0))) (Ev (decide (x<0)) x.natAbs y.natAbs)=x/y/\Dx false (nQ (decide (x<0)) x.natAbs y.natAbs)=x%y:=by
 have hm:0<y.natAbs:=by omega
 have key:∀b:Bool,Dx b x.natAbs=x->Dx (!decide (b=decide (y<0))) (Ev b x.natAbs y.natAbs)=x/y/\Dx false (nQ b x.natAbs y.natAbs)=x%y:=λb hb=>by
  have h2:x=Dx b x.natAbs:=hb.symm
  have h3:y=Dx (decide (y<0)) y.natAbs:=(Kh y).symm
  rw[Abg]
  unfold Ev nQ
  cases b with
  |false=>
   obtain⟨k1,k2⟩:=AdX (mg:=decide (y<0)) (n:=x.natAbs) hm
   rw[<-h2,Kh] at k1 k2
   rw[k1,k2]
   cases decide (y<0)<;>exact⟨rfl,rfl⟩
  |true=>
   by_cases h:0<x.natAbs%y.natAbs
   obtain⟨k1,k2⟩:=zV (mg:=decide (y<0)) (n:=x.natAbs) hm h
   rw[<-h2,Kh] at k1 k2
   rw[k1,k2,decide_eq_true h]
   cases decide (y<0)<;>exact⟨rfl,rfl⟩
   obtain⟨k1,k2⟩:=AdY (mg:=decide (y<0)) (n:=x.natAbs) hm ω
   rw[<-h2,Kh] at k1 k2
   rw[k1,k2,decide_eq_false h]
   cases decide (y<0)<;>exact⟨rfl,rfl⟩
 exact key _ (Kh x)
theorem gU (b:Bool) (n:Nat):(Dx b n).sign=if n=0 then 0 else if b=true then -1 else 1:=by
 unfold Dx
 by_cases h:n=0
 subst h;cases b<;>rfl
 rw[if_neg h]
 cases b with
 |true=>rw[if_pos rfl,if_pos rfl];exact Int.sign_eq_neg_one_of_neg ω
 |false=>rw[if_neg δ,if_neg δ];exact Int.sign_eq_one_of_pos ω
theorem AcE {n:Nat} (h:(Al n).length=1):dg (Al n) 0=n:=by
 have:=Cf n
 cases hl:Al n with
 |nil=>rw[hl] at h;cases h
 |cons a l=>
  rw[hl] at h this
  cases l with
  |nil=>simpa [val,dg] using this
  |cons _ _=>simp at h
theorem AcF {n:Nat} (h:1<(Al n).length):18446744073709551616<=n:=Nat.le_of_not_lt λg=>by
 have:=Dg (n:=n) (k:=1) (by rw[Nat.pow_one,Po];exact g)
 omega
def iR (z:Int):Int:=if -9223372036854775808<=z/\z<=9223372036854775807 then z else 0
def iE (z:Int):Int:=if -9223372036854775808<=z/\z<=9223372036854775807 then 0 else 3
def Ds (n:Int):Nat:=(n%18446744073709551616).toNat
theorem Vp (n:Int):IntKind.wrap .u64 n=((Ds n:Nat):Int):=by
 unfold Ds;show n%18446744073709551616=_;omega
theorem Zf (n:Int):Ds n<Bw:=by unfold Ds;rw[Po];omega
theorem Ze (n:Int):(Al (Ds n)).length<=1:=Dg (by rw[Nat.pow_one];exact Zf n)
theorem Aiv {n:Int} (h0: -9223372036854775808<=n) (h:n<0):Ds (0-((Ds n:Nat):Int))=n.natAbs:=by unfold Ds;omega
theorem Aiw {n:Int} (h1:n<=9223372036854775807) (h:¬n<0):Ds n=n.natAbs:=by unfold Ds;omega
theorem Xj (x:Nat) (hx:x<Bw):AF Tryz.prog 120 [.slc 1 1 λ_=> .lit (.int .u64 (x:Int))] (Dw x):=Tf λE vs hD hsz hv=>by
 have hv0:=hv 0 (by simp)
 obtain⟨a,c,e,hnc,h⟩:=pT hv0
 rw[e] at h
 rw[Amm hsz,e]
 have hs:∃b,E.D b/\Bq E.w b (b+1) 1 (.slice a 1 c) [x].length (Hw [x]):=by
  rcases zZ h with⟨h0,_⟩|⟨b,q,c',us,e1,hDb,hc,hr⟩
  exact absurd h0 δ
  cases e1
  refine⟨b,hDb,rfl,.inr ⟨b,q,c,rfl,⟨Nat.le_refl _,Nat.lt_succ_self _⟩,λj u hu=>?_⟩⟩
  match j,hu with
  |0,hu=>
   have h1:=hc 0 0 δ δ
   have h2:us 0 0= .int .u64 (x:Int):=VR.lit_inv (hr 0 0 δ δ)
   rw[h2] at h1
   cases hu
   have h3:E.w.cell? ⟨b,q+0*1+0,none⟩=some (.int .u64 (x:Int)):=h1
   simpa using h3
  |j+1,hu=>simp[Hw] at hu
 obtain⟨b,hDb,hs⟩:=hs
 refine(Ux [x] _ b (b+1) E.w hs hnc (λy hy=>by simp at hy;subst hy;exact hx) (by simp)).mono ?_
 rintro e w' ⟨v',rfl,h2,rfl⟩
 have hval:val [x]=x:=by simp[val]
 rw[hval] at h2
 exact⟨v',rfl,Below.refl _ _,λE' hw h3 h4=>Pb h2 hw λb' p q=>by
  obtain rfl:b'=b:=by omega
  exact h3 _ hDb⟩
theorem xF {n:Nat} (h:0<n):((Ci n).toList==(⟨#[]⟩:ByteArray).toList)=false:=by
 have:=@kL n
 rw[decide_eq_false ω] at this
 cases hb:(Ci n).toList with
 |nil=>rw[hb] at this;cases this
 |cons a l=>
  have e0:(⟨#[]⟩:ByteArray).toList=[]:=by rw[ByteArray.toList_eq]
  rw[e0];rfl
theorem Hz (x y:Int) (hx:Bn x) (hy:Bn y):AF Tryz.prog 165 [WA x,WA y] (.bool true):=by
 refine As func165 rfl λB D0 hA0=>?_
 exact Ae 10 (Ao (Ee x θ) (Ae 2 (Ao (Ee y θ) (Ae 5 (Ck)))))
theorem AbX (b:Bool) (n:Nat) (hl:(Al n).length<=30000) (hs:bitLen n<=65536):AF Tryz.prog 121 [Di b n] (.lit (.tuple #[Ak (Hi (Dx b n)),.int .i64 (Iv (Dx b n))])):=by
 have e1:Hi (Dx b n)=Dx b n:=if_pos (by rw[Yy];exact hs)
 have e2:Iv (Dx b n)=0:=if_pos (by rw[Yy];exact hs)
 refine As func121 rfl λB D0 hA0=>?_
 refine Ae 12 (Ao (Ng n ω) (Ae 3 (Jb 7 (decide ((65536:Int)<(bitLen n:Int))) false (decide_eq_false ω) (Ae 4 ?_))))
 refine Ek b (λhx1=>?_) (λhx1=>?_)
 ·
  exact Cp [(1,.bool true,(.read 0)),(10,_,.none)] [2,3] ⟨kbE hx1,Be (Ko n (Tp ω)),trivial⟩ (Ae 2 (Fd (.lit (.tuple #[.agg #[.bool (decide ((0:Int)<((Al n).length:Int))),.string (Ci n)],.int .i64 0])) (by rw[AlT (b:=b) (show decide ((0:Int)<((Al n).length:Int))=(b&&decide (0<n)) by rw[Abq,hx1];rfl),e1,e2])))
 ·
  exact Cp [(1,.bool false,(.read 0)),(10,_,.none)] [2,3] ⟨kbE hx1,Be (Ko n (Tp ω)),trivial⟩ (Ae 2 (Fd (.lit (.tuple #[.agg #[.bool false,.string (Ci n)],.int .i64 0])) (by rw[AlT (b:=b) (show false=(b&&decide (0<n)) by rw[hx1];rfl),e1,e2])))
theorem AbY (b:Bool) (n:Nat) (hl:(Al n).length<=30000) (hs:¬bitLen n<=65536):AF Tryz.prog 121 [Di b n] (.lit (.tuple #[Ak (Hi (Dx b n)),.int .i64 (Iv (Dx b n))])):=by
 have e1:Hi (Dx b n)=0:=if_neg (by rw[Yy];exact hs)
 have e2:Iv (Dx b n)=7:=if_neg (by rw[Yy];exact hs)
 refine As func121 rfl λB D0 hA0=>?_
 exact Ae 12 (Ao (Ng n ω) (Ae 3 (Jb 7 (decide ((65536:Int)<(bitLen n:Int))) true (decide_eq_true ω) (Ae 10 (Fd (.lit (.tuple #[.agg #[.bool false,.string ⟨#[]⟩],.int .i64 7])) (by rw[e1,e2,Ae0]))))))
theorem Fl (b:Bool) (n:Nat) (hl:(Al n).length<=30000):AF Tryz.prog 121 [Di b n] (.lit (.tuple #[Ak (Hi (Dx b n)),.int .i64 (Iv (Dx b n))])):=(Decidable.em (bitLen n<=65536)).elim (AbX b n hl) (AbY b n hl)
theorem Zl (b:Bool) (n:Nat) (_:(Al n).length<=30000):AF Tryz.prog 169 [Di b n] (.int (Dx b n).sign):=by
 have h9:=@Abq n
 refine As func169 rfl λB D0 hA0=>?_
 refine Ae 17 (Gp 3 (((Al n).length:Int)=0) (λhx1 hx1d=>?_) (λhx1 hx1d=>?_))
 ·
  exact Ae 9 (Fd (.int 0) (congrArg AV.int (by rw[gU,if_pos (Zz ω)])))
 ·
  refine Ae 8 (vsb 8 b (λhx2=>?_) (λhx2=>?_))
  ·
   exact Ae 9 (Fd (.int (-1)) (congrArg AV.int (by rw[gU,if_neg (Ahl ω),if_pos hx2])))
  ·
   exact Ae 10 (Fd (.int 1) (congrArg AV.int (by rw[gU,if_neg (Ahl ω),if_neg (by rw[hx2];decide)])))
theorem qU (x y:Int) (hx:Bn x) (hy:Bn y):AF Tryz.prog 148 [WA x,WA y] (.lit (.tuple #[Ak (Hi (x+y)),.int .i64 (Iv (x+y))])):=by
 have hd:=hx.digits
 have he:=hy.digits
 have h1:=Ie (decide (x<0)) x.natAbs (decide (y<0)) y.natAbs
 refine As func148 rfl λB D0 hA0=>?_
 exact Ae 13 (Ao (Hz x y θ θ) (Ae 7 (Cp [(1,_,.none),(3,_,.none),(4,_,.none),(5,_,.none)] [4,5] ⟨Be (Da x θ),Be (Da y θ),Be (Nf (decide (x<0)) x.natAbs (decide (y<0)) y.natAbs ω ω),Be (Fl (Nn (decide (x<0)) x.natAbs (decide (y<0)) y.natAbs) (Lv (decide (x<0)) x.natAbs (decide (y<0)) y.natAbs) ω),trivial⟩ (Ae 2 (Fd (.lit (.tuple #[Ak (Hi (Dx (Nn (decide (x<0)) x.natAbs (decide (y<0)) y.natAbs) (Lv (decide (x<0)) x.natAbs (decide (y<0)) y.natAbs))),.int .i64 (Iv (Dx (Nn (decide (x<0)) x.natAbs (decide (y<0)) y.natAbs) (Lv (decide (x<0)) x.natAbs (decide (y<0)) y.natAbs)))])) (by rw[Aii]))))))
theorem Af1 (x y:Int) (hx:Bn x) (hy:Bn y):AF Tryz.prog 235 [WA x,WA y] (.lit (.tuple #[Ak (Hi (x-y)),.int .i64 (Iv (x-y))])):=by
 have hd:=hx.digits
 have he:=hy.digits
 have h1:=Ie (decide (x<0)) x.natAbs (!decide (y<0)) y.natAbs
 refine As func235 rfl λB D0 hA0=>?_
 exact Ae 13 (Ao (Hz x y θ θ) (Ae 7 (Cp [(1,_,.none),(3,_,.none),(4,_,.none),(5,_,.none),(6,_,.none)] [4,5] ⟨Be (Da x θ),Be (Da y θ),Be (Vd (decide (y<0)) y.natAbs),Be (Nf (decide (x<0)) x.natAbs (!(decide (y<0))) y.natAbs ω ω),Be (Fl (Nn (decide (x<0)) x.natAbs (!(decide (y<0))) y.natAbs) (Lv (decide (x<0)) x.natAbs (!(decide (y<0))) y.natAbs) ω),trivial⟩ (Ae 2 (Fd (.lit (.tuple #[Ak (Hi (Dx (Nn (decide (x<0)) x.natAbs (!(decide (y<0))) y.natAbs) (Lv (decide (x<0)) x.natAbs (!(decide (y<0))) y.natAbs))),.int .i64 (Iv (Dx (Nn (decide (x<0)) x.natAbs (!(decide (y<0))) y.natAbs) (Lv (decide (x<0)) x.natAbs (!(decide (y<0))) y.natAbs)))])) (by rw[uL]))))))
theorem qY (x y:Int) (hx:Bn x) (hy:Bn y):AF Tryz.prog 164 [WA x,WA y] (.lit (.tuple #[Ak (Hi (x*y)),.int .i64 (Iv (x*y))])):=by
 have hd:=hx.digits
 have he:=hy.digits
 have h1:=Ey x.natAbs y.natAbs
 refine As func164 rfl λB D0 hA0=>?_
 exact Ae 13 (Ao (Hz x y θ θ) (Ae 7 (Cp [(1,_,.none),(3,_,.none),(4,_,.none),(5,_,.none)] [4,5] ⟨Be (Da x θ),Be (Da y θ),Be (Qm (decide (x<0)) x.natAbs (decide (y<0)) y.natAbs ω ω),Be (Fl (!decide ((decide (x<0))=(decide (y<0)))) (x.natAbs*y.natAbs) ω),trivial⟩ (Ae 2 (Fd (.lit (.tuple #[Ak (Hi (Dx (!decide ((decide (x<0))=(decide (y<0)))) (x.natAbs*y.natAbs))),.int .i64 (Iv (Dx (!decide ((decide (x<0))=(decide (y<0)))) (x.natAbs*y.natAbs)))])) (by rw[gR]))))))
theorem Afw (x y:Int) (hx:Bn x) (hy:Bn y):AF Tryz.prog 126 [WA x,WA y] (.lit (.tuple #[Ak (Hi (Nat.gcd x.natAbs y.natAbs:Int)),.int .i64 (Iv (Nat.gcd x.natAbs y.natAbs:Int))])):=by
 have hd:=hx.digits
 have he:=hy.digits
 have h1:=tD x.natAbs y.natAbs
 refine As func126 rfl λB D0 hA0=>?_
 exact Ae 13 (Ao (Hz x y θ θ) (Ae 7 (Cp [(2,_,.none),(5,_,.none),(6,_,.none),(8,_,.none)] [4,5] ⟨Be (Xg x.natAbs (Tp ω)),Be (Xg y.natAbs (Tp ω)),Be (cR x.natAbs y.natAbs ω ω),Be (Fl false (Nat.gcd x.natAbs y.natAbs) ω),trivial⟩ (Ae 2 (Fd (.lit (.tuple #[Ak (Hi (Dx false (Nat.gcd x.natAbs y.natAbs))),.int .i64 (Iv (Dx false (Nat.gcd x.natAbs y.natAbs)))])) (by rw[show ∀g:Nat,Dx false g=(g:Int) from λ_=>rfl]))))))
theorem aR (x y:Int) (hx:Bn x) (hy:Bn y):AF Tryz.prog 125 [WA x,WA y] (.int (x-y).sign):=by
 have hd:=hx.digits
 have he:=hy.digits
 have h1:=Ie (decide (x<0)) x.natAbs (!decide (y<0)) y.natAbs
 refine As func125 rfl λB D0 hA0=>?_
 exact Ae 12 (Ao (Hz x y θ θ) (Ae 7 (Cp [(1,_,.none),(3,_,.none),(4,_,.none),(5,_,.none),(6,_,.none)] [4] ⟨Be (Da x θ),Be (Da y θ),Be (Vd (decide (y<0)) y.natAbs),Be (Nf (decide (x<0)) x.natAbs (!(decide (y<0))) y.natAbs ω ω),Be (Zl (Nn (decide (x<0)) x.natAbs (!(decide (y<0))) y.natAbs) (Lv (decide (x<0)) x.natAbs (!(decide (y<0))) y.natAbs) ω),trivial⟩ (Ae 2 (Fd (.int ((Dx (Nn (decide (x<0)) x.natAbs (!(decide (y<0))) y.natAbs) (Lv (decide (x<0)) x.natAbs (!(decide (y<0))) y.natAbs)).sign)) (by rw[uL]))))))
theorem qZ (x:Int) (hx:Bn x):AF Tryz.prog 137 [WA x] (.lit (.tuple #[Ak (Hi (-x)),.int .i64 (Iv (-x))])):=by
 have hd:=hx.digits
 refine As func137 rfl λB D0 hA0=>?_
 exact Ae 11 (Ao (Ee x θ) (Ae 9 (Ao (Da x θ) (Ao (Vd (decide (x<0)) x.natAbs) (Ao (Fl (!(decide (x<0))) x.natAbs ω) (Ae 7 (Fd (.lit (.tuple #[Ak (Hi (Dx (!(decide (x<0))) x.natAbs)),.int .i64 (Iv (Dx (!(decide (x<0))) x.natAbs))])) (by rw[uK]))))))))
theorem Nk (x:Int) (hx:Bn x):AF Tryz.prog 176 [WA x] (.int x.sign):=by
 have hd:=hx.digits
 refine As func176 rfl λB D0 hA0=>?_
 exact Ae 10 (Ao (Ee x θ) (Ae 9 (Ao (Da x θ) (Ao (Zl (decide (x<0)) x.natAbs ω) (Ae 4 (Fd (.int ((Dx (decide (x<0)) x.natAbs).sign)) (by rw[Kh])))))))
theorem mZ (x:Int) (hx:Bn x):AF Tryz.prog 217 [WA x] (.int (bitLen x.natAbs:Int)):=by
 have hd:=hx.digits
 refine As func217 rfl λB D0 hA0=>?_
 exact Ae 10 (Ao (Ee x θ) (Ae 10 (Ao (Xg x.natAbs (Tp ω)) (Ao (Ng x.natAbs ω) (Ae 4 (Ck))))))
theorem Aj1 (x y:Int) (hx:Bn x) (hy:Bn y) (hy0:y≠0):AF Tryz.prog 172 [WA x,WA y] (.lit (.tuple #[Ak (x/y),Ak (x%y),.int .i64 0])):=by
 have hd:=hx.digits
 have he:=hy.digits
 have hm0:0<y.natAbs:=by omega
 have hq1:=Lp (decide (x<0)) x.natAbs y.natAbs
 have hq2:=Ahk (decide (x<0)) (n:=x.natAbs) hm0
 have hs:=Yz x y hy0
 have hb:((Ci y.natAbs).toList==(⟨#[]⟩:ByteArray).toList)=false:=xF hm0
 refine As func172 rfl λB D0 hA0=>?_
 refine Ae 14 (Ao (Hz x y θ θ) (Ae 11 (Cz (.bool ((Ci y.natAbs).toList==(⟨#[]⟩:ByteArray).toList)) (.bool false) ?_ (congrArg Value.bool hb))))
 exact Ae 6 (Cp [(1,_,.none),(3,_,.none),(4,_,.none)] [4,5,7,8] ⟨Be (Da x θ),Be (Da y θ),Be (Jc (decide (x<0)) x.natAbs (decide (y<0)) y.natAbs ω ω ω),trivial⟩ (Ae 4 (Ao (Fl (!decide ((decide (x<0))=(decide (y<0)))) (Ev (decide (x<0)) x.natAbs y.natAbs) ω) (Ae 9 (Ao (Fl false (nQ (decide (x<0)) x.natAbs y.natAbs) ω) (Ae 7 (Cp [] [4,5,6] trivial (Ae 2 (Fd (.lit (.tuple #[Ak (Hi (Dx (!decide ((decide (x<0))=(decide (y<0)))) (Ev (decide (x<0)) x.natAbs y.natAbs))),Ak (Hi (Dx false (nQ (decide (x<0)) x.natAbs y.natAbs))),.int .i64 0])) (by rw[hs.1,hs.2,Gf (Rv hx),Gf (Aky hy hy0)]))))))))))
theorem Er (n:Int) (h0: -9223372036854775808<=n) (h1:n<=9223372036854775807):AF Tryz.prog 97 [.int n] (WA n):=by
 have hd1:=Ze n
 have hd2:=Ze (0-((Ds n:Nat):Int))
 refine As func97 rfl λB D0 hA0=>?_
 refine Ae 8 (Cz (.int .u64 (IntKind.wrap .u64 n)) (.int .u64 ((Ds n:Nat):Int)) ?_ (congrArg (Value.int .u64) (Vp n)))
 refine Ae 10 (Gp 9 (n<0) (λhx1 hx1d=>?_) (λhx1 hx1d=>?_))
 ·
  refine Ae 3 (Cz (.int .u64 (IntKind.wrap .u64 (0-((Ds n:Nat):Int)))) (.int .u64 ((Ds (0-((Ds n:Nat):Int)):Nat):Int)) ?_ (congrArg (Value.int .u64) (Vp _)))
  refine Ae 8 (Kb 1 158 1 1 (λ_=> .lit (.int .u64 ((Ds (0-((Ds n:Nat):Int)):Nat):Int))) ?_)
  exact Cu (Dw (Ds (0-((Ds n:Nat):Int)))) (.drop 1) (Gr 120 #[.tmp 16] #[201] κ (λ_ _=>by kernel_rfl) 1 (.vec 158 1 1 (λ_=> .lit (.int .u64 ((Ds (0-((Ds n:Nat):Int)):Nat):Int)))) κ (λ_ _ _ _ h=>by cases h;exact(Ce λ_ _=>rfl)) [.osl 1 1 1] κ [.slc 1 1 (λ_=> .lit (.int .u64 ((Ds (0-((Ds n:Nat):Int)):Nat):Int)))] κ (Dw (Ds (0-((Ds n:Nat):Int)))) (Xj (Ds (0-((Ds n:Nat):Int))) (Zf _))) (Ae 1 (Ao (Fl (decide (n<0)) (Ds (0-((Ds n:Nat):Int))) ω) (Ae 15 (Fd (.lit (Ak (Hi (Dx (decide (n<0)) (Ds (0-((Ds n:Nat):Int))))))) (by rw[Aiv h0 (of_decide_eq_true hx1),Kh,Gf (Eg h0 h1)])))))
 ·
  refine Ae 8 (Kb 1 158 1 1 (λ_=> .lit (.int .u64 ((Ds n:Nat):Int))) ?_)
  exact Cu (Dw (Ds n)) (.drop 1) (Gr 120 #[.tmp 16] #[201] κ (λ_ _=>by kernel_rfl) 1 (.vec 158 1 1 (λ_=> .lit (.int .u64 ((Ds n:Nat):Int)))) κ (λ_ _ _ _ h=>by cases h;exact(Ce λ_ _=>rfl)) [.osl 1 1 1] κ [.slc 1 1 (λ_=> .lit (.int .u64 ((Ds n:Nat):Int)))] κ (Dw (Ds n)) (Xj (Ds n) (Zf _))) (Ae 1 (Ao (Fl (decide (n<0)) (Ds n) ω) (Ae 15 (Fd (.lit (Ak (Hi (Dx (decide (n<0)) (Ds n))))) (by rw[Aiw h1 (of_decide_eq_false hx1),Kh,Gf (Eg h0 h1)])))))
theorem qX (z:Int) (h:Bn z):AF Tryz.prog 189 [WA z] (.lit (.tuple #[.int .i64 (iR z),.int .i64 (iE z)])):=by
 have hd:=h.digits
 have k0:=@Zz z.natAbs
 have k1:=@AcE z.natAbs
 have k2:=@AcF z.natAbs
 refine As func189 rfl λB D0 hA0=>?_
 refine Ae 11 (Ao (Ee z h) (Ae 9 (Ao (Da z h) (Ae 15 (Gp 10 (((Al z.natAbs).length:Int)=0) (λhx1 hx1d=>?_) (λhx1 hx1d=>?_))))))
 ·
  exact Ae 10 (Fd (.lit (.tuple #[.int .i64 0,.int .i64 0])) (by(obtain rfl:z=0:=(ω));rfl))
 ·
  refine Ae 8 (Gp 20 ((1:Int)<((Al z.natAbs).length:Int)) (λhx2 hx2d=>?_) (λhx2 hx2d=>?_))
  ·
   exact Ae 31 (Fd (.lit (.tuple #[.int .i64 0,.int .i64 3])) (by unfold iR iE;rw[if_neg (λg=>by omega),if_neg (λg=>by omega)]))
  ·
   refine Ae 4 (pX 24 (z<0) (λhx3 hx3d=>?_) (λhx3 hx3d=>?_))
   ·
    refine Ae 10 (Gu 0 ((Al z.natAbs).length) (Ae 6 (Gp 15 ((9223372036854775808:Int)<((dg (Al z.natAbs) 0:Nat):Int)) (λhx4 hx4d=>?_) (λhx4 hx4d=>?_))))
    ·
     exact Ae 10 (Fd (.lit (.tuple #[.int .i64 0,.int .i64 3])) (by unfold iR iE;rw[if_neg (λg=>by omega),if_neg (λg=>by omega)]))
    ·
     refine Ae 8 (Jb 39 (decide (z<0)) true hx3 (Ae 5 (Gu 0 ((Al z.natAbs).length) (Ae 1 (Cz (.int .u64 (IntKind.wrap .u64 (0-((dg (Al z.natAbs) 0:Nat):Int)))) (.int .u64 (18446744073709551616-((dg (Al z.natAbs) 0:Nat):Int))) ?_ (congrArg (Value.int .u64) (show (0-((dg (Al z.natAbs) 0:Nat):Int))%18446744073709551616=_ by omega)))))))
     refine Cz (.int .i64 (IntKind.wrap .i64 (18446744073709551616-((dg (Al z.natAbs) 0:Nat):Int)))) (.int .i64 z) ?_ (congrArg (Value.int .i64) (by simp[IntKind.wrap,IntKind.bits,IntKind.signed];omega))
     exact Ae 7 (Fd (.lit (.tuple #[.int .i64 z,.int .i64 0])) (by unfold iR iE;rw[if_pos ⟨ω,ω⟩,if_pos ⟨ω,ω⟩]))
   ·
    refine Ae 2 (Gu 0 ((Al z.natAbs).length) (Ae 5 (Gp 32 ((9223372036854775808:Int)<=((dg (Al z.natAbs) 0:Nat):Int)) (λhx5 hx5d=>?_) (λhx5 hx5d=>?_))))
    ·
     exact Ae 19 (Fd (.lit (.tuple #[.int .i64 0,.int .i64 3])) (by unfold iR iE;rw[if_neg (λg=>by omega),if_neg (λg=>by omega)]))
    ·
     refine Ae 2 (Gu 0 ((Al z.natAbs).length) (Ae 6 (Gp 15 ((9223372036854775808:Int)<((dg (Al z.natAbs) 0:Nat):Int)) (λhx6 hx6d=>?_) (λhx6 hx6d=>?_))))
     ·
      exact Ae 10 (Fd (.lit (.tuple #[.int .i64 0,.int .i64 3])) (by unfold iR iE;rw[if_neg (λg=>by omega),if_neg (λg=>by omega)]))
     ·
      refine Ae 8 (Jb 39 (decide (z<0)) false hx3 (Ae 8 (Gu 0 ((Al z.natAbs).length) (Ae 1 (Cz (.int .i64 (IntKind.wrap .i64 ((dg (Al z.natAbs) 0:Nat):Int))) (.int .i64 z) ?_ (congrArg (Value.int .i64) (by simp[IntKind.wrap,IntKind.bits,IntKind.signed];omega)))))))
      exact Ae 5 (Fd (.lit (.tuple #[.int .i64 z,.int .i64 0])) (by unfold iR iE;rw[if_pos ⟨ω,ω⟩,if_pos ⟨ω,ω⟩]))
theorem mY (x y:Int) (hx:Bn x) (hy:Bn y) (hz:Bn (x+y)):AF Tryz.prog 148 [WA x,WA y] (.lit (.tuple #[Ak (x+y),.int .i64 0])):=by
 have:=qU x y hx hy
 rwa [Gf hz,Jz hz] at this
theorem cV (x y:Int) (hx:Bn x) (hy:Bn y) (hz:Bn (x*y)):AF Tryz.prog 164 [WA x,WA y] (.lit (.tuple #[Ak (x*y),.int .i64 0])):=by
 have:=qY x y hx hy
 rwa [Gf hz,Jz hz] at this
theorem Aj0 (x y:Int) (hx:Bn x) (hy:Bn y):AF Tryz.prog 126 [WA x,WA y] (.lit (.tuple #[Ak (Nat.gcd x.natAbs y.natAbs:Int),.int .i64 0])):=by
 have:=Afw x y hx hy
 rwa [Gf (oI hx hy),Jz (oI hx hy)] at this
theorem aJ {f:FuncId} {args:List AV} {σ:List SC} {r:AV} (h:AF Tryz.prog f args r) (hs:shA σ r=true:=by kernel_rfl):∃r,Gc σ r/\AF Tryz.prog f args r:=⟨_,hs,h⟩
theorem Qk (a b:Rw):AF Tryz.prog 165 [Fx a,Fx b] (.bool (Jk a&&Jk b)):=by
 refine As func165 rfl λB D0 hA0=>?_
 refine Ae 10 (Ao (Gq a) (Ae 1 (vsb 7 (Jk a) (λhx1=>?_) (λhx1=>?_))))
 ·
  exact Ae 1 (Ao (Gq b) (Ae 5 (Fd (.bool (Jk b)) (congrArg AV.bool (by rw[hx1];rfl)))))
 ·
  exact Ae 7 (Fd (.bool false) (congrArg AV.bool (by rw[hx1];rfl)))
theorem AiB (x y:Int) (hx:Bn x) (hy:Bn y):∃r,Gc [.agg [.b,.s],.one .i] r/\AF Tryz.prog 148 [.lit (Ak x),.lit (Ak y)] r:=aJ (qU x y hx hy)
theorem Aey (a:Rw) (b:Rw) (h:(Jk a&&Jk b)=false):∃r,Gc [.agg [.b,.s],.one .i] r/\AF Tryz.prog 148 [Fx a,Fx b] r:=by
 refine Au func148 rfl ?_
 exact Ab 13 (gs (Ao (Qk a b) ·) (Ab 3 (iA 9 (!(Jk a&&Jk b)) true (by rw[h];rfl) (Ab 10 (Bb)))))
theorem AiA (a:Rw) (b:Rw):∃r,Gc [.agg [.b,.s],.one .i] r/\AF Tryz.prog 148 [Fx a,Fx b] r:=by
 cases h:(Jk a&&Jk b) with
 |false=>exact Aey a b h
 |true=>
  obtain⟨h1,h2⟩:=Bool.and_eq_true_iff.1 h
  obtain⟨x,hx,ex⟩:=Ls h1
  obtain⟨y,hy,ey⟩:=Ls h2
  rw[ex,ey]
  exact AiB x y hx hy
noncomputable def AnP (a:Rw) (b:Rw):Value:=Kp 148 [.agg [.b,.s],.one .i] [Fx a,Fx b]
theorem qV (a:Rw) (b:Rw):AF Tryz.prog 148 [Fx a,Fx b] (.lit (Hp [.agg [.b,.s],.one .i] (AnP a b))):=Bi (AiA a b)
theorem AiT (x y:Int) (hx:Bn x) (hy:Bn y):∃r,Gc [.agg [.b,.s],.one .i] r/\AF Tryz.prog 235 [.lit (Ak x),.lit (Ak y)] r:=aJ (Af1 x y hx hy)
theorem Ae8 (a:Rw) (b:Rw) (h:(Jk a&&Jk b)=false):∃r,Gc [.agg [.b,.s],.one .i] r/\AF Tryz.prog 235 [Fx a,Fx b] r:=by
 refine Au func235 rfl ?_
 exact Ab 13 (gs (Ao (Qk a b) ·) (Ab 3 (iA 9 (!(Jk a&&Jk b)) true (by rw[h];rfl) (Ab 10 (Bb)))))
theorem AiS (a:Rw) (b:Rw):∃r,Gc [.agg [.b,.s],.one .i] r/\AF Tryz.prog 235 [Fx a,Fx b] r:=by
 cases h:(Jk a&&Jk b) with
 |false=>exact Ae8 a b h
 |true=>
  obtain⟨h1,h2⟩:=Bool.and_eq_true_iff.1 h
  obtain⟨x,hx,ex⟩:=Ls h1
  obtain⟨y,hy,ey⟩:=Ls h2
  rw[ex,ey]
  exact AiT x y hx hy
noncomputable def AnW (a:Rw) (b:Rw):Value:=Kp 235 [.agg [.b,.s],.one .i] [Fx a,Fx b]
theorem Af2 (a:Rw) (b:Rw):AF Tryz.prog 235 [Fx a,Fx b] (.lit (Hp [.agg [.b,.s],.one .i] (AnW a b))):=Bi (AiS a b)
theorem AiL (x y:Int) (hx:Bn x) (hy:Bn y):∃r,Gc [.agg [.b,.s],.one .i] r/\AF Tryz.prog 164 [.lit (Ak x),.lit (Ak y)] r:=aJ (qY x y hx hy)
theorem Ae3 (a:Rw) (b:Rw) (h:(Jk a&&Jk b)=false):∃r,Gc [.agg [.b,.s],.one .i] r/\AF Tryz.prog 164 [Fx a,Fx b] r:=by
 refine Au func164 rfl ?_
 exact Ab 13 (gs (Ao (Qk a b) ·) (Ab 3 (iA 9 (!(Jk a&&Jk b)) true (by rw[h];rfl) (Ab 10 (Bb)))))
theorem AiK (a:Rw) (b:Rw):∃r,Gc [.agg [.b,.s],.one .i] r/\AF Tryz.prog 164 [Fx a,Fx b] r:=by
 cases h:(Jk a&&Jk b) with
 |false=>exact Ae3 a b h
 |true=>
  obtain⟨h1,h2⟩:=Bool.and_eq_true_iff.1 h
  obtain⟨x,hx,ex⟩:=Ls h1
  obtain⟨y,hy,ey⟩:=Ls h2
  rw[ex,ey]
  exact AiL x y hx hy
noncomputable def AnU (a:Rw) (b:Rw):Value:=Kp 164 [.agg [.b,.s],.one .i] [Fx a,Fx b]
theorem eC (a:Rw) (b:Rw):AF Tryz.prog 164 [Fx a,Fx b] (.lit (Hp [.agg [.b,.s],.one .i] (AnU a b))):=Bi (AiK a b)
theorem AiE (x y:Int) (hx:Bn x) (hy:Bn y):∃r,Gc [.one .i] r/\AF Tryz.prog 125 [.lit (Ak x),.lit (Ak y)] r:=aJ (aR x y hx hy)
theorem Aez (a:Rw) (b:Rw) (h:(Jk a&&Jk b)=false):∃r,Gc [.one .i] r/\AF Tryz.prog 125 [Fx a,Fx b] r:=by
 refine Au func125 rfl ?_
 exact Ab 12 (gs (Ao (Qk a b) ·) (Ab 3 (iA 8 (!(Jk a&&Jk b)) true (by rw[h];rfl) (Ab 8 (Bb)))))
theorem AiD (a:Rw) (b:Rw):∃r,Gc [.one .i] r/\AF Tryz.prog 125 [Fx a,Fx b] r:=by
 cases h:(Jk a&&Jk b) with
 |false=>exact Aez a b h
 |true=>
  obtain⟨h1,h2⟩:=Bool.and_eq_true_iff.1 h
  obtain⟨x,hx,ex⟩:=Ls h1
  obtain⟨y,hy,ey⟩:=Ls h2
  rw[ex,ey]
  exact AiE x y hx hy
noncomputable def AnR (a:Rw) (b:Rw):Value:=Kp 125 [.one .i] [Fx a,Fx b]
theorem Tj (a:Rw) (b:Rw):AF Tryz.prog 125 [Fx a,Fx b] (.lit (Hp [.one .i] (AnR a b))):=Bi (AiD a b)
theorem AiN (x:Int) (hx:Bn x):∃r,Gc [.agg [.b,.s],.one .i] r/\AF Tryz.prog 137 [.lit (Ak x)] r:=aJ (qZ x hx)
theorem Ae4 (a:Rw) (h:Jk a=false):∃r,Gc [.agg [.b,.s],.one .i] r/\AF Tryz.prog 137 [Fx a] r:=by
 refine Au func137 rfl ?_
 exact Ab 11 (gs (Ao (Gq a) ·) (Ab 3 (iA 6 (!Jk a) true (by rw[h];rfl) (Ab 10 (Bb)))))
theorem AiM (a:Rw):∃r,Gc [.agg [.b,.s],.one .i] r/\AF Tryz.prog 137 [Fx a] r:=by
 cases h:Jk a with
 |false=>exact Ae4 a h
 |true=>
  obtain⟨x,hx,ex⟩:=Ls h
  rw[ex]
  exact AiN x hx
noncomputable def AnV (a:Rw):Value:=Kp 137 [.agg [.b,.s],.one .i] [Fx a]
theorem Af0 (a:Rw):AF Tryz.prog 137 [Fx a] (.lit (Hp [.agg [.b,.s],.one .i] (AnV a))):=Bi (AiM a)
theorem AiJ (x:Int) (hx:Bn x):∃r,Gc [.one .i] r/\AF Tryz.prog 217 [.lit (Ak x)] r:=aJ (mZ x hx)
theorem Ae2 (a:Rw) (h:Jk a=false):∃r,Gc [.one .i] r/\AF Tryz.prog 217 [Fx a] r:=by
 refine Au func217 rfl ?_
 exact Ab 10 (gs (Ao (Gq a) ·) (Ab 3 (iA 5 (!Jk a) true (by rw[h];rfl) (Ab 8 (Bb)))))
theorem AiI (a:Rw):∃r,Gc [.one .i] r/\AF Tryz.prog 217 [Fx a] r:=by
 cases h:Jk a with
 |false=>exact Ae2 a h
 |true=>
  obtain⟨x,hx,ex⟩:=Ls h
  rw[ex]
  exact AiJ x hx
noncomputable def AnT (a:Rw):Value:=Kp 217 [.one .i] [Fx a]
theorem Afy (a:Rw):AF Tryz.prog 217 [Fx a] (.lit (Hp [.one .i] (AnT a))):=Bi (AiI a)
theorem Al6 (n:Int):∃r,Gc [.agg [.b,.s]] r/\AF Tryz.prog 97 [.int n] r:=by
 have hd1:=Ze n
 have hd2:=Ze (0-((Ds n:Nat):Int))
 refine Au func97 rfl ?_
 refine Ab 8 (gs (λh9=>Cz (.int .u64 (IntKind.wrap .u64 n)) (.int .u64 ((Ds n:Nat):Int)) h9 (congrArg (Value.int .u64) (Vp n))) (Ab 10 (Ew 9 ?_ ?_)))
 exact Ab 3 (gs (λh9=>Cz (.int .u64 (IntKind.wrap .u64 (0-((Ds n:Nat):Int)))) (.int .u64 ((Ds (0-((Ds n:Nat):Int)):Nat):Int)) h9 (congrArg (Value.int .u64) (Vp _))) (Ab 8 (gs (Kb 1 158 1 1 (λ_=> .lit (.int .u64 ((Ds (0-((Ds n:Nat):Int)):Nat):Int))) ·) (gs (Cu (Dw (Ds (0-((Ds n:Nat):Int)))) (.drop 1) (Gr 120 #[.tmp 16] #[201] κ (λ_ _=>by kernel_rfl) 1 (.vec 158 1 1 (λ_=> .lit (.int .u64 ((Ds (0-((Ds n:Nat):Int)):Nat):Int)))) κ (λ_ _ _ _ h=>by cases h;exact(Ce λ_ _=>rfl)) [.osl 1 1 1] κ [.slc 1 1 (λ_=> .lit (.int .u64 ((Ds (0-((Ds n:Nat):Int)):Nat):Int)))] κ (Dw (Ds (0-((Ds n:Nat):Int)))) (Xj (Ds (0-((Ds n:Nat):Int))) (Zf _))) ·) (Ab 1 (Dy (Nh (decide (n<0)) (Ds (0-((Ds n:Nat):Int))) ω) λv1 hv1=>(gs (Ao hv1 ·) (Ab 15 (Bb)))))))))
 exact Ab 8 (gs (Kb 1 158 1 1 (λ_=> .lit (.int .u64 ((Ds n:Nat):Int))) ·) (gs (Cu (Dw (Ds n)) (.drop 1) (Gr 120 #[.tmp 16] #[201] κ (λ_ _=>by kernel_rfl) 1 (.vec 158 1 1 (λ_=> .lit (.int .u64 ((Ds n:Nat):Int)))) κ (λ_ _ _ _ h=>by cases h;exact(Ce λ_ _=>rfl)) [.osl 1 1 1] κ [.slc 1 1 (λ_=> .lit (.int .u64 ((Ds n:Nat):Int)))] κ (Dw (Ds n)) (Xj (Ds n) (Zf _))) ·) (Ab 1 (Dy (Nh (decide (n<0)) (Ds n) ω) λv2 hv2=>(gs (Ao hv2 ·) (Ab 15 (Bb)))))))
noncomputable def Apm (n:Int):Value:=Kp 97 [.agg [.b,.s]] [.int n]
theorem Mh (n:Int):AF Tryz.prog 97 [.int n] (.lit (Hp [.agg [.b,.s]] (Apm n))):=Bi (Al6 n)
theorem cS (x y:Int) (hx:Bn x) (hy:Bn y) (hz:Bn (x+y)):AF Tryz.prog 124 [WA x,WA y] (WA (x+y)):=by
 refine As func124 rfl λB D0 hA0=>?_
 exact Ae 11 (Ao (mY x y hx hy hz) (Ae 15 (Ck)))
theorem Mg (x y:Int) (hx:Bn x) (hy:Bn y) (hz:Bn (x*y)):AF Tryz.prog 123 [WA x,WA y] (WA (x*y)):=by
 refine As func123 rfl λB D0 hA0=>?_
 exact Ae 11 (Ao (cV x y hx hy hz) (Ae 15 (Ck)))
theorem cT (x y:Int) (hx:Bn x) (hy:Bn y):AF Tryz.prog 100 [WA x,WA y] (WA (Nat.gcd x.natAbs y.natAbs:Int)):=by
 refine As func100 rfl λB D0 hA0=>?_
 exact Ae 11 (Ao (Aj0 x y hx hy) (Ae 15 (Ck)))
theorem cU (x y:Int) (hx:Bn x) (hy:Bn y) (h0:y≠0):AF Tryz.prog 128 [WA x,WA y] (WA (x/y)):=by
 refine As func128 rfl λB D0 hA0=>?_
 exact Ae 11 (Ao (Aj1 x y hx hy h0) (Ae 18 (Ck)))
theorem Ni (n:Int) (k:Nat) (h0: -9223372036854775808<=n) (h1:n<=9223372036854775807) (hk:k<=1000) (hf:∀j,j<=k->Bn (n^j)):AF Tryz.prog 127 [.int n,.int (k:Int)] (WA (n^k)):=by
 refine As func127 rfl λB D0 hA0=>?_
 refine Ae 7 (Ao (Er 1 δ δ) (Ae 12 (vlp [0,4,5,7,8] (λm s=>∃(i:Nat) (z:Int),m=k-i/\(z=n^i/\i<=k)/\s=⟨[(0,.int n),(4,.ptr 0 0),(5,.ptr 1 0),(7,.int (k:Int)),(8,.int (i:Int))],[(0,.box 169 [.bool false,.lit (.string ⟨#[]⟩)]),(1,.box 169 [.bool (decide (z<0)),.lit (.string (Ci (z).natAbs))])],2,16⟩) (k-0) ⟨0,1,rfl,⟨(Int.pow_zero n).symm,Nat.zero_le _⟩,κ⟩ ?_)))
 rintro _ _ ⟨i,z,rfl,hF,rfl⟩ J1 hJ1
 refine Ae 6 (Gp 9 ((i:Int)<(k:Int)) (λhx1 hx1d=>?_) (λhx1 hx1d=>?_))
 ·
  exact Ae 5 (Cp [(2,_,.none),(3,_,.none)] [0,4,5,7,8] ⟨Be (Er n h0 h1),Be (Mg z n (by rw[hF.1];exact hf i ω) (Eg h0 h1) (by rw[hF.1,<-Int.pow_succ];exact hf (i+1) ω)),trivial⟩ (Ae 3 (Cv ((i:Int)+1) ((i+1:Nat):Int) (Ae 2 (qA [0,4,5,7,8] (hJ1 _ _ (by omega:k-(i+1)<k-i) ⟨i+1,z*n,rfl,⟨by rw[hF.1,<-Int.pow_succ],ω⟩,rfl⟩))))))
 ·
  exact Ae 13 (Fd (.lit (Ak z)) (by rw[hF.1,show i=k by omega]))
theorem Aib (x y:Int) (w:World) (hx:Bn x) (hy:Bn y) (hr:Bn (x+y)):Calls Tryz.prog 124 #[Ak x,Ak y] w λe w'=>e= .returned (Ak (x+y))/\Below w.heap.size w w':=(cS x y hx hy hr).lits (l:=[_,_]) w
theorem uP (x y:Int) (w:World) (hx:Bn x) (hy:Bn y) (hr:Bn (x*y)):Calls Tryz.prog 123 #[Ak x,Ak y] w λe w'=>e= .returned (Ak (x*y))/\Below w.heap.size w w':=(Mg x y hx hy hr).lits (l:=[_,_]) w
theorem Aih (x y:Int) (w:World) (hx:Bn x) (hy:Bn y):Calls Tryz.prog 100 #[Ak x,Ak y] w λe w'=>e= .returned (Ak (Nat.gcd x.natAbs y.natAbs:Int))/\Below w.heap.size w w':=(cT x y hx hy).lits (l:=[_,_]) w
theorem Sw (n:Int) (w:World) (h0: -9223372036854775808<=n) (h1:n<=9223372036854775807):Calls Tryz.prog 97 #[.int .i64 n] w λe w'=>e= .returned (Ak n)/\Below w.heap.size w w':=(Er n h0 h1).lits (l:=[_]) w
theorem pY (x y:Int) (w:World) (hx:Bn x) (hy:Bn y):Calls Tryz.prog 125 #[Ak x,Ak y] w λe w'=>e= .returned (.int .i64 (x-y).sign)/\Below w.heap.size w w':=(aR x y hx hy).lits (l:=[_,_]) w
theorem Ab3 (w:World) (o o':Obj):((w.alloc o).alloc o').heap[w.heap.size]?=some o/\((w.alloc o).alloc o').heap[w.heap.size+1]?=some o':=by
 constructor
 show ((w.heap.push o).push o')[w.heap.size]?=some o
 simp[Array.getElem?_push]
 have:=heap_alloc_new (w.alloc o) o'
 rwa [World.size_alloc] at this
theorem Below.store2 {B:Nat} {a w:World} {b:Nat} (h:Below B a w) (hb:B<=b) (u0 u1:Value):Below B a ((w.setCell ⟨b,0,none⟩ u0).setCell ⟨b,1,none⟩ u1):=(h.setCell (p:=⟨b,0,none⟩) hb u0).setCell (p:=⟨b,1,none⟩) hb u1
theorem kM {w:World} {b:Nat} {x0 x1:Value} {t:TypeId} {fz:Nat×Nat} (h:w.heap[b]?=some (.cells #[x0,x1] t fz)):w.cell? ⟨b,0,none⟩=some x0/\w.cell? ⟨b,1,none⟩=some x1:=by
 constructor<;>simp[World.cell?,h]
theorem AgK {w:World} {b:Nat} {x0 x1:Value} {t:TypeId} (h:w.heap[b]?=some (.cells #[x0,x1] t (0,0))) (i:Nat):w.frozen? ⟨b,i,none⟩=false:=by simp[World.frozen?,h]
theorem Sj {w:World} {b:Nat} (u0 u1:Value) {k:Nat} (hk:k≠b):((w.setCell ⟨b,0,none⟩ u0).setCell ⟨b,1,none⟩ u1).heap[k]?=w.heap[k]?:=by
 rw[Below.heap_setCell _ ⟨b,1,none⟩ _ _ hk,Below.heap_setCell _ ⟨b,0,none⟩ _ _ hk]
theorem Aef {w:World} {b:Nat} {x0 x1:Value} {t:TypeId} {fz:Nat×Nat} (hb:w.heap[b]?=some (.cells #[x0,x1] t fz)) (u0 u1:Value):((w.setCell ⟨b,0,none⟩ u0).setCell ⟨b,1,none⟩ u1).heap[b]?=some (.cells #[u0,u1] t fz):=by
 simp[World.setCell,Array.getElem?_modify,hb]
theorem xJ {w:World} {b:Nat} {x0 x1:Value} {t:TypeId} {fz:Nat×Nat} (h:w.heap[b]?=some (.cells #[x0,x1] t fz)):∀j u,[x0,x1][j]?=some u->w.cell? ⟨b,0+j,none⟩=some u:=by
 intro j u hu
 rw[Nat.zero_add]
 match j with
 |0=>simp at hu;subst hu;exact(kM h).1
 |1=>simp at hu;subst hu;exact(kM h).2
 |j+2=>simp at hu
def Mj (w:World) (b:Nat) (z:Int):Prop:=w.heap[b]?=some (.cells #[.bool (decide (z<0)),.string (Ci z.natAbs)] 169 (0,0))
theorem Mj.cells {w:World} {b:Nat} {z:Int} (h:Mj w b z):w.cell? ⟨b,0,none⟩=some (.bool (decide (z<0)))/\w.cell? ⟨b,1,none⟩=some (.string (Ci z.natAbs)):=kM h
theorem Mj.lt {w:World} {b:Nat} {z:Int} (h:Mj w b z):b<w.heap.size:=(Ξ h).1
theorem Mj.up {w w':World} {b B:Nat} {z:Int} (h:Mj w b z) (hb:Below B w w') (hl:b<B):Mj w' b z:=(hb.block b hl).trans h
theorem Mj.store {w:World} {b:Nat} {z:Int} (h:Mj w b z) (y:Int):Mj ((w.setCell ⟨b,0,none⟩ (.bool (decide (y<0)))).setCell ⟨b,1,none⟩ (.string (Ci y.natAbs))) b y:=Aef h _ _
theorem Mj.new (w:World) (z:Int):Mj (w.alloc (.cells #[.bool (decide (z<0)),.string (Ci z.natAbs)] 169)) w.heap.size z:=heap_alloc_new w _
def Dc:Nat->Nat->Nat
 |_,0=>1
 |0,_+1=>0
 |n+1,k+1=>Dc n k+Dc n (k+1)
def Tb (n k:Nat):List Int:=(List.range 36).map λi=>if i/6<n\/(i/6=n/\i%6<k) then (Dc (i/6) (i%6):Int) else 0
theorem Fq (n k:Nat):(Tb n k).length=36:=by simp[Tb]
theorem kN:Tb 0 0=List.replicate 36 0:=by decide
theorem AaC:∀n,n<6->∀k,k<6->(Tb n k).set (n*6+k) (Dc n k)=Tb n (k+1):=by decide
theorem AaB:∀n,n<6->∀k,k<6->∀m,m<n->∀j,j<6->(Tb n k).getD (m*6+j) 0=Dc m j:=by decide
theorem AjS (n:Nat) (h:n<6):∀d,n+1+d=6->Tb n (n+1)=Tb (n+1) 0:=by
 intro d hd
 have:∀n,n<6->Tb n (n+1)=Tb (n+1) 0:=by decide
 exact this n h
def Hk (w:World) (b:Nat) (t:TypeId) (l:List Int):Prop:=w.heap[b]?=some (.cells (Dm l).toArray t (0,0))
theorem Hk.cell {w:World} {b:Nat} {t:TypeId} {l:List Int} (h:Hk w b t l) {i:Nat} (hi:i<l.length):w.cell? ⟨b,i,none⟩=some (.int .i64 (l.getD i 0)):=by
 simp[World.cell?,show w.heap[b]?=_ from h,Dm,hi]
theorem Hk.frozen {w:World} {b:Nat} {t:TypeId} {l:List Int} (h:Hk w b t l) (i:Nat):w.frozen? ⟨b,i,none⟩=false:=by
 simp[World.frozen?,show w.heap[b]?=_ from h]
theorem Hk.set {w:World} {b:Nat} {t:TypeId} {l:List Int} (h:Hk w b t l) (i:Nat) (x:Int):Hk (w.setCell ⟨b,i,none⟩ (.int .i64 x)) b t (l.set i x):=by
 unfold Hk at*
 simp[World.setCell,Array.getElem?_modify,h,Dm,List.map_set]
theorem Hk.other {w:World} {b:Nat} {t:TypeId} {l:List Int} (h:Hk w b t l) (p:Addr) (u:Value) (hp:b≠p.block):Hk (w.setCell p u) b t l:=(Below.heap_setCell w p u b hp).trans h
theorem Yx {P:Program} {T:TypeId} {b o:Nat} (cs:List Value) (w:World) (hT:(isAgg T).run P w= .ok true w) (hn:(sizeOf T).run P w= .ok cs.length w) (hc:∀j u,cs[j]?=some u->w.cell? ⟨b,o+j,none⟩=some u):
  (loadVar T ⟨b,o,none⟩).run P w= .ok (.agg cs.toArray) w:=by
 have:=Sh (P:=P) (w:=w) (b:=b) (o:=o) cs 0 #[] (λj u hu=>by rw[Nat.zero_add];exact hc j u hu)
 simp[loadVar,hT,hn,loadCells,this]
theorem zU {P:Program} {T:TypeId} {b:Nat} (cs:List Value) (w:World) (hn:(sizeOf T).run P w= .ok cs.length w) (hc:∀j,j<cs.length->(w.cell? ⟨b,j,none⟩).isSome=true) (hf:∀j,j<cs.length->w.frozen? ⟨b,j,none⟩=false) (h1:∀v∈cs,v.oneCell'=true):
  (Instr.storeAt T (.pointer (some ⟨b,0,none⟩)) (.agg cs.toArray)).run P w= .ok () (w.setCells b 0 cs):=by
 have hs:=run_storeCells_cells (P:=P) b 0 cs 0 w (by simpa using hc) (by simpa using hf) h1
 simp[Instr.storeAt,Instr.sureAddr,storeVar,hn,Value.cells,hs]
theorem cL {P:Program} {w:World} {ops:Array Oper} {rest:List Oper} {o:Oper} {a:Act} {Q:Exit->Act->World->Prop} (hgd:o.guard=none) (T:TypeId) (x:Operand) (ho:o.op= .load T x) (b:Nat) (cs:List Value) (hx:a.eval x= .pointer (some ⟨b,0,none⟩))
  (hT:(isAgg T).run P w= .ok true w) (hn:(sizeOf T).run P w= .ok cs.length w) (hc:∀j u,cs[j]?=some u->w.cell? ⟨b,0+j,none⟩=some u) (h:wpList P ops Q rest (a.put o.dst (.agg cs.toArray)) w):wpList P ops Q (o::rest) a w:=by
 refine wpList_plain hgd λK hK=>?_
 have hrun:=Ht (P:=P) (T:=T) (b:=b) (o:=0) cs w hT hn hc
 unfold Oper.wp
 simp[execOp,ho,hx,hrun,Result.andThen]
 exact hK _ _ h
theorem Rd {P:Program} {w:World} {ops:Array Oper} {rest:List Oper} {o:Oper} {a:Act} {Q:Exit->Act->World->Prop} (hgd:o.guard=none) (hd:o.dst=none) (T:TypeId) (x y:Operand) (ho:o.op= .store T x y) (b:Nat) (cs:List Value) (hx:a.eval x= .pointer (some ⟨b,0,none⟩)) (hy:a.eval y= .agg cs.toArray)
  (hn:(sizeOf T).run P w= .ok cs.length w) (hc:∀j,j<cs.length->(w.cell? ⟨b,j,none⟩).isSome=true) (hf:∀j,j<cs.length->w.frozen? ⟨b,j,none⟩=false) (h1:∀v∈cs,v.oneCell'=true) (h:wpList P ops Q rest a (w.setCells b 0 cs)):wpList P ops Q (o::rest) a w:=by
 refine wpList_plain hgd λK hK=>?_
 have hrun:=zU (P:=P) (T:=T) (b:=b) cs w hn hc hf h1
 unfold Oper.wp
 simp[execOp,ho,hx,hy,hrun,Result.andThen]
 have e:a.put o.dst undef=a:=by rw[hd];rfl
 have h2:=hK _ _ h
 rw[<-e] at h2
 exact h2
theorem Hk.load {w:World} {b:Nat} {t:TypeId} {l:List Int} (h:Hk w b t l):∀j u,(Dm l)[j]?=some u->w.cell? ⟨b,0+j,none⟩=some u:=λj u hu=>by
 rw[Nat.zero_add]
 simp only[World.cell?,show w.heap[b]?=_ from h]
 simpa using hu
theorem sZ (l:List Int):∀v∈Dm l,v.oneCell'=true:=by
 intro v hv
 obtain⟨x,_,rfl⟩:=List.mem_map.1 hv
 rfl
theorem Zc (w:World):(sizeOf 207).run Tryz.prog w= .ok (Dm (Tb 6 0)).length w:=κ
theorem Ab0 (w:World):(isAgg 207).run Tryz.prog w= .ok true w:=κ
structure ChJ (w:World) (n k:Nat) (wr:World):Prop where
 tab:Hk wr (w.heap.size+1) 207 (Tb n k)
 res:Hk wr w.heap.size 207 (Tb 0 0)
 below:Below w.heap.size w wr
def Als:Value:= .agg (Dm (Tb 6 0)).toArray
theorem rU (w:World):Calls Tryz.prog 122 #[] w λe w'=>e= .returned Als/\Below w.heap.size w w':=by
 go_enter func122,ntmps122
 go_upto_region 2 with fail
 obtain⟨W,hW⟩:∃W,W=(w.alloc (.cells (Dm (Tb 0 0)).toArray 207)).alloc (.cells (Dm (Tb 0 0)).toArray 207):=⟨_,rfl⟩
 have h2:=Ab3 w (.cells (Dm (Tb 0 0)).toArray 207) (.cells (Dm (Tb 0 0)).toArray 207)
 rw[<-hW] at h2
 have HJ0:Hid (ChJ w 0 0 W):=⟨h2.2,h2.1,by rw[hW];exact(Ψ.alloc ζ _).alloc (by simp) _⟩
 have hlit:((Dm (Tb 0 0)).toArray:Array Value)=#[.int .i64 0,.int .i64 0,.int .i64 0,.int .i64 0,.int .i64 0,.int .i64 0,.int .i64 0,.int .i64 0,.int .i64 0,.int .i64 0,.int .i64 0,.int .i64 0,.int .i64 0,.int .i64 0,.int .i64 0,.int .i64 0,.int .i64 0,.int .i64 0,.int .i64 0,.int .i64 0,.int .i64 0,.int .i64 0,.int .i64 0,.int .i64 0,.int .i64 0,.int .i64 0,.int .i64 0,.int .i64 0,.int .i64 0,.int .i64 0,.int .i64 0,.int .i64 0,.int .i64 0,.int .i64 0,.int .i64 0,.int .i64 0]:=by rw[kN];rfl
 rw[hlit] at hW
 rw[<-hW]
 clear hW h2 hlit
 go_wp2_with fail
 go_loopw [2,3,4] (λ_ _ iv wr=>∃n:Nat,n<=6/\iv= .int .i64 (n:Int)/\Hid (ChJ w n 0 wr)) (λ_ _ iv _=>6-(intOf iv).toNat)
 case atStart=>exact⟨0,ω,rfl,HJ0⟩
 case round=>
  obtain⟨n,hn,rfl,HJ⟩:=hrel
  clear HJ0
  by_cases hn6:n=6
  ·
   subst hn6
   have HT:=Δ HJ.out.tab
   have HR:=Δ HJ.out.res
   have HBW:=Δ HJ.out.below
   clear HJ
   go_wp2_with (first
    |(refine cL rfl 207 (.tmp 1) rfl (w.heap.size+1) (Dm (Tb 6 0)) rfl (Ab0 _) (Zc _) HT.out.load ?_)
    |(refine Rd rfl rfl 207 (.tmp 0) (.tmp 34) rfl w.heap.size (Dm (Tb 6 0)) rfl rfl (Zc _) ?_ ?_ (sZ _) ?_))
   ·
    intro j hj
    rw[HR.out.cell (by simpa [Dm,Fq] using hj)];rfl
   · intro j _;exact HR.out.frozen j
   ·
    have hcell:∀j u,(Dm (Tb 6 0))[j]?=some u->(wr.setCells w.heap.size 0 (Dm (Tb 6 0))).cell? ⟨w.heap.size,0+j,none⟩=some u:=by
     intro j u hu
     have hj:=(List.getElem?_eq_some_iff.1 hu).1
     have:=World.cell?_setCells_in w.heap.size (Dm (Tb 6 0)) 0 wr (λj hj=>by rw[Nat.zero_add,HR.out.cell (by simpa [Dm,Fq] using hj)];rfl) j hj
     rw[this,<-hu,List.getElem?_eq_getElem hj]
    have hl:=Yx (P:=Tryz.prog) (T:=207) (b:=w.heap.size) (o:=0) (Dm (Tb 6 0)) _ (Ab0 _) (Zc _) hcell
    refine bodyPost_ret (v:=Als) (by simp[results,results122,Act.put,asAddr,hl,Als]) rfl ?_
    exact⟨rfl,Fp ζ _ _ HBW.out⟩
  ·
   have hnl:n<6:=by omega
   have hni:(n:Int)<6:=by omega
   have c0:=HJ.out.tab.cell (i:=n*6) (by rw[Fq];omega)
   have f0:=HJ.out.tab.frozen (n*6)
   have HJ1:Hid (ChJ w n 1 (wr.setCell ⟨w.heap.size+1,n*6,none⟩ (.int .i64 1))):=by
    refine⟨?_,HJ.out.res.other _ _ (by show w.heap.size≠w.heap.size+1;omega),HJ.out.below.setCell (by show w.heap.size<=w.heap.size+1;omega) _⟩
    have:=HJ.out.tab.set (n*6) 1
    have h3:=AaC n hnl 0 ω
    rw[Nat.add_zero,show ((Dc n 0:Nat):Int)=1 by cases n<;>rfl] at h3
    rw[h3] at this
    exact this
   generalize (Tb n 0).getD (n*6) 0=z at*
   go_wp2_with fail
   clear HJ c0 f0
   go_loopw [3] (λkv wr=>∃k:Nat,1<=k/\k<=n+1/\kv= .int .i64 (k:Int)/\Hid (ChJ w n k wr)) (λkv _=>n+1-(intOf kv).toNat)
   case atStart=>exact⟨1,ω,ω,rfl,HJ1⟩
   case round=>
    obtain⟨k,hk1,hkn,rfl,HJ⟩:=hrel
    clear HJ1
    by_cases hkk:k=n+1
    ·
     subst hkk
     have HNX:Hid (ChJ w (n+1) 0 wr):=by
      have h1:=HJ.out
      refine⟨?_,h1.res,h1.below⟩
      rw[<-AjS n hnl (5-n) ω];exact h1.tab
     have hle:¬((n:Int)+1)<=(n:Int):=by omega
     clear HJ
     go_wp2_with fail
     exact⟨⟨n+1,ω,rfl,HNX⟩,by simp only[intOf];omega⟩
    ·
     have hkl:k<=n:=by omega
     have hki:(k:Int)<=(n:Int):=by omega
     obtain⟨m,hm⟩:∃m,n=m+1:=⟨n-1,ω⟩
     obtain⟨j,hj⟩:∃j,k=j+1:=⟨k-1,ω⟩
     have hmw:IntKind.i64.wrap ((n:Int)-1)=(m:Int):=by rw[IntWalk.i64_in _ ω];omega
     have hjw:IntKind.i64.wrap ((k:Int)-1)=(j:Int):=by rw[IntWalk.i64_in _ ω];omega
     have hmi:(m:Int)<6:=by omega
     have hji:(j:Int)<6:=by omega
     have hki6:(k:Int)<6:=by omega
     have ga:wr.cell? ⟨w.heap.size+1,m*6+j,none⟩=some (.int .i64 (Dc m j:Int)):=by
      rw[HJ.out.tab.cell (by rw[Fq];omega),AaB n hnl k ω m ω j ω]
     have gb:wr.cell? ⟨w.heap.size+1,m*6+k,none⟩=some (.int .i64 (Dc m k:Int)):=by
      rw[HJ.out.tab.cell (by rw[Fq];omega),AaB n hnl k ω m ω k ω]
     have gc:=HJ.out.tab.cell (i:=n*6+k) (by rw[Fq];omega)
     have gf:=HJ.out.tab.frozen (n*6+k)
     have HNX:Hid (ChJ w n (k+1) (wr.setCell ⟨w.heap.size+1,n*6+k,none⟩ (.int .i64 (Dc n k:Int))).drew):=by
      refine⟨?_,(HJ.out.res.other _ _ (by show w.heap.size≠w.heap.size+1;omega):Hk _ _ _ _),(HJ.out.below.setCell (by show w.heap.size<=w.heap.size+1;omega) _).drew⟩
      have:=HJ.out.tab.set (n*6+k) (Dc n k:Int)
      rw[AaC n hnl k ω] at this
      exact this
     have hsum:IntKind.i64.wrap ((Dc m j:Int)+(Dc m k:Int))=(Dc n k:Int):=by
      have hb:∀m,m<6->∀j,j<6->Dc m j<=100:=by decide
      have h1:=hb m ω j ω
      have h2:=hb m ω k ω
      rw[IntWalk.i64_in _ ω,hm,hj];rfl
     have hk6:k<6:=by omega
     have hm6:m<6:=by omega
     have hj6:j<6:=by omega
     clear hm hj
     generalize (Tb n k).getD (n*6+k) 0=zz at*
     generalize Dc m j=ca at*
     generalize Dc m k=cb at*
     generalize Dc n k=cc at*
     clear HJ
     go_wp2_with fail
     go_region
     obtain⟨w3,hw3⟩:∃w3,w3=(wr.setCell ⟨w.heap.size+1,n*6+k,none⟩ (.int .i64 (cc:Int))).drew:=⟨_,rfl⟩
     rw[<-hw3] at HNX ⊢
     clear hw3 ga gb gc gf
     go_wp2_with fail
     exact⟨⟨k+1,ω,ω,rfl,HNX⟩,by simp only[intOf];omega⟩
theorem AjD (w:World):(sizeOf 171).run Tryz.prog w= .ok 3 w:=κ
theorem Amo (w:World):(isAgg 171).run Tryz.prog w= .ok true w:=κ
theorem AfQ (f t o:Int) (Ax Ay Az:Option Addr) (nx cx ny cy nz cz:Nat) (w:World):
  Calls Tryz.prog 98 #[.agg #[.int .i64 f,.int .i64 t,.int .i64 o,.slice Ax nx cx,.slice Ay ny cy,.slice Az nz cz]] w λe w'=>e= .returned (.agg #[.slice Ax nx cx,.slice Ay ny cy,.slice Az nz cz])/\Below w.heap.size w w':=by
 go_enter func98,ntmps98
 go_upto_region 1 with fail
 go_wp2_with fail
 obtain⟨V,hV⟩:∃V,V=(w.alloc (.cells #[.int .i64 f,.int .i64 t,.int .i64 o,.slice Ax nx cx,.slice Ay ny cy,.slice Az nz cz] 110)).alloc (.cells #[.slice Ax nx cx,.slice Ay ny cy,.slice Az nz cz] 171):=⟨_,rfl⟩
 have h2:=(Ab3 w (.cells #[.int .i64 f,.int .i64 t,.int .i64 o,.slice Ax nx cx,.slice Ay ny cy,.slice Az nz cz] 110) (.cells #[.slice Ax nx cx,.slice Ay ny cy,.slice Az nz cz] 171)).2
 rw[<-hV] at h2
 have hb:Below w.heap.size w V:=by rw[hV];exact(Ψ.alloc ζ _).alloc (by simp) _
 rw[<-hV]
 clear hV
 have hl:=Yx (P:=Tryz.prog) (T:=171) (b:=w.heap.size+1) (o:=0) [.slice Ax nx cx,.slice Ay ny cy,.slice Az nz cz] V (Amo V) (AjD V) (λj u hu=>by
  rw[Nat.zero_add]
  simp only[World.cell?,h2]
  simpa using hu)
 exact bodyPost_ret (v:= .agg #[.slice Ax nx cx,.slice Ay ny cy,.slice Az nz cz]) (by simp[results,results98,asAddr,hl]) rfl ⟨rfl,hb⟩
abbrev Aw (l:List Int):AV:= .sl 1 l.length λi=> .int (l.getD i 0)
abbrev Lt (s:Sg):AV:= .agg [.int s.f,.int s.t,.int s.o,Aw s.x,Aw s.y,Aw s.z]
theorem Ajh (s:Sg):AF Tryz.prog 98 [Lt s] (.agg [Aw s.x,Aw s.y,Aw s.z]):=by
 refine As func98 rfl λB D0 hA0=>?_
 exact Ae 19 (Ck)
def Ry (n j k:Nat):Nat:=60/Dc n k*Dc j k
def Mr (l:List Int) (j:Nat):Nat->Int
 |0=>0
 |k+1=>Mr l j k+l.getD k 0*(Ry (l.length-1) j k:Int)
def Zn (l:List Int) (o:Int) (n:Nat):Prop:=∀j,j<n->((Mr l j (j+1)).natAbs:Int)<=62914560*o
theorem yA:∀n,n<6->∀j,j<6->∀k,k<6->Ry n j k<=600:=by decide
theorem xK:∀n,n<6->∀k,k<=n->1<=Dc n k/\Dc n k<=10:=by
 intro n hn k hk
 have:∀n,n<6->∀k,k<6->k<=n->1<=Dc n k/\Dc n k<=10:=by decide
 exact this n hn k ω hk
theorem Acv:∀n,n<6->∀k,k<6->Dc n k<=10:=by decide
theorem Zv {z:Int} (h:z.natAbs<2^200):Bn z:=by
 unfold Bn
 exact Nat.le_trans (Fm.2 h) δ
theorem Abz {l:List Int} {j:Nat} (hl:l.length<=6) (hj:j<6) (h:∀i,-9223372036854775808<=l.getD i 0/\l.getD i 0<=9223372036854775807):∀k,k<=6->(Mr l j k).natAbs<=k*(9223372036854775808*600)
 |0,_=>by simp[Mr]
 |k+1,hk=>by
  have h1:=Abz hl hj h k ω
  have h2:=yA (l.length-1) ω j hj k ω
  have h3:=h k
  have h4:(l.getD k 0).natAbs<=9223372036854775808:=by omega
  have h5:(l.getD k 0*(Ry (l.length-1) j k:Int)).natAbs<=9223372036854775808*600:=by
   rw[Int.natAbs_mul,Int.natAbs_natCast]
   exact Nat.mul_le_mul h4 h2
  have h6:(Mr l j (k+1)).natAbs<=(Mr l j k).natAbs+(l.getD k 0*(Ry (l.length-1) j k:Int)).natAbs:=by
   show (Mr l j k+l.getD k 0*(Ry (l.length-1) j k:Int)).natAbs<=_
   exact Int.natAbs_add_le _ _
  omega
theorem gW {l:List Int} {j k:Nat} (hl:l.length<=6) (hj:j<6) (hk:k<=6) (h:∀i,-9223372036854775808<=l.getD i 0/\l.getD i 0<=9223372036854775807):Bn (Mr l j k):=by
 refine Zv ?_
 have:=Abz hl hj h k hk
 have h2:k*(9223372036854775808*600)<=6*(9223372036854775808*600):=Nat.mul_le_mul_right _ hk
 exact Nat.lt_of_le_of_lt (Nat.le_trans this h2) δ
theorem Aiq {l:List Int} {n j k:Nat} (hn:n<6) (hj:j<6) (hk:k<6) (h:∀i,-9223372036854775808<=l.getD i 0/\l.getD i 0<=9223372036854775807):Bn (l.getD k 0*(Ry n j k:Int)):=by
 refine Zv ?_
 have h2:=yA n hn j hj k hk
 have h3:=h k
 have h4:(l.getD k 0).natAbs<=9223372036854775808:=by omega
 rw[Int.natAbs_mul,Int.natAbs_natCast]
 exact Nat.lt_of_le_of_lt (Nat.mul_le_mul h4 h2) δ
theorem tM {o:Int} (h0: -9223372036854775808<=o) (h1:o<=9223372036854775807):Bn (62914560*o):=by
 refine Zv ?_
 have h4:o.natAbs<=9223372036854775808:=by omega
 rw[Int.natAbs_mul]
 exact Nat.lt_of_le_of_lt (Nat.mul_le_mul ζ h4) δ
theorem AfX {l:List Int} {o:Int} {n:Nat} (h:Zn l o n) (h2:((Mr l n (n+1)).natAbs:Int)<=62914560*o):Zn l o (n+1):=λj hj=>by
 by_cases e:j=n
 rw[e];exact h2
 exact h j ω
theorem Alt:((Dm (Tb 0 0)).toArray:Array Value)=#[.int .i64 0,.int .i64 0,.int .i64 0,.int .i64 0,.int .i64 0,.int .i64 0,.int .i64 0,.int .i64 0,.int .i64 0,.int .i64 0,.int .i64 0,.int .i64 0,.int .i64 0,.int .i64 0,.int .i64 0,.int .i64 0,.int .i64 0,.int .i64 0,.int .i64 0,.int .i64 0,.int .i64 0,.int .i64 0,.int .i64 0,.int .i64 0,.int .i64 0,.int .i64 0,.int .i64 0,.int .i64 0,.int .i64 0,.int .i64 0,.int .i64 0,.int .i64 0,.int .i64 0,.int .i64 0,.int .i64 0,.int .i64 0]:=by rw[kN];rfl
def bV (w:World) (tb:Nat):Prop:=∀i,i<36->w.cell? ⟨tb,i,none⟩=some (.int .i64 ((Tb 6 0).getD i 0))
theorem Alr {w:World} {tb:Nat} {t:TypeId} {l:List Int} (h:Hk w tb t l) (hl:l.length=36):bV (w.setCells tb 0 (Dm (Tb 6 0))) tb:=by
 intro i hi
 have hj:i<(Dm (Tb 6 0)).length:=by simpa [Dm,Fq] using hi
 have:=World.cell?_setCells_in tb (Dm (Tb 6 0)) 0 w (λj hj=>by rw[Nat.zero_add,h.cell (by rw[hl];simpa [Dm,Fq] using hj)];rfl) i hj
 rw[Nat.zero_add] at this
 rw[this]
 simp[Dm,Fq,hi]
theorem bV.up {w w':World} {tb B:Nat} (h:bV w tb) (hb:Below B w w') (hl:tb<B):bV w' tb:=λi hi=>(hb.cell (p:=⟨tb,i,none⟩) hl).trans (h i hi)
theorem Vi {P:Program} {ops:Array Oper} {n:Nat} {C:World->Prop} {R:Nat->Value->World->Prop} {a0:Act} {Q:Exit->Act->World->Prop} {i:Nat} {o:Oper} (T e:TypeId) (t t':Nat) (b off len size:Nat) (j:Int) (k:Nat) (h1:1<len) (ho:o.op= .indexAddr T (.tmp t) (.tmp t')) (hx:Ii ops n R a0 (.tmp t)=is (.pointer (some ⟨b,off,none⟩))) (hx':Ii ops n R a0 (.tmp t')=is (.int .i64 j))
  (hT:P.underlying T=some (.array len e)) (hsz:∀w,(sizeOf e).run P w= .ok size w) (hj:j=(k:Int)) (hk:k<len) (hr:R i=is (.pointer (some ⟨b,off+k*size,none⟩))):Lg P ops n C R a0 Q i o:=
 lQ t t' _ _ (.pointer (some ⟨b,off+k*size,none⟩)) (by rw[ho];rfl) hx hx' (λa w _ h1 h2=>by
  have e1:a.eval (.tmp t)= .pointer (some ⟨b,off,none⟩):=by simpa [Act.eval] using h1
  have e2:a.eval (.tmp t')= .int .i64 j:=by simpa [Act.eval] using h2
  have hj2:(0:Int)<=j/\j<(len:Int):=by omega
  have hj3:j.toNat=k:=by omega
  have hl:¬len<=1:=by omega
  simp[execOp,ho,e1,e2,Instr.indexAt,Instr.sureAddr,asIntOf,run_underlying hT,hj2,hj3,hsz,Ei]) hr
theorem yG (w:World):(sizeOf 3).run Tryz.prog w= .ok 1 w:=κ
theorem uH (w:World):(sizeOf 206).run Tryz.prog w= .ok 6 w:=κ
structure BoJ (w:World) (l:List Int) (o mo:Int) (tb sb j:Nat) (wr:World):Prop where
 tab:bV wr tb
 most:Mj wr sb mo
 bnd:Zn l o j
 below:Below w.heap.size w wr
structure BoK (w:World) (l:List Int) (mo:Int) (tb sb xb j k:Nat) (wr:World):Prop where
 tab:bV wr tb
 most:Mj wr sb mo
 sum:Mj wr xb (Mr l j k)
 below:Below w.heap.size w wr
theorem AaA:∀m,m<6->∀j,j<6->(Tb 6 0).getD (m*6+j) 0=Dc m j:=by decide
theorem bV.store2 {w:World} {tb xb:Nat} (h:bV w tb) (hne:tb≠xb) (u u':Value):bV ((w.setCell ⟨xb,0,none⟩ u).setCell ⟨xb,1,none⟩ u') tb:=λi hi=>(World.cell?_of_block (Sj _ _ hne)).trans (h i hi)
theorem Sa {P:Program} {f:FuncId} {args:Array Value} {v:Value} {wr:World} (h:∀wa,Calls P f args wa λe w'=>e= .returned v/\Below wa.heap.size wa w'):∀wa,Below wr.heap.size wr wa->Calls P f args wa λe w'=>∃v',e= .returned v'/\Below wr.heap.size wr w'/\Below wa.heap.size wa w'/\is v v' w':=λwa hC=>by
 refine(h wa).mono ?_
 rintro e w' ⟨rfl,hb⟩
 exact⟨_,rfl,hC.trans (hb.mono hC.size),hb,rfl⟩
instance (l:List Int) (o:Int) (n:Nat):Decidable (Zn l o n):=by unfold Zn;infer_instance
theorem rQ (l:List Int) (o:Int) (b q c:Nat) (w:World) (hs:∀i,i<l.length->w.cell? ⟨b,q+i*1,none⟩=some (.int .i64 (l.getD i 0))) (h1:1<=l.length) (h6:l.length<=6) (hi:∀i,-9223372036854775808<=l.getD i 0/\l.getD i 0<=9223372036854775807)
  (ho0: -9223372036854775808<=o) (ho1:o<=9223372036854775807):
  Calls Tryz.prog 99 #[.slice (some ⟨b,q,none⟩) l.length c,.int .i64 o] w λe w'=>e= .returned (.bool (decide (Zn l o l.length)))/\Below w.heap.size w w':=by
 have HCH:=Δ rU
 have HOM:=Δ (λw=>Sw 62914560 w δ δ)
 have HOO:=Δ (λw=>Sw o w ho0 ho1)
 have HMM:=Δ (λw=>uP 62914560 o w (Eg δ δ) (Eg ho0 ho1) (tM ho0 ho1))
 have HFM0:=Δ (tM ho0 ho1)
 have HS:=Δ hs
 have HI:=Δ hi
 obtain⟨n,hn⟩:∃n:Nat,l.length=n+1:=⟨l.length-1,ω⟩
 have hw:IntKind.i64.wrap ((l.length:Int)-1)=(n:Int):=by rw[IntWalk.i64_in _ ω];omega
 have hbw:b<w.heap.size:=by
  have:=hs 0 ω
  simp only[World.cell?] at this
  cases h:w.heap[b]? with
  |none=>rw[h] at this;cases this
  |some x=>exact(Ξ h).1
 clear hs hi ho0 ho1
 go_enter func99,ntmps99
 go_upto_region 1 with fail
 go_wp2_with fail
 refine(HCH.out _).mono ?_
 rintro e w1 ⟨rfl,hb1⟩
 have HB1:Hid (Below w.heap.size w w1):=hb1
 have hs1:w.heap.size<=w1.heap.size:=hb1.size
 clear hb1 HCH
 obtain⟨W,hW⟩:∃W,W=w1.alloc (.cells (Dm (Tb 0 0)).toArray 207):=⟨_,rfl⟩
 have HT0:Hid (Hk W w1.heap.size 207 (Tb 0 0)):=by unfold Hid Hk;rw[hW];exact heap_alloc_new w1 _
 have HB2:Hid (Below w.heap.size w W):=by unfold Hid;rw[hW];exact HB1.out.alloc hs1 _
 have hsW:W.heap.size=w1.heap.size+1:=by rw[hW];simp
 rw[Alt] at hW
 obtain⟨tb,htb⟩:∃tb,tb=w1.heap.size:=⟨_,rfl⟩
 rw[<-htb] at HT0 hsW hs1
 unfold Als
 go_upto_region 2 with(first|(rw[<-hW];refine Rd rfl rfl 207 (.tmp 5) (.tmp 11) rfl tb (Dm (Tb 6 0)) (by rw[htb];rfl) rfl (Zc _) ?_ ?_ (sZ _) ?_))
 ·
  intro j hj
  rw[HT0.out.cell (by simpa [Dm,Fq] using hj)];rfl
 · intro j _;exact HT0.out.frozen j
 rw[<-htb]
 obtain⟨W3,hW3⟩:∃W3,W3=W.setCells tb 0 (Dm (Tb 6 0)):=⟨_,rfl⟩
 have HT:Hid (bV W3 tb):=by unfold Hid;rw[hW3];exact Alr HT0.out (Fq _ _)
 have HB3:Hid (Below w.heap.size w W3):=by unfold Hid;rw[hW3];exact Fp hs1 _ _ HB2.out
 have hs3:tb<W3.heap.size:=by
  have:=HT.out 0 ω
  simp only[World.cell?] at this
  cases h:W3.heap[tb]? with
  |none=>rw[h] at this;cases this
  |some x=>exact(Ξ h).1
 rw[<-hW3]
 clear hW hW3 HT0 HB1 HB2 hsW htb
 go_wp2_with fail
 refine(HOM.out _).mono ?_
 rintro e w4 ⟨rfl,hb4⟩
 have HB4:Hid (Below W3.heap.size W3 w4):=hb4
 clear hb4 HOM
 go_wp2_with fail
 refine(HOO.out _).mono ?_
 rintro e w5 ⟨rfl,hb5⟩
 have HB5:Hid (Below W3.heap.size W3 w5):=HB4.out.trans (hb5.mono HB4.out.size)
 clear hb5 HB4 HOO
 go_wp2_with fail
 refine(HMM.out _).mono ?_
 rintro e w6 ⟨rfl,hb6⟩
 have HB6:Hid (Below W3.heap.size W3 w6):=HB5.out.trans (hb6.mono HB5.out.size)
 clear hb6 HB5 HMM
 have hs6:W3.heap.size<=w6.heap.size:=HB6.out.size
 obtain⟨mo,hmo⟩:∃mo:Int,mo=62914560*o:=⟨_,rfl⟩
 have HMO:=Δ hmo
 have HFM:Hid (Bn mo):=by unfold Hid;rw[hmo];exact HFM0.out
 rw[<-hmo]
 clear hmo
 unfold Ak
 obtain⟨mg,hmg⟩:∃g,g=decide (mo<0):=⟨_,rfl⟩
 obtain⟨ms,hms⟩:∃g,g=Ci mo.natAbs:=⟨_,rfl⟩
 rw[<-hmg,<-hms]
 obtain⟨V,hV⟩:∃V,V=w6.alloc (.cells #[.bool mg,.string ms] 169):=⟨_,rfl⟩
 obtain⟨sb,hsb⟩:∃sb,sb=w6.heap.size:=⟨_,rfl⟩
 have HV:Hid (Mj V sb mo):=by unfold Hid;rw[hV,hsb,hmg,hms];exact Mj.new w6 _
 have HTV:Hid (bV V tb):=by unfold Hid;rw[hV];exact HT.out.up (HB6.out.alloc hs6 _) hs3
 have HBV:Hid (Below w.heap.size w V):=by unfold Hid;rw[hV];exact HB3.out.trans ((HB6.out.alloc hs6 _).mono HB3.out.size)
 have hsV:sb<V.heap.size:=by rw[hV,hsb];simp
 have htV:tb<sb:=by omega
 clear HT HB3 HB6 hmg hms hs3
 go_upto_region 3 with fail
 rw[<-hV,<-hsb]
 clear hV hsb hs6
 go_wp2_with fail
 have HJ0:Hid (BoJ w l o mo tb sb 0 V):=⟨HTV.out,HV.out,λj hj=>absurd hj (Nat.not_lt_zero j),HBV.out⟩
 clear HTV HV HBV hsV
 go_loopw [21] (λjv wr=>∃j:Nat,j<=l.length/\jv= .int .i64 (j:Int)/\Hid (BoJ w l o mo tb sb j wr)) (λjv _=>l.length-(intOf jv).toNat)
 case atStart=>exact⟨0,Nat.zero_le _,rfl,HJ0⟩
 case round=>
  obtain⟨j,hj,rfl,HJ⟩:=hrel
  clear HJ0
  by_cases hjl:j=l.length
  ·
   subst hjl
   have HR:Hid (decide (Zn l o l.length)=true/\Below w.heap.size w wr):=⟨decide_eq_true HJ.out.bnd,HJ.out.below⟩
   clear HJ
   go_wp2_with fail
   exact bodyPost_ret (v:= .bool true) (by simp[results,results99]) rfl ⟨by rw[HR.out.1],HR.out.2⟩
  ·
   have hjl2:j<l.length:=by omega
   have hji:(j:Int)<(l.length:Int):=by omega
   have HJ1:Hid (BoK w l mo tb sb wr.heap.size j 0 (wr.alloc (.cells #[.bool false,.string ⟨#[]⟩] 169))):=by
    have h:=HJ.out
    have hb:Below wr.heap.size wr (wr.alloc (.cells #[.bool false,.string ⟨#[]⟩] 169)):=Ψ.alloc ζ _
    have htl:tb<wr.heap.size:=Nat.lt_trans htV h.most.lt
    refine⟨h.tab.up hb htl,h.most.up hb h.most.lt,?_,h.below.trans (hb.mono h.below.size)⟩
    have:=heap_alloc_new wr (.cells #[.bool false,.string ⟨#[]⟩] 169)
    unfold Mj
    rw[this,show Mr l j 0=0 from rfl,show (0:Int).natAbs=0 from rfl,Qp]
    rfl
   have HBND:=Δ HJ.out.bnd
   have hxb0:=HJ.out.below.size
   have hxb1:=HJ.out.most.lt
   obtain⟨xb,hxb⟩:∃xb,xb=wr.heap.size:=⟨_,rfl⟩
   obtain⟨X,hX⟩:∃X,X=wr.alloc (.cells #[.bool false,.string ⟨#[]⟩] 169):=⟨_,rfl⟩
   rw[<-hxb] at hxb0 hxb1
   rw[<-hxb,<-hX] at HJ1
   clear HJ
   go_upto_region 8 with fail
   rw[<-hX,<-hxb]
   clear hX hxb
   have hw1:IntKind.i64.wrap ((j:Int)+1)=((j+1:Nat):Int):=by rw[IntWalk.i64_in _ ω];omega
   go_wp2_with fail
   have hn6:n<6:=by omega
   have hj6:j<6:=by omega
   go_loopw [26] (λkv wr=>∃k:Nat,k<=j+1/\kv= .int .i64 (k:Int)/\Hid (BoK w l mo tb sb xb j k wr)) (λkv _=>j+1-(intOf kv).toNat)
   case atStart=>exact⟨0,Nat.zero_le _,rfl,HJ1⟩
   case round=>
    obtain⟨k,hk,rfl,HK⟩:=hrel
    clear HJ1
    by_cases hkj:k=j+1
    ·
     subst hkj
     have htx:tb≠xb:=by omega
     have hsx:sb≠xb:=by omega
     obtain⟨su,hsu⟩:∃su,su=Mr l j (j+1):=⟨_,rfl⟩
     have hfs:Bn su:=by rw[hsu];exact gW h6 hj6 ω HI.out
     have hfa:Bn (su.natAbs:Int):=by unfold Bn at hfs ⊢;rw[Int.natAbs_natCast];exact hfs
     have HK2:=HK.out
     have hKs:=HK2.sum
     rw[<-hsu] at hKs
     obtain⟨c0,c1⟩:=hKs.cells
     have f0:=AgK hKs 0
     obtain⟨Y,hY⟩:∃Y,Y=wr.setCell ⟨xb,0,none⟩ (.bool false):=⟨_,rfl⟩
     have hYx:Y.heap[xb]?=some (.cells #[.bool false,.string (Ci su.natAbs)] 169 (0,0)):=by
      rw[hY];simp[World.setCell,Array.getElem?_modify,show wr.heap[xb]?=_ from hKs]
     have hYs:Mj Y sb mo:=by unfold Mj;rw[hY,Below.heap_setCell _ ⟨xb,0,none⟩ _ _ hsx];exact HK2.most
     have hYt:bV Y tb:=λi hi=>by rw[hY];exact(World.cell?_of_block (Below.heap_setCell _ ⟨xb,0,none⟩ _ _ htx)).trans (HK2.tab i hi)
     have hYb:Below w.heap.size w Y:=by rw[hY];exact HK2.below.setCell (p:=⟨xb,0,none⟩) hxb0 _
     have HJN:Hid (∀w7,Below Y.heap.size Y w7->(su.natAbs:Int)<=mo->BoJ w l o mo tb sb (j+1) w7):=λw7 hb hle=>by
      refine⟨hYt.up hb (Nat.lt_trans htV hYs.lt),hYs.up hb hYs.lt,AfX HBND.out ?_,hYb.trans (hb.mono hYb.size)⟩
      rw[<-hsu,<-HMO.out];exact hle
     have HJF:Hid (mo<(su.natAbs:Int)->decide (Zn l o l.length)=false):=λhlt=>decide_eq_false λh=>by
      have:=h j hjl2
      rw[<-hsu,<-HMO.out] at this
      omega
     have HYB:=Δ hYb
     obtain⟨sg,hsg⟩:∃sg,sg=((su.natAbs:Int)-mo).sign:=⟨_,rfl⟩
     have HCMP:=Δ (λwa=>pY (su.natAbs:Int) mo wa hfa HFM.out)
     rw[<-hsg] at HCMP
     obtain⟨y0,y1⟩:=kM hYx
     obtain⟨m0,m1⟩:=hYs.cells
     unfold Ak at HCMP
     rw[Int.natAbs_natCast,show decide ((su.natAbs:Int)<0)=false from decide_eq_false ω] at HCMP
     obtain⟨us,hus⟩:∃g,g=Ci su.natAbs:=⟨_,rfl⟩
     obtain⟨mg2,hmg2⟩:∃g,g=decide (mo<0):=⟨_,rfl⟩
     obtain⟨ms2,hms2⟩:∃g,g=Ci mo.natAbs:=⟨_,rfl⟩
     rw[<-hus,<-hmg2,<-hms2] at HCMP
     rw[<-hus] at y1
     rw[<-hmg2] at m0
     rw[<-hms2] at m1
     have HSG:Hid (((su.natAbs:Int)<=mo/\sg<=0)\/(mo<(su.natAbs:Int)/\0<sg)):=by
      unfold Hid
      obtain⟨t,ht⟩:∃t,t=(su.natAbs:Int)-mo:=⟨_,rfl⟩
      rw[<-ht] at hsg
      rcases Int.lt_trichotomy t 0 with h|h|h
      · exact .inl ⟨ω,by rw[hsg,Int.sign_eq_neg_one_of_neg h];decide⟩
      · exact .inl ⟨ω,by rw[hsg,h];decide⟩
      · exact .inr ⟨ω,by rw[hsg,Int.sign_eq_one_of_pos h];decide⟩
     clear hsg hus hmg2 hms2 hfs hfa HK HK2 hKs hYx hYs hYt hYb hsu HBND
     go_upto_region 14 with fail
     rw[<-hY]
     clear hY c0 c1 f0
     go_wp2_with fail
     refine(HCMP.out _).mono ?_
     rintro e w7 ⟨rfl,hb7⟩
     have HB7:Hid (Below Y.heap.size Y w7):=hb7
     clear hb7 HCMP
     rcases HSG.out with⟨hle,hs0⟩|⟨hlt,hs0⟩
     ·
      have HNX:=Δ (HJN.out w7 HB7.out hle)
      have hs1:¬(0:Int)<sg:=by omega
      clear HJN HJF hle HSG
      go_wp2_with fail
      exact⟨⟨j+1,ω,rfl,HNX⟩,by simp only[intOf];omega⟩
     ·
      have HF2:=Δ (HJF.out hlt)
      have HBW:=Δ (HYB.out.trans (HB7.out.mono HYB.out.size))
      clear HJN HJF hlt HSG
      go_wp2_with fail
      exact bodyPost_ret (v:= .bool false) (by simp[results,results99]) rfl ⟨by rw[HF2.out],HBW.out⟩
    ·
     have hkj2:k<j+1:=by omega
     have hki:(k:Int)<((j+1:Nat):Int):=by omega
     have hkl:k<l.length:=by omega
     have hk6:k<6:=by omega
     have htx:tb≠xb:=by omega
     have hsx:sb≠xb:=by omega
     have hwx:w.heap.size<=xb:=hxb0
     have HNX:Hid (∀w2,Below wr.heap.size wr w2->BoK w l mo tb sb xb j (k+1) ((w2.setCell ⟨xb,0,none⟩ (.bool (decide (Mr l j (k+1)<0)))).setCell ⟨xb,1,none⟩ (.string (Ci (Mr l j (k+1)).natAbs)))):=λw2 hb=>by
      have h:=HK.out
      have hsl:=h.sum.lt
      exact⟨(h.tab.up hb (by have:=h.most.lt;omega)).store2 htx _ _,(Sj _ _ hsx).trans (h.most.up hb h.most.lt),(h.sum.up hb hsl).store _,Below.store2 (h.below.trans (hb.mono h.below.size)) hwx _ _⟩
     obtain⟨x,hx⟩:∃x,x=l.getD k 0:=⟨_,rfl⟩
     obtain⟨fa,hfa⟩:∃fa:Nat,fa=Ry n j k:=⟨_,rfl⟩
     have hfle:fa<=600:=by rw[hfa];exact yA n hn6 j hj6 k hk6
     have hxi:=HI.out k
     have hsum:Mr l j (k+1)=Mr l j k+x*(fa:Int):=by
      show Mr l j k+l.getD k 0*(Ry (l.length-1) j k:Int)=_
      rw[hx,hfa,show l.length-1=n by omega]
     have HOX:=Δ (Sa (wr:=wr) (λwa=>Sw x wa (by rw[hx];exact hxi.1) (by rw[hx];exact hxi.2)))
     have HOF:=Δ (Sa (wr:=wr) (λwa=>Sw (fa:Int) wa ω ω))
     have hfx:Bn x:=by rw[hx];exact Eg hxi.1 hxi.2
     have hff:Bn (fa:Int):=Eg ω ω
     have hfp:Bn (x*(fa:Int)):=by rw[hx,hfa];exact Aiq hn6 hj6 hk6 HI.out
     have HML:=Δ (Sa (wr:=wr) (λwa=>uP x (fa:Int) wa hfx hff hfp))
     have HAD:=Δ (Sa (wr:=wr) (λwa=>Aib (Mr l j k) (x*(fa:Int)) wa (gW h6 hj6 ω HI.out) hfp (by rw[<-hsum];exact gW h6 hj6 ω HI.out)))
     rw[<-hsum] at HAD
     have CX:Hid (∀wa,Below wr.heap.size wr wa->wa.heap[xb]?=some (.cells #[.bool (decide (Mr l j k<0)),.string (Ci (Mr l j k).natAbs)] 169 (0,0))):=λwa hb=>HK.out.sum.up hb HK.out.sum.lt
     have CS:Hid (∀wa,Below wr.heap.size wr wa->wa.cell? ⟨b,q+k*1,none⟩=some (.int .i64 x)):=λwa hb=>by
      rw[hx,<-HS.out k hkl]
      exact(HK.out.below.trans (hb.mono HK.out.below.size)).cell (p:=⟨b,q+k*1,none⟩) hbw
     obtain⟨cn,hcn⟩:∃z:Nat,z=Dc n k:=⟨_,rfl⟩
     obtain⟨cj,hcj⟩:∃z:Nat,z=Dc j k:=⟨_,rfl⟩
     have hcn1:1<=cn/\cn<=10:=by rw[hcn];exact xK n hn6 k ω
     have hcj1:cj<=10:=by rw[hcj];exact Acv j hj6 k hk6
     have CN:Hid (∀wa,Below wr.heap.size wr wa->wa.cell? ⟨tb,0+n*6+k*1,none⟩=some (.int .i64 (cn:Int))):=λwa hb=>by
      have h:=HK.out.tab.up hb (by have:=HK.out.most.lt;omega) (n*6+k) ω
      rw[Nat.zero_add,Nat.mul_one,h,AaA n hn6 k hk6,hcn]
     have CJ:Hid (∀wa,Below wr.heap.size wr wa->wa.cell? ⟨tb,0+j*6+k*1,none⟩=some (.int .i64 (cj:Int))):=λwa hb=>by
      have h:=HK.out.tab.up hb (by have:=HK.out.most.lt;omega) (j*6+k) ω
      rw[Nat.zero_add,Nat.mul_one,h,AaA j hj6 k hk6,hcj]
     obtain⟨qa,hqa⟩:∃z:Nat,z=60/cn:=⟨_,rfl⟩
     have hqle:qa<=60:=by rw[hqa];exact Nat.div_le_self _ _
     have HQ:Hid (IntKind.i64.wrap (Int.tdiv 60 (cn:Int))=(qa:Int)):=by
      unfold Hid
      rw[show Int.tdiv 60 (cn:Int)=((60/cn:Nat):Int) from rfl,<-hqa,IntWalk.i64_in _ ω]
     have HFA:Hid (IntKind.i64.wrap ((qa:Int)*(cj:Int))=(fa:Int)):=by
      unfold Hid
      have e:(qa:Int)*(cj:Int)=(fa:Int):=by rw[hfa,hqa,hcj,hcn];unfold Ry;rw[Int.natCast_mul]
      rw[e,IntWalk.i64_in _ ω]
     have hcn0:¬((cn:Int)=0):=by omega
     unfold Ak at HOX HOF HML HAD
     obtain⟨xg,hxg⟩:∃g,g=decide (x<0):=⟨_,rfl⟩
     obtain⟨xs,hxs⟩:∃g,g=Ci x.natAbs:=⟨_,rfl⟩
     obtain⟨fg,hfg⟩:∃g,g=decide ((fa:Int)<0):=⟨_,rfl⟩
     obtain⟨fs,hfs⟩:∃g,g=Ci (fa:Int).natAbs:=⟨_,rfl⟩
     obtain⟨pg,hpg⟩:∃g,g=decide (x*(fa:Int)<0):=⟨_,rfl⟩
     obtain⟨ps,hps⟩:∃g,g=Ci (x*(fa:Int)).natAbs:=⟨_,rfl⟩
     obtain⟨ug,hug⟩:∃g,g=decide (Mr l j k<0):=⟨_,rfl⟩
     obtain⟨us,hus⟩:∃g,g=Ci (Mr l j k).natAbs:=⟨_,rfl⟩
     obtain⟨vg,hvg⟩:∃g,g=decide (Mr l j (k+1)<0):=⟨_,rfl⟩
     obtain⟨vs,hvs⟩:∃g,g=Ci (Mr l j (k+1)).natAbs:=⟨_,rfl⟩
     rw[<-hxg,<-hxs] at HOX HML
     rw[<-hfg,<-hfs] at HOF HML
     rw[<-hpg,<-hps] at HML HAD
     rw[<-hug,<-hus] at HAD CX
     rw[<-hvg,<-hvs] at HAD HNX
     clear hxg hxs hfg hfs hpg hps hug hus hvg hvs hfx hff hfp hsum hxi hqa hcn hcj hfa hx HK
     go_wp2_with fail
     refine Jv 21 57 (λw'=>Below wr.heap.size wr w') [is (.agg #[.bool ug,.string us]),is (.slice (some ⟨b,q,none⟩) (n+1) c),is (.int .i64 (k:Int)),is (.pointer (some ⟨b,q+k*1,none⟩)),is (.int .i64 x),is (.agg #[.bool xg,.string xs]),is (.int .i64 (n:Int)),is (.int .i64 (k:Int)),is (.pointer (some ⟨tb,0+n*6,none⟩)),is (.pointer (some ⟨tb,0+n*6+k*1,none⟩)),is (.int .i64 (cn:Int)),is (.int .i64 (qa:Int)),is (.int .i64 (j:Int)),is (.int .i64 (k:Int)),is (.pointer (some ⟨tb,0+j*6,none⟩)),is (.pointer (some ⟨tb,0+j*6+k*1,none⟩)),is (.int .i64 (cj:Int)),is (.int .i64 (fa:Int)),is (.agg #[.bool fg,.string fs]),is (.agg #[.bool pg,.string ps]),is (.agg #[.bool vg,.string vs])] κ κ rfl δ ?hst ?h0 ?hop ?htail
     case hst=>
      simp only[List.mem_cons,List.mem_nil_iff,or_false,forall_eq_or_imp,forall_eq]
      exact⟨Aj _,Aj _,Aj _,Aj _,Aj _,Aj _,Aj _,Aj _,Aj _,Aj _,Aj _,Aj _,Aj _,Aj _,Aj _,Aj _,Aj _,Aj _,Aj _,Aj _,Aj _⟩
     case h0=>exact Ψ.drew
     case hop=>
      refine⟨?_,?_,?_,?_,?_,?_,?_,?_,?_,?_,?_,?_,?_,?_,?_,?_,?_,?_,?_,?_,?_,trivial⟩
      · exact Dj 169 (.tmp 9) (.pointer (some ⟨xb,0,none⟩)) (.agg #[.bool ug,.string us]) rfl κ (λwa hC=>Ht [.bool ug,.string us] wa κ κ (xJ (CX.out wa hC))) rfl
      · exact Dd (.tmp 0) (is (.slice (some ⟨b,q,none⟩) (n+1) c)) rfl κ (λ_ _ _ h=>h)
      · exact Dd (.tmp 10) (is (.int .i64 (k:Int))) rfl κ (λ_ _ _ h=>h)
      · exact Nv 70 3 30 31 b q (n+1) c 1 (k:Int) k rfl κ κ underlying70 yG rfl ω rfl
      · exact Dj 3 (.tmp 32) (.pointer (some ⟨b,q+k*1,none⟩)) (.int .i64 x) rfl κ (λwa hC=>Cb wa κ (CS.out wa hC)) rfl
      · exact Hb 97 [.tmp 33] _ [.int .i64 x] rfl (λ_ _=>by kernel_rfl) ⟨κ,trivial⟩ HOX.out
      · exact Dd (.tmp 7) (is (.int .i64 (n:Int))) rfl κ (λ_ _ _ h=>h)
      · exact Dd (.tmp 10) (is (.int .i64 (k:Int))) rfl κ (λ_ _ _ h=>h)
      · exact Vi 207 206 5 35 tb 0 6 6 (n:Int) n δ rfl κ κ underlying207 uH rfl ω rfl
      · exact Vi 206 3 37 36 tb (0+n*6) 6 1 (k:Int) k δ rfl κ κ underlying206 yG rfl ω rfl
      · exact Dj 3 (.tmp 38) (.pointer (some ⟨tb,0+n*6+k*1,none⟩)) (.int .i64 (cn:Int)) rfl κ (λwa hC=>Cb wa κ (CN.out wa hC)) rfl
      · exact AoD 39 (.int .i64 60) (.int .i64 (cn:Int)) (.int .i64 (qa:Int)) rfl κ (λa wa _ e1=>by have hq:=HQ.out;go_simp;clear hq;omega) rfl
      · exact Dd (.tmp 8) (is (.int .i64 (j:Int))) rfl κ (λ_ _ _ h=>h)
      · exact Dd (.tmp 10) (is (.int .i64 (k:Int))) rfl κ (λ_ _ _ h=>h)
      · exact Vi 207 206 5 41 tb 0 6 6 (j:Int) j δ rfl κ κ underlying207 uH rfl ω rfl
      · exact Vi 206 3 43 42 tb (0+j*6) 6 1 (k:Int) k δ rfl κ κ underlying206 yG rfl ω rfl
      · exact Dj 3 (.tmp 44) (.pointer (some ⟨tb,0+j*6+k*1,none⟩)) (.int .i64 (cj:Int)) rfl κ (λwa hC=>Cb wa κ (CJ.out wa hC)) rfl
      · exact lQ 40 45 (.int .i64 (qa:Int)) (.int .i64 (cj:Int)) (.int .i64 (fa:Int)) rfl κ κ (λa wa _ e1 e2=>by have hq:=HFA.out;go_simp) rfl
      · exact Hb 97 [.tmp 46] _ [.int .i64 (fa:Int)] rfl (λ_ _=>by kernel_rfl) ⟨κ,trivial⟩ HOF.out
      · exact Hb 123 [.tmp 34,.tmp 47] _ [.agg #[.bool xg,.string xs],.agg #[.bool fg,.string fs]] rfl (λ_ _=>by kernel_rfl) ⟨κ,κ,trivial⟩ HML.out
      · exact Hb 124 [.tmp 29,.tmp 48] _ [.agg #[.bool ug,.string us],.agg #[.bool pg,.string ps]] rfl (λ_ _=>by kernel_rfl) ⟨κ,κ,trivial⟩ HAD.out
     case htail=>
     intro τ w2 hC hR
     have r20:τ 20= .agg #[.bool vg,.string vs]:=hR 20 δ
     simp only[Cx,List.getElem?_toArray,List.getElem?_cons_succ,List.getElem?_cons_zero,Option.bind_some,Act.put,List.setIfInBounds_toArray,List.set_cons_succ,List.set_cons_zero,List.drop_succ_cons,List.drop_zero,r20]
     clear hR r20
     have HN2:=Δ (HNX.out w2 hC)
     have h1:=CX.out w2 hC
     obtain⟨c0,c1⟩:=kM h1
     have f0:=AgK h1 0
     have f1:=AgK h1 1
     clear hC h1 CX CS CN CJ HOX HOF HML HAD HNX HQ HFA
     go_wp2_with fail
     exact⟨⟨k+1,ω,rfl,HN2⟩,by simp only[intOf];omega⟩
def Pn (c:List Int) (o:Int):Prop:=1<=c.length/\c.length<=6/\(1<c.length->c.getD (c.length-1) 0≠0)/\Zn c o c.length
instance (c:List Int) (o:Int):Decidable (Pn c o):=by unfold Pn;infer_instance
def Of (g:Nat) (l:List Int):Nat:=l.foldl (λg x=>Nat.gcd g x.natAbs) g
def Tm (f t o:Int):Prop:=0<=f/\f<t/\t<=3600000/\1<=o/\o<=4294967296
instance (f t o:Int):Decidable (Tm f t o):=by unfold Tm;infer_instance
def Ib (s:Sg):Prop:=Tm s.f s.t s.o/\Pn s.x s.o/\Pn s.y s.o/\Pn s.z s.o/\Of (Of (Of s.o.natAbs s.x) s.y) s.z=1
instance (s:Sg):Decidable (Ib s):=by unfold Ib;infer_instance
theorem AgX (f t o:Int) (Ax Ay Az:Option Addr) (nx cx ny cy nz cz:Nat) (w:World) (hh:¬Tm f t o):
  Calls Tryz.prog 75 #[.agg #[.int .i64 f,.int .i64 t,.int .i64 o,.slice Ax nx cx,.slice Ay ny cy,.slice Az nz cz]] w λe w'=>e= .returned (.bool false)/\Below w.heap.size w w':=by
 have hc:f<0\/(¬f<0/\t<=f)\/(¬f<0/\¬t<=f/\3600000<t)\/(¬f<0/\¬t<=f/\¬3600000<t/\o<1)\/(¬f<0/\¬t<=f/\¬3600000<t/\¬o<1/\4294967296<o):=by
  unfold Tm at hh;omega
 clear hh
 obtain⟨W,hW⟩:∃W,W=w.alloc (.cells #[.int .i64 f,.int .i64 t,.int .i64 o,.slice Ax nx cx,.slice Ay ny cy,.slice Az nz cz] 110):=⟨_,rfl⟩
 have hb:=heap_alloc_new w (.cells #[.int .i64 f,.int .i64 t,.int .i64 o,.slice Ax nx cx,.slice Ay ny cy,.slice Az nz cz] 110)
 rw[<-hW] at hb
 have s0:W.cell? ⟨w.heap.size,0,none⟩=some (.int .i64 f):=by simp[World.cell?,hb]
 have s1:W.cell? ⟨w.heap.size,1,none⟩=some (.int .i64 t):=by simp[World.cell?,hb]
 have s2:W.cell? ⟨w.heap.size,2,none⟩=some (.int .i64 o):=by simp[World.cell?,hb]
 have HB:Hid (Below w.heap.size w W):=by unfold Hid;rw[hW];exact Ψ.alloc ζ _
 clear hb
 rcases hc with h|⟨h,h2⟩|⟨h,h2,h3⟩|⟨h,h2,h3,h4⟩|⟨h,h2,h3,h4,h5⟩
 all_goals
  go_enter func75,ntmps75
  go_upto_region 1 with fail
  rw[<-hW]
  clear hW
  go_wp2_with fail
  exact bodyPost_ret (v:= .bool false) (by simp[results,results75]) rfl ⟨rfl,HB.out⟩
theorem Ala (v0 v1 v2:Value) (w:World):(Instr.index 171 (.agg #[v0,v1,v2]) (.int .i64 ((0:Nat):Int))).run Tryz.prog w= .ok v0 w:=by
 kernel_rfl
theorem Alb (v0 v1 v2:Value) (w:World):(Instr.index 171 (.agg #[v0,v1,v2]) (.int .i64 ((1:Nat):Int))).run Tryz.prog w= .ok v1 w:=by
 kernel_rfl
theorem Alc (v0 v1 v2:Value) (w:World):(Instr.index 171 (.agg #[v0,v1,v2]) (.int .i64 ((2:Nat):Int))).run Tryz.prog w= .ok v2 w:=by
 kernel_rfl
theorem zR {v0 v1 v2 v:Value} {k:Nat} (hk:k<3) (h:(#[v0,v1,v2]:Array Value)[k]?=some v) (w:World):(Instr.index 171 (.agg #[v0,v1,v2]) (.int .i64 (k:Int))).run Tryz.prog w= .ok v w:=by
 match k with
 |0=>simp at h;rw[<-h];exact Ala v0 v1 v2 w
 |1=>simp at h;rw[<-h];exact Alb v0 v1 v2 w
 |2=>simp at h;rw[<-h];exact Alc v0 v1 v2 w
theorem jK {w:World} {ops:Array Oper} {rest:List Oper} {o:Oper} {a:Act} {Q:Exit->Act->World->Prop} (hgd:o.guard=none) (x y:Operand) (ho:o.op= .index 171 x y) (v0 v1 v2 v:Value) (k:Nat) (hx:a.eval x= .agg #[v0,v1,v2]) (hy:a.eval y= .int .i64 (k:Int)) (hk:k<3) (hv:(#[v0,v1,v2]:Array Value)[k]?=some v)
  (h:wpList Tryz.prog ops Q rest (a.put o.dst v) w):wpList Tryz.prog ops Q (o::rest) a w:=by
 refine wpList_plain hgd λK hK=>?_
 have hrun:=zR hk hv w
 unfold Oper.wp
 simp[execOp,ho,hx,hy,hrun,Result.andThen]
 exact hK _ _ h
def Tl (w:World) (v:Value) (l:List Int):Prop:=(∃A c,v= .slice A 0 c/\l=[])\/∃b q c,v= .slice (some ⟨b,q,none⟩) l.length c/\∀i,i<l.length->w.cell? ⟨b,q+i*1,none⟩=some (.int .i64 (l.getD i 0))
def axL (s:Sg):Nat->List Int
 |0=>s.x
 |1=>s.y
 |_=>s.z
def gK (s:Sg):Nat->Nat
 |0=>s.o.natAbs
 |k+1=>Of (gK s k) (axL s k)
structure VaJ (w:World) (s:Sg) (gb k:Nat) (wr:World):Prop where
 over:wr.cell? ⟨w.heap.size,2,none⟩=some (.int .i64 s.o)
 box:Mj wr gb (gK s k:Int)
 ok:∀i,i<k->Pn (axL s i) s.o
 fit:Bn (gK s k:Int)
 below:Below w.heap.size w wr
structure VaK (w:World) (s:Sg) (l:List Int) (gb k i:Nat) (wr:World):Prop where
 over:wr.cell? ⟨w.heap.size,2,none⟩=some (.int .i64 s.o)
 box:Mj wr gb (Of (gK s k) (l.take i):Int)
 fit:Bn (Of (gK s k) (l.take i):Int)
 below:Below w.heap.size w wr
theorem lD (g:Nat) (l:List Int) {i:Nat} (h:i<l.length):Of g (l.take (i+1))=Nat.gcd (Of g (l.take i)) (l.getD i 0).natAbs:=by
 unfold Of
 rw[List.take_succ_eq_append_getElem h,List.foldl_append]
 simp[h]
theorem rH {n m:Nat} (h:(Ci n).toList=(Ci m).toList):n=m:=by
 rw[ByteArray.toList_eq,ByteArray.toList_eq] at h
 exact AfU h
theorem AcV (s:Sg) (Ax Ay Az:Option Addr) (cx cy cz:Nat) (w:World) (hh:Tm s.f s.t s.o)
  (hx:Tl w (.slice Ax s.x.length cx) s.x) (hy:Tl w (.slice Ay s.y.length cy) s.y) (hz:Tl w (.slice Az s.z.length cz) s.z)
  (hi:∀k i,-9223372036854775808<=(axL s k).getD i 0/\(axL s k).getD i 0<=9223372036854775807):
  Calls Tryz.prog 75 #[.agg #[.int .i64 s.f,.int .i64 s.t,.int .i64 s.o,.slice Ax s.x.length cx,.slice Ay s.y.length cy,.slice Az s.z.length cz]] w λe w'=>e= .returned (.bool (decide (Ib s)))/\Below w.heap.size w w':=by
 have HH:=Δ hh
 have HI:=Δ hi
 have HX:Hid (∀k,k<3->∃A c,(#[.slice Ax s.x.length cx,.slice Ay s.y.length cy,.slice Az s.z.length cz]:Array Value)[k]?=some (.slice A (axL s k).length c)/\Tl w (.slice A (axL s k).length c) (axL s k)):=by
  intro k hk
  match k with
  |0=>exact⟨_,_,rfl,hx⟩
  |1=>exact⟨_,_,rfl,hy⟩
  |2=>exact⟨_,_,rfl,hz⟩
 clear hx hy hz hi
 obtain⟨f,hf⟩:∃f,f=s.f:=⟨_,rfl⟩
 obtain⟨t,ht⟩:∃t,t=s.t:=⟨_,rfl⟩
 obtain⟨o,ho⟩:∃o,o=s.o:=⟨_,rfl⟩
 have HSO:=Δ ho
 obtain⟨h,h2,h3,h4,h5⟩:=hh
 rw[<-hf] at h h2
 rw[<-ht] at h2 h3
 rw[<-ho] at h4 h5
 have g1:¬f<0:=by omega
 have g2:¬t<=f:=by omega
 have g3:¬3600000<t:=by omega
 have g4:¬o<1:=by omega
 have g5:¬4294967296<o:=by omega
 rw[<-hf,<-ht,<-ho]
 clear hf ht ho
 have HOO:=Δ (λw=>Sw o w ω ω)
 have HAX:=Δ (λw=>AfQ f t o Ax Ay Az s.x.length cx s.y.length cy s.z.length cz w)
 obtain⟨W,hW⟩:∃W,W=w.alloc (.cells #[.int .i64 f,.int .i64 t,.int .i64 o,.slice Ax s.x.length cx,.slice Ay s.y.length cy,.slice Az s.z.length cz] 110):=⟨_,rfl⟩
 have hb:=heap_alloc_new w (.cells #[.int .i64 f,.int .i64 t,.int .i64 o,.slice Ax s.x.length cx,.slice Ay s.y.length cy,.slice Az s.z.length cz] 110)
 rw[<-hW] at hb
 have hsW:W.heap.size=w.heap.size+1:=by rw[hW];simp
 have s0:W.cell? ⟨w.heap.size,0,none⟩=some (.int .i64 f):=by simp[World.cell?,hb]
 have s1:W.cell? ⟨w.heap.size,1,none⟩=some (.int .i64 t):=by simp[World.cell?,hb]
 have s2:W.cell? ⟨w.heap.size,2,none⟩=some (.int .i64 o):=by simp[World.cell?,hb]
 have HBK:=Δ hb
 have HB:Hid (Below w.heap.size w W):=by unfold Hid;rw[hW];exact Ψ.alloc ζ _
 clear hb
 go_enter func75,ntmps75
 go_upto_region 1 with fail
 rw[<-hW]
 clear hW
 go_upto_region 3 with fail
 go_wp2_with fail
 refine(HOO.out _).mono ?_
 rintro e w1 ⟨rfl,hb1⟩
 have HB1:Hid (Below W.heap.size W w1):=hb1
 clear hb1 HOO s0 s1 s2
 have hs1:=HB1.out.size
 unfold Ak
 obtain⟨og,hog⟩:∃g,g=decide (o<0):=⟨_,rfl⟩
 obtain⟨os,hos⟩:∃g,g=Ci o.natAbs:=⟨_,rfl⟩
 rw[<-hog,<-hos]
 obtain⟨V,hV⟩:∃V,V=w1.alloc (.cells #[.bool og,.string os] 169):=⟨_,rfl⟩
 obtain⟨gb,hgb⟩:∃gb,gb=w1.heap.size:=⟨_,rfl⟩
 have hVb:Below W.heap.size W V:=by rw[hV];exact HB1.out.alloc hs1 _
 have HF0:Hid (Bn (gK s 0:Int)):=by
  unfold Hid
  have e:((gK s 0:Nat):Int)=o:=by show (s.o.natAbs:Int)=o;rw[<-HSO.out];omega
  rw[e];exact Eg ω ω
 have HV:Hid (Mj V gb (gK s 0:Int)):=by
  unfold Hid
  have e:((gK s 0:Nat):Int)=o:=by show (s.o.natAbs:Int)=o;rw[<-HSO.out];omega
  rw[e,hV,hgb,hog,hos];exact Mj.new w1 _
 have hsV:gb<V.heap.size:=by rw[hV,hgb];simp
 have hVk:V.heap[w.heap.size]?=some (.cells #[.int .i64 f,.int .i64 t,.int .i64 o,.slice Ax s.x.length cx,.slice Ay s.y.length cy,.slice Az s.z.length cz] 110 (0,0)):=(hVb.block w.heap.size ω).trans HBK.out
 have HBV:Hid (Below w.heap.size w V):=HB.out.trans (hVb.mono HB.out.size)
 have hgw:w.heap.size<gb:=by omega
 have s0:V.cell? ⟨w.heap.size,0,none⟩=some (.int .i64 f):=by simp[World.cell?,hVk]
 have s1:V.cell? ⟨w.heap.size,1,none⟩=some (.int .i64 t):=by simp[World.cell?,hVk]
 have s2:V.cell? ⟨w.heap.size,2,none⟩=some (.int .i64 o):=by simp[World.cell?,hVk]
 have s3:V.cell? ⟨w.heap.size,3,none⟩=some (.slice Ax s.x.length cx):=by simp[World.cell?,hVk]
 have s4:V.cell? ⟨w.heap.size,4,none⟩=some (.slice Ay s.y.length cy):=by simp[World.cell?,hVk]
 have s5:V.cell? ⟨w.heap.size,5,none⟩=some (.slice Az s.z.length cz):=by simp[World.cell?,hVk]
 clear hVb hVk hog hos HB1 HB HBK
 go_upto_region 4 with fail
 rw[<-hV,<-hgb]
 clear hV hgb hs1
 go_wp2_with fail
 refine(HAX.out _).mono ?_
 rintro e w2 ⟨rfl,hb2⟩
 have HJ0:Hid (VaJ w s gb 0 w2):=⟨by rw[<-HSO.out];exact(hb2.cell (p:=⟨w.heap.size,2,none⟩) (by show w.heap.size<_;omega)).trans s2,HV.out.up hb2 hsV,λi hi=>absurd hi (Nat.not_lt_zero i),HF0.out,HBV.out.trans (hb2.mono HBV.out.size)⟩
 clear hb2 s0 s1 s2 s3 s4 s5 HV HBV HAX hsV hsW
 go_wp2_with fail
 go_loopw [38] (λkv wr=>∃k:Nat,k<=3/\kv= .int .i64 (k:Int)/\Hid (VaJ w s gb k wr)) (λkv _=>3-(intOf kv).toNat)
 case atStart=>exact⟨0,Nat.zero_le _,rfl,HJ0⟩
 case round=>
  obtain⟨k,hk,rfl,HJ⟩:=hrel
  clear HJ0
  by_cases hk3:k=3
  ·
   subst hk3
   have CX:Hid (∀wa,Below wr.heap.size wr wa->wa.heap[gb]?=some (.cells #[.bool (decide ((gK s 3:Int)<0)),.string (Ci (gK s 3))] 169 (0,0))):=λwa hb=>HJ.out.box.up hb HJ.out.box.lt
   rw[show decide ((gK s 3:Int)<0)=false from decide_eq_false ω] at CX
   have HO1:=Δ (Sa (wr:=wr) (λwa=>Sw 1 wa δ δ))
   unfold Ak at HO1
   rw[show decide ((1:Int)<0)=false from rfl,show (1:Int).natAbs=1 from rfl] at HO1
   have HBW:=Δ HJ.out.below
   have HSE:Hid (Ib s↔gK s 3=1):=by
    constructor
    · exact λh=>h.2.2.2.2
    · exact λh=>⟨HH.out,HJ.out.ok 0 ω,HJ.out.ok 1 ω,HJ.out.ok 2 ω,h⟩
   obtain⟨us,hus⟩:∃g,g=Ci (gK s 3):=⟨_,rfl⟩
   obtain⟨vs,hvs⟩:∃g,g=Ci 1:=⟨_,rfl⟩
   have HUV:Hid ((us=vs/\decide (Ib s)=true)\/(¬us.toList=vs.toList/\decide (Ib s)=false)):=by
    by_cases h:gK s 3=1
    · exact .inl ⟨by rw[hus,hvs,h],decide_eq_true (HSE.out.2 h)⟩
    ·
     refine .inr ⟨λe=>?_,decide_eq_false λh2=>h (HSE.out.1 h2)⟩
     rw[hus,hvs] at e
     exact h (rH e)
   rw[<-hus] at CX
   rw[<-hvs] at HO1
   clear hus hvs HJ HSE
   go_wp2_with fail
   refine Jv 2 85 (λw'=>Below wr.heap.size wr w') [is (.agg #[.bool false,.string us]),is (.agg #[.bool false,.string vs])] κ κ rfl δ ?hst ?h0 ?hop ?htail
   case hst=>
    simp only[List.mem_cons,List.mem_nil_iff,or_false,forall_eq_or_imp,forall_eq]
    exact⟨Aj _,Aj _⟩
   case h0=>exact Ψ.drew
   case hop=>
    refine⟨?_,?_,trivial⟩
    · exact Dj 169 (.tmp 3) (.pointer (some ⟨gb,0,none⟩)) (.agg #[.bool false,.string us]) rfl κ (λwa hC=>Ht [.bool false,.string us] wa κ κ (xJ (CX.out wa hC))) rfl
    · exact Hb 97 [.const (.int .i64 1)] _ [.int .i64 1] rfl (λ_ _=>by kernel_rfl) ⟨κ,trivial⟩ HO1.out
   case htail=>
   intro τ w2 hC hR
   have r0:τ 0= .agg #[.bool false,.string us]:=hR 0 δ
   have r1:τ 1= .agg #[.bool false,.string vs]:=hR 1 δ
   simp only[Cx,List.getElem?_toArray,List.getElem?_cons_succ,List.getElem?_cons_zero,Option.bind_some,Act.put,List.setIfInBounds_toArray,List.set_cons_succ,List.set_cons_zero,List.drop_succ_cons,List.drop_zero,r0,r1]
   clear hR r0 r1
   have HBX:=Δ (HBW.out.trans (hC.mono HBW.out.size))
   clear hC
   rcases HUV.out with⟨huv,hd⟩|⟨huv,hd⟩
   ·
    subst huv
    have HD:=Δ hd
    clear hd
    go_wp2_with fail
    exact bodyPost_ret (v:= .bool true) (by simp[results,results75]) rfl ⟨by rw[HD.out],HBX.out⟩
   ·
    have HD:=Δ hd
    clear hd
    go_wp2_with fail
    exact bodyPost_ret (v:= .bool false) (by simp[results,results75]) rfl ⟨by rw[HD.out],HBX.out⟩
  ·
   have hkl:k<3:=by omega
   have hki:(k:Int)<3:=by omega
   obtain⟨A,c,hidx,hco⟩:=HX.out k hkl
   have HCO:=Δ hco
   have HIX:=Δ hidx
   clear hco hidx
   go_upto_region 7 with(refine jK rfl (.tmp 37) (.tmp 38) rfl _ _ _ (.slice A (axL s k).length c) k rfl rfl hkl HIX.out ?_)
   obtain⟨l,hl⟩:∃l,l=axL s k:=⟨_,rfl⟩
   have HLI:Hid (∀i,-9223372036854775808<=l.getD i 0/\l.getD i 0<=9223372036854775807):=by unfold Hid;rw[hl];exact HI.out k
   have HL:=Δ hl
   rw[<-hl] at HCO ⊢
   have HBAD:Hid (¬Pn l o->decide (Ib s)=false):=λhn=>decide_eq_false λh=>by
    obtain⟨_,h0,h1,h2,_⟩:=h
    apply hn
    rw[HSO.out,hl]
    match k with
    |0=>exact h0
    |1=>exact h1
    |2=>exact h2
   have HBW:=Δ HJ.out.below
   clear hl
   by_cases l1:l.length<1
   ·
    have HF:Hid (decide (Ib s)=false):=HBAD.out λh=>by have:=h.1;omega
    have l1':(l.length:Int)<1:=by omega
    clear HBAD HCO HL HJ HLI
    go_wp2_with fail
    exact bodyPost_ret (v:= .bool false) (by simp[results,results75]) rfl ⟨by rw[HF.out],HBW.out⟩
   by_cases l6:6<l.length
   ·
    have HF:Hid (decide (Ib s)=false):=HBAD.out λh=>by have:=h.2.1;omega
    have l1':¬(l.length:Int)<1:=by omega
    have l6':(6:Int)<(l.length:Int):=by omega
    clear HBAD HCO HL HJ HLI
    go_wp2_with fail
    exact bodyPost_ret (v:= .bool false) (by simp[results,results75]) rfl ⟨by rw[HF.out],HBW.out⟩
   obtain⟨b,q,c2,hA,hcell⟩:∃b q c2,(Value.slice A l.length c)= .slice (some ⟨b,q,none⟩) l.length c2/\∀i,i<l.length->w.cell? ⟨b,q+i*1,none⟩=some (.int .i64 (l.getD i 0)):=by
    rcases HCO.out with⟨_,_,_,e⟩|h
    · rw[e] at l1;exact absurd δ l1
    · exact h
   injection hA with hA1 _ hA2
   subst hA1
   subst hA2
   have hbw:b<w.heap.size:=by
    have:=hcell 0 ω
    simp only[World.cell?] at this
    cases h:w.heap[b]? with
    |none=>rw[h] at this;cases this
    |some x=>exact(Ξ h).1
   have HC:Hid (∀wa,Below w.heap.size w wa->∀i,i<l.length->wa.cell? ⟨b,q+i*1,none⟩=some (.int .i64 (l.getD i 0))):=λwa hb i hi=>(hb.cell (p:=⟨b,q+i*1,none⟩) hbw).trans (hcell i hi)
   have HBD:Hid (∀wa,Below w.heap.size w wa->Calls Tryz.prog 99 #[.slice (some ⟨b,q,none⟩) l.length c,.int .i64 o] wa λe w'=>e= .returned (.bool (decide (Zn l o l.length)))/\Below wa.heap.size wa w'):=λwa hb=>
    rQ l o b q c wa (HC.out wa hb) ω ω HLI.out ω ω
   obtain⟨m,hm⟩:∃m,l.length=m+1:=⟨l.length-1,ω⟩
   have HM:=Δ hm
   have hwm:IntKind.i64.wrap ((l.length:Int)-1)=(m:Int):=by rw[IntWalk.i64_in _ ω];omega
   have hml:m<l.length:=by omega
   have hmi:(m:Int)<(l.length:Int):=by omega
   have o2:wr.cell? ⟨w.heap.size,2,none⟩=some (.int .i64 o):=by rw[HSO.out];exact HJ.out.over
   have cm:=HC.out wr HBW.out m hml
   rw[Nat.mul_one] at cm
   have l1':¬(l.length:Int)<1:=by omega
   have l6':¬(6:Int)<(l.length:Int):=by omega
   obtain⟨x,hx⟩:∃x,x=l.getD m 0:=⟨_,rfl⟩
   rw[<-hx] at cm
   clear hcell hm
   by_cases lz:1<l.length/\x=0
   ·
    have HF:Hid (decide (Ib s)=false):=HBAD.out λh=>by
     apply h.2.2.1 lz.1
     rw[show l.length-1=m by have:=HM.out;omega,<-hx]
     exact lz.2
    have lone:(1:Int)<(l.length:Int):=by omega
    obtain⟨_,lz⟩:=lz
    clear HBAD HCO HL HJ HLI HBD HC hx
    go_wp2_with fail
    exact bodyPost_ret (v:= .bool false) (by simp[results,results75]) rfl ⟨by rw[HF.out],HBW.out⟩
   have HLZ:=Δ lz
   have lzz:(¬(1:Int)<(l.length:Int))\/((1:Int)<(l.length:Int)/\¬x=0):=by omega
   have HAX2:Hid (Zn l o l.length->Pn l o):=λh=>⟨ω,ω,λh1=>by
    have:=HM.out
    rw[show l.length-1=m by omega,<-hx]
    intro e
    exact HLZ.out ⟨h1,e⟩,h⟩
   have HNB:Hid (decide (Zn l o l.length)=false->decide (Ib s)=false):=λh=>HBAD.out λh2=>(of_decide_eq_false h) h2.2.2.2
   clear lz HLZ HBAD hx HCO
   obtain⟨bb,hbb⟩:∃bb,bb=decide (Zn l o l.length):=⟨_,rfl⟩
   rw[<-hbb] at HBD HNB
   have HBB:=Δ hbb
   clear hbb
   rcases lzz with lone|⟨lone,lx⟩
   all_goals
    go_wp2_with fail
    refine(HBD.out _ HBW.out).mono ?_
    rintro e w3 ⟨rfl,hb3⟩
    have HB3:Hid (Below wr.heap.size wr w3):=hb3
    clear hb3
    cases bb
    ·
     have HF:=Δ (HNB.out rfl)
     have HBX:=Δ (HBW.out.trans (HB3.out.mono HBW.out.size))
     go_wp2_with fail
     exact bodyPost_ret (v:= .bool false) (by simp[results,results75]) rfl ⟨by rw[HF.out],HBX.out⟩
    ·
     have HOK:Hid (Pn l o):=HAX2.out (of_decide_eq_true HBB.out.symm)
     have HK0:Hid (VaK w s l gb k 0 w3):=by
      have h:=HJ.out
      exact⟨(HB3.out.cell (p:=⟨w.heap.size,2,none⟩) (by have:=h.box.lt;show w.heap.size<_;omega)).trans h.over,h.box.up HB3.out h.box.lt,h.fit,h.below.trans (HB3.out.mono h.below.size)⟩
     have HJO:=Δ HJ.out.ok
     clear HJ HAX2 HNB HBB HB3 HBD cm o2 HBW
     go_wp2_with fail
     go_loopw [72] (λiv wr=>∃i:Nat,i<=l.length/\iv= .int .i64 (i:Int)/\Hid (VaK w s l gb k i wr)) (λiv _=>l.length-(intOf iv).toNat)
     case atStart=>exact⟨0,Nat.zero_le _,rfl,HK0⟩
     case round=>
      obtain⟨i,hi,rfl,HK⟩:=hrel
      clear HK0
      by_cases hil:i=l.length
      ·
       subst hil
       have HNX:Hid (VaJ w s gb (k+1) wr):=by
        have h:=HK.out
        have e:Of (gK s k) (l.take l.length)=gK s (k+1):=by rw[List.take_length];show _=Of (gK s k) (axL s k);rw[HL.out]
        refine⟨h.over,by rw[<-e];exact h.box,λi hi=>?_,by rw[<-e];exact h.fit,h.below⟩
        by_cases eik:i=k
        · rw[eik,<-HL.out,<-HSO.out];exact HOK.out
        · exact HJO.out i ω
       clear HK HJO HOK
       go_wp2_with fail
       exact⟨⟨k+1,ω,rfl,HNX⟩,by simp only[intOf];omega⟩
      ·
       have hil2:i<l.length:=by omega
       have hii:(i:Int)<(l.length:Int):=by omega
       have ci:=HC.out wr HK.out.below i hil2
       rw[Nat.mul_one] at ci
       have HNX:Hid (∀w2,Below wr.heap.size wr w2->VaK w s l gb k (i+1) ((w2.setCell ⟨gb,0,none⟩ (.bool (decide ((Of (gK s k) (l.take (i+1)):Int)<0)))).setCell ⟨gb,1,none⟩ (.string (Ci (Of (gK s k) (l.take (i+1)):Int).natAbs)))):=λw2 hb=>by
        have h:=HK.out
        refine⟨?_,(h.box.up hb h.box.lt).store _,?_,Below.store2 (h.below.trans (hb.mono h.below.size)) ω _ _⟩
        · exact(World.cell?_of_block (Sj _ _ (by show w.heap.size≠gb;omega))).trans ((hb.cell (p:=⟨w.heap.size,2,none⟩) (by have:=h.box.lt;show w.heap.size<_;omega)).trans h.over)
        ·
         rw[lD _ _ hil2]
         have:=oI h.fit (Eg (HLI.out i).1 (HLI.out i).2)
         rw[Int.natAbs_natCast] at this
         exact this
       obtain⟨x,hx⟩:∃x,x=l.getD i 0:=⟨_,rfl⟩
       have hxi:=HLI.out i
       rw[<-hx] at hxi ci
       have HOX:=Δ (Sa (wr:=wr) (λwa=>Sw x wa hxi.1 hxi.2))
       have HGC:=Δ (Sa (wr:=wr) (λwa=>Aih (Of (gK s k) (l.take i):Int) x wa HK.out.fit (Eg hxi.1 hxi.2)))
       rw[Int.natAbs_natCast,hx,<-lD _ _ hil2,<-hx] at HGC
       have CX:Hid (∀wa,Below wr.heap.size wr wa->wa.heap[gb]?=some (.cells #[.bool (decide ((Of (gK s k) (l.take i):Int)<0)),.string (Ci (Of (gK s k) (l.take i):Int).natAbs)] 169 (0,0))):=λwa hb=>HK.out.box.up hb HK.out.box.lt
       unfold Ak at HOX HGC
       obtain⟨xg,hxg⟩:∃g,g=decide (x<0):=⟨_,rfl⟩
       obtain⟨xs,hxs⟩:∃g,g=Ci x.natAbs:=⟨_,rfl⟩
       obtain⟨ug,hug⟩:∃g,g=decide ((Of (gK s k) (l.take i):Int)<0):=⟨_,rfl⟩
       obtain⟨us,hus⟩:∃g,g=Ci (Of (gK s k) (l.take i):Int).natAbs:=⟨_,rfl⟩
       obtain⟨vg,hvg⟩:∃g,g=decide ((Of (gK s k) (l.take (i+1)):Int)<0):=⟨_,rfl⟩
       obtain⟨vs,hvs⟩:∃g,g=Ci (Of (gK s k) (l.take (i+1)):Int).natAbs:=⟨_,rfl⟩
       rw[<-hxg,<-hxs] at HOX HGC
       rw[<-hug,<-hus] at HGC CX
       rw[<-hvg,<-hvs] at HGC HNX
       clear hxg hxs hug hus hvg hvs hxi hx HK HJO HOK
       go_wp2_with fail
       refine Jv 4 85 (λw'=>Below wr.heap.size wr w') [is (.agg #[.bool ug,.string us]),is (.int .i64 x),is (.agg #[.bool xg,.string xs]),is (.agg #[.bool vg,.string vs])] κ κ rfl δ ?hst ?h0 ?hop ?htail
       case hst=>
        simp only[List.mem_cons,List.mem_nil_iff,or_false,forall_eq_or_imp,forall_eq]
        exact⟨Aj _,Aj _,Aj _,Aj _⟩
       case h0=>exact Ψ.drew
       case hop=>
        refine⟨?_,?_,?_,?_,trivial⟩
        · exact Dj 169 (.tmp 3) (.pointer (some ⟨gb,0,none⟩)) (.agg #[.bool ug,.string us]) rfl κ (λwa hC=>Ht [.bool ug,.string us] wa κ κ (xJ (CX.out wa hC))) rfl
        · exact Dd (.tmp 7) (is (.int .i64 x)) rfl κ (λ_ _ _ h=>h)
        · exact Hb 97 [.tmp 77] _ [.int .i64 x] rfl (λ_ _=>by kernel_rfl) ⟨κ,trivial⟩ HOX.out
        · exact Hb 100 [.tmp 76,.tmp 78] _ [.agg #[.bool ug,.string us],.agg #[.bool xg,.string xs]] rfl (λ_ _=>by kernel_rfl) ⟨κ,κ,trivial⟩ HGC.out
       case htail=>
       intro τ w2 hC hR
       have r3:τ 3= .agg #[.bool vg,.string vs]:=hR 3 δ
       simp only[Cx,List.getElem?_toArray,List.getElem?_cons_succ,List.getElem?_cons_zero,Option.bind_some,Act.put,List.setIfInBounds_toArray,List.set_cons_succ,List.set_cons_zero,List.drop_succ_cons,List.drop_zero,r3]
       clear hR r3
       have HN2:=Δ (HNX.out w2 hC)
       have h1:=CX.out w2 hC
       obtain⟨c0,c1⟩:=kM h1
       have f0:=AgK h1 0
       have f1:=AgK h1 1
       clear hC h1 CX HOX HGC HNX
       go_wp2_with fail
       exact⟨⟨i+1,ω,rfl,HN2⟩,by simp only[intOf];omega⟩
theorem pO (s:Sg) (Ax Ay Az:Option Addr) (cx cy cz:Nat) (w:World)
  (hx:Tl w (.slice Ax s.x.length cx) s.x) (hy:Tl w (.slice Ay s.y.length cy) s.y) (hz:Tl w (.slice Az s.z.length cz) s.z)
  (hi:∀k i,-9223372036854775808<=(axL s k).getD i 0/\(axL s k).getD i 0<=9223372036854775807):
  Calls Tryz.prog 75 #[.agg #[.int .i64 s.f,.int .i64 s.t,.int .i64 s.o,.slice Ax s.x.length cx,.slice Ay s.y.length cy,.slice Az s.z.length cz]] w λe w'=>e= .returned (.bool (decide (Ib s)))/\Below w.heap.size w w':=by
 by_cases hh:Tm s.f s.t s.o
 exact AcV s Ax Ay Az cx cy cz w hh hx hy hz hi
 refine(AgX s.f s.t s.o Ax Ay Az _ cx _ cy _ cz w hh).mono ?_
 rintro e w' ⟨rfl,hb⟩
 exact⟨by rw[decide_eq_false (λh:Ib s=>hh h.1)],hb⟩
structure Bd (e:Nat) (z:Int):Prop where
 le:z.natAbs<=2^e
theorem Bd.fit {e:Nat} {z:Int} (h:Bd e z) (he:e<=60000):Bn z:=by
 unfold Bn
 have h1:z.natAbs<2^(e+1):=by
  have:=h.le
  have h2:0<2^e:=Nat.pow_pos δ
  rw[Nat.pow_succ]
  omega
 exact Nat.le_trans (Fm.2 h1) ω
theorem Bd.mono {e f:Nat} {z:Int} (h:Bd e z) (hf:e<=f):Bd f z:=⟨Nat.le_trans h.le (Nat.pow_le_pow_right δ hf)⟩
theorem Bd.add {e:Nat} {x y:Int} (h:Bd e x) (k:Bd e y):Bd (e+1) (x+y):=⟨by
 have:=Int.natAbs_add_le x y
 have h1:=h.le
 have h2:=k.le
 rw[Nat.pow_succ]
 omega⟩
theorem Bd.mul {e f:Nat} {x y:Int} (h:Bd e x) (k:Bd f y):Bd (e+f) (x*y):=⟨by
 rw[Int.natAbs_mul,Nat.pow_add]
 exact Nat.mul_le_mul h.le k.le⟩
theorem Bd.pow {e:Nat} {x:Int} (h:Bd e x) (k:Nat):Bd (e*k) (x^k):=⟨by
 rw[Int.natAbs_pow,Nat.pow_mul]
 exact Nat.pow_le_pow_left h.le k⟩
theorem Bd.int {x:Int} (h0: -9223372036854775808<=x) (h1:x<=9223372036854775807):Bd 63 x:=⟨by
 have:(2:Nat)^63=9223372036854775808:=by decide
 omega⟩
theorem Bd.zero (e:Nat):Bd e 0:=⟨by simp⟩
theorem Bd.div {e:Nat} {x:Int} (h:Bd e x) (y:Int):Bd e (x/y):=⟨Nat.le_trans (Int.natAbs_ediv_le_natAbs x y) h.le⟩
theorem Bd.gcd {e:Nat} {x y:Int} (h:Bd e x) (k:Bd e y):Bd e (Nat.gcd x.natAbs y.natAbs:Int):=⟨by
 rw[Int.natAbs_natCast]
 by_cases hx:x.natAbs=0
 rw[hx,Nat.gcd_zero_left];exact k.le
 exact Nat.le_trans (Nat.gcd_le_left _ ω) h.le⟩
def gG (l:List Int) (a d:Int):Nat->Int
 |0=>0
 |k+1=>gG l a d k+l.getD k 0*(a^k*d^(5-k))
abbrev Cj (x:Int):Prop:= -9223372036854775808<=x/\x<=9223372036854775807
structure Zo (s:Sg):Prop where
 f:Cj s.f
 t:Cj s.t
 o:Cj s.o
 x:∀i,Cj (s.x.getD i 0)
 y:∀i,Cj (s.y.getD i 0)
 z:∀i,Cj (s.z.getD i 0)
theorem Sl {x a d:Int} (hx:Cj x) (ha:Cj a) (hd:Cj d) {k:Nat} (hk:k<=5):Bd 378 (x*(a^k*d^(5-k))):=
 ((Bd.int hx.1 hx.2).mul (((Bd.int ha.1 ha.2).pow k).mul ((Bd.int hd.1 hd.2).pow (5-k)))).mono ω
theorem pE {l:List Int} {a d:Int} (hl:∀i,Cj (l.getD i 0)) (ha:Cj a) (hd:Cj d):∀k,k<=6->Bd (378+k) (gG l a d k)
 |0,_=>Bd.zero _
 |k+1,hk=>(pE hl ha hd k ω).add ((Sl (hl k) ha hd ω).mono ω)
def plX (s:Sg) (a d:Int):Int:=gG s.x a d s.x.length
def plY (s:Sg) (a d:Int):Int:=gG s.y a d s.y.length
def plZ (s:Sg) (a d:Int):Int:=gG s.z a d s.z.length
def lZ (s:Sg) (d:Int):Int:=s.o*d^5
def plG (s:Sg) (a d:Int):Int:=((Nat.gcd ((Nat.gcd (Nat.gcd (lZ s d).natAbs (plX s a d).natAbs:Int).natAbs (plY s a d).natAbs:Nat):Int).natAbs (plZ s a d).natAbs:Nat):Int)
structure PL where
 x:Int
 y:Int
 z:Int
 o:Int
deriving DecidableEq
def Ih (s:Sg) (a d:Int):PL:=⟨plX s a d/plG s a d,plY s a d/plG s a d,plZ s a d/plG s a d,lZ s d/plG s a d⟩
end Go.Proofs.YtihcpmmopejpoaaGreatDoor