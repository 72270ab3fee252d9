/- Part 25 of the proof of PH.card_holds: no condition beyond the row's. -/
import Derived.Test.YtkpjchfniejdoaaGreatDoorPH24
import Derived.RangeFuncNested
set_option maxRecDepth 100000
set_option maxHeartbeats 40000000
namespace Go.Proofs.YtkpjchfniejdoaaGreatDoor
open Go.RowKit
theorem η {x y:Int} (h: -9223372036854775808<=x/\x<=9223372036854775807:=by omega) (e:x=y:=by omega):Value.int .i64 (IntKind.wrap .i64 x)= .int .i64 y:=congrArg (Value.int .i64) ((IntWalk.i64_in x h).trans e)
variable {B:Nat} {D0:As} {s:St} {Q:Exit->St->Prop}
def AfY (P:Program) (R:Option Nat) (B:Nat) (D0 D1:As) (fn:Func) (s:St) (Q:Exit->St->Prop) (_:Fx):Exit->St->Prop:=AfX P B D1 fn λ_ h' nx'=>∃st pe sp t' n',Aq h' s.nx=some (.loop st pe sp t' n')/\st≠.busy/\
 match pe with
 |none=>Q .normal ⟨s.t,Gx h' s.nx,nx',s.n⟩
 |some c=>AC P R B D0 c ⟨s.t,Gx h' s.nx,nx',s.n⟩ Q
theorem AbX (l0 lid:Nat) (hl0:D0.A lid/\D0.π lid=l0) {st0:LoopState} {pe0:Option Code} {sp0:Fx} {t0:Fz} {n0:Nat} (hlp:Aq s.h lid=some (.loop st0 pe0 sp0 t0 n0)) {g:Operand} {ps:Array Tmp} {assign body:Code} (f:FuncId) {fn:Func} {c:Code} (caps:List AV) (n:Nat) (hg:s.ev g= .fn f caps) (hcall:∀(vs:Array Value) w,(callFunc f vs).run Tryz.prog w= .ok (.enter f vs) w) (hf:Tryz.prog.funcs[f]?=some fn) (hc:fn.body=some c) (hn:fn.ntmps=n) (hle:Nat.ble (caps.length+1) n=true)
  (hbody:∀D1,(∀id,D1.A id->id<s.nx+1)->AC Tryz.prog none B D1 c ⟨Cy (.yld s.nx::caps) 0,hset s.h s.nx (.loop .ready none ⟨ps,assign,body⟩ s.t s.n),s.nx+1,n⟩ (AfY Tryz.prog (some l0) B D0 D1 fn s Q ⟨ps,assign,body⟩)):AC Tryz.prog (some l0) B D0 (.rangeFunc g ps assign body) s Q:=by
 refine⟨λE a hs=>wpIn_rangeFunc λfid _=>?_⟩
 let sp:Fx:=⟨ps,assign,body⟩
 obtain⟨m0,fid0,tm0,hL0,_,_⟩:=hs.h.loopAt hlp
 have hπ0:E.π lid=l0:=(hs.h.le0.π lid hl0.1).trans hl0.2
 rw[hπ0] at hL0
 have hnid:¬E.A s.nx:=λh=>Nat.lt_irrefl _ (hs.A s.nx h)
 obtain⟨hle2,hb2,hm2⟩:=hs.h.more hnid 0 (.loop { state:= .ready,pending:=none,fn:=fid,tmps:=a.tmps,params:=ps,assign:=assign,body:=body,defers:=m0 })
 obtain⟨E2,hE2⟩:∃E2,E2=E.more s.nx 0 (.loop { state:= .ready,pending:=none,fn:=fid,tmps:=a.tmps,params:=ps,assign:=assign,body:=body,defers:=m0 }):=⟨_,rfl⟩
 rw[<-hE2] at hle2 hb2 hm2
 have hw2:E2.w=E.w.alloc (.loop { state:= .ready,pending:=none,fn:=fid,tmps:=a.tmps,params:=ps,assign:=assign,body:=body,defers:=m0 }):=by rw[hE2];rfl
 have hπ2:E2.π s.nx=E.w.heap.size:=by
  rw[hE2]
  show (if s.nx=s.nx then E.w.heap.size else _)=_
  rw[if_pos rfl]
 have hle02:E.le E2:=hle2
 have hA2:∀id,E2.A id->id<s.nx+1:=λid hid=>by
  rw[hE2] at hid
  rcases hid with hid|hid
  · have:=hs.A id hid;omega
  · omega
 have hA2n:E2.A s.nx:=by rw[hE2];exact .inr rfl
 have hh2:HR B D0 E2 (Aq (hset s.h s.nx (.loop .ready none sp s.t s.n))):=by
  have:(λid=>Aq (hset s.h s.nx (.loop .ready none sp s.t s.n)) id)=λi=>if s.nx=i then some (.loop .ready none sp s.t s.n) else Aq s.h i:=funext λid=>Ej _ _ _ _
  show HR B D0 E2 (λid=>Aq (hset s.h s.nx (.loop .ready none sp s.t s.n)) id)
  rw[this]
  refine hm2 _ (.loop _ _ _ _ _ _ _ m0 fid a.tmps ?_ hs.size λi=>(hs.t i).up hle02)
  rw[hw2]
  have:=World.alloc_heap_new E.w (.loop { state:= .ready,pending:=none,fn:=fid,tmps:=a.tmps,params:=ps,assign:=assign,body:=body,defers:=m0 })
  exact this
 have hgv:VR E (.fn f caps) (a.eval g):=by rw[<-hg];exact hs.ev g
 obtain⟨vs,hvs1,hvs2,hvs3⟩:∃vs:Array Value,a.eval g= .func (.func f) #[] vs/\vs.size=caps.length/\∀i,i<caps.length->VR E (caps.getD i .top) (vs.getD i undef):=by
  generalize a.eval g=z at hgv
  cases hgv with
  |fn _ _ _ vs hn hr=>exact⟨vs,rfl,hn,hr⟩
 refine⟨E.w.heap.size,[],E2.w,{ target:= .fn (.func f) vs,args:=#[.func (.yield E.w.heap.size) #[] #[]] },E2.w,f,
  #[.func (.yield E.w.heap.size) #[] #[]]++vs,E2.w,?_,?_,λ_ _=>trivial,?_,λhf=>by simp[Pa,Fence.wide] at hf,?_⟩
 · rw[hw2];exact run_enterLoop_inner hL0 _ _ _ _ _
 ·
  simp only[resolve,hvs1]
  simp[go_sem]
 · simp[invoke,go_sem,hcall]
 ·
  have hcalls:=Sj (K:=λ_ h' nx'=>∃st pe sp t' n',Aq h' s.nx=some (.loop st pe sp t' n')/\st≠.busy/\
    match pe with
    |none=>Q .normal ⟨s.t,Gx h' s.nx,nx',s.n⟩
    |some c=>AC Tryz.prog (some l0) B D0 c ⟨s.t,Gx h' s.nx,nx',s.n⟩ Q) hf hc n hn (args:= .yld s.nx::caps) (by simpa using hle) hbody (E:=E2) (vs:=#[.func (.yield E.w.heap.size) #[] #[]]++vs) hh2 hA2 (by simp[hvs2];omega) (λi hi=>by
     cases i with
     |zero=>
      have:=VR.yld E2 s.nx hA2n
      rw[hπ2] at this
      have e2:(#[Value.func (.yield E.w.heap.size) #[] #[]]++vs).getD 0 undef= .func (.yield E.w.heap.size) #[] #[]:=by simp[Array.getD_eq_getD_getElem?,Array.getElem?_append]
      rw[e2]
      exact this
     |succ i=>
      have hi2:i<caps.length:=by simpa using hi
      have h3:=(hvs3 i hi2).up hle02
      have e2:(#[Value.func (.yield E.w.heap.size) #[] #[]]++vs).getD (i+1) undef=vs.getD i undef:=by
       simp[Array.getD_eq_getD_getElem?,Array.getElem?_append]
      rw[e2]
      simpa using h3)
  refine callsIn_wide.2 (hcalls.mono ?_)
  rintro e w' ⟨v,r,h',nx',E',rfl,rfl,hr,⟨st,pe,sp',t',n',hl,hst,hk⟩,k1,k2,k3,k4⟩
  obtain⟨m,fid',tm,hL,hn',hr'⟩:=k2.loopAt hl
  have hπ':E'.π s.nx=E.w.heap.size:=(k1.π s.nx hA2n).trans hπ2
  rw[hπ'] at hL
  refine⟨pe,_,run_endLoop hL hst,?_⟩
  obtain⟨v1,v2,v3⟩:=k2.turnLoop (st':= .exhausted) (pe':=pe) (m:=m) (fid:=fid') hl hn' hr'
  rw[hπ'] at v1 v2 v3
  have hle3:=(hle02.trans k1).trans v1
  have hbl:Below B E.w (E'.w.putObj E.w.heap.size (.loop { state:= .exhausted,pending:=pe,fn:=fid',tmps:=tm,params:=sp'.params,assign:=sp'.assign,body:=sp'.body,defers:=m })):=by
   refine Below.trans ?_ (k4.trans v2)
   rw[hw2]
   exact(Below.refl B E.w).alloc hs.h.B _
  have hsim:Ij B D0 { E' with w:=E'.w.putObj E.w.heap.size (.loop { state:= .exhausted,pending:=pe,fn:=fid',tmps:=tm,params:=sp'.params,assign:=sp'.assign,body:=sp'.body,defers:=m }) } ⟨s.t,Gx h' s.nx,nx',s.n⟩ { a with defers:=[]++a.defers }:=by
   refine⟨hs.size,hs.df.up hle3.D hle3.blk,λi=>(hs.t i).up hle3,v3.sub λid b hb=>?_,k3⟩
   ·
    rw[Gb] at hb
    by_cases e:s.nx=id
    · rw[if_pos e] at hb;cases hb
    ·
     rw[if_neg e] at hb ⊢
     exact hb
  cases pe with
  |none=>exact⟨_,_,rfl,hk,hsim,hbl⟩
  |some c'=>
   refine De ?_ (hk.run _ _ hsim)
   rintro e a3 w3 ⟨s3,E3,rfl,hq3,hs3,hb3⟩
   exact⟨s3,E3,rfl,hq3,hs3,hbl.trans hb3⟩
end Go.Proofs.YtkpjchfniejdoaaGreatDoor
namespace Go.Proofs.YtkpjchfniejdoaaGreatDoor
open Go.RowKit
inductive FR where
 |call (c:Bu) (fn:Func)
 |rng (c:Bu) (fn:Func)
 |asg (c:Bu) (sp:Fx)
 |rnd (c:Bu) (sp:Fx)
 |lnt (t:TypeId) (hs:List (TypeId×List AV))
structure MC where
 c:Bu
 f:List FR
def Bu.lsp (c:Bu):Fx:=⟨c.rp,c.ra,c.rb⟩
def QGR (R:Option Nat) (B:Nat) (D0 D1:As) (fn:Func) (Q:Exit->St->Prop) (c0:Bu) (sp:Fx):Exit->St->Prop:=AfY Tryz.prog R B D0 D1 fn c0.s (λe s=>∃s',Ho B D0 s s'/\KQ Tryz.prog R B D0 Q c0.k e s') sp
def QL (P:Program) (B:Nat) (D0:As) (fn:Func) (r:AV) (t:TypeId) (hs:List (TypeId×List AV)):Exit->St->Prop:=λe s=>(e= .ret\/e= .normal)/\∃(V:Value) (us:List Value),r= .tup (.lit V::us.map .lit)/\Oq P B D0 fn s (.lit V)/\Aq s.h 0=some (.box t (us.map .lit))/\∀i,i<hs.length->Aq s.h (i+1)=some (.box (hs.getD i (0,[])).1 (hs.getD i (0,[])).2)
inductive xY (fn0:Func) (r:AV) (B:Nat):List FR->Option Nat->As->(Exit->St->Prop)->Prop
 |top (D0:As) (h:∀id,D0.A id->id<0):xY fn0 r B [] none D0 (QF Tryz.prog B D0 fn0 r)
 |lnt (t:TypeId) (hs:List (TypeId×List AV)) (D0:As) (h:∀id,D0.A id->id<hs.length+1):xY fn0 r B [.lnt t hs] none D0 (QL Tryz.prog B D0 fn0 r t hs)
 |call {fs:List FR} {R:Option Nat} {D:As} {Q:Exit->St->Prop} (c:Bu) (fn:Func) (D1:As) (hD:∀id,D1.A id->id<c.s.nx) (h:xY fn0 r B fs R D Q):xY fn0 r B (.call c fn::fs) none D1 (sF Tryz.prog B D1 fn λv h nx=>Go Tryz.prog R B D Q (c.back v h nx))
 |rng {fs:List FR} {R:Option Nat} {D:As} {Q:Exit->St->Prop} (c:Bu) (fn:Func) (D1:As) (hD:∀id,D1.A id->id<c.s.nx+1) (h:xY fn0 r B fs R D Q):xY fn0 r B (.rng c fn::fs) none D1 (QGR R B D D1 fn Q c c.lsp)
 |asg {fs:List FR} {R:Option Nat} {D:As} {Q:Exit->St->Prop} (c:Bu) (sp:Fx) (l0:Nat) (D1:As) (hD:∀id,D1.A id->id<c.s.nx) (hl:D1.A c.yl/\D1.π c.yl=l0) (h:xY fn0 r B fs R D Q):xY fn0 r B (.asg c sp::fs) (some l0) D1 (QY l0 B D1 sp.body c.yl sp (c.ln c.yl) (QR R B D Q c sp))
 |rnd {fs:List FR} {R:Option Nat} {D:As} {Q:Exit->St->Prop} (c:Bu) (sp:Fx) (l0:Nat) (D1:As) (hD:∀id,D1.A id->id<c.s.nx) (hl:D1.A c.yl/\D1.π c.yl=l0) (h:xY fn0 r B fs R D Q):xY fn0 r B (.rnd c sp::fs) (some l0) D1 (QR R B D Q c sp)
def TE (fn0:Func) (φ:AV->Prop) (m:MC):Prop:=∃r,φ r/\∀B R D Q,xY fn0 r B m.f R D Q->Go Tryz.prog R B D Q m.c
variable {fn0:Func} {φ:AV->Prop} {c c':Bu} {fs:List FR}
theorem gs (h:∀{R:Option Nat} {B:Nat} {D:As} {Q:Exit->St->Prop},Go Tryz.prog R B D Q c'->Go Tryz.prog R B D Q c) (t:TE fn0 φ ⟨c',fs⟩):TE fn0 φ ⟨c,fs⟩:=by
 obtain⟨r,h1,h2⟩:=t
 exact⟨r,h1,λB R D Q hc=>h (h2 B R D Q hc)⟩
theorem Ab (n:Nat) (t:TE fn0 φ ⟨run Tryz.prog n c,fs⟩):TE fn0 φ ⟨c,fs⟩:=gs (λh=>Ae n h) t
theorem cX {f:FuncId} {fn:Func} {x:Code} (hf:Tryz.prog.funcs[f]?=some fn)
  (t:TE fn0 φ ⟨⟨.code x,[],⟨Cy (c.xs.toList.map c.s.ev) 0,c.s.h,c.s.nx,fn.ntmps⟩⟩,.call c fn::fs⟩)
  (hc:fn.body=some x:=by rfl) (ho:c.o.op= .call { callee:= .value (.func f),args:=c.xs,argTypes:=c.ts }:=by kernel_rfl) (hcall:∀(vs:Array Value) w,(callFunc f vs).run Tryz.prog w= .ok (.enter f vs) w:=by intro _ _;kernel_rfl)
  (hle:Nat.ble (c.xs.toList.map c.s.ev).length fn.ntmps=true:=by kernel_rfl) (hok:c.ok=true:=by kernel_rfl) (hg:c.o.guard=none:=by kernel_rfl):TE fn0 φ ⟨c,fs⟩:=by
 obtain⟨r,h1,h2⟩:=t
 exact⟨r,h1,λB R D Q hx=>Amp c.s.nx hf (λD1 hD=>h2 _ _ _ _ (.call c fn D1 hD hx)) hc ho hcall hle hok hg rfl⟩
theorem vT {f:FuncId} {fn:Func} {x:Code} (hf:Tryz.prog.funcs[f]?=some fn)
  (t:TE fn0 φ ⟨⟨.code x,[],⟨Cy (c.xs.toList.map c.s.ev++c.cps) 0,c.s.h,c.s.nx,fn.ntmps⟩⟩,.call c fn::fs⟩)
  (hc:fn.body=some x:=by rfl) (ho:c.o.op= .call { callee:= .value c.fx,args:=c.xs,argTypes:=c.ts }:=by kernel_rfl) (hx:c.s.ev c.fx= .fn f c.cps:=by kernel_rfl) (hcall:∀(vs:Array Value) w,(callFunc f vs).run Tryz.prog w= .ok (.enter f vs) w:=by intro _ _;kernel_rfl)
  (hle:Nat.ble (c.xs.toList.map c.s.ev++c.cps).length fn.ntmps=true:=by kernel_rfl) (hok:c.ok=true:=by kernel_rfl) (hg:c.o.guard=none:=by kernel_rfl):TE fn0 φ ⟨c,fs⟩:=by
 obtain⟨r,h1,h2⟩:=t
 exact⟨r,h1,λB R D Q hy=>nR c.s.nx hf (λD1 hD=>h2 _ _ _ _ (.call c fn D1 hD hy)) hc ho hx hcall hle hok hg rfl⟩
theorem Ix {c0:Bu} {fn:Func} (t:TE fn0 φ ⟨c0.back (c.rI Tryz.prog fn) c.s.h c.s.nx,fs⟩) (hv:(Tw Tryz.prog fn c.s).isSome=true:=by kernel_rfl) (hn:c.isE=true:=by kernel_rfl):TE fn0 φ ⟨c,.call c0 fn::fs⟩:=by
 obtain⟨r,h1,h2⟩:=t
 refine⟨r,h1,λB R D Q hx=>?_⟩
 cases hx with
 |call _ _ D1 hD h=>exact vrI (h2 _ _ _ _ h) hv hn
def yls:List FR->Option Nat
 | .asg c _::_=>some c.yl
 | .rnd c _::_=>some c.yl
 |_=>none
def zU:Option Aw->Bool|some (.loop ..)=>true|_=>false
def yok (fs:List FR) (h:Dt):Bool:=match yls fs with|none=>true|some l=>zU (Aq h l)
theorem mO:∀{o:Option Aw},zU o=true->∃st pe sp t n,o=some (.loop st pe sp t n)
 |some (.loop st pe sp t n),_=>⟨st,pe,sp,t,n,rfl⟩
 |some (.box ..),h=>by cases h
 |some (.vec ..),h=>by cases h
 |none,h=>by cases h
theorem xY.round {r:AV} {B:Nat} {R:Option Nat} {D:As} {Q:Exit->St->Prop} (h:xY fn0 r B fs R D Q):(R=none/\yls fs=none)\/∃l0 l,R=some l0/\yls fs=some l/\D.A l/\D.π l=l0:=by
 cases h with
 |top=>exact .inl ⟨rfl,rfl⟩
 |lnt=>exact .inl ⟨rfl,rfl⟩
 |call=>exact .inl ⟨rfl,rfl⟩
 |rng=>exact .inl ⟨rfl,rfl⟩
 |asg c sp l0 D1 hD hl=>exact .inr ⟨l0,_,rfl,rfl,hl.1,hl.2⟩
 |rnd c sp l0 D1 hD hl=>exact .inr ⟨l0,_,rfl,rfl,hl.1,hl.2⟩
theorem trg {f:FuncId} {fn:Func} {x:Code} (hf:Tryz.prog.funcs[f]?=some fn)
  (t:TE fn0 φ ⟨⟨.code x,[],⟨Cy (.yld c.s.nx::c.rc) 0,hset c.s.h c.s.nx (.loop .ready none c.lsp c.s.t c.s.n),c.s.nx+1,fn.ntmps⟩⟩,.rng c fn::fs⟩)
  (hc:fn.body=some x:=by rfl) (hg:c.s.ev c.rg= .fn f c.rc:=by kernel_rfl) (hcall:∀(vs:Array Value) w,(callFunc f vs).run Tryz.prog w= .ok (.enter f vs) w:=by intro _ _;kernel_rfl) (hle:Nat.ble (c.rc.length+1) fn.ntmps=true:=by kernel_rfl) (hR:c.isR=true:=by kernel_rfl) (hy:yok fs c.s.h=true:=by kernel_rfl):TE fn0 φ ⟨c,fs⟩:=by
 obtain⟨r,h1,h2⟩:=t
 refine⟨r,h1,λB R D Q hx=>?_⟩
 have key:=λD1 (hD:∀id,D1.A id->id<c.s.nx+1)=>h2 B none D1 _ (.rng c fn D1 hD hx)
 obtain⟨m,k,s⟩:=c
 unfold Bu.isR at hR
 split at hR
 rename_i g ps asg bd hm
 cases hm
 rcases hx.round with⟨rfl,_⟩|⟨l0,l,rfl,h3,h4⟩
 exact⟨nU (Afd f _ fn.ntmps hg hcall hf hc rfl hle λsp e1 e2 e3 D1 hD=>by
  obtain⟨a,b,d⟩:=sp
  cases e1;cases e2;cases e3
  exact(key D1 hD).m)⟩
 unfold yok at hy
 dsimp only at h3
 rw[h3] at hy
 obtain⟨st,pe,sp,t,n,hlp⟩:=mO hy
 exact⟨nU (AbX l0 l h4 hlp f _ fn.ntmps hg hcall hf hc rfl hle λD1 hD=>(key D1 hD).m)⟩
 cases hR
theorem Arq {R:Option Nat} {B:Nat} {D0:As} {Q:Exit->St->Prop} {c0:Bu} {D1:As} {fn:Func} {sp:Fx} (h:Go Tryz.prog R B D0 Q (c0.af c)) (hl:Aq c.s.h c0.s.nx=some (.loop (c.lst c0.s.nx) (c.lpe c0.s.nx) sp (c.lt c0.s.nx) (c.ln c0.s.nx)):=by kernel_rfl) (hb:Ab5 (c.lst c0.s.nx)=true:=by kernel_rfl) (hv:(Tw Tryz.prog fn c.s).isSome=true:=by kernel_rfl) (hn:c.isE=true:=by kernel_rfl):Go Tryz.prog none B D1 (QGR R B D0 D1 fn Q c0 sp) c:=by
 refine vrI (K:=λ_ h' nx'=>∃st pe sp t' n',Aq h' c0.s.nx=some (.loop st pe sp t' n')/\st≠.busy/\match pe with
  |none=>∃s',Ho B D0 ⟨c0.s.t,Gx h' c0.s.nx,nx',c0.s.n⟩ s'/\KQ Tryz.prog R B D0 Q c0.k .normal s'
  |some x=>AC Tryz.prog R B D0 x ⟨c0.s.t,Gx h' c0.s.nx,nx',c0.s.n⟩ (λe s=>∃s',Ho B D0 s s'/\KQ Tryz.prog R B D0 Q c0.k e s')) ⟨_,_,_,_,_,hl,(λe=>by rw[e] at hb;cases hb),?_⟩ hv hn
 unfold Bu.af at h
 generalize c.lpe c0.s.nx=pe at h
 cases pe with
 |none=>exact h.m
 |some x=>exact dF h.m λe s hq=>⟨s,Ho.refl s,hq⟩
theorem tyl {sp:Fx} (t:TE fn0 φ ⟨⟨.code sp.assign,[],⟨kP sp.params.toList (c.xs.toList.map c.s.ev) (c.lt c.yl),c.s.h,c.s.nx,c.ln c.yl⟩⟩,.asg c sp::fs⟩)
  (ho:c.o.op= .call { callee:= .value c.fx,args:=c.xs,argTypes:=c.ts }:=by kernel_rfl) (hx:c.s.ev c.fx= .yld c.yl:=by kernel_rfl) (hl:Aq c.s.h c.yl=some (.loop .ready none sp (c.lt c.yl) (c.ln c.yl)):=by kernel_rfl) (hpb:psB sp.params (c.xs.toList.map c.s.ev).length (c.ln c.yl)=true:=by kernel_rfl) (hok:c.ok=true:=by kernel_rfl):TE fn0 φ ⟨c,fs⟩:=by
 obtain⟨r,h1,h2⟩:=t
 exact⟨r,h1,λB R D Q hy=>vyl c.s.nx rfl rfl rfl (λl0 D1 hD hl0=>h2 _ _ _ _ (.asg c sp l0 D1 hD hl0 hy)) ho hx hl hpb hok rfl⟩
theorem tyb {c0:Bu} {sp:Fx} (t:TE fn0 φ ⟨⟨.code sp.body,[],⟨c.s.t,hset c.s.h c0.yl (.loop .busy none sp (c.lt c0.yl) (c0.ln c0.yl)),c.s.nx,c.s.n⟩⟩,.rnd c0 sp::fs⟩) (hl:Aq c.s.h c0.yl=some (.loop .ready none sp (c.lt c0.yl) (c0.ln c0.yl)):=by kernel_rfl) (hn:c.isN=true:=by kernel_rfl) (hk:c.isNil=true:=by kernel_rfl):TE fn0 φ ⟨c,.asg c0 sp::fs⟩:=by
 obtain⟨r,h1,h2⟩:=t
 refine⟨r,h1,λB R D Q hx=>?_⟩
 cases hx with
 |asg _ _ l0 D1 hD hl0 h=>exact vrb (h2 _ _ _ _ (.rnd c0 sp l0 D hD hl0 h)) hl hn hk
theorem Pu {c0:Bu} {sp:Fx} (t:TE fn0 φ ⟨⟨.ops c0.a c0.l.tail,c0.k,⟨Lv c0.s.t c0.o.dst (.bool (rdB c.e)),hset c.s.h c0.yl (.loop (rdS c.e) (rdC c.e) sp (c.lt c0.yl) (c0.ln c0.yl)),c.s.nx,c0.s.n⟩⟩,fs⟩) (hl:Aq c.s.h c0.yl=some (.loop .busy none sp (c.lt c0.yl) (c0.ln c0.yl)):=by kernel_rfl) (hX:c.isX=true:=by kernel_rfl) (hk:c.isNil=true:=by kernel_rfl):TE fn0 φ ⟨c,.rnd c0 sp::fs⟩:=by
 obtain⟨r,h1,h2⟩:=t
 refine⟨r,h1,λB R D Q hx=>?_⟩
 cases hx with
 |rnd _ _ l0 D1 hD hl0 h=>exact vre (h2 _ _ _ _ h) hl hX hk
def Bu.lin (c:Bu):Bu:=⟨.code c.lb,.il c.lb::c.k,c.s⟩
theorem vlo {P:Program} {R:Option Nat} {B:Nat} {D0:As} {Q:Exit->St->Prop} (h:Go P R B D0 Q c.lin) (hl:c.isL=true:=by kernel_rfl):Go P R B D0 Q c:=by
 obtain⟨m,k,s⟩:=c
 unfold Bu.isL at hl
 split at hl
 rename_i b hm
 cases hm
 exact⟨Afc (lO h.m)⟩
 cases hl
theorem Od {r:AV} (h:φ r) (hv:Tb Tryz.prog fn0 c.s=some r:=by kernel_rfl) (hn:c.isE=true:=by kernel_rfl):TE fn0 φ ⟨c,[]⟩:=
 ⟨r,h,λB R D Q hx=>by cases hx with|top D0 h=>exact Cm hv hn⟩
theorem Av {f:FuncId} {fn:Func} {args:List AV} (hf:Tryz.prog.funcs[f]?=some fn) {x:Code} (hc:fn.body=some x:=by rfl) (t:TE fn φ ⟨⟨.code x,[],⟨Cy args 0,[],0,fn.ntmps⟩⟩,[]⟩) (hle:Nat.ble args.length fn.ntmps=true:=by kernel_rfl):∃r,φ r/\AF Tryz.prog f args r:=by
 obtain⟨r,h1,h2⟩:=t
 exact⟨r,h1,Au hf hc (λB D0 hD=>h2 B none D0 _ (.top D0 hD)) hle⟩
end Go.Proofs.YtkpjchfniejdoaaGreatDoor
namespace Go.Proofs.YtkpjchfniejdoaaGreatDoor
open Go.RowKit
variable {fn0:Func} {φ:AV->Prop} {c:Bu} {fs:List FR}
theorem jD (d:Nat) (b v:Bool) (hb:b=v) (t:TE fn0 φ ⟨c.add d v,fs⟩) (hd:Bz c.s.t d= .bool b:=by kernel_rfl):TE fn0 φ ⟨c,fs⟩:=gs (λh=>La d b v hb h hd) t
theorem tsb (d:Nat) (b:Bool) (h1:b=true->TE fn0 φ ⟨c.add d true,fs⟩) (h2:b=false->TE fn0 φ ⟨c.add d false,fs⟩) (hd:Bz c.s.t d= .bool b:=by kernel_rfl):TE fn0 φ ⟨c,fs⟩:=
 Ec b (λh=>jD d b true h (h1 h) hd) (λh=>jD d b false h (h2 h) hd)
theorem AiT (d:Nat) (b:Bool) (h1:b=true->TE fn0 φ ⟨c.add d false,fs⟩) (h2:b=false->TE fn0 φ ⟨c.add d true,fs⟩) (hd:Bz c.s.t d= .bool (!b):=by kernel_rfl):TE fn0 φ ⟨c,fs⟩:=
 Ec b (λh=>jD d (!b) false (by rw[h];rfl) (h1 h) hd) (λh=>jD d (!b) true (by rw[h];rfl) (h2 h) hd)
theorem Hg (d:Nat) (p:Prop) [Decidable p] (h1:decide p=true->p->TE fn0 φ ⟨c.add d true,fs⟩) (h2:decide p=false->¬p->TE fn0 φ ⟨c.add d false,fs⟩) (hd:Bz c.s.t d= .bool (decide p):=by kernel_rfl):TE fn0 φ ⟨c,fs⟩:=
 tsb d (decide p) (λh=>h1 h (of_decide_eq_true h)) (λh=>h2 h (of_decide_eq_false h)) hd
theorem AiU (d:Nat) (p:Prop) [Decidable p] (h1:decide p=true->p->TE fn0 φ ⟨c.add d false,fs⟩) (h2:decide p=false->¬p->TE fn0 φ ⟨c.add d true,fs⟩) (hd:Bz c.s.t d= .bool (!decide p):=by kernel_rfl):TE fn0 φ ⟨c,fs⟩:=
 AiT d (decide p) (λh=>h1 h (of_decide_eq_true h)) (λh=>h2 h (of_decide_eq_false h)) hd
def isB:AV->Bool| .lit (.bool _)=>true|_=>false
theorem Ev (d:Nat) (h1:TE fn0 φ ⟨c.add d true,fs⟩) (h2:TE fn0 φ ⟨c.add d false,fs⟩) (hd:isB (Bz c.s.t d)=true:=by kernel_rfl):TE fn0 φ ⟨c,fs⟩:=by
 unfold isB at hd
 split at hd
 rename_i b hx
 cases b with
 |true=>exact jD d true true rfl h1 hx
 |false=>exact jD d false false rfl h2 hx
 cases hd
def Bu.rnd (c:Bu) (s:St):Bu:=⟨.code c.lb,.il c.lb::c.k,s⟩
theorem Arp {P:Program} {R:Option Nat} {B:Nat} {D0:As} {Q:Exit->St->Prop} (keep:List Nat) (h:Go P R B D0 Q (c.rnd (Ke keep c.s))) (hl:c.isL=true):Go P R B D0 Q c:=by
 refine Fu _ (Gr keep c.s) (vlo (c:=⟨c.m,c.k,Ke keep c.s⟩) ?_ ?_)
 exact h
 exact hl
theorem Vr (keep:List Nat) (I:Nat->St->Prop) (m:Nat) (h0:I m (Ke keep c.s)) (h:∀m s,I m s->(∀m' s',m'<m->I m' s'->TE fn0 φ ⟨c.rnd s',fs⟩)->TE fn0 φ ⟨c.rnd s,fs⟩) (hl:c.isL=true:=by kernel_rfl):TE fn0 φ ⟨c,fs⟩:=by
 have key:∀n m s,m<n->I m s->TE fn0 φ ⟨c.rnd s,fs⟩:=λn=>by
  induction n with
  |zero=>intro m s h1;exact absurd h1 (Nat.not_lt_zero _)
  |succ n ih=>intro m s h1 h2;exact h m s h2 λm' s' h3 h4=>ih m' s' ω h4
 exact gs (λh=>Arp keep h hl) (key (m+1) m _ (Nat.lt_succ_self m) h0)
theorem AoF (keep:List Nat) (n:Nat) (F:Nat->Prop) (st:Nat->St) (h0:F 0) (h:∀i,i<=n->F i->(i<n->F (i+1)->TE fn0 φ ⟨c.rnd (st (i+1)),fs⟩)->TE fn0 φ ⟨c.rnd (st i),fs⟩) (hs:Ke keep c.s=st 0:=by kernel_rfl) (hl:c.isL=true:=by kernel_rfl):TE fn0 φ ⟨c,fs⟩:=
 Vr keep (λm s=>∃i,i<=n/\m=n-i/\F i/\s=st i) n ⟨0,Nat.zero_le _,rfl,h0,hs⟩ (λm s ⟨i,h1,h2,h3,h4⟩ hJ=>by
  subst h4
  exact h i h1 h3 λg1 g2=>hJ (n-(i+1)) _ ω ⟨i+1,g1,rfl,g2,rfl⟩) hl
def Bu.ib (c:Bu):Code:=match c.k with| .il b::_=>b|_=> .skip
def Bu.isNI (c:Bu):Bool:=match c.m,c.k with| .out .normal,.il _::_=>true|_,_=>false
def Bu.nxt (c:Bu) (s:St):Bu:=⟨.code c.ib,c.k,s⟩
theorem Aqx {P:Program} {R:Option Nat} {B:Nat} {D0:As} {Q:Exit->St->Prop} (s':St) (hw:Ho B D0 c.s s') (h:Go P R B D0 Q (c.nxt s')) (hn:c.isNI=true):Go P R B D0 Q c:=by
 refine Fu s' hw ?_
 obtain⟨m,k,s⟩:=c
 unfold Bu.isNI at hn
 split at hn
 rename_i h1 h2
 dsimp only at h1 h2
 subst h1;subst h2
 exact AiP _ h
 cases hn
theorem nN (keep:List Nat) {m:MC} (t:TE fn0 φ m) (hm:(⟨c.nxt (Ke keep c.s),fs⟩:MC)=m:=by kernel_rfl) (hn:c.isNI=true:=by kernel_rfl):TE fn0 φ ⟨c,fs⟩:=by
 subst hm
 exact gs (λh=>Aqx _ (Gr keep c.s) h hn) t
def Bu.nrK (keep:List Nat) (c:Bu):Bu:=⟨c.m,c.k,Ke keep c.s⟩
theorem tsh (n d:Nat) (v:Bool) (keep:List Nat) (h:TE fn0 φ ⟨(run Tryz.prog n (c.add d v)).nrK keep,fs⟩) (k:TE fn0 φ ⟨(run Tryz.prog n (c.add d v)).nrK keep,fs⟩->TE fn0 φ ⟨c,fs⟩):TE fn0 φ ⟨c,fs⟩:=k h
theorem Vt (keep:List Nat) {m:MC} (t:TE fn0 φ m) (hm:(⟨c.nrK keep,fs⟩:MC)=m:=by kernel_rfl):TE fn0 φ ⟨c,fs⟩:=by
 subst hm
 exact gs (λh=>Fu _ (Gr keep c.s) h) t
def Bu.wS (c:Bu) (s:St):Bu:=⟨c.m,c.k,s⟩
theorem tjv {α:Type} (n d:Nat) (v:Bool) (st:α->St) (p:α->Prop) (h:∀x,p x->TE fn0 φ ⟨(run Tryz.prog n (c.add d v)).wS (st x),fs⟩) (k:(∀x,p x->TE fn0 φ ⟨(run Tryz.prog n (c.add d v)).wS (st x),fs⟩)->TE fn0 φ ⟨c,fs⟩):TE fn0 φ ⟨c,fs⟩:=k h
def bnd:List FR->Nat
 |[]=>0
 | .call c _::_=>c.s.nx
 | .rng c _::_=>c.s.nx+1
 | .asg c _::_=>c.s.nx
 | .rnd c _::_=>c.s.nx
 | .lnt _ hs::_=>hs.length+1
theorem xY.bnd {r:AV} {B:Nat} {R:Option Nat} {D:As} {Q:Exit->St->Prop} (h:xY fn0 r B fs R D Q):∀id,D.A id->id<YtkpjchfniejdoaaGreatDoor.bnd fs:=by
 cases h with
 |top D0 h=>exact λid hi=>h id hi
 |lnt t hs D0 h=>exact h
 |call c fn D1 hD h=>exact hD
 |rng c fn D1 hD h=>exact hD
 |asg c sp l0 D1 hD hl h=>exact hD
 |rnd c sp l0 D1 hD hl h=>exact hD
theorem Fw (keep:List Nat) (ρ:List (Nat×Nat)) (nx:Nat) (L:yH) (hfl:mE L) {m:MC} (t:TE fn0 φ m) (hv:cO c.s.h=L:=by kernel_rfl) (hm:(⟨c.nxt ⟨mapT (Vx ρ) (Ke keep c.s).t,Aar ρ c.s.h,nx,c.s.n⟩,fs⟩:MC)=m:=by kernel_rfl) (hd:Km (ρ.map (·.2))=true:=by kernel_rfl) (hd1:Km (ρ.map (·.1))=true:=by kernel_rfl) (hl:(ρ.all λp=>(Aq c.s.h p.1).isSome&&Nat.blt p.2 nx)=true:=by kernel_rfl) (hk0:(Nat.ble (bnd fs) nx&&ρ.all λp=>Nat.beq p.1 p.2||Nat.ble (bnd fs) p.2)=true:=by kernel_rfl) (hn:c.isNI=true:=by kernel_rfl):TE fn0 φ ⟨c,fs⟩:=by
 subst hm
 obtain⟨r,h1,h2⟩:=t
 exact⟨r,h1,λB R D Q hx=>Aqx _ (Ho.trans (Gr keep c.s) λE a hs'=>eB (s:=Ke keep c.s) ρ nx (bnd fs) hx.bnd _ rfl hd hd1 hl hk0 (Ns hv hfl) E a hs') (h2 B R D Q hx) hn⟩
theorem tfg (keep:List Nat) (ρ:List (Nat×Nat)) (nx:Nat) (L:yH) (hfl:mE L) (t:TE fn0 φ ⟨⟨c.m,c.k,⟨mapT (Vx ρ) (Ke keep c.s).t,Aar ρ c.s.h,nx,c.s.n⟩⟩,fs⟩) (hv:cO c.s.h=L:=by kernel_rfl) (hd:Km (ρ.map (·.2))=true:=by kernel_rfl) (hd1:Km (ρ.map (·.1))=true:=by kernel_rfl) (hl:(ρ.all λp=>(Aq c.s.h p.1).isSome&&Nat.blt p.2 nx)=true:=by kernel_rfl) (hk0:(Nat.ble (bnd fs) nx&&ρ.all λp=>Nat.beq p.1 p.2||Nat.ble (bnd fs) p.2)=true:=by kernel_rfl):TE fn0 φ ⟨c,fs⟩:=by
 obtain⟨r,h1,h2⟩:=t
 exact⟨r,h1,λB R D Q hx=>Fu _ (Ho.trans (Gr keep c.s) λE a hs'=>eB (s:=Ke keep c.s) ρ nx (bnd fs) hx.bnd _ rfl hd hd1 hl hk0 (Ns hv hfl) E a hs') (h2 B R D Q hx)⟩
theorem vW {f:FuncId} {fn:Func} {x:Code} (hf:Tryz.prog.funcs[f]?=some fn)
 (t:∀sp:Fx,sp.params=c.rp->sp.assign=c.ra->sp.body=c.rb->TE fn0 φ ⟨⟨.code x,[],⟨Cy (.yld c.s.nx::c.rc) 0,hset c.s.h c.s.nx (.loop .ready none sp c.s.t c.s.n),c.s.nx+1,fn.ntmps⟩⟩,.rng c fn::fs⟩)
 (hc:fn.body=some x:=by rfl) (hg:c.s.ev c.rg= .fn f c.rc:=by kernel_rfl) (hcall:∀(vs:Array Value) w,(callFunc f vs).run Tryz.prog w= .ok (.enter f vs) w:=by intro _ _;kernel_rfl) (hle:Nat.ble (c.rc.length+1) fn.ntmps=true:=by kernel_rfl) (hR:c.isR=true:=by kernel_rfl) (hy:yok fs c.s.h=true:=by kernel_rfl):TE fn0 φ ⟨c,fs⟩:=trg hf (t _ rfl rfl rfl) hc hg hcall hle hR hy
theorem jJ {sp:Fx} {ps:Array Tmp} {asg:Code} (hps:sp.params=ps) (has:sp.assign=asg) (t:TE fn0 φ ⟨⟨.code asg,[],⟨kP ps.toList (c.xs.toList.map c.s.ev) (c.lt c.yl),c.s.h,c.s.nx,c.ln c.yl⟩⟩,.asg c sp::fs⟩)
  (ho:c.o.op= .call { callee:= .value c.fx,args:=c.xs,argTypes:=c.ts }:=by kernel_rfl) (hx:c.s.ev c.fx= .yld c.yl:=by kernel_rfl) (hl:Aq c.s.h c.yl=some (.loop .ready none sp (c.lt c.yl) (c.ln c.yl)):=by kernel_rfl) (hpb:psB ps (c.xs.toList.map c.s.ev).length (c.ln c.yl)=true:=by kernel_rfl) (hok:c.ok=true:=by kernel_rfl):TE fn0 φ ⟨c,fs⟩:=by
 subst hps;subst has
 exact tyl t ho hx hl hpb hok
theorem jI {c0:Bu} {sp:Fx} {bd:Code} (hbd:sp.body=bd) (t:TE fn0 φ ⟨⟨.code bd,[],⟨c.s.t,hset c.s.h c0.yl (.loop .busy none sp (c.lt c0.yl) (c0.ln c0.yl)),c.s.nx,c.s.n⟩⟩,.rnd c0 sp::fs⟩) (hl:Aq c.s.h c0.yl=some (.loop .ready none sp (c.lt c0.yl) (c0.ln c0.yl)):=by kernel_rfl) (hn:c.isN=true:=by kernel_rfl) (hk:c.isNil=true:=by kernel_rfl):TE fn0 φ ⟨c,.asg c0 sp::fs⟩:=by
 subst hbd
 exact tyb t hl hn hk
theorem bC {c0:Bu} {fn:Func} (t:TE fn0 φ ⟨c0.af c,fs⟩) (hl:zU (Aq c.s.h c0.s.nx)=true:=by kernel_rfl) (hb:Ab5 (c.lst c0.s.nx)=true:=by kernel_rfl) (hv:(Tw Tryz.prog fn c.s).isSome=true:=by kernel_rfl) (hn:c.isE=true:=by kernel_rfl):TE fn0 φ ⟨c,.rng c0 fn::fs⟩:=by
 obtain⟨r,h1,h2⟩:=t
 refine⟨r,h1,λB R D Q hx=>?_⟩
 obtain⟨st,pe,sp,t,n,hlp⟩:=mO hl
 have hlp:Aq c.s.h c0.s.nx=some (.loop (c.lst c0.s.nx) (c.lpe c0.s.nx) sp (c.lt c0.s.nx) (c.ln c0.s.nx)):=by
  unfold Bu.lst Bu.lpe Bu.lt Bu.ln
  rw[hlp]
 cases hx with
 |rng _ _ D1 hD h=>exact Arq (sp:=sp) (h2 _ _ _ _ h) hlp hb hv hn
abbrev Ai (n:Int):Int:=IntKind.wrap .i64 n
theorem uU {P:Program} {B:Nat} {D0:As} {o:Oper} {ev:Operand->AV} {pre:Nat->Option Aw} (T T':TypeId) (x y:Operand) (ho:o.op= .binOp .rem T x y T') (a b r:Int) (hx:ev x= .int a) (hy:ev y= .int b) (hb:b≠0) (hr:a.tmod b=r):Dl P B D0 o ev pre (.int r) .none:=by
 refine Bj (.inl rfl) λE a' c _ _ hv=>⟨.int .i64 r,?_,.lit _ _⟩
 have h1:=hv x (by simp[ho,Op.operands])
 have h2:=hv y (by simp[ho,Op.operands])
 rw[hx] at h1
 rw[hy] at h2
 simp only[execOp,ho]
 rw[h1.lit_inv,h2.lit_inv]
 simp[eqGuard,binOp,Op.intDiv,hb,hr]
theorem Ail {P:Program} {B:Nat} {D0:As} {o:Oper} {ev:Operand->AV} {pre:Nat->Option Aw} (T T':TypeId) (x y:Operand) (ho:o.op= .binOp .quo T x y T') (a b:Int) (hx:ev x= .int a) (hy:ev y= .int b) (hb:b≠0):Dl P B D0 o ev pre (.int (Ai (a.tdiv b))) .none:=by
 refine Bj (.inl rfl) λE a' c _ _ hv=>⟨.int .i64 (Ai (a.tdiv b)),?_,.lit _ _⟩
 have h1:=hv x (by simp[ho,Op.operands])
 have h2:=hv y (by simp[ho,Op.operands])
 rw[hx] at h1
 rw[hy] at h2
 simp only[execOp,ho]
 rw[h1.lit_inv,h2.lit_inv]
 simp[eqGuard,binOp,Op.intDiv,hb]
def _root_.Go.Oper.bX (o:Oper):Operand:=match o.op with| .binOp _ _ x _ _=>x|_=>default
def _root_.Go.Oper.bY (o:Oper):Operand:=match o.op with| .binOp _ _ _ y _=>y|_=>default
def _root_.Go.Oper.bT (o:Oper):TypeId:=match o.op with| .binOp _ t _ _ _=>t|_=>0
def _root_.Go.Oper.bU (o:Oper):TypeId:=match o.op with| .binOp _ _ _ _ t=>t|_=>0
theorem Aqz {P:Program} {R:Option Nat} {B:Nat} {D0:As} {Q:Exit->St->Prop} (a b r:Int) (hb:b≠0) (hr:a.tmod b=r) (hk:Go P R B D0 Q (c.put (.int r) .none)) (ho:c.o.op= .binOp .rem c.o.bT c.o.bX c.o.bY c.o.bU:=by kernel_rfl) (hx:c.s.ev c.o.bX= .int a:=by kernel_rfl) (hy:c.s.ev c.o.bY= .int b:=by kernel_rfl) (hok:c.ok=true:=by kernel_rfl):Go P R B D0 Q c:=
 Pc _ .none (uU _ _ _ _ ho a b r hx hy hb hr) hk hok rfl
theorem Aqv {P:Program} {R:Option Nat} {B:Nat} {D0:As} {Q:Exit->St->Prop} (a b:Int) (hb:b≠0) (hk:Go P R B D0 Q (c.put (.int (Ai (a.tdiv b))) .none)) (ho:c.o.op= .binOp .quo c.o.bT c.o.bX c.o.bY c.o.bU:=by kernel_rfl) (hx:c.s.ev c.o.bX= .int a:=by kernel_rfl) (hy:c.s.ev c.o.bY= .int b:=by kernel_rfl) (hok:c.ok=true:=by kernel_rfl):Go P R B D0 Q c:=
 Pc _ .none (Ail _ _ _ _ ho a b hx hy hb) hk hok rfl
theorem vE {P:Program} {B:Nat} {D0:As} {o:Oper} {ev:Operand->AV} {pre:Nat->Option Aw} (a b r:Int) (hb:b≠0) (hr:a.tmod b=r) (ho:o.op= .binOp .rem o.bT o.bX o.bY o.bU:=by kernel_rfl) (hx:ev o.bX= .int a:=by kernel_rfl) (hy:ev o.bY= .int b:=by kernel_rfl):Dl P B D0 o ev pre (.int r) .none:=uU _ _ _ _ ho a b r hx hy hb hr
theorem kbE {P:Program} {B:Nat} {D0:As} {o:Oper} {ev:Operand->AV} {pre:Nat->Option Aw} {b v:Bool} {f:Bl} (hb:b=v) (h:evG P o ev pre 0=some (.bool b,f):=by kernel_rfl):Dl P B D0 o ev pre (.bool v) f:=hb▸Xb h
theorem AdP {P:Program} {B:Nat} {D0:As} {o:Oper} {ev:Operand->AV} {pre:Nat->Option Aw} (x:Operand) (f:FuncId) (b:Value) (xs:Array Operand) (ts:Array TypeId) (ho:o.op= .call { callee:= .value x,args:=xs,argTypes:=ts }) (hx:ev x= .lit (.func (.func f) #[b] #[])) (hcall:∀(vs:Array Value) w,(callFunc f vs).run P w= .ok (.enter f vs) w) (args:List AV) (hargs: .lit b::xs.toList.map ev=args) (hfree:args.all AV.free=true) (r:AV) (hf:AF P f args r):Dl P B D0 o ev pre r .none:=by
 subst hargs
 refine aR hf hcall λE a hv=>?_
 have h:=hv x (by simp[ho,Op.operands,Call.operands])
 rw[hx] at h
 have hz:=h.lit_inv
 refine⟨#[b]++xs.map a.eval,λw=>by simp[execOp,ho,resolve,Deferred.ofValue,hz,invoke],by simp;omega,λi hi=>?_⟩
 cases i with
 |zero=>
  have e2:(#[b]++xs.map a.eval).getD 0 undef=b:=by simp[Array.getD_eq_getD_getElem?,Array.getElem?_append]
  rw[e2]
  exact .lit _ _
 |succ i=>
  have hi1:i<xs.size:=by simpa using hi
  have e1:(AV.lit b::xs.toList.map ev).getD (i+1) .top=ev xs[i]:=by simp[hi1]
  have e2:(#[b]++xs.map a.eval).getD (i+1) undef=a.eval xs[i]:=by simp[Array.getD_eq_getD_getElem?,Array.getElem?_append,hi1]
  rw[e1,e2]
  refine(hv _ (by simp[ho,Op.operands,Call.operands])).free ?_
  exact List.all_eq_true.1 hfree (ev xs[i]) (List.mem_cons_of_mem _ (List.mem_map.2 ⟨xs[i],by simp,rfl⟩))
theorem vcm {P:Program} {R:Option Nat} {B:Nat} {D0:As} {Q:Exit->St->Prop} {f:FuncId} {b:Value} {args:List AV} {r:AV} (hf:AF P f args r) (hk:Go P R B D0 Q (c.put r .none)) (ho:c.o.op= .call { callee:= .value c.fx,args:=c.xs,argTypes:=c.ts }:=by kernel_rfl) (hargs: .lit b::c.xs.toList.map c.s.ev=args:=by kernel_rfl) (hx:c.s.ev c.fx= .lit (.func (.func f) #[b] #[]):=by kernel_rfl) (hfree:args.all AV.free=true:=by kernel_rfl) (hok:c.ok=true:=by kernel_rfl) (hcall:∀(vs:Array Value) w,(callFunc f vs).run P w= .ok (.enter f vs) w:=by intro _ _;kernel_rfl):Go P R B D0 Q c:=
 Pc r .none (AdP c.fx f b c.xs c.ts ho hx hcall args hargs hfree r hf) hk hok rfl
inductive SK where|b|i|s
inductive SC where|one (k:SK)|agg (l:List SK)
def shK:SK->Value->Bool
 | .b,.bool _=>true
 | .i,.int .i64 _=>true
 | .s,.string _=>true
 |_,_=>false
def shL:List SK->List Value->Bool
 |[],[]=>true
 |k::l,v::vs=>shK k v&&shL l vs
 |_,_=>false
def shC:SC->Value->Bool
 | .one k,v=>shK k v
 | .agg l,.agg a=>shL l a.toList
 |_,_=>false
def Ao9:List SC->List Value->Bool
 |[],[]=>true
 |k::l,v::vs=>shC k v&&Ao9 l vs
 |_,_=>false
def shV:List SC->Value->Bool
 |[c],v=>shC c v
 |l,.tuple a=>Ao9 l a.toList
 |_,_=>false
def shA (σ:List SC):AV->Bool
 | .lit v=>shV σ v
 |_=>false
def Ga (σ:List SC) (r:AV):Prop:=shA σ r=true
def gB:Value->Bool| .bool b=>b|_=>false
def gI:Value->Int| .int _ n=>n|_=>0
def gS:Value->ByteArray| .string s=>s|_=>ByteArray.empty
def gT:Value->Nat->Value
 | .tuple a,i=>a.toList.getD i undef
 | .agg a,i=>a.toList.getD i undef
 |_,_=>undef
def noK:SK->Value->Value
 | .b,v=> .bool (gB v)
 | .i,v=> .int .i64 (gI v)
 | .s,v=> .string (gS v)
theorem Aib:∀(k:SK) (v:Value),shK k v=true->noK k v=v
 | .b,.bool _,_=>rfl
 | .i,.int .i64 _,_=>rfl
 | .s,.string _,_=>rfl
def noL:List SK->Value->Nat->List Value
 |[],_,_=>[]
 |k::l,v,i=>noK k (gT v i)::noL l v (i+1)
def noC:SC->Value->Value
 | .one k,v=>noK k v
 | .agg l,v=> .agg (noL l v 0).toArray
def AdK:List SC->Value->Nat->List Value
 |[],_,_=>[]
 |k::l,v,i=>noC k (gT v i)::AdK l v (i+1)
def Hi:List SC->Value->Value
 |[c],v=>noC c v
 |l,v=> .tuple (AdK l v 0).toArray
theorem Aic {v:Value} {a:List Value} (hv:∀i,gT v i=a.getD i undef):∀(l:List SK) (i:Nat),shL l (a.drop i)=true->noL l v i=a.drop i
 |[],i,h=>by
  cases hd:a.drop i with
  |nil=>rfl
  |cons x y=>rw[hd] at h;cases h
 |k::l,i,h=>by
  cases hd:a.drop i with
  |nil=>rw[hd] at h;cases h
  |cons x y=>
   rw[hd] at h
   obtain⟨h1,h2⟩:=Bool.and_eq_true_iff.1 h
   have hy:y=a.drop (i+1):=by rw[<-List.drop_drop,hd];rfl
   have hx:gT v i=x:=by
    rw[hv i]
    have:(a.drop i)[0]?=some x:=by rw[hd];rfl
    rw[List.getElem?_drop] at this
    simp only[Nat.add_zero] at this
    simp[this]
   unfold noL
   rw[hx,Aib k x h1,Aic hv l (i+1) (by rw[<-hy];exact h2),<-hy]
theorem Aia:∀(c:SC) (v:Value),shC c v=true->noC c v=v
 | .one k,v,h=>Aib k v h
 | .agg l,.agg a,h=>by
  have:=Aic (v:= .agg a) (a:=a.toList) (λ_=>rfl) l 0 (by simpa [shC] using h)
  show Value.agg (noL l (.agg a) 0).toArray=_
  rw[this];simp
theorem qA {v:Value} {a:List Value} (hv:∀i,gT v i=a.getD i undef):∀(l:List SC) (i:Nat),Ao9 l (a.drop i)=true->AdK l v i=a.drop i
 |[],i,h=>by
  cases hd:a.drop i with
  |nil=>rfl
  |cons x y=>rw[hd] at h;cases h
 |k::l,i,h=>by
  cases hd:a.drop i with
  |nil=>rw[hd] at h;cases h
  |cons x y=>
   rw[hd] at h
   obtain⟨h1,h2⟩:=Bool.and_eq_true_iff.1 h
   have hy:y=a.drop (i+1):=by rw[<-List.drop_drop,hd];rfl
   have hx:gT v i=x:=by
    rw[hv i]
    have:(a.drop i)[0]?=some x:=by rw[hd];rfl
    rw[List.getElem?_drop] at this
    simp only[Nat.add_zero] at this
    simp[this]
   unfold AdK
   rw[hx,Aia k x h1,qA hv l (i+1) (by rw[<-hy];exact h2),<-hy]
theorem Aah:∀(l:List SC) (v:Value),shV l v=true->Hi l v=v
 |[c],v,h=>Aia c v h
 |[],.tuple a,h=>by
  have:=qA (v:= .tuple a) (a:=a.toList) (λ_=>rfl) [] 0 (by simpa [shV] using h)
  show Value.tuple (AdK [] (.tuple a) 0).toArray=_
  rw[this];simp
 |c1::c2::l,.tuple a,h=>by
  have:=qA (v:= .tuple a) (a:=a.toList) (λ_=>rfl) (c1::c2::l) 0 (by simpa [shV] using h)
  show Value.tuple (AdK (c1::c2::l) (.tuple a) 0).toArray=_
  rw[this];simp
noncomputable def Kp (f:FuncId) (σ:List SC) (args:List AV):Value:=Classical.epsilon λv=>shV σ v=true/\AF Tryz.prog f args (.lit v)
noncomputable def cho (f:FuncId) (σ:List SC) (args:List AV):Value:=Hi σ (Kp f σ args)
theorem Bn {f:FuncId} {σ:List SC} {args:List AV} (h:∃r,Ga σ r/\AF Tryz.prog f args r):AF Tryz.prog f args (.lit (cho f σ args)):=by
 obtain⟨r,h1,h2⟩:=h
 have key:∃v,shV σ v=true/\AF Tryz.prog f args (.lit v):=by
  cases r with
  |lit v=>exact⟨v,h1,h2⟩
  |_=>cases h1
 obtain⟨h3,h4⟩:=Classical.epsilon_spec key
 unfold cho Kp
 rw[Aah σ _ h3]
 exact h4
theorem Dx {G:Prop} {f:FuncId} {σ:List SC} {args:List AV} {v0:Value} (h:AF Tryz.prog f args (.lit (Hi σ v0))) (k:∀v,AF Tryz.prog f args (.lit (Hi σ v))->G):G:=k _ h
theorem Bc {σ:List SC} (h:shA σ ((Tb Tryz.prog fn0 c.s).getD .top)=true:=by kernel_rfl) (hv:(Tb Tryz.prog fn0 c.s).isSome=true:=by kernel_rfl) (hn:c.isE=true:=by kernel_rfl):TE fn0 (Ga σ) ⟨c,[]⟩:=by
 cases he:Tb Tryz.prog fn0 c.s with
 |none=>rw[he] at hv;cases hv
 |some V=>rw[he] at h;exact Od h he hn
noncomputable def chP (f:FuncId) (σ:List SC) (args:List AV) (ψ:AV->Prop):Value:=Classical.epsilon λv=>(shV σ v=true/\ψ (.lit v))/\AF Tryz.prog f args (.lit v)
theorem Ov {f:FuncId} {σ:List SC} {args:List AV} {ψ:AV->Prop} (h:∃r,(Ga σ r/\ψ r)/\AF Tryz.prog f args r):AF Tryz.prog f args (.lit (Hi σ (chP f σ args ψ)))/\ψ (.lit (Hi σ (chP f σ args ψ))):=by
 obtain⟨r,⟨h1,h3⟩,h2⟩:=h
 have key:∃v,(shV σ v=true/\ψ (.lit v))/\AF Tryz.prog f args (.lit v):=by
  cases r with
  |lit v=>exact⟨v,⟨h1,h3⟩,h2⟩
  |_=>cases h1
 obtain⟨⟨h3,h5⟩,h4⟩:=Classical.epsilon_spec key
 unfold chP
 rw[Aah σ _ h3]
 exact⟨h4,h5⟩
theorem Fc {σ:List SC} {ψ:AV->Prop} (V:AV) (h:ψ V) (hs:shA σ V=true:=by kernel_rfl) (hv:Tb Tryz.prog fn0 c.s=some V:=by kernel_rfl) (hn:c.isE=true:=by kernel_rfl):TE fn0 (λr=>Ga σ r/\ψ r) ⟨c,[]⟩:=Od ⟨hs,h⟩ hv hn
end Go.Proofs.YtkpjchfniejdoaaGreatDoor
namespace Go.Proofs.YtkpjchfniejdoaaGreatDoor
open Go.Proofs.Tryz
open Go.RowKit
abbrev Du (n:Nat):AV:= .slc 1 (Aj n).length λi=> .lit (.int .u64 (dg (Aj n) i:Int))
abbrev Dj (b:Bool) (n:Nat):AV:= .agg [.bool b,Du n]
theorem AeB (l:List Nat) {i:Nat} (h:i<l.length):(Hp l).getD i undef= .int .u64 (dg l i:Int):=by
 rw[Γ,Dn l i h];rfl
theorem Pk {E':As} {w':World} {lo hi n:Nat} {v:Value} (h:Bs w' lo hi v n) (hw:E'.w=w') (hD:∀b,lo<=b->b<hi->E'.D b):VR E' (Du n) v:=by
 have h1:=h.2
 obtain⟨A,c,rfl⟩:=h.1.slice
 refine .slc _ _ _ _ _ _ h1 (Ms h.1 hw (λb hb=>hD b hb.1 hb.2) λi j hi hj=>?_)
 obtain rfl:j=0:=by omega
 rw[Nat.mul_one,Nat.add_zero,AeB _ hi]
 exact .lit _ _
theorem qX {E:As} {e n:Nat} {f:Nat->AV} {v:Value} (h:VR E (.slc e n f) v):∃a c,v= .slice a n c/\n<=c/\VR E (.sl e n f) v:=by
 cases h with
 |slc _ _ _ _ a c hnc h=>exact⟨a,c,rfl,hnc,h⟩
theorem Aa3 {E:As} {e n:Nat} {f:Nat->AV} {v:Value} (h:VR E (.sl e n f) v):(n=0/\∃a c,v= .slice a 0 c)\/∃b q c,∃us:Nat->Nat->Value,v= .slice (some ⟨b,q,none⟩) n c/\E.D b/\(∀i j,i<n->j<e->E.w.cell? ⟨b,q+i*e+j,none⟩=some (us i j))/\∀i j,i<n->j<e->VR E.fz ((f i).cell j) (us i j):=by
 cases h with
 |sl0 _ _ _ a c=>exact .inl ⟨rfl,a,c,rfl⟩
 |sl _ _ _ _ b q c us hn hD hc hr=>exact .inr ⟨b,q,c,us,rfl,hD,hc,hr⟩
theorem Ny {E:As} {n:Nat} {v:Value} (hb:∀b,E.D b->b<E.w.heap.size) (h:VR E.fz (Du n) v):∃lo hi,Bs E.w lo hi v n/\hi<=E.w.heap.size/\∀b,lo<=b->b<hi->E.D b:=by
 obtain⟨a,c,rfl,hnc,h⟩:=qX h
 rcases Aa3 h with⟨h0,a',c',e⟩|⟨b,q,c',us,e,hD,hc,hr⟩
 exact⟨0,0,⟨⟨by rw[Cv,Nat.mul_one],.inl ⟨a,c,by rw[h0],h0⟩⟩,hnc⟩,Nat.zero_le _,λb _ h=>absurd h (Nat.not_lt_zero b)⟩
 cases e
 refine⟨b,b+1,⟨⟨by rw[Cv,Nat.mul_one],.inr ⟨b,q,c,rfl,⟨Nat.le_refl _,Nat.lt_succ_self _⟩,λj u hu=>?_⟩⟩,hnc⟩,hb b hD,λb' h1 h2=>?_⟩
 have hj:j<(Aj n).length:=by rw[<-Cv];exact(List.getElem?_eq_some_iff.1 hu).1
 have h1:=hc j 0 hj ω
 have h2:=hr j 0 hj ω
 rw[Nat.mul_one,Nat.add_zero] at h1
 have h3:us j 0= .int .u64 (dg (Aj n) j:Int):=VR.lit_inv h2
 rw[h3] at h1
 rw[Dn _ _ hj] at hu
 cases hu
 exact h1
 obtain rfl:b'=b:=by omega
 exact hD
theorem xV {f:FuncId} {args args':List AV} {r r':AV} (h:AF Tryz.prog f args r) (hl:args'.length=args.length) (ha:∀i,i<args.length->∀E v,VR E (args'.getD i .top) v->VR E (args.getD i .top) v) (hr:∀E v,VR E r v->VR E r' v):AF Tryz.prog f args' r':=λE vs hD hn hv=>by
 refine Calls.mono (h E vs hD ω λi hi=>ha i hi _ _ (hv i ω)) ?_
 rintro e w' ⟨v,D',h1,h2,h3⟩
 exact⟨v,D',h1,hr _ _ h2,h3⟩
theorem Anj {vs:Array Value} (h:vs.size=1):vs=#[vs.getD 0 undef]:=by
 obtain⟨l⟩:=vs
 match l,h with
 |[a],_=>rfl
theorem arr2 {vs:Array Value} (h:vs.size=2):vs=#[vs.getD 0 undef,vs.getD 1 undef]:=by
 obtain⟨l⟩:=vs
 match l,h with
 |[a,b],_=>rfl
theorem Ey (n m:Nat):(Aj (n*m)).length<=(Aj n).length+(Aj m).length:=Di (by rw[Nat.pow_add];exact Nat.mul_lt_mul'' Ud Ud)
theorem Abs (n m:Nat):(Aj (n+m)).length<=(Aj n).length+(Aj m).length+1:=by
 refine Di ?_
 have h1:=@Ud n
 have h2:=@Ud m
 have h3:Bw^(Aj n).length<=Bw^((Aj n).length+(Aj m).length):=Nat.pow_le_pow_right (by rw[Py];decide) ω
 have h4:Bw^(Aj m).length<=Bw^((Aj n).length+(Aj m).length):=Nat.pow_le_pow_right (by rw[Py];decide) ω
 rw[Nat.pow_succ]
 have h5:2<=Bw:=by rw[Py];decide
 have h6:=Nat.mul_le_mul_left (Bw^((Aj n).length+(Aj m).length)) h5
 omega
theorem pX (n m:Nat):(Aj (n-m)).length<=(Aj n).length:=Ge (Nat.sub_le _ _)
theorem dU (n m:Nat):(Aj (n/m)).length<=(Aj n).length:=Ge (Nat.div_le_self _ _)
theorem pV {n m:Nat} (h:0<m):(Aj (Nat.gcd n m)).length<=(Aj m).length:=Ge (Nat.gcd_le_right n h)
theorem pW (n s:Nat):(Aj (n*2^s)).length<=(Aj n).length+(s/64+1):=by
 refine Nat.le_trans (Ey _ _) (Nat.add_le_add_left (Di ?_) _)
 rw[Py,show (18446744073709551616:Nat)=2^64 by decide,<-Nat.pow_mul]
 exact Nat.pow_lt_pow_right δ ω
theorem AaN (n m:Nat) (hn:(Aj n).length<=900000) (hm:(Aj m).length<=900000):AF Tryz.prog 233 [Du n,Du m] (Du (n+m)):=Th λE vs hD hsz hv=>by
 obtain⟨l0,u0,h0,g0,d0⟩:=Ny hD (hv 0 (by simp))
 obtain⟨l1,u1,h1,g1,d1⟩:=Ny hD (hv 1 (by simp))
 rw[arr2 hsz]
 refine(Akl n m _ _ l0 u0 l1 u1 E.w h0 h1 g0 g1 ω ω).mono ?_
 rintro e w' ⟨v',rfl,h2,hb⟩
 exact⟨v',rfl,hb,λE' hw h3 h4=>Pk h2 hw λb p q=>h4 b p q⟩
theorem nZ (n m:Nat) (hn:(Aj n).length<=900000) (_:(Aj m).length<=900000) (hle:m<=n):AF Tryz.prog 235 [Du n,Du m] (Du (n-m)):=Th λE vs hD hsz hv=>by
 obtain⟨l0,u0,h0,g0,d0⟩:=Ny hD (hv 0 (by simp))
 obtain⟨l1,u1,h1,g1,d1⟩:=Ny hD (hv 1 (by simp))
 rw[arr2 hsz]
 refine(Zr n m _ _ l0 u0 l1 u1 E.w h0 h1 g0 g1 ω hle).mono ?_
 rintro e w' ⟨v',rfl,h2,hb⟩
 exact⟨v',rfl,hb,λE' hw h3 h4=>Pk h2 hw λb p q=>h4 b p q⟩
theorem AjQ (n m:Nat) (hn:(Aj n).length<=400000) (hm:(Aj m).length<=400000):AF Tryz.prog 253 [Du n,Du m] (Du (n*m)):=Th λE vs hD hsz hv=>by
 obtain⟨l0,u0,h0,g0,d0⟩:=Ny hD (hv 0 (by simp))
 obtain⟨l1,u1,h1,g1,d1⟩:=Ny hD (hv 1 (by simp))
 rw[arr2 hsz]
 refine(pY n m _ _ l0 u0 l1 u1 E.w h0 h1 g0 g1 ω ω).mono ?_
 rintro e w' ⟨v',rfl,h2,hb⟩
 exact⟨v',rfl,hb,λE' hw h3 h4=>Pk h2 hw λb p q=>h4 b p q⟩
theorem AjV (n s:Nat) (hn:(Aj n).length<=400000) (hs:s<=6400000):AF Tryz.prog 207 [Du n,.int (s:Int)] (Du (n*2^s)):=Th λE vs hD hsz hv=>by
 obtain⟨l0,u0,h0,g0,d0⟩:=Ny hD (hv 0 (by simp))
 have e1:vs.getD 1 undef= .int .i64 (s:Int):=VR.lit_inv (hv 1 (by simp))
 rw[arr2 hsz,e1]
 refine(qV n s _ l0 u0 E.w h0 g0 hn hs).mono ?_
 rintro e w' ⟨v',rfl,h2,hb⟩
 exact⟨v',rfl,hb,λE' hw h3 h4=>Pk h2 hw λb p q=>h4 b p q⟩
theorem Ni (n:Nat) (hn:(Aj n).length<=1000000):AF Tryz.prog 184 [Du n] (.int (bitLen n:Int)):=Th λE vs hD hsz hv=>by
 obtain⟨l0,u0,h0,g0,d0⟩:=Ny hD (hv 0 (by simp))
 rw[Anj hsz]
 refine(vO n _ l0 u0 E.w h0 hn).mono ?_
 rintro e w' ⟨rfl,rfl⟩
 exact⟨_,rfl,Below.refl _ _,λE' hw h3 h4=> .lit _ _⟩
theorem Kn (n:Nat) (hn:(be n).length<=400000):AF Tryz.prog 185 [Du n] (.lit (.string (Cz n))):=Th λE vs hD hsz hv=>by
 obtain⟨l0,u0,h0,g0,d0⟩:=Ny hD (hv 0 (by simp))
 rw[Anj hsz]
 refine(Ae1 n _ _ l0 u0 E.w h0 g0 rfl hn).mono ?_
 rintro e w' ⟨rfl,hb⟩
 exact⟨_,rfl,hb,λE' hw h3 h4=> .lit _ _⟩
theorem Xs (n:Nat) (hn:(be n).length<=400000):AF Tryz.prog 192 [.lit (.string (Cz n))] (Du n):=AjP (vs:=[_]) λw=>by
 refine(AhM n _ w rfl hn).mono ?_
 rintro e w' ⟨v',rfl,h2,hb⟩
 exact⟨v',rfl,hb,λE' hw h4=>Pk h2 hw λb p q=>h4 b p q⟩
theorem dJ (n m:Nat) (hn:(Aj n).length<=100000) (hm:(Aj m).length<=100000) (h0:0<m):AF Tryz.prog 236 [Du n,Du m] (.tup [Du (n/m),Du (n%m)]):=Th λE vs hD hsz hv=>by
 obtain⟨l0,u0,k0,g0,d0⟩:=Ny hD (hv 0 (by simp))
 obtain⟨l1,u1,k1,g1,d1⟩:=Ny hD (hv 1 (by simp))
 have hv0:=hv 0 (by simp)
 rw[arr2 hsz]
 refine(An5 n m _ _ l0 u0 l1 u1 E.w k0 k1 g0 g1 hn hm h0).mono ?_
 rintro e w' ⟨q,r,rfl,hq,hr,hb⟩
 refine⟨_,rfl,hb,λE' hw h3 h4=>Aqu (Pk hq hw λb p q=>h4 b p q) ?_⟩
 rcases hr with⟨hlt,rfl⟩|hr
 rw[Nat.mod_eq_of_lt hlt]
 refine hv0.up (As.fz_le_of h3 λb hb'=>?_)
 rw[hw]
 exact hb.block b (hD b hb')
 exact Pk hr hw λb p q=>h4 b p q
theorem An2 {n m k:Nat} (hA:k<(Aj n).length) (hB:k<(Aj m).length) (hd:(Aj n).drop (k+1)=(Aj m).drop (k+1)) (h:dg (Aj n) k<dg (Aj m) k):fD n m (-1):=by
 have:=Yn (Cr n) hA hB hd h
 rw[Cn,Cn] at this
 exact⟨ω,ω⟩
theorem An1 {n m k:Nat} (hA:k<(Aj n).length) (hB:k<(Aj m).length) (hd:(Aj n).drop (k+1)=(Aj m).drop (k+1)) (h:dg (Aj m) k<dg (Aj n) k):fD n m 1:=by
 have:=Yn (Cr m) hB hA hd.symm h
 rw[Cn,Cn] at this
 exact⟨ω,ω⟩
theorem An0 {n m:Nat} (h:(Aj n).drop 0=(Aj m).drop 0):fD n m 0:=by
 simp only[List.drop_zero] at h
 have:=Abt h
 subst this
 exact⟨ω,ω⟩
theorem Ak9 {n m:Nat} (hne:(Aj n).length≠(Aj m).length):fD n m (((Aj n).length:Int)-((Aj m).length:Int)):=by
 rcases Nat.lt_or_gt_of_ne hne with h|h
 have:=pT h;exact⟨ω,ω⟩
 have:=pT h;exact⟨ω,ω⟩
theorem Adh {n m k j:Nat} (hj:k+1=j) (hA:k<(Aj n).length) (hB:k<(Aj m).length) (hd:(Aj n).drop j=(Aj m).drop j) (h1:¬(dg (Aj n) k:Int)<(dg (Aj m) k:Int)) (h2:¬(dg (Aj m) k:Int)<(dg (Aj n) k:Int)):(Aj n).drop k=(Aj m).drop k:=lX hA hB (by rw[hj];exact hd) ω
theorem Ab2 (n:Nat) (y:Nat) (h0:(Aj n).length<=100000/\(Aj y).length<=100000):∃r,(Ga [.one .i] r/\(∀x,r= .int x->fD n y x))/\AF Tryz.prog 234 [Du n,Du y] r:=by
 refine Av func234 rfl ?_
 refine Ab 15 (AiU 10 (((Aj n).length:Int)=((Aj y).length:Int)) (λhx1 hx1d=>?_) (λhx1 hx1d=>?_))
 refine Ab 8 (gs (λh9=>Bo (.int .i64 (IntKind.wrap .i64 (((Aj n).length:Int)-1))) (.int .i64 (((Aj n).length:Int)-1)) h9 (congrArg (Value.int .i64) (IntWalk.i64_in _ ω))) (Ab 4 (Vr [0,1,5] (λm s=>∃j,m=j+1/\(j<=(Aj n).length/\(Aj n).length=(Aj y).length/\(Aj n).drop j=(Aj y).drop j)/\s=⟨[(0,Du n),(1,Du y),(5,.int ((j:Int)-1))],[],0,43⟩) ((Aj n).length+1) ⟨(Aj n).length,rfl,⟨Nat.le_refl _,ω,by rw[List.drop_of_length_le ζ,List.drop_of_length_le ω]⟩,κ⟩ ?_)))
 rintro _ _ ⟨j,rfl,hF,rfl⟩ hJ1
 refine Ab 7 (Hg 20 ((0:Int)<=(j:Int)-1) (λhx2 hx2d=>?_) (λhx2 hx2d=>?_))
 refine Ab 7 (gs (Cl [(2,Co (Du n) ((j:Int)-1).toNat,.none),(6,Co (Du y) ((j:Int)-1).toNat,.none)] [0,1,5,23] ⟨Ah6 ((j:Int)-1) ((j:Int)-1).toNat ((Aj n).length),Ah6 ((j:Int)-1) ((j:Int)-1).toNat ((Aj y).length),trivial⟩ ·) (Ab 1 (Hg 23 (((dg (Aj n) (((j:Int)-1).toNat):Nat):Int)<((dg (Aj y) (((j:Int)-1).toNat):Nat):Int)) (λhx3 hx3d=>?_) (λhx3 hx3d=>?_))))
 exact Ab 13 (Fc (.int (-1)) (λx hx=>by cases hx;exact An2 (k:=((j:Int)-1).toNat) ω ω (by rw[show ((j:Int)-1).toNat+1=j by omega];exact hF.2.2) ω))
 refine Ab 2 (gs (Cl [(2,Co (Du n) ((j:Int)-1).toNat,.none),(6,Co (Du y) ((j:Int)-1).toNat,.none)] [0,1,5,33] ⟨Ah6 ((j:Int)-1) ((j:Int)-1).toNat ((Aj n).length),Ah6 ((j:Int)-1) ((j:Int)-1).toNat ((Aj y).length),trivial⟩ ·) (Ab 1 (Hg 33 (((dg (Aj y) (((j:Int)-1).toNat):Nat):Int)<((dg (Aj n) (((j:Int)-1).toNat):Nat):Int)) (λhx4 hx4d=>?_) (λhx4 hx4d=>?_))))
 exact Ab 13 (Fc (.int 1) (λx hx=>by cases hx;exact An1 (k:=((j:Int)-1).toNat) ω ω (by rw[show ((j:Int)-1).toNat+1=j by omega];exact hF.2.2) ω))
 exact Ab 7 (gs (Dd ((j:Int)-1-1) (((((j:Int)-1).toNat:Nat):Int)-1) ·) (Ab 2 (nN [0,1,5] (hJ1 _ _ (by omega:((j:Int)-1).toNat+1<j+1) ⟨((j:Int)-1).toNat,rfl,⟨ω,hF.2.1,Adh (j:=j) ω ω ω hF.2.2 hx3d hx4d⟩,rfl⟩))))
 exact Ab 12 (Fc (.int 0) (λx hx=>by cases hx;exact An0 (by have:=hF.2.2;rw[show j=0 by omega] at this;exact this)))
 exact Ab 7 (gs (λh9=>Bo (.int .i64 (IntKind.wrap .i64 (((Aj n).length:Int)-((Aj y).length:Int)))) (.int .i64 (((Aj n).length:Int)-((Aj y).length:Int))) h9 (congrArg (Value.int .i64) (IntWalk.i64_in _ ω))) (Ab 5 (Fc (.int (((Aj n).length:Int)-((Aj y).length:Int))) (λx hx=>by cases hx;exact Ak9 ω))))
noncomputable def mR (n:Nat) (y:Nat):Value:=chP 234 [.one .i] [Du n,Du y] λr=>∀x,r= .int x->fD n y x
theorem AaO (n:Nat) (y:Nat) (h0:(Aj n).length<=100000/\(Aj y).length<=100000):AF Tryz.prog 234 [Du n,Du y] (.lit (Hi [.one .i] (mR n y))):=(Ov (Ab2 n y h0)).1
def Nr (b:Bool) (n:Nat) (c:Bool) (m:Nat):Bool:=if b=c then b else if m<=n then b else c
def Ma (b:Bool) (n:Nat) (c:Bool) (m:Nat):Nat:=if b=c then n+m else if m<=n then n-m else m-n
def Eu (b:Bool) (n m:Nat):Nat:=if (b&&decide (0<n%m))=true then n/m+1 else n/m
def oW (b:Bool) (n m:Nat):Nat:=if (b&&decide (0<n%m))=true then m-n%m else n%m
theorem Ic (b:Bool) (n:Nat) (c:Bool) (m:Nat):(Aj (Ma b n c m)).length<=(Aj n).length+(Aj m).length+1:=by
 unfold Ma
 split
 exact Abs n m
 split
 have:=pX n m;omega
 have:=pX m n;omega
theorem Ue:(Aj 1).length=1:=by rw[Abu];rfl
theorem Ls (b:Bool) (n m:Nat):(Aj (Eu b n m)).length<=(Aj n).length+2:=by
 have h:=dU n m
 unfold Eu
 split
 have:=Abs (n/m) 1;rw[Ue] at this;omega
 omega
theorem AhD (b:Bool) {n m:Nat} (h:0<m):(Aj (oW b n m)).length<=(Aj m).length:=by
 unfold oW
 split
 exact pX _ _
 exact Ge (Nat.le_of_lt (Nat.mod_lt _ h))
theorem Tp {n:Nat} (h:(Aj n).length<=40000):(be n).length<=400000:=by have:=Yy n;omega
theorem Yx {n:Nat} (h:0<n):0<(Aj n).length:=List.length_pos_iff.2 λe=>by have:=Mo.1 e;omega
theorem aP {n:Nat} (h:(Aj n).length=0):n=0:=Mo.1 (List.length_eq_zero_iff.1 h)
theorem AlY {E:As} {e n:Nat} {f g:Nat->AV} {v:Value} (h:VR E (.slc e n f) v) (hfg:∀i,i<n->f i=g i):VR E (.slc e n g) v:=by
 obtain⟨a,c,rfl,hnc,h⟩:=qX h
 refine .slc _ _ _ _ _ _ hnc ?_
 rcases Aa3 h with⟨rfl,a',c',e1⟩|⟨b,q,c',us,e1,hD,hc,hr⟩
 cases e1;exact .sl0 _ _ _ _ _
 cases e1
 by_cases h0:0<n
 exact .sl _ _ _ _ _ _ _ us h0 hD hc λi j hi hj=>by rw[<-hfg i hi];exact hr i j hi hj
 obtain rfl:n=0:=by omega
 exact .sl0 _ _ _ _ _
abbrev Aoq:AV:= .slc 1 1 λ_=> .lit (.int .u64 1)
theorem Ab9 {E:As} {v:Value} (h:VR E Aoq v):VR E (Du 1) v:=by
 have e:Du 1= .slc 1 1 λi=> .lit (.int .u64 (dg (Aj 1) i:Int)):=by unfold Du;rw[Ue]
 rw[e]
 exact AlY h λi hi=>by
  obtain rfl:i=0:=by omega
  rw[Abu];rfl
theorem rU (n:Nat) (hn:(Aj n).length<=800000):AF Tryz.prog 233 [Du n,Aoq] (Du (n+1)):=
 xV (AaN n 1 ω (by rw[Ue];decide)) rfl (λi hi E v h=>by
  match i,hi with
  |0,_=>exact h
  |1,_=>exact Ab9 h) λE v h=>h
theorem eT (n s:Nat) (t:Int) (ht:t=(s:Int)) (hn:(Aj n).length<=400000) (hs:s<=6400000):AF Tryz.prog 207 [Du n,.int t] (Du (n*2^s)):=by subst ht;exact AjV n s hn hs
theorem rV (s:Nat) (t:Int) (ht:t=(s:Int)) (hs:s<=6400000):AF Tryz.prog 207 [Aoq,.int t] (Du (1*2^s)):=
 xV (eT 1 s t ht (by rw[Ue];decide) hs) rfl (λi hi E v h=>by
  match i,hi with
  |0,_=>exact Ab9 h
  |1,_=>exact h) λE v h=>h
theorem Da (z:Int) (hz:Cb z):AF Tryz.prog 188 [WA z] (Dj (decide (z<0)) z.natAbs):=by
 have hd:=hz.digits
 refine Au func188 rfl λB D0 hA0=>?_
 exact Ae 7 (Cl [(4,_,.none)] [2] ⟨Be (Xs z.natAbs (Tp ω)),trivial⟩ (Ae 2 (Cm)))
theorem Vj (b:Bool) (n:Nat):AF Tryz.prog 190 [Dj b n] (Dj (!b) n):=by
 refine Au func190 rfl λB D0 hA0=>?_
 exact Ae 18 (Cm)
theorem Qs (b:Bool) (n:Nat) (c:Bool) (m:Nat) (hn:(Aj n).length<=30000) (hm:(Aj m).length<=30000):AF Tryz.prog 222 [Dj b n,Dj c m] (Dj (!decide (b=c)) (n*m)):=by
 refine Au func222 rfl λB D0 hA0=>?_
 exact Ae 8 (Cl [(4,.bool (!decide (b=c)),.none),(9,_,.none)] [4] ⟨Bk (.bool (!decide (b=c))) rfl,Be (AjQ n m ω ω),trivial⟩ (Ae 2 (Cm)))
theorem Ab3 {n m:Nat} (h:(Aj n).length<=100000/\(Aj m).length<=100000):0<=gI (mR n m)↔m<=n:=by
 have:=(Ov (Ab2 n m h)).2 _ rfl
 have h1:=this.lt
 have h2:=this.gt
 constructor
 intro h3;exact Nat.le_of_not_lt λh4=>by have:=h1.2 h4;exact absurd (show (0:Int)<=gI (mR n m) from h3) (by have:gI (mR n m)<0:=this;omega)
 intro h3;exact Int.not_lt.1 λh4=>by have:=h1.1 h4;omega
theorem Af2 (b:Bool) (n m:Nat) (hn:(Aj n).length<=30000) (hm:(Aj m).length<=30000):AF Tryz.prog 189 [Dj b n,Dj b m] (Dj b (n+m)):=by
 refine Au func189 rfl λB D0 hA0=>?_
 exact Ae 15 (Bo (.bool (decide (b=b))) (.bool (decide (b=b))) (Ae 3 (La 5 (decide (b=b)) true (decide_eq_true rfl) (Ae 2 (Cl [(6,_,.none)] [4] ⟨Be (AaN n m ω ω),trivial⟩ (Ae 4 (Cm)))))))
theorem Af3 (b:Bool) (n:Nat) (c:Bool) (m:Nat) (hn:(Aj n).length<=30000) (hm:(Aj m).length<=30000) (h:decide (b=c)=false) (hle:m<=n):AF Tryz.prog 189 [Dj b n,Dj c m] (Dj b (n-m)):=by
 have hc:=decide_eq_true ((Ab3 ⟨(by omega:(Aj n).length<=100000),(by omega:(Aj m).length<=100000)⟩).2 hle)
 refine Au func189 rfl λB D0 hA0=>?_
 exact Ae 15 (Bo (.bool (decide (b=c))) (.bool (decide (b=c))) (Ae 3 (La 5 (decide (b=c)) false h (Ae 7 (Ao (AaO n m ω) (Ae 4 (La 19 (decide ((0:Int)<=(gI (mR n m)))) true hc (Ae 2 (Cl [(6,_,.none)] [4] ⟨Be (nZ n m ω ω ω),trivial⟩ (Ae 4 (Cm)))))))))))
theorem Af4 (b:Bool) (n:Nat) (c:Bool) (m:Nat) (hn:(Aj n).length<=30000) (hm:(Aj m).length<=30000) (h:decide (b=c)=false) (hle:¬m<=n):AF Tryz.prog 189 [Dj b n,Dj c m] (Dj c (m-n)):=by
 have hc:=decide_eq_false (λh=>hle ((Ab3 ⟨(by omega:(Aj n).length<=100000),(by omega:(Aj m).length<=100000)⟩).1 h))
 refine Au func189 rfl λB D0 hA0=>?_
 exact Ae 15 (Bo (.bool (decide (b=c))) (.bool (decide (b=c))) (Ae 3 (La 5 (decide (b=c)) false h (Ae 7 (Ao (AaO n m ω) (Ae 4 (La 19 (decide ((0:Int)<=(gI (mR n m)))) false hc (Ae 5 (Cl [(6,_,.none)] [4] ⟨Be (nZ m n ω ω ω),trivial⟩ (Ae 2 (Cm)))))))))))
theorem Nh (b:Bool) (n:Nat) (c:Bool) (m:Nat) (hn:(Aj n).length<=30000) (hm:(Aj m).length<=30000):AF Tryz.prog 189 [Dj b n,Dj c m] (Dj (Nr b n c m) (Ma b n c m)):=by
 unfold Nr Ma
 by_cases h:b=c
 subst h;rw[if_pos rfl,if_pos rfl];exact Af2 b n m hn hm
 rw[if_neg h,if_neg h]
 by_cases hle:m<=n
 rw[if_pos hle,if_pos hle];exact Af3 b n c m hn hm (decide_eq_false h) hle
 rw[if_neg hle,if_neg hle];exact Af4 b n c m hn hm (decide_eq_false h) hle
theorem Aie (b:Bool) (n:Nat):∃r,Ga [.one .i] r/\AF Tryz.prog 191 [Dj b n] r:=by
 refine Av func191 rfl ?_
 refine Ab 17 (Hg 3 (((Aj n).length:Int)=0) (λhx1 hx1d=>?_) (λhx1 hx1d=>?_))
 exact Ab 9 (Bc)
 refine Ab 8 (Ev 8 ?_ ?_)
 exact Ab 9 (Bc)
 exact Ab 10 (Bc)
noncomputable def Aog (b:Bool) (n:Nat):Value:=Kp 191 [.one .i] [Dj b n]
theorem Af8 (b:Bool) (n:Nat):AF Tryz.prog 191 [Dj b n] (.lit (Hi [.one .i] (Aog b n))):=Bn (Aie b n)
theorem Aif (b:Bool) (n:Nat) (h0:(Aj n).length<=30000):∃r,Ga [.agg [.b,.s],.one .i] r/\AF Tryz.prog 146 [Dj b n] r:=by
 refine Av func146 rfl ?_
 refine Ab 12 (gs (Ao (Ni n ω) ·) (Ab 3 (Hg 7 ((65536:Int)<(bitLen n:Int)) (λhx1 hx1d=>?_) (λhx1 hx1d=>?_))))
 exact Ab 10 (Bc)
 refine Ab 4 ?_
 refine Ec b (λhx2=>?_) (λhx2=>?_)
 exact gs (Cl [(1,.bool true,(.read 0)),(10,_,.none)] [2,3] ⟨kbE hx2,Be (Kn n (Tp ω)),trivial⟩ ·) (Ab 2 (Bc))
 exact gs (Cl [(1,.bool false,(.read 0)),(10,_,.none)] [2,3] ⟨kbE hx2,Be (Kn n (Tp ω)),trivial⟩ ·) (Ab 2 (Bc))
noncomputable def Aoj (b:Bool) (n:Nat):Value:=Kp 146 [.agg [.b,.s],.one .i] [Dj b n]
theorem Nj (b:Bool) (n:Nat) (h0:(Aj n).length<=30000):AF Tryz.prog 146 [Dj b n] (.lit (Hi [.agg [.b,.s],.one .i] (Aoj b n))):=Bn (Aif b n h0)
theorem Af5 (n:Nat) (c:Bool) (m:Nat) (hn:(Aj n).length<=30000) (hm:(Aj m).length<=30000) (hm0:0<m) (h:decide ((0:Int)<((Aj (n%m)).length:Int))=true):AF Tryz.prog 208 [Dj true n,Dj c m] (.tup [Dj (!decide (true=c)) (n/m+1),Dj false (m-n%m)]):=by
 have hq:=dU n m
 have hr:=Ge (Nat.le_of_lt (Nat.mod_lt n hm0))
 refine Au func208 rfl λB D0 hA0=>?_
 exact Ae 14 (Ao (dJ n m ω ω ω) (Ae 19 (La 22 (decide ((0:Int)<((Aj (n%m)).length:Int))) true h (Ae 1 (Cl [(1,.osl 4 1 1,(.new 4 (.vec 151 1 1 (λ_=> .lit (.int .u64 1))))),(2,Du ((n/m)+1),(.drop 4)),(6,_,.none)] [2,3,4,5,6,7] ⟨Br (Db 226 1 #[(0,(.const (.int .u64 1)))] κ underlying226 1 sizeOf151 _ zeroValue151 κ β β β 4 [.lit (.int .u64 1)] κ (λ_=> .lit (.int .u64 1)) κ),Br (Gj 233 #[.tmp 23,.tmp 24] #[226,226] κ (λ_ _=>by kernel_rfl) 4 (.vec 151 1 1 (λ_=> .lit (.int .u64 1))) κ (λ_ _ _ _ h=>by cases h;exact(Df λ_ _=>rfl)) [Du (n/m),.osl 4 1 1] κ [Du (n/m),.slc 1 1 (λ_=> .lit (.int .u64 1))] κ (Du ((n/m)+1)) (rU (n/m) ω)),Be (nZ m (n%m) ω ω (Nat.le_of_lt (Nat.mod_lt _ hm0))),trivial⟩ (Ae 7 (Bo (.bool (!decide (true=c))) (.bool (!decide (true=c))) (Ae 9 (Cm)))))))))
theorem Af6 (n:Nat) (c:Bool) (m:Nat) (hn:(Aj n).length<=30000) (hm:(Aj m).length<=30000) (hm0:0<m) (h:decide ((0:Int)<((Aj (n%m)).length:Int))=false):AF Tryz.prog 208 [Dj true n,Dj c m] (.tup [Dj (!decide (true=c)) (n/m),Dj false (n%m)]):=by
 have hq:=dU n m
 have hr:=Ge (Nat.le_of_lt (Nat.mod_lt n hm0))
 refine Au func208 rfl λB D0 hA0=>?_
 exact Ae 14 (Ao (dJ n m ω ω ω) (Ae 19 (La 22 (decide ((0:Int)<((Aj (n%m)).length:Int))) false h (Ae 9 (Bo (.bool (!decide (true=c))) (.bool (!decide (true=c))) (Ae 9 (Cm)))))))
theorem Af7 (n:Nat) (c:Bool) (m:Nat) (hn:(Aj n).length<=30000) (hm:(Aj m).length<=30000) (hm0:0<m):AF Tryz.prog 208 [Dj false n,Dj c m] (.tup [Dj (!decide (false=c)) (n/m),Dj false (n%m)]):=by
 have hq:=dU n m
 have hr:=Ge (Nat.le_of_lt (Nat.mod_lt n hm0))
 refine Au func208 rfl λB D0 hA0=>?_
 exact Ae 14 (Ao (dJ n m ω ω ω) (Ae 28 (Bo (.bool (!decide (false=c))) (.bool (!decide (false=c))) (Ae 9 (Cm)))))
theorem Ja (b:Bool) (n:Nat) (c:Bool) (m:Nat) (hn:(Aj n).length<=30000) (hm:(Aj m).length<=30000) (hm0:0<m):AF Tryz.prog 208 [Dj b n,Dj c m] (.tup [Dj (!decide (b=c)) (Eu b n m),Dj false (oW b n m)]):=by
 unfold Eu oW
 cases b with
 |false=>exact Af7 n c m hn hm hm0
 |true=>
  by_cases h:0<n%m
  have hl:=Yx h
  have e:(true&&decide (0<n%m))=true:=by rw[decide_eq_true h];rfl
  rw[if_pos e,if_pos e]
  exact Af5 n c m hn hm hm0 (decide_eq_true ω)
  have e:¬(true&&decide (0<n%m))=true:=by rw[decide_eq_false h];decide
  rw[if_neg e,if_neg e]
  exact Af6 n c m hn hm hm0 (decide_eq_false λg=>h (Nat.pos_of_ne_zero λe0=>by rw[e0,Ct] at g;exact absurd g δ))
theorem AdJ {a b G:Nat} (h:Nat.gcd a b=G) (hl:(Aj b).length<=30000) (hb:0<b):Nat.gcd b (a%b)=G/\(Aj b).length<=30000/\(Aj (a%b)).length<=30000:=⟨by rw[<-h,Nat.gcd_comm a b,Nat.gcd_rec b a,Nat.gcd_comm],hl,Nat.le_trans (Ge (Nat.le_of_lt (Nat.mod_lt _ hb))) hl⟩
theorem AhZ {a b G:Nat} (h:Nat.gcd a b=G) (hb:b=0):a=G:=by rw[hb,Nat.gcd_zero_right] at h;exact h
theorem uF {n:Nat} (h:0<(Aj n).length):0<n:=Nat.pos_of_ne_zero λe=>by rw[e,Ct] at h;exact absurd h δ
theorem dK (n k:Nat) (hn:(Aj n).length<=30000) (hm:(Aj k).length<=30000):AF Tryz.prog 193 [Du n,Du k] (Du (Nat.gcd n k)):=by
 refine Au func193 rfl λB D0 hA0=>?_
 refine Ae 7 (vlp [0,1] (λm s=>∃a b,m=b+1/\(Nat.gcd a b=Nat.gcd n k/\(Aj a).length<=30000/\(Aj b).length<=30000)/\s=⟨[(0,Du a),(1,Du b)],[],0,19⟩) (k+1) ⟨n,k,rfl,⟨rfl,hn,hm⟩,κ⟩ ?_)
 rintro _ _ ⟨a,b,rfl,hF,rfl⟩ J1 hJ1
 refine Ae 8 (Fy 9 ((0:Int)<((Aj b).length:Int)) (λhx1 hx1d=>?_) (λhx1 hx1d=>?_))
 ·
  refine Ae 4 ?_
  have hb0:0<b:=uF ω
  have hb1:=Nat.mod_lt a hb0
  exact Ae 4 (Ao (dJ a b ω ω hb0) (Ae 14 (rE [0,1] (hJ1 _ _ (by omega:(a%b)+1<b+1) ⟨b,a%b,rfl,AdJ hF.1 hF.2.2 hb0,rfl⟩))))
 ·
  exact Ae 13 (Eb (Du a) (congrArg Du (AhZ hF.1 (aP ω))))
structure Rw where
 neg:Bool
 mag:ByteArray
abbrev Fv (w:Rw):AV:= .lit (.agg #[.bool w.neg,.string w.mag])
def Jg (w:Rw):Bool:=if h:0<w.mag.size then decide ((w.mag[0]'h).toNat≠0)&&decide (w.mag.size<=8192) else !w.neg
theorem wN (ng:Bool) (s:ByteArray) (w:World):Calls Tryz.prog 197 #[.agg #[.bool ng,.string s]] w λe w'=>e= .returned (.bool (Jg ⟨ng,s⟩))/\Below w.heap.size w w':=by
 have hbw:Below w.heap.size w (w.alloc (.cells #[.bool ng,.string s] 197)):=Ψ.alloc ζ _
 have HBW:=Δ hbw
 clear hbw
 by_cases hn0:s.size=0
 ·
  have he:s.toList.isEmpty=true:=by
   rw[ByteArray.toList_eq]
   have:s.data.toList.length=0:=by rw[Array.length_toList];exact hn0
   rw[List.length_eq_zero_iff.1 this];rfl
  have HR:Hid (Jg ⟨ng,s⟩= !ng):=by unfold Hid Jg;rw[dif_neg (by simpa using hn0)]
  rw[HR.out]
  clear hn0 HR
  go_enter func197,ntmps197
  go_wp2_with fail
  go_ret
  exact⟨rfl,HBW.out⟩
 ·
  have he:s.toList.isEmpty=false:=by
   rw[ByteArray.toList_eq]
   have:s.data.toList.length≠0:=by rw[Array.length_toList];exact hn0
   cases h:s.data.toList with
   |nil=>rw[h] at this;exact absurd rfl this
   |cons _ _=>rfl
  have hps:0<s.size:=Nat.pos_of_ne_zero hn0
  have HR:Hid (Jg ⟨ng,s⟩=(decide ((s[0]'hps).toNat≠0)&&decide (s.size<=8192))):=by unfold Hid Jg;rw[dif_pos hps]
  rw[HR.out]
  clear hn0 HR
  obtain⟨L,hL⟩:∃L,L=s.size:=⟨_,rfl⟩
  rw[<-hL]
  have hLs:(s.size:Int)=(L:Int):=by omega
  by_cases hx0:(s[0]'hps).toNat=0
  ·
   have HR:Hid ((decide ((s[0]'hps).toNat≠0)&&decide (L<=8192))=false):=by unfold Hid;rw[decide_eq_false (by simpa using hx0)];rfl
   rw[HR.out]
   have hxb:(((s[0]'hps).toNat:Int) != 0)=false:=by simp[hx0]
   clear hx0 HR
   go_enter func197,ntmps197
   go_wp2_with fail
   go_ret
   exact⟨rfl,HBW.out⟩
  ·
   have HR:Hid ((decide ((s[0]'hps).toNat≠0)&&decide (L<=8192))=decide ((L:Int)<=8192)):=by
    unfold Hid
    rw[decide_eq_true (by simpa using hx0)]
    exact decide_eq_decide.2 ω
   rw[HR.out]
   have hxb:(((s[0]'hps).toNat:Int) != 0)=true:=by simp[hx0]
   clear hx0 HR
   go_enter func197,ntmps197
   go_wp2_with fail
   go_ret
   exact⟨rfl,HBW.out⟩
theorem Gi (a:Rw):AF Tryz.prog 197 [Fv a] (.bool (Jg a)):=nY (vs:=[_]) λw=>wN a.neg a.mag w
theorem Lw {a:Rw} (h:Jg a=true):∃z,Cb z/\Fv a=WA z:=by
 obtain⟨ng,s⟩:=a
 unfold Jg at h
 split at h
 rename_i hps
 rw[Bool.and_eq_true,decide_eq_true_eq,decide_eq_true_eq] at h
 obtain⟨h1,h2⟩:=h
 have hhd:s.data.toList.head?≠some 0:=λe=>by
  have e2:s.data.toList[0]?=some 0:=by rw[<-List.head?_eq_getElem?];exact e
  have hp:0<s.data.toList.length:=by rw[Array.length_toList];exact hps
  rw[List.getElem?_eq_getElem hp] at e2
  have e3:s.data.toList[0]=0:=Option.some.inj e2
  apply h1
  show (s.data[0]'hps).toNat=0
  rw[show s.data[0]'hps=s.data.toList[0] from rfl,e3];rfl
 have hb:=Ann hhd
 obtain⟨n,hn⟩:∃n,n=wR s.data.toList:=⟨_,rfl⟩
 rw[<-hn] at hb
 have hs:Cz n=s:=by unfold Cz;rw[hb]
 have hn0:n≠0:=λe=>by
  rw[e,Je] at hb
  have:s.data.toList.length=0:=by rw[<-hb];rfl
  rw[Array.length_toList] at this
  have h3:0<s.data.size:=hps
  omega
 have hlen:(be n).length<=8192:=by rw[hb,Array.length_toList];exact h2
 rw[Vn] at hlen
 have hf:bitLen n<=65536:=by omega
 cases ng with
 |true=>exact⟨-(n:Int),by unfold Cb;simpa using hf,by show AV.lit (.agg #[.bool true,.string s])= .lit (Al (-(n:Int)));unfold Al;rw[Int.natAbs_neg,Int.natAbs_natCast,hs,decide_eq_true ω]⟩
 |false=>exact⟨(n:Int),by unfold Cb;simpa using hf,by show AV.lit (.agg #[.bool false,.string s])= .lit (Al (n:Int));unfold Al;rw[Int.natAbs_natCast,hs,decide_eq_false ω]⟩
 rename_i hps
 have hng:ng=false:=by simpa using h
 subst hng
 have hs:s=Cz 0:=by
  rw[To]
  obtain⟨⟨l⟩⟩:=s
  have:l.length=0:=by have h3:¬0<l.length:=hps;omega
  rw[List.length_eq_zero_iff.1 this]
 refine⟨0,by unfold Cb;decide,?_⟩
 show AV.lit (.agg #[.bool false,.string s])= .lit (Al 0)
 rw[hs];rfl
theorem Alj {z:Int} (h:Cb z):Jg ⟨decide (z<0),Cz z.natAbs⟩=true:=by
 unfold Jg
 have hl:(Cz z.natAbs).size=(be z.natAbs).length:=by simp[Cz,ByteArray.size]
 by_cases hp:0<(Cz z.natAbs).size
 have hn:z.natAbs≠0:=λe=>by rw[hl,e,Je] at hp;exact absurd hp δ
 have h1:=Ags hn ω
 have h2:=h.bytes
 rw[dif_pos hp,Bool.and_eq_true,decide_eq_true_eq,decide_eq_true_eq]
 exact⟨h1,by show (Cz z.natAbs).size<=8192;omega⟩
 rw[dif_neg hp]
 have h0:z.natAbs=0:=Nat.eq_zero_of_not_pos λg=>by
  have:=@lS z.natAbs
  rw[sP,decide_eq_false ω] at this
  cases hb:be z.natAbs with
  |nil=>rw[hb] at this;cases this
  |cons a l=>rw[hb] at hl;simp at hl;omega
 obtain rfl:z=0:=by omega
 rfl
theorem Eh (x:Int) (hx:Cb x):AF Tryz.prog 197 [WA x] (.bool true):=by
 have:=Gi ⟨decide (x<0),Cz x.natAbs⟩
 rw[Alj hx] at this
 exact this
def Ha (z:Int):Int:=if bitLen z.natAbs<=65536 then z else 0
def Ir (z:Int):Int:=if bitLen z.natAbs<=65536 then 0 else 7
theorem Gd {z:Int} (h:Cb z):Ha z=z:=if_pos h
theorem Jw {z:Int} (h:Cb z):Ir z=0:=if_pos h
theorem AmQ {b v:Bool} {n:Nat} (hv:v=(b&&decide (0<n))):Value.agg #[.bool v,.string (Cz n)]=Al (Dw b n):=by
 unfold Al
 rw[AlO,Zn,hv]
theorem AeL:Value.agg #[.bool false,.string ⟨#[]⟩]=Al 0:=by unfold Al;rw[show (0:Int).natAbs=0 from rfl,To];rfl
theorem AhE {n:Nat} (h:¬((Aj n).length:Int)=0):n≠0:=λe=>by rw[e,Ct] at h;exact h rfl
theorem uD (n m:Nat):(Aj (Nat.gcd n m)).length<=(Aj n).length+(Aj m).length:=by
 rcases Nat.eq_zero_or_pos m with rfl|h
 rw[Nat.gcd_zero_right];omega
 have:=pV (n:=n) h;omega
theorem AbD {n:Nat}:decide ((0:Int)<((Aj n).length:Int))=decide (0<n):=decide_eq_decide.2 ⟨λh=>uF ω,λh=>by have:=Yx h;omega⟩
theorem qT (b:Bool) (n:Nat) (c:Bool) (m:Nat):Dw (Nr b n c m) (Ma b n c m)=Dw b n+Dw c m:=by
 unfold Nr Ma
 by_cases h:b=c
 subst h;rw[if_pos rfl,if_pos rfl];exact qU b n m
 rw[if_neg h,if_neg h]
 by_cases hm:m<=n
 rw[if_pos hm,if_pos hm];exact Aay h hm
 rw[if_neg hm,if_neg hm];exact Aaz h ω
theorem vL (x:Int):Dw (!decide (x<0)) x.natAbs= -x:=by unfold Dw;by_cases h:x<0<;>simp[h]<;>omega
theorem AiJ (x y:Int):Dw (Nr (decide (x<0)) x.natAbs (decide (y<0)) y.natAbs) (Ma (decide (x<0)) x.natAbs (decide (y<0)) y.natAbs)=x+y:=by rw[qT,Ki,Ki]
theorem vM (x y:Int):Dw (Nr (decide (x<0)) x.natAbs (!decide (y<0)) y.natAbs) (Ma (decide (x<0)) x.natAbs (!decide (y<0)) y.natAbs)=x-y:=by rw[qT,Ki,vL];omega
theorem Ab4 (a b:Bool):(!decide (a=b))=(a != b):=by cases a<;>cases b<;>rfl
theorem iV (x y:Int):Dw (!decide (decide (x<0)=decide (y<0))) (x.natAbs*y.natAbs)=x*y:=by rw[Ab4,AlN,Ki,Ki]
theorem Zo (x y:Int) (hy:y≠0):Dw (!decide (decide (x<0)=decide (y<0))) (Eu (decide (x<0)) x.natAbs y.natAbs)=x/y/\Dw false (oW (decide (x<0)) x.natAbs y.natAbs)=x%y:=by
 have hm:0<y.natAbs:=by omega
 have key:∀b:Bool,Dw b x.natAbs=x->Dw (!decide (b=decide (y<0))) (Eu b x.natAbs y.natAbs)=x/y/\Dw false (oW b x.natAbs y.natAbs)=x%y:=λb hb=>by
  have h2:x=Dw b x.natAbs:=hb.symm
  have h3:y=Dw (decide (y<0)) y.natAbs:=(Ki y).symm
  rw[Ab4]
  unfold Eu oW
  cases b with
  |false=>
   obtain⟨k1,k2⟩:=Aet (mg:=decide (y<0)) (n:=x.natAbs) hm
   rw[<-h2,Ki] at k1 k2
   rw[k1,k2]
   cases decide (y<0)<;>exact⟨rfl,rfl⟩
  |true=>
   by_cases h:0<x.natAbs%y.natAbs
   obtain⟨k1,k2⟩:=Aax (mg:=decide (y<0)) (n:=x.natAbs) hm h
   rw[<-h2,Ki] at k1 k2
   rw[k1,k2,decide_eq_true h]
   cases decide (y<0)<;>exact⟨rfl,rfl⟩
   obtain⟨k1,k2⟩:=Aeu (mg:=decide (y<0)) (n:=x.natAbs) hm ω
   rw[<-h2,Ki] at k1 k2
   rw[k1,k2,decide_eq_false h]
   cases decide (y<0)<;>exact⟨rfl,rfl⟩
 exact key _ (Ki x)
theorem iW (b:Bool) (n:Nat):(Dw b n).sign=if n=0 then 0 else if b=true then -1 else 1:=by
 unfold Dw
 by_cases h:n=0
 subst h;cases b<;>rfl
 rw[if_neg h]
 cases b with
 |true=>rw[if_pos rfl,if_pos rfl];exact Int.sign_eq_neg_one_of_neg ω
 |false=>rw[if_neg δ,if_neg δ];exact Int.sign_eq_one_of_pos ω
theorem Adc {n:Nat} (h:(Aj n).length=1):dg (Aj n) 0=n:=by
 have:=Cn n
 cases hl:Aj n with
 |nil=>rw[hl] at h;cases h
 |cons a l=>
  rw[hl] at h this
  cases l with
  |nil=>simpa [val,dg] using this
  |cons _ _=>simp at h
theorem Ade {n:Nat} (h:1<(Aj n).length):18446744073709551616<=n:=Nat.le_of_not_lt λg=>by
 have:=Di (n:=n) (k:=1) (by rw[Nat.pow_one,Py];exact g)
 omega
def iR (z:Int):Int:=if -9223372036854775808<=z/\z<=9223372036854775807 then z else 0
def iE (z:Int):Int:=if -9223372036854775808<=z/\z<=9223372036854775807 then 0 else 3
def Ds (n:Int):Nat:=(n%18446744073709551616).toNat
theorem Vw (n:Int):IntKind.wrap .u64 n=((Ds n:Nat):Int):=by
 unfold Ds;show n%18446744073709551616=_;omega
theorem Zv (n:Int):Ds n<Bw:=by unfold Ds;rw[Py];omega
theorem Zu (n:Int):(Aj (Ds n)).length<=1:=Di (by rw[Nat.pow_one];exact Zv n)
theorem AiX {n:Int} (h0: -9223372036854775808<=n) (h:n<0):Ds (0-((Ds n:Nat):Int))=n.natAbs:=by unfold Ds;omega
theorem AiY {n:Int} (h1:n<=9223372036854775807) (h:¬n<0):Ds n=n.natAbs:=by unfold Ds;omega
theorem Xv (x:Nat) (hx:x<Bw):AF Tryz.prog 145 [.slc 1 1 λ_=> .lit (.int .u64 (x:Int))] (Du x):=Th λE vs hD hsz hv=>by
 have hv0:=hv 0 (by simp)
 obtain⟨a,c,e,hnc,h⟩:=qX hv0
 rw[e] at h
 rw[Anj hsz,e]
 have hs:∃b,E.D b/\Bv E.w b (b+1) 1 (.slice a 1 c) [x].length (Hp [x]):=by
  rcases Aa3 h with⟨h0,_⟩|⟨b,q,c',us,e1,hDb,hc,hr⟩
  exact absurd h0 δ
  cases e1
  refine⟨b,hDb,rfl,.inr ⟨b,q,c,rfl,⟨Nat.le_refl _,Nat.lt_succ_self _⟩,λj u hu=>?_⟩⟩
  match j,hu with
  |0,hu=>
   have h1:=hc 0 0 δ δ
   have h2:us 0 0= .int .u64 (x:Int):=VR.lit_inv (hr 0 0 δ δ)
   rw[h2] at h1
   cases hu
   have h3:E.w.cell? ⟨b,q+0*1+0,none⟩=some (.int .u64 (x:Int)):=h1
   simpa using h3
  |j+1,hu=>simp[Hp] at hu
 obtain⟨b,hDb,hs⟩:=hs
 refine(Uz [x] _ b (b+1) E.w hs hnc (λy hy=>by simp at hy;subst hy;exact hx) (by simp)).mono ?_
 rintro e w' ⟨v',rfl,h2,rfl⟩
 have hval:val [x]=x:=by simp[val]
 rw[hval] at h2
 exact⟨v',rfl,Below.refl _ _,λE' hw h3 h4=>Pk h2 hw λb' p q=>by
  obtain rfl:b'=b:=by omega
  exact h3 _ hDb⟩
theorem yJ {n:Nat} (h:0<n):((Cz n).toList==(⟨#[]⟩:ByteArray).toList)=false:=by
 have:=@lS n
 rw[decide_eq_false ω] at this
 cases hb:(Cz n).toList with
 |nil=>rw[hb] at this;cases this
 |cons a l=>
  have e0:(⟨#[]⟩:ByteArray).toList=[]:=by rw[ByteArray.toList_eq]
  rw[e0];rfl
theorem Hv (x y:Int) (hx:Cb x) (hy:Cb y):AF Tryz.prog 187 [WA x,WA y] (.bool true):=by
 refine Au func187 rfl λB D0 hA0=>?_
 exact Ae 10 (Ao (Eh x θ) (Ae 2 (Ao (Eh y θ) (Ae 5 (Cm)))))
theorem Acv (b:Bool) (n:Nat) (hl:(Aj n).length<=30000) (hs:bitLen n<=65536):AF Tryz.prog 146 [Dj b n] (.lit (.tuple #[Al (Ha (Dw b n)),.int .i64 (Ir (Dw b n))])):=by
 have e1:Ha (Dw b n)=Dw b n:=if_pos (by rw[Zn];exact hs)
 have e2:Ir (Dw b n)=0:=if_pos (by rw[Zn];exact hs)
 refine Au func146 rfl λB D0 hA0=>?_
 refine Ae 12 (Ao (Ni n ω) (Ae 3 (La 7 (decide ((65536:Int)<(bitLen n:Int))) false (decide_eq_false ω) (Ae 4 ?_))))
 refine Ec b (λhx1=>?_) (λhx1=>?_)
 ·
  exact Cl [(1,.bool true,(.read 0)),(10,_,.none)] [2,3] ⟨kbE hx1,Be (Kn n (Tp ω)),trivial⟩ (Ae 2 (Eb (.lit (.tuple #[.agg #[.bool (decide ((0:Int)<((Aj n).length:Int))),.string (Cz n)],.int .i64 0])) (by rw[AmQ (b:=b) (show decide ((0:Int)<((Aj n).length:Int))=(b&&decide (0<n)) by rw[AbD,hx1];rfl),e1,e2])))
 ·
  exact Cl [(1,.bool false,(.read 0)),(10,_,.none)] [2,3] ⟨kbE hx1,Be (Kn n (Tp ω)),trivial⟩ (Ae 2 (Eb (.lit (.tuple #[.agg #[.bool false,.string (Cz n)],.int .i64 0])) (by rw[AmQ (b:=b) (show false=(b&&decide (0<n)) by rw[hx1];rfl),e1,e2])))
theorem Acw (b:Bool) (n:Nat) (hl:(Aj n).length<=30000) (hs:¬bitLen n<=65536):AF Tryz.prog 146 [Dj b n] (.lit (.tuple #[Al (Ha (Dw b n)),.int .i64 (Ir (Dw b n))])):=by
 have e1:Ha (Dw b n)=0:=if_neg (by rw[Zn];exact hs)
 have e2:Ir (Dw b n)=7:=if_neg (by rw[Zn];exact hs)
 refine Au func146 rfl λB D0 hA0=>?_
 exact Ae 12 (Ao (Ni n ω) (Ae 3 (La 7 (decide ((65536:Int)<(bitLen n:Int))) true (decide_eq_true ω) (Ae 10 (Eb (.lit (.tuple #[.agg #[.bool false,.string ⟨#[]⟩],.int .i64 7])) (by rw[e1,e2,AeL]))))))
theorem Fl (b:Bool) (n:Nat) (hl:(Aj n).length<=30000):AF Tryz.prog 146 [Dj b n] (.lit (.tuple #[Al (Ha (Dw b n)),.int .i64 (Ir (Dw b n))])):=(Decidable.em (bitLen n<=65536)).elim (Acv b n hl) (Acw b n hl)
theorem aC (b:Bool) (n:Nat) (_:(Aj n).length<=30000):AF Tryz.prog 191 [Dj b n] (.int (Dw b n).sign):=by
 have h9:=@AbD n
 refine Au func191 rfl λB D0 hA0=>?_
 refine Ae 17 (Fy 3 (((Aj n).length:Int)=0) (λhx1 hx1d=>?_) (λhx1 hx1d=>?_))
 ·
  exact Ae 9 (Eb (.int 0) (congrArg AV.int (by rw[iW,if_pos (aP ω)])))
 ·
  refine Ae 8 (vsb 8 b (λhx2=>?_) (λhx2=>?_))
  ·
   exact Ae 9 (Eb (.int (-1)) (congrArg AV.int (by rw[iW,if_neg (AhE ω),if_pos hx2])))
  ·
   exact Ae 10 (Eb (.int 1) (congrArg AV.int (by rw[iW,if_neg (AhE ω),if_neg (by rw[hx2];decide)])))
theorem rY (x y:Int) (hx:Cb x) (hy:Cb y):AF Tryz.prog 173 [WA x,WA y] (.lit (.tuple #[Al (Ha (x+y)),.int .i64 (Ir (x+y))])):=by
 have hd:=hx.digits
 have he:=hy.digits
 have h1:=Ic (decide (x<0)) x.natAbs (decide (y<0)) y.natAbs
 refine Au func173 rfl λB D0 hA0=>?_
 exact Ae 13 (Ao (Hv x y θ θ) (Ae 7 (Cl [(1,_,.none),(3,_,.none),(4,_,.none),(5,_,.none)] [4,5] ⟨Be (Da x θ),Be (Da y θ),Be (Nh (decide (x<0)) x.natAbs (decide (y<0)) y.natAbs ω ω),Be (Fl (Nr (decide (x<0)) x.natAbs (decide (y<0)) y.natAbs) (Ma (decide (x<0)) x.natAbs (decide (y<0)) y.natAbs) ω),trivial⟩ (Ae 2 (Eb (.lit (.tuple #[Al (Ha (Dw (Nr (decide (x<0)) x.natAbs (decide (y<0)) y.natAbs) (Ma (decide (x<0)) x.natAbs (decide (y<0)) y.natAbs))),.int .i64 (Ir (Dw (Nr (decide (x<0)) x.natAbs (decide (y<0)) y.natAbs) (Ma (decide (x<0)) x.natAbs (decide (y<0)) y.natAbs)))])) (by rw[AiJ]))))))
theorem AfO (x y:Int) (hx:Cb x) (hy:Cb y):AF Tryz.prog 255 [WA x,WA y] (.lit (.tuple #[Al (Ha (x-y)),.int .i64 (Ir (x-y))])):=by
 have hd:=hx.digits
 have he:=hy.digits
 have h1:=Ic (decide (x<0)) x.natAbs (!decide (y<0)) y.natAbs
 refine Au func255 rfl λB D0 hA0=>?_
 exact Ae 13 (Ao (Hv x y θ θ) (Ae 7 (Cl [(1,_,.none),(3,_,.none),(4,_,.none),(5,_,.none),(6,_,.none)] [4,5] ⟨Be (Da x θ),Be (Da y θ),Be (Vj (decide (y<0)) y.natAbs),Be (Nh (decide (x<0)) x.natAbs (!(decide (y<0))) y.natAbs ω ω),Be (Fl (Nr (decide (x<0)) x.natAbs (!(decide (y<0))) y.natAbs) (Ma (decide (x<0)) x.natAbs (!(decide (y<0))) y.natAbs) ω),trivial⟩ (Ae 2 (Eb (.lit (.tuple #[Al (Ha (Dw (Nr (decide (x<0)) x.natAbs (!(decide (y<0))) y.natAbs) (Ma (decide (x<0)) x.natAbs (!(decide (y<0))) y.natAbs))),.int .i64 (Ir (Dw (Nr (decide (x<0)) x.natAbs (!(decide (y<0))) y.natAbs) (Ma (decide (x<0)) x.natAbs (!(decide (y<0))) y.natAbs)))])) (by rw[vM]))))))
theorem sD (x y:Int) (hx:Cb x) (hy:Cb y):AF Tryz.prog 186 [WA x,WA y] (.lit (.tuple #[Al (Ha (x*y)),.int .i64 (Ir (x*y))])):=by
 have hd:=hx.digits
 have he:=hy.digits
 have h1:=Ey x.natAbs y.natAbs
 refine Au func186 rfl λB D0 hA0=>?_
 exact Ae 13 (Ao (Hv x y θ θ) (Ae 7 (Cl [(1,_,.none),(3,_,.none),(4,_,.none),(5,_,.none)] [4,5] ⟨Be (Da x θ),Be (Da y θ),Be (Qs (decide (x<0)) x.natAbs (decide (y<0)) y.natAbs ω ω),Be (Fl (!decide ((decide (x<0))=(decide (y<0)))) (x.natAbs*y.natAbs) ω),trivial⟩ (Ae 2 (Eb (.lit (.tuple #[Al (Ha (Dw (!decide ((decide (x<0))=(decide (y<0)))) (x.natAbs*y.natAbs))),.int .i64 (Ir (Dw (!decide ((decide (x<0))=(decide (y<0)))) (x.natAbs*y.natAbs)))])) (by rw[iV]))))))
theorem AfJ (x y:Int) (hx:Cb x) (hy:Cb y):AF Tryz.prog 151 [WA x,WA y] (.lit (.tuple #[Al (Ha (Nat.gcd x.natAbs y.natAbs:Int)),.int .i64 (Ir (Nat.gcd x.natAbs y.natAbs:Int))])):=by
 have hd:=hx.digits
 have he:=hy.digits
 have h1:=uD x.natAbs y.natAbs
 refine Au func151 rfl λB D0 hA0=>?_
 exact Ae 13 (Ao (Hv x y θ θ) (Ae 7 (Cl [(2,_,.none),(5,_,.none),(6,_,.none),(8,_,.none)] [4,5] ⟨Be (Xs x.natAbs (Tp ω)),Be (Xs y.natAbs (Tp ω)),Be (dK x.natAbs y.natAbs ω ω),Be (Fl false (Nat.gcd x.natAbs y.natAbs) ω),trivial⟩ (Ae 2 (Eb (.lit (.tuple #[Al (Ha (Dw false (Nat.gcd x.natAbs y.natAbs))),.int .i64 (Ir (Dw false (Nat.gcd x.natAbs y.natAbs)))])) (by rw[show ∀g:Nat,Dw false g=(g:Int) from λ_=>rfl]))))))
theorem bG (x y:Int) (hx:Cb x) (hy:Cb y):AF Tryz.prog 150 [WA x,WA y] (.int (x-y).sign):=by
 have hd:=hx.digits
 have he:=hy.digits
 have h1:=Ic (decide (x<0)) x.natAbs (!decide (y<0)) y.natAbs
 refine Au func150 rfl λB D0 hA0=>?_
 exact Ae 12 (Ao (Hv x y θ θ) (Ae 7 (Cl [(1,_,.none),(3,_,.none),(4,_,.none),(5,_,.none),(6,_,.none)] [4] ⟨Be (Da x θ),Be (Da y θ),Be (Vj (decide (y<0)) y.natAbs),Be (Nh (decide (x<0)) x.natAbs (!(decide (y<0))) y.natAbs ω ω),Be (aC (Nr (decide (x<0)) x.natAbs (!(decide (y<0))) y.natAbs) (Ma (decide (x<0)) x.natAbs (!(decide (y<0))) y.natAbs) ω),trivial⟩ (Ae 2 (Eb (.int ((Dw (Nr (decide (x<0)) x.natAbs (!(decide (y<0))) y.natAbs) (Ma (decide (x<0)) x.natAbs (!(decide (y<0))) y.natAbs)).sign)) (by rw[vM]))))))
theorem sE (x:Int) (hx:Cb x):AF Tryz.prog 162 [WA x] (.lit (.tuple #[Al (Ha (-x)),.int .i64 (Ir (-x))])):=by
 have hd:=hx.digits
 refine Au func162 rfl λB D0 hA0=>?_
 exact Ae 11 (Ao (Eh x θ) (Ae 9 (Ao (Da x θ) (Ao (Vj (decide (x<0)) x.natAbs) (Ao (Fl (!(decide (x<0))) x.natAbs ω) (Ae 7 (Eb (.lit (.tuple #[Al (Ha (Dw (!(decide (x<0))) x.natAbs)),.int .i64 (Ir (Dw (!(decide (x<0))) x.natAbs))])) (by rw[vL]))))))))
theorem Nn (x:Int) (hx:Cb x):AF Tryz.prog 198 [WA x] (.int x.sign):=by
 have hd:=hx.digits
 refine Au func198 rfl λB D0 hA0=>?_
 exact Ae 10 (Ao (Eh x θ) (Ae 9 (Ao (Da x θ) (Ao (aC (decide (x<0)) x.natAbs ω) (Ae 4 (Eb (.int ((Dw (decide (x<0)) x.natAbs).sign)) (by rw[Ki])))))))
theorem oD (x:Int) (hx:Cb x):AF Tryz.prog 237 [WA x] (.int (bitLen x.natAbs:Int)):=by
 have hd:=hx.digits
 refine Au func237 rfl λB D0 hA0=>?_
 exact Ae 10 (Ao (Eh x θ) (Ae 10 (Ao (Xs x.natAbs (Tp ω)) (Ao (Ni x.natAbs ω) (Ae 4 (Cm))))))
theorem Akb (x y:Int) (hx:Cb x) (hy:Cb y) (hy0:y≠0):AF Tryz.prog 194 [WA x,WA y] (.lit (.tuple #[Al (x/y),Al (x%y),.int .i64 0])):=by
 have hd:=hx.digits
 have he:=hy.digits
 have hm0:0<y.natAbs:=by omega
 have hq1:=Ls (decide (x<0)) x.natAbs y.natAbs
 have hq2:=AhD (decide (x<0)) (n:=x.natAbs) hm0
 have hs:=Zo x y hy0
 have hb:((Cz y.natAbs).toList==(⟨#[]⟩:ByteArray).toList)=false:=yJ hm0
 refine Au func194 rfl λB D0 hA0=>?_
 refine Ae 14 (Ao (Hv x y θ θ) (Ae 11 (Bo (.bool ((Cz y.natAbs).toList==(⟨#[]⟩:ByteArray).toList)) (.bool false) ?_ (congrArg Value.bool hb))))
 exact Ae 6 (Cl [(1,_,.none),(3,_,.none),(4,_,.none)] [4,5,7,8] ⟨Be (Da x θ),Be (Da y θ),Be (Ja (decide (x<0)) x.natAbs (decide (y<0)) y.natAbs ω ω ω),trivial⟩ (Ae 4 (Ao (Fl (!decide ((decide (x<0))=(decide (y<0)))) (Eu (decide (x<0)) x.natAbs y.natAbs) ω) (Ae 9 (Ao (Fl false (oW (decide (x<0)) x.natAbs y.natAbs) ω) (Ae 7 (Cl [] [4,5,6] trivial (Ae 2 (Eb (.lit (.tuple #[Al (Ha (Dw (!decide ((decide (x<0))=(decide (y<0)))) (Eu (decide (x<0)) x.natAbs y.natAbs))),Al (Ha (Dw false (oW (decide (x<0)) x.natAbs y.natAbs))),.int .i64 0])) (by rw[hs.1,hs.2,Gd (Se hx),Gd (Ald hy hy0)]))))))))))
theorem Dh (n:Int) (h0: -9223372036854775808<=n) (h1:n<=9223372036854775807):AF Tryz.prog 123 [.int n] (WA n):=by
 have hd1:=Zu n
 have hd2:=Zu (0-((Ds n:Nat):Int))
 refine Au func123 rfl λB D0 hA0=>?_
 refine Ae 8 (Bo (.int .u64 (IntKind.wrap .u64 n)) (.int .u64 ((Ds n:Nat):Int)) ?_ (congrArg (Value.int .u64) (Vw n)))
 refine Ae 10 (Fy 9 (n<0) (λhx1 hx1d=>?_) (λhx1 hx1d=>?_))
 ·
  refine Ae 3 (Bo (.int .u64 (IntKind.wrap .u64 (0-((Ds n:Nat):Int)))) (.int .u64 ((Ds (0-((Ds n:Nat):Int)):Nat):Int)) ?_ (congrArg (Value.int .u64) (Vw _)))
  refine Ae 8 (Oh 1 151 1 1 (λ_=> .lit (.int .u64 ((Ds (0-((Ds n:Nat):Int)):Nat):Int))) ?_)
  exact Ci (Du (Ds (0-((Ds n:Nat):Int)))) (.drop 1) (Gj 145 #[.tmp 16] #[226] κ (λ_ _=>by kernel_rfl) 1 (.vec 151 1 1 (λ_=> .lit (.int .u64 ((Ds (0-((Ds n:Nat):Int)):Nat):Int)))) κ (λ_ _ _ _ h=>by cases h;exact(Df λ_ _=>rfl)) [.osl 1 1 1] κ [.slc 1 1 (λ_=> .lit (.int .u64 ((Ds (0-((Ds n:Nat):Int)):Nat):Int)))] κ (Du (Ds (0-((Ds n:Nat):Int)))) (Xv (Ds (0-((Ds n:Nat):Int))) (Zv _))) (Ae 1 (Ao (Fl (decide (n<0)) (Ds (0-((Ds n:Nat):Int))) ω) (Ae 15 (Eb (.lit (Al (Ha (Dw (decide (n<0)) (Ds (0-((Ds n:Nat):Int))))))) (by rw[AiX h0 (of_decide_eq_true hx1),Ki,Gd (Eo h0 h1)])))))
 ·
  refine Ae 8 (Oh 1 151 1 1 (λ_=> .lit (.int .u64 ((Ds n:Nat):Int))) ?_)
  exact Ci (Du (Ds n)) (.drop 1) (Gj 145 #[.tmp 16] #[226] κ (λ_ _=>by kernel_rfl) 1 (.vec 151 1 1 (λ_=> .lit (.int .u64 ((Ds n:Nat):Int)))) κ (λ_ _ _ _ h=>by cases h;exact(Df λ_ _=>rfl)) [.osl 1 1 1] κ [.slc 1 1 (λ_=> .lit (.int .u64 ((Ds n:Nat):Int)))] κ (Du (Ds n)) (Xv (Ds n) (Zv _))) (Ae 1 (Ao (Fl (decide (n<0)) (Ds n) ω) (Ae 15 (Eb (.lit (Al (Ha (Dw (decide (n<0)) (Ds n))))) (by rw[AiY h1 (of_decide_eq_false hx1),Ki,Gd (Eo h0 h1)])))))
theorem sC (z:Int) (h:Cb z):AF Tryz.prog 211 [WA z] (.lit (.tuple #[.int .i64 (iR z),.int .i64 (iE z)])):=by
 have hd:=h.digits
 have k0:=@aP z.natAbs
 have k1:=@Adc z.natAbs
 have k2:=@Ade z.natAbs
 refine Au func211 rfl λB D0 hA0=>?_
 refine Ae 11 (Ao (Eh z h) (Ae 9 (Ao (Da z h) (Ae 15 (Fy 10 (((Aj z.natAbs).length:Int)=0) (λhx1 hx1d=>?_) (λhx1 hx1d=>?_))))))
 ·
  exact Ae 10 (Eb (.lit (.tuple #[.int .i64 0,.int .i64 0])) (by(obtain rfl:z=0:=(ω));rfl))
 ·
  refine Ae 8 (Fy 20 ((1:Int)<((Aj z.natAbs).length:Int)) (λhx2 hx2d=>?_) (λhx2 hx2d=>?_))
  ·
   exact Ae 31 (Eb (.lit (.tuple #[.int .i64 0,.int .i64 3])) (by unfold iR iE;rw[if_neg (λg=>by omega),if_neg (λg=>by omega)]))
  ·
   refine Ae 4 (wJ 24 (z<0) (λhx3 hx3d=>?_) (λhx3 hx3d=>?_))
   ·
    refine Ae 10 (Fd 0 ((Aj z.natAbs).length) (Ae 6 (Fy 15 ((9223372036854775808:Int)<((dg (Aj z.natAbs) 0:Nat):Int)) (λhx4 hx4d=>?_) (λhx4 hx4d=>?_))))
    ·
     exact Ae 10 (Eb (.lit (.tuple #[.int .i64 0,.int .i64 3])) (by unfold iR iE;rw[if_neg (λg=>by omega),if_neg (λg=>by omega)]))
    ·
     refine Ae 8 (La 39 (decide (z<0)) true hx3 (Ae 5 (Fd 0 ((Aj z.natAbs).length) (Ae 1 (Bo (.int .u64 (IntKind.wrap .u64 (0-((dg (Aj z.natAbs) 0:Nat):Int)))) (.int .u64 (18446744073709551616-((dg (Aj z.natAbs) 0:Nat):Int))) ?_ (congrArg (Value.int .u64) (show (0-((dg (Aj z.natAbs) 0:Nat):Int))%18446744073709551616=_ by omega)))))))
     refine Bo (.int .i64 (IntKind.wrap .i64 (18446744073709551616-((dg (Aj z.natAbs) 0:Nat):Int)))) (.int .i64 z) ?_ (congrArg (Value.int .i64) (by simp[IntKind.wrap,IntKind.bits,IntKind.signed];omega))
     exact Ae 7 (Eb (.lit (.tuple #[.int .i64 z,.int .i64 0])) (by unfold iR iE;rw[if_pos ⟨ω,ω⟩,if_pos ⟨ω,ω⟩]))
   ·
    refine Ae 2 (Fd 0 ((Aj z.natAbs).length) (Ae 5 (Fy 32 ((9223372036854775808:Int)<=((dg (Aj z.natAbs) 0:Nat):Int)) (λhx5 hx5d=>?_) (λhx5 hx5d=>?_))))
    ·
     exact Ae 19 (Eb (.lit (.tuple #[.int .i64 0,.int .i64 3])) (by unfold iR iE;rw[if_neg (λg=>by omega),if_neg (λg=>by omega)]))
    ·
     refine Ae 2 (Fd 0 ((Aj z.natAbs).length) (Ae 6 (Fy 15 ((9223372036854775808:Int)<((dg (Aj z.natAbs) 0:Nat):Int)) (λhx6 hx6d=>?_) (λhx6 hx6d=>?_))))
     ·
      exact Ae 10 (Eb (.lit (.tuple #[.int .i64 0,.int .i64 3])) (by unfold iR iE;rw[if_neg (λg=>by omega),if_neg (λg=>by omega)]))
     ·
      refine Ae 8 (La 39 (decide (z<0)) false hx3 (Ae 8 (Fd 0 ((Aj z.natAbs).length) (Ae 1 (Bo (.int .i64 (IntKind.wrap .i64 ((dg (Aj z.natAbs) 0:Nat):Int))) (.int .i64 z) ?_ (congrArg (Value.int .i64) (by simp[IntKind.wrap,IntKind.bits,IntKind.signed];omega)))))))
      exact Ae 5 (Eb (.lit (.tuple #[.int .i64 z,.int .i64 0])) (by unfold iR iE;rw[if_pos ⟨ω,ω⟩,if_pos ⟨ω,ω⟩]))
theorem oC (x y:Int) (hx:Cb x) (hy:Cb y) (hz:Cb (x+y)):AF Tryz.prog 173 [WA x,WA y] (.lit (.tuple #[Al (x+y),.int .i64 0])):=by
 have:=rY x y hx hy
 rwa [Gd hz,Jw hz] at this
theorem dN (x y:Int) (hx:Cb x) (hy:Cb y) (hz:Cb (x*y)):AF Tryz.prog 186 [WA x,WA y] (.lit (.tuple #[Al (x*y),.int .i64 0])):=by
 have:=sD x y hx hy
 rwa [Gd hz,Jw hz] at this
theorem AjZ (x y:Int) (hx:Cb x) (hy:Cb y):AF Tryz.prog 151 [WA x,WA y] (.lit (.tuple #[Al (Nat.gcd x.natAbs y.natAbs:Int),.int .i64 0])):=by
 have:=AfJ x y hx hy
 rwa [Gd (Abj hx hy),Jw (Abj hx hy)] at this
theorem dL (x y:Int) (hx:Cb x) (hy:Cb y) (hz:Cb (x+y)):AF Tryz.prog 149 [WA x,WA y] (WA (x+y)):=by
 refine Au func149 rfl λB D0 hA0=>?_
 exact Ae 11 (Ao (oC x y hx hy hz) (Ae 15 (Cm)))
theorem Lb (x y:Int) (hx:Cb x) (hy:Cb y) (hz:Cb (x*y)):AF Tryz.prog 148 [WA x,WA y] (WA (x*y)):=by
 refine Au func148 rfl λB D0 hA0=>?_
 exact Ae 11 (Ao (dN x y hx hy hz) (Ae 15 (Cm)))
theorem Xu (x y:Int) (hx:Cb x) (hy:Cb y):AF Tryz.prog 126 [WA x,WA y] (WA (Nat.gcd x.natAbs y.natAbs:Int)):=by
 refine Au func126 rfl λB D0 hA0=>?_
 exact Ae 11 (Ao (AjZ x y hx hy) (Ae 15 (Cm)))
theorem dM (x y:Int) (hx:Cb x) (hy:Cb y) (h0:y≠0):AF Tryz.prog 153 [WA x,WA y] (WA (x/y)):=by
 refine Au func153 rfl λB D0 hA0=>?_
 exact Ae 11 (Ao (Akb x y hx hy h0) (Ae 18 (Cm)))
theorem Nk (n:Int) (k:Nat) (h0: -9223372036854775808<=n) (h1:n<=9223372036854775807) (hk:k<=1000) (hf:∀j,j<=k->Cb (n^j)):AF Tryz.prog 152 [.int n,.int (k:Int)] (WA (n^k)):=by
 refine Au func152 rfl λB D0 hA0=>?_
 refine Ae 7 (Ao (Dh 1 δ δ) (Ae 12 (vlp [0,4,5,7,8] (λm s=>∃(i:Nat) (z:Int),m=k-i/\(z=n^i/\i<=k)/\s=⟨[(0,.int n),(4,.ptr 0 0),(5,.ptr 1 0),(7,.int (k:Int)),(8,.int (i:Int))],[(0,.box 197 [.bool false,.lit (.string ⟨#[]⟩)]),(1,.box 197 [.bool (decide (z<0)),.lit (.string (Cz (z).natAbs))])],2,16⟩) (k-0) ⟨0,1,rfl,⟨(Int.pow_zero n).symm,Nat.zero_le _⟩,κ⟩ ?_)))
 rintro _ _ ⟨i,z,rfl,hF,rfl⟩ J1 hJ1
 refine Ae 6 (Fy 9 ((i:Int)<(k:Int)) (λhx1 hx1d=>?_) (λhx1 hx1d=>?_))
 ·
  exact Ae 5 (Cl [(2,_,.none),(3,_,.none)] [0,4,5,7,8] ⟨Be (Dh n h0 h1),Be (Lb z n (by rw[hF.1];exact hf i ω) (Eo h0 h1) (by rw[hF.1,<-Int.pow_succ];exact hf (i+1) ω)),trivial⟩ (Ae 3 (Dd ((i:Int)+1) ((i+1:Nat):Int) (Ae 2 (rE [0,4,5,7,8] (hJ1 _ _ (by omega:k-(i+1)<k-i) ⟨i+1,z*n,rfl,⟨by rw[hF.1,<-Int.pow_succ],ω⟩,rfl⟩))))))
 ·
  exact Ae 13 (Eb (.lit (Al z)) (by rw[hF.1,show i=k by omega]))
abbrev Ar (l:List Int):AV:= .sl 1 l.length λi=> .int (l.getD i 0)
abbrev Lx (s:Sg):AV:= .agg [.int s.f,.int s.t,.int s.o,Ar s.x,Ar s.y,Ar s.z]
theorem AaM (s:Sg):AF Tryz.prog 124 [Lx s] (.agg [Ar s.x,Ar s.y,Ar s.z]):=by
 refine Au func124 rfl λB D0 hA0=>?_
 exact Ae 19 (Cm)
def Hq:Nat->Nat->Nat
 |_,0=>1
 |0,_+1=>0
 |n+1,k+1=>Hq n k+Hq n (k+1)
def Qy (n j k:Nat):Nat:=60/Hq n k*Hq j k
def Zs (l:List Int) (j:Nat):Nat->Int
 |0=>0
 |k+1=>Zs l j k+l.getD k 0*(Qy (l.length-1) j k:Int)
def jS (l:List Int) (o:Int) (n:Nat):Prop:=∀j,j<n->((Zs l j (j+1)).natAbs:Int)<=62914560*o
theorem zG:∀n,n<6->∀j,j<6->∀k,k<6->Qy n j k<=600:=by decide
theorem yO:∀n,n<6->∀k,k<=n->1<=Hq n k/\Hq n k<=10:=by
 intro n hn k hk
 have:∀n,n<6->∀k,k<6->k<=n->1<=Hq n k/\Hq n k<=10:=by decide
 exact this n hn k ω hk
theorem AcJ:∀n,n<6->∀k,k<6->Hq n k<=10:=by decide
theorem Qz {z:Int} (h:z.natAbs<2^200):Cb z:=by
 unfold Cb
 exact Nat.le_trans (Fm.2 h) δ
theorem qZ {l:List Int} {j:Nat} (hl:l.length<=6) (hj:j<6) (h:∀i,-9223372036854775808<=l.getD i 0/\l.getD i 0<=9223372036854775807):∀k,k<=6->(Zs l j k).natAbs<=k*(9223372036854775808*600)
 |0,_=>by simp[Zs]
 |k+1,hk=>by
  have h1:=qZ hl hj h k ω
  have h2:=zG (l.length-1) ω j hj k ω
  have h3:=h k
  have h4:(l.getD k 0).natAbs<=9223372036854775808:=by omega
  have h5:(l.getD k 0*(Qy (l.length-1) j k:Int)).natAbs<=9223372036854775808*600:=by
   rw[Int.natAbs_mul,Int.natAbs_natCast]
   exact Nat.mul_le_mul h4 h2
  have h6:(Zs l j (k+1)).natAbs<=(Zs l j k).natAbs+(l.getD k 0*(Qy (l.length-1) j k:Int)).natAbs:=by
   show (Zs l j k+l.getD k 0*(Qy (l.length-1) j k:Int)).natAbs<=_
   exact Int.natAbs_add_le _ _
  omega
theorem vR {l:List Int} {j k:Nat} (hl:l.length<=6) (hj:j<6) (hk:k<=6) (h:∀i,-9223372036854775808<=l.getD i 0/\l.getD i 0<=9223372036854775807):Cb (Zs l j k):=by
 refine Qz ?_
 have:=qZ hl hj h k hk
 have h2:k*(9223372036854775808*600)<=6*(9223372036854775808*600):=Nat.mul_le_mul_right _ hk
 exact Nat.lt_of_le_of_lt (Nat.le_trans this h2) δ
theorem vV {l:List Int} {n j k:Nat} (hn:n<6) (hj:j<6) (hk:k<6) (h:∀i,-9223372036854775808<=l.getD i 0/\l.getD i 0<=9223372036854775807):Cb (l.getD k 0*(Qy n j k:Int)):=by
 refine Qz ?_
 have h2:=zG n hn j hj k hk
 have h3:=h k
 have h4:(l.getD k 0).natAbs<=9223372036854775808:=by omega
 rw[Int.natAbs_mul,Int.natAbs_natCast]
 exact Nat.lt_of_le_of_lt (Nat.mul_le_mul h4 h2) δ
theorem uM {o:Int} (h0: -9223372036854775808<=o) (h1:o<=9223372036854775807):Cb (62914560*o):=by
 refine Qz ?_
 have h4:o.natAbs<=9223372036854775808:=by omega
 rw[Int.natAbs_mul]
 exact Nat.lt_of_le_of_lt (Nat.mul_le_mul ζ h4) δ
theorem Agw {l:List Int} {o:Int} {n:Nat} (h:jS l o n) (h2:((Zs l n (n+1)).natAbs:Int)<=62914560*o):jS l o (n+1):=λj hj=>by
 by_cases e:j=n
 rw[e];exact h2
 exact h j ω
instance (l:List Int) (o:Int) (n:Nat):Decidable (jS l o n):=by unfold jS;infer_instance
def Ko (c:List Int) (o:Int):Prop:=1<=c.length/\c.length<=6/\(1<c.length->c.getD (c.length-1) 0≠0)/\jS c o c.length
instance (c:List Int) (o:Int):Decidable (Ko c o):=by unfold Ko;infer_instance
def aL (g:Nat) (l:List Int):Nat:=l.foldl (λg x=>Nat.gcd g x.natAbs) g
def Np (f t o:Int):Prop:=0<=f/\f<t/\t<=3600000/\1<=o/\o<=4294967296
instance (f t o:Int):Decidable (Np f t o):=by unfold Np;infer_instance
def Nq (s:Sg):Prop:=Np s.f s.t s.o/\Ko s.x s.o/\Ko s.y s.o/\Ko s.z s.o/\aL (aL (aL s.o.natAbs s.x) s.y) s.z=1
instance (s:Sg):Decidable (Nq s):=by unfold Nq;infer_instance
theorem Agq {n m:Nat} (h:(Cz n).toList=(Cz m).toList):n=m:=by
 rw[ByteArray.toList_eq,ByteArray.toList_eq] at h
 exact Agt h
structure Bd (e:Nat) (z:Int):Prop where
 le:z.natAbs<=2^e
theorem Bd.fit {e:Nat} {z:Int} (h:Bd e z) (he:e<=60000):Cb z:=by
 unfold Cb
 have h1:z.natAbs<2^(e+1):=by
  have:=h.le
  have h2:0<2^e:=Nat.pow_pos δ
  rw[Nat.pow_succ]
  omega
 exact Nat.le_trans (Fm.2 h1) ω
theorem Bd.mono {e f:Nat} {z:Int} (h:Bd e z) (hf:e<=f):Bd f z:=⟨Nat.le_trans h.le (Nat.pow_le_pow_right δ hf)⟩
theorem Bd.add {e:Nat} {x y:Int} (h:Bd e x) (k:Bd e y):Bd (e+1) (x+y):=⟨by
 have:=Int.natAbs_add_le x y
 have h1:=h.le
 have h2:=k.le
 rw[Nat.pow_succ]
 omega⟩
theorem Bd.mul {e f:Nat} {x y:Int} (h:Bd e x) (k:Bd f y):Bd (e+f) (x*y):=⟨by
 rw[Int.natAbs_mul,Nat.pow_add]
 exact Nat.mul_le_mul h.le k.le⟩
theorem Bd.pow {e:Nat} {x:Int} (h:Bd e x) (k:Nat):Bd (e*k) (x^k):=⟨by
 rw[Int.natAbs_pow,Nat.pow_mul]
 exact Nat.pow_le_pow_left h.le k⟩
theorem Bd.int {x:Int} (h0: -9223372036854775808<=x) (h1:x<=9223372036854775807):Bd 63 x:=⟨by
 have:(2:Nat)^63=9223372036854775808:=by decide
 omega⟩
theorem Bd.zero (e:Nat):Bd e 0:=⟨by simp⟩
theorem Bd.div {e:Nat} {x:Int} (h:Bd e x) (y:Int):Bd e (x/y):=⟨Nat.le_trans (Int.natAbs_ediv_le_natAbs x y) h.le⟩
theorem Bd.gcd {e:Nat} {x y:Int} (h:Bd e x) (k:Bd e y):Bd e (Nat.gcd x.natAbs y.natAbs:Int):=⟨by
 rw[Int.natAbs_natCast]
 by_cases hx:x.natAbs=0
 rw[hx,Nat.gcd_zero_left];exact k.le
 exact Nat.le_trans (Nat.gcd_le_left _ ω) h.le⟩
def iM (l:List Int) (a d:Int):Nat->Int
 |0=>0
 |k+1=>iM l a d k+l.getD k 0*(a^k*d^(5-k))
abbrev Cf (x:Int):Prop:= -9223372036854775808<=x/\x<=9223372036854775807
structure Yf (s:Sg):Prop where
 f:Cf s.f
 t:Cf s.t
 o:Cf s.o
 x:∀i,Cf (s.x.getD i 0)
 y:∀i,Cf (s.y.getD i 0)
 z:∀i,Cf (s.z.getD i 0)
theorem Sr {x a d:Int} (hx:Cf x) (ha:Cf a) (hd:Cf d) {k:Nat} (hk:k<=5):Bd 378 (x*(a^k*d^(5-k))):=
 ((Bd.int hx.1 hx.2).mul (((Bd.int ha.1 ha.2).pow k).mul ((Bd.int hd.1 hd.2).pow (5-k)))).mono ω
theorem qH {l:List Int} {a d:Int} (hl:∀i,Cf (l.getD i 0)) (ha:Cf a) (hd:Cf d):∀k,k<=6->Bd (378+k) (iM l a d k)
 |0,_=>Bd.zero _
 |k+1,hk=>(qH hl ha hd k ω).add ((Sr (hl k) ha hd ω).mono ω)
def plX (s:Sg) (a d:Int):Int:=iM s.x a d s.x.length
def plY (s:Sg) (a d:Int):Int:=iM s.y a d s.y.length
def plZ (s:Sg) (a d:Int):Int:=iM s.z a d s.z.length
def nE (s:Sg) (d:Int):Int:=s.o*d^5
def plG (s:Sg) (a d:Int):Int:=((Nat.gcd ((Nat.gcd (Nat.gcd (nE s d).natAbs (plX s a d).natAbs:Int).natAbs (plY s a d).natAbs:Nat):Int).natAbs (plZ s a d).natAbs:Nat):Int)
structure PL where
 x:Int
 y:Int
 z:Int
 o:Int
deriving DecidableEq
def Id (s:Sg) (a d:Int):PL:=⟨plX s a d/plG s a d,plY s a d/plG s a d,plZ s a d/plG s a d,nE s d/plG s a d⟩
theorem Jq {x:Int} (h:Cf x):Cb x:=Eo h.1 h.2
theorem Pn {x:Int} (h:Cf x) {k:Nat} (hk:k<=6):Cb (x^k):=((Bd.int h.1 h.2).pow k).fit ω
abbrev qI (p:PL):AV:= .lit (.agg #[.bool (decide (p.x<0)),.string (Cz p.x.natAbs),.bool (decide (p.y<0)),.string (Cz p.y.natAbs),.bool (decide (p.z<0)),.string (Cz p.z.natAbs),.bool (decide (p.o<0)),.string (Cz p.o.natAbs)])
theorem Aow {s:Sg} {d:Int} (hs:Yf s) (hd:Cf d):Bd 378 (nE s d):=((Bd.int hs.o.1 hs.o.2).mul ((Bd.int hd.1 hd.2).pow 5)).mono ω
theorem Af9 (s:Sg) (a d:Int) (hs:Yf s) (hx:s.x.length<=6) (hy:s.y.length<=6) (hz:s.z.length<=6) (ha:Cf a) (hd:Cf d) (hg:plG s a d≠0):AF Tryz.prog 127 [Lx s,.int a,.int d] (qI (Id s a d)):=by
 have bX:∀k,k<=6->Bd 390 (iM s.x a d k):=λk hk=>(qH hs.x ha hd k hk).mono ω
 have bY:∀k,k<=6->Bd 390 (iM s.y a d k):=λk hk=>(qH hs.y ha hd k hk).mono ω
 have bZ:∀k,k<=6->Bd 390 (iM s.z a d k):=λk hk=>(qH hs.z ha hd k hk).mono ω
 have bO:Bd 390 (nE s d):=(Aow hs hd).mono ω
 have bXX:Bd 390 (plX s a d):=bX _ hx
 have bYY:Bd 390 (plY s a d):=bY _ hy
 have bZZ:Bd 390 (plZ s a d):=bZ _ hz
 have bG1:=bO.gcd bXX
 have bG2:=bG1.gcd bYY
 have bG3:=bG2.gcd bZZ
 have pw:∀{x:Int},Cf x->∀k,k<=6->∀j,j<=k->Cb (x^j):=λh k hk j hj=>Pn h ω
 refine Au func127 rfl λB D0 hA0=>?_
 refine Ae 15 (Ao (Dh _ hs.o.1 hs.o.2) (Ae 1 (Ao (Nk d 5 hd.1 hd.2 ω (pw hd 5 ω)) (Ao (Lb _ _ (Jq hs.o) (Pn hd ω) (bO.fit ω)) (Ae 15 (Ao (AaM s) (Ae 4 (Mg 3 (Ae 14 (Ci (Ar s.x) .none (Ea 199 (.tmp 22) (.tmp 23) κ underlying199 1 sizeOf95 0 false isAgg95 [Ar s.x,Ar s.y,Ar s.z] 0 κ κ ω δ β δ (Ar s.x) κ) (Ae 13 (AoL (keep:=[1,2,6,7,8,9,10,22,23,27,28,29]) s.x.length (λk=>⟨[(1,.int a),(2,.int d),(6,.ptr 1 0),(7,.ptr 2 0),(8,.ptr 3 0),(9,.ptr 4 0),(10,.int 0),(22,.agg [Ar s.x,Ar s.y,Ar s.z]),(23,.int 0),(27,Ar s.x),(28,.int (s.x.length:Int)),(29,.int (k:Int))],[(0,.box 141 [.int s.f,.int s.t,.int s.o,Ar s.x,Ar s.y,Ar s.z]),(1,.box 204 [.bool false,.lit (.string ⟨#[]⟩),.bool false,.lit (.string ⟨#[]⟩),.bool false,.lit (.string ⟨#[]⟩),.bool false,.lit (.string ⟨#[]⟩)]),(2,.box 236 [.bool (decide (iM s.x a d k<0)),.lit (.string (Cz (iM s.x a d k).natAbs)),.bool false,.lit (.string ⟨#[]⟩),.bool false,.lit (.string ⟨#[]⟩)]),(3,.box 197 [.bool (decide (nE s d<0)),.lit (.string (Cz (nE s d).natAbs))]),(4,.box 197 [.bool (decide (nE s d<0)),.lit (.string (Cz (nE s d).natAbs))])],5,74⟩) (λk hk J1 hJ1=>?_) ?_))))))))))))
 ·
  exact Ae 3 (La 30 (decide ((k:Int)<(s.x.length:Int))) true (decide_eq_true ω) (Ae 11 (Fd k s.x.length (Ae 5 (Cl [(5,_,.none),(8,_,.none),(11,.int ((5-k:Nat):Int),.none),(12,_,.none),(13,_,.none),(14,_,.none),(15,_,.none)] [1,2,6,7,8,9,10,22,23,27,28,29] ⟨Be (Dh _ (hs.x k).1 (hs.x k).2),Be (Nk a k ha.1 ha.2 ω (pw ha _ ω)),Bk (.int .i64 (IntKind.wrap .i64 ((5:Int)-(k:Int)))) η,Be (Nk d (5-k) hd.1 hd.2 ω (pw hd _ ω)),Be (Lb _ _ (Pn ha ω) (Pn hd ω) ((((Bd.int ha.1 ha.2).pow k).mul ((Bd.int hd.1 hd.2).pow (5-k))).fit ω)),Be (Lb _ _ (Jq (hs.x k)) ((((Bd.int ha.1 ha.2).pow k).mul ((Bd.int hd.1 hd.2).pow (5-k))).fit ω) ((Sr (hs.x k) ha hd ω).fit ω)),Be (dL (iM s.x a d k) _ ((bX k ω).fit ω) ((Sr (hs.x k) ha hd ω).fit ω) ((bX (k+1) ω).fit ω)),trivial⟩ (Ae 3 (Dd ((k:Int)+1) ((k+1:Nat):Int) (Ae 2 (rE [1,2,6,7,8,9,10,22,23,27,28,29] hJ1)))))))))
 ·
  refine Ae 3 (La 30 (decide ((s.x.length:Int)<(s.x.length:Int))) false (decide_eq_false ω) (Ae 9 (Cl [(4,_,.none)] [1,2,6,7,8,9,22,23] ⟨Be (Xu _ _ (bO.fit ω) (bXX.fit ω)),trivial⟩ (Ae 3 (Bo (.int .i64 1) (.int .i64 1) (Ae 17 (Ci (Ar s.y) .none (Ea 199 (.tmp 22) (.tmp 23) κ underlying199 1 sizeOf95 1 false isAgg95 [Ar s.x,Ar s.y,Ar s.z] 1 κ κ ω δ β δ (Ar s.y) κ) (Ae 13 (AoL (keep:=[1,2,6,7,8,9,10,22,23,27,28,29]) s.y.length (λk=>⟨[(1,.int a),(2,.int d),(6,.ptr 1 0),(7,.ptr 2 0),(8,.ptr 3 0),(9,.ptr 4 0),(10,.int 1),(22,.agg [Ar s.x,Ar s.y,Ar s.z]),(23,.int 1),(27,Ar s.y),(28,.int (s.y.length:Int)),(29,.int (k:Int))],[(0,.box 141 [.int s.f,.int s.t,.int s.o,Ar s.x,Ar s.y,Ar s.z]),(1,.box 204 [.bool false,.lit (.string ⟨#[]⟩),.bool false,.lit (.string ⟨#[]⟩),.bool false,.lit (.string ⟨#[]⟩),.bool false,.lit (.string ⟨#[]⟩)]),(2,.box 236 [.bool (decide (plX s a d<0)),.lit (.string (Cz (plX s a d).natAbs)),.bool (decide (iM s.y a d k<0)),.lit (.string (Cz (iM s.y a d k).natAbs)),.bool false,.lit (.string ⟨#[]⟩)]),(3,.box 197 [.bool (decide (nE s d<0)),.lit (.string (Cz (nE s d).natAbs))]),(4,.box 197 [.bool (decide ((Nat.gcd (nE s d).natAbs (plX s a d).natAbs:Int)<0)),.lit (.string (Cz (Nat.gcd (nE s d).natAbs (plX s a d).natAbs:Int).natAbs))])],5,74⟩) (λk hk J2 hJ2=>?_) ?_)))))))))
  ·
   exact Ae 3 (La 30 (decide ((k:Int)<(s.y.length:Int))) true (decide_eq_true ω) (Ae 11 (Fd k s.y.length (Ae 5 (Cl [(5,_,.none),(8,_,.none),(11,.int ((5-k:Nat):Int),.none),(12,_,.none),(13,_,.none),(14,_,.none),(15,_,.none)] [1,2,6,7,8,9,10,22,23,27,28,29] ⟨Be (Dh _ (hs.y k).1 (hs.y k).2),Be (Nk a k ha.1 ha.2 ω (pw ha _ ω)),Bk (.int .i64 (IntKind.wrap .i64 ((5:Int)-(k:Int)))) η,Be (Nk d (5-k) hd.1 hd.2 ω (pw hd _ ω)),Be (Lb _ _ (Pn ha ω) (Pn hd ω) ((((Bd.int ha.1 ha.2).pow k).mul ((Bd.int hd.1 hd.2).pow (5-k))).fit ω)),Be (Lb _ _ (Jq (hs.y k)) ((((Bd.int ha.1 ha.2).pow k).mul ((Bd.int hd.1 hd.2).pow (5-k))).fit ω) ((Sr (hs.y k) ha hd ω).fit ω)),Be (dL (iM s.y a d k) _ ((bY k ω).fit ω) ((Sr (hs.y k) ha hd ω).fit ω) ((bY (k+1) ω).fit ω)),trivial⟩ (Ae 3 (Dd ((k:Int)+1) ((k+1:Nat):Int) (Ae 2 (rE [1,2,6,7,8,9,10,22,23,27,28,29] hJ2)))))))))
  ·
   refine Ae 3 (La 30 (decide ((s.y.length:Int)<(s.y.length:Int))) false (decide_eq_false ω) (Ae 9 (Cl [(4,_,.none)] [1,2,6,7,8,9,22,23] ⟨Be (Xu _ _ (bG1.fit ω) (bYY.fit ω)),trivial⟩ (Ae 3 (Bo (.int .i64 2) (.int .i64 2) (Ae 17 (Ci (Ar s.z) .none (Ea 199 (.tmp 22) (.tmp 23) κ underlying199 1 sizeOf95 2 false isAgg95 [Ar s.x,Ar s.y,Ar s.z] 2 κ κ ω δ β δ (Ar s.z) κ) (Ae 13 (AoL (keep:=[1,2,6,7,8,9,10,22,23,27,28,29]) s.z.length (λk=>⟨[(1,.int a),(2,.int d),(6,.ptr 1 0),(7,.ptr 2 0),(8,.ptr 3 0),(9,.ptr 4 0),(10,.int 2),(22,.agg [Ar s.x,Ar s.y,Ar s.z]),(23,.int 2),(27,Ar s.z),(28,.int (s.z.length:Int)),(29,.int (k:Int))],[(0,.box 141 [.int s.f,.int s.t,.int s.o,Ar s.x,Ar s.y,Ar s.z]),(1,.box 204 [.bool false,.lit (.string ⟨#[]⟩),.bool false,.lit (.string ⟨#[]⟩),.bool false,.lit (.string ⟨#[]⟩),.bool false,.lit (.string ⟨#[]⟩)]),(2,.box 236 [.bool (decide (plX s a d<0)),.lit (.string (Cz (plX s a d).natAbs)),.bool (decide (plY s a d<0)),.lit (.string (Cz (plY s a d).natAbs)),.bool (decide (iM s.z a d k<0)),.lit (.string (Cz (iM s.z a d k).natAbs))]),(3,.box 197 [.bool (decide (nE s d<0)),.lit (.string (Cz (nE s d).natAbs))]),(4,.box 197 [.bool (decide (((Nat.gcd (Nat.gcd (nE s d).natAbs (plX s a d).natAbs:Int).natAbs (plY s a d).natAbs:Nat):Int)<0)),.lit (.string (Cz ((Nat.gcd (Nat.gcd (nE s d).natAbs (plX s a d).natAbs:Int).natAbs (plY s a d).natAbs:Nat):Int).natAbs))])],5,74⟩) (λk hk J3 hJ3=>?_) ?_)))))))))
   ·
    exact Ae 3 (La 30 (decide ((k:Int)<(s.z.length:Int))) true (decide_eq_true ω) (Ae 11 (Fd k s.z.length (Ae 5 (Cl [(5,_,.none),(8,_,.none),(11,.int ((5-k:Nat):Int),.none),(12,_,.none),(13,_,.none),(14,_,.none),(15,_,.none)] [1,2,6,7,8,9,10,22,23,27,28,29] ⟨Be (Dh _ (hs.z k).1 (hs.z k).2),Be (Nk a k ha.1 ha.2 ω (pw ha _ ω)),Bk (.int .i64 (IntKind.wrap .i64 ((5:Int)-(k:Int)))) η,Be (Nk d (5-k) hd.1 hd.2 ω (pw hd _ ω)),Be (Lb _ _ (Pn ha ω) (Pn hd ω) ((((Bd.int ha.1 ha.2).pow k).mul ((Bd.int hd.1 hd.2).pow (5-k))).fit ω)),Be (Lb _ _ (Jq (hs.z k)) ((((Bd.int ha.1 ha.2).pow k).mul ((Bd.int hd.1 hd.2).pow (5-k))).fit ω) ((Sr (hs.z k) ha hd ω).fit ω)),Be (dL (iM s.z a d k) _ ((bZ k ω).fit ω) ((Sr (hs.z k) ha hd ω).fit ω) ((bZ (k+1) ω).fit ω)),trivial⟩ (Ae 3 (Dd ((k:Int)+1) ((k+1:Nat):Int) (Ae 2 (rE [1,2,6,7,8,9,10,22,23,27,28,29] hJ3)))))))))
   ·
    exact Ae 3 (La 30 (decide ((s.z.length:Int)<(s.z.length:Int))) false (decide_eq_false ω) (Ae 9 (Cl [(4,_,.none)] [1,2,6,7,8,9,22,23] ⟨Be (Xu _ _ (bG2.fit ω) (bZZ.fit ω)),trivial⟩ (Ae 3 (Bo (.int .i64 3) (.int .i64 3) (Ae 16 (Cl [(3,_,.none),(7,_,.none),(11,_,.none),(14,_,.none)] [6] ⟨Be (dM _ _ (bXX.fit ω) (bG3.fit ω) hg),Be (dM _ _ (bYY.fit ω) (bG3.fit ω) hg),Be (dM _ _ (bZZ.fit ω) (bG3.fit ω) hg),Be (dM _ _ (bO.fit ω) (bG3.fit ω) hg),trivial⟩ (Ae 2 (Cm)))))))))
variable {B:Nat} {D0:As} {o:Oper} {ev:Operand->AV} {pre:Nat->Option Aw}
theorem dW (t t':TypeId) (x y:Operand) (ho:o.op= .binOp .eql t x y t') (vs us:Array Value) (hx:ev x= .lit (.agg vs)) (hy:ev y= .lit (.agg us)) (hg:Tryz.prog.eqGuardType Tryz.prog.depth t=false) (b:Bool) (heq:∀w,(Op.equal t (.agg vs) (.agg us)).run Tryz.prog w= .ok b w):Dl Tryz.prog B D0 o ev pre (.bool b) .none:=by
 refine Bj (.inl rfl) λE a c _ _ hv=>⟨_,?_,.lit _ _⟩
 have h1:=hv x (by simp[ho,Op.operands])
 have h2:=hv y (by simp[ho,Op.operands])
 rw[hx] at h1
 rw[hy] at h2
 simp[execOp,ho,h1.lit_inv,h2.lit_inv,eqGuard,hg,binOp,heq]
theorem Zd (t t':TypeId) (x y:Operand) (ho:o.op= .binOp .neq t x y t') (vs us:Array Value) (hx:ev x= .lit (.agg vs)) (hy:ev y= .lit (.agg us)) (hg:Tryz.prog.eqGuardType Tryz.prog.depth t=false) (b:Bool) (heq:∀w,(Op.equal t (.agg vs) (.agg us)).run Tryz.prog w= .ok b w):Dl Tryz.prog B D0 o ev pre (.bool (!b)) .none:=by
 refine Bj (.inl rfl) λE a c _ _ hv=>⟨_,?_,.lit _ _⟩
 have h1:=hv x (by simp[ho,Op.operands])
 have h2:=hv y (by simp[ho,Op.operands])
 rw[hx] at h1
 rw[hy] at h2
 simp[execOp,ho,h1.lit_inv,h2.lit_inv,eqGuard,hg,binOp,heq]
theorem Ld {b b':Bool} (h:Dl Tryz.prog B D0 o ev pre (.bool b) .none) (e:b=b'):Dl Tryz.prog B D0 o ev pre (.bool b') .none:=e▸h
theorem AbG (b b':Bool) (s s':ByteArray) (w:World) (d:Nat):(Op.equalIn (d+2) 197 (.agg #[.bool b,.string s]) (.agg #[.bool b',.string s'])).run Tryz.prog w= .ok ((b==b')&&(s==s')) w:=by
 have h91:=Tryz.runUnderlying197
 have ha4:=isAgg4
 unfold Op.equalIn
 simp[h91,part,ha4,Op.equalIn]
 by_cases h1:b=b'
 subst h1
 cases hs:(s==s')<;>simp
 simp[h1]
theorem eqW (x y:Int) (w:World) (d:Nat):(Op.equalIn (d+2) 197 (Al x) (Al y)).run Tryz.prog w= .ok (decide (x=y)) w:=by
 unfold Al
 rw[AbG]
 congr 1
 rw[beq_toListBytes]
 by_cases h:x=y
 subst h;simp
 rw[decide_eq_false h]
 cases h1:((Cz x.natAbs).toList==(Cz y.natAbs).toList) with
 |false=>simp
 |true=>
  have h3:x.natAbs=y.natAbs:=Agq (by simpa using h1)
  have h4:¬(decide (x<0)=decide (y<0)):=λe=>by
   have:x<0↔y<0:=by simpa using e
   apply h
   omega
  simpa using h4
theorem AkF (p q:PL) (w:World):(Op.equal 204 (qI p).val (qI q).val).run Tryz.prog w= .ok (decide (p=q)) w:=by
 have e:∀(x y:Int) (w:World),(Op.equalIn 9999 197 (Al x) (Al y)).run Tryz.prog w= .ok (decide (x=y)) w:=λx y w=>eqW x y w 9997
 have h93:=Tryz.runUnderlying204
 have h91:=isAgg197
 have hs:=sizeOf197
 have hin:Tryz.prog.stoodInHeld 204=false:=κ
 unfold Op.equal
 rw[show Op.maxDepth=9999+1 from rfl]
 unfold Op.equalIn
 simp only[AV.val]
 unfold Al at e
 simp[h93,part,h91,hs,e,hin]
 obtain⟨x,y,z,u⟩:=p
 obtain⟨x',y',z',u'⟩:=q
 simp only[PL.mk.injEq]
 by_cases h1:x=x'<;>by_cases h2:y=y'<;>by_cases h3:z=z'<;>by_cases h4:u=u'<;>simp[h1,h2,h3,h4]
end Go.Proofs.YtkpjchfniejdoaaGreatDoor
namespace Go.Proofs.YtkpjchfniejdoaaGreatDoor
open Go.Proofs.Tryz
open Go.RowKit
def Gw (i:Nat):Int:=(Hq (i/6) (i%6):Int)
def bA (i:Nat):AV:= .int (Gw i)
abbrev Arl:Value:= .agg #[.int .i64 (Gw 0),.int .i64 (Gw 1),.int .i64 (Gw 2),.int .i64 (Gw 3),.int .i64 (Gw 4),.int .i64 (Gw 5),.int .i64 (Gw 6),.int .i64 (Gw 7),.int .i64 (Gw 8),.int .i64 (Gw 9),.int .i64 (Gw 10),.int .i64 (Gw 11),.int .i64 (Gw 12),.int .i64 (Gw 13),.int .i64 (Gw 14),.int .i64 (Gw 15),.int .i64 (Gw 16),.int .i64 (Gw 17),.int .i64 (Gw 18),.int .i64 (Gw 19),.int .i64 (Gw 20),.int .i64 (Gw 21),.int .i64 (Gw 22),.int .i64 (Gw 23),.int .i64 (Gw 24),.int .i64 (Gw 25),.int .i64 (Gw 26),.int .i64 (Gw 27),.int .i64 (Gw 28),.int .i64 (Gw 29),.int .i64 (Gw 30),.int .i64 (Gw 31),.int .i64 (Gw 32),.int .i64 (Gw 33),.int .i64 (Gw 34),.int .i64 (Gw 35)]
abbrev AoD:List AV:=[.int (Gw 0),.int (Gw 1),.int (Gw 2),.int (Gw 3),.int (Gw 4),.int (Gw 5),.int (Gw 6),.int (Gw 7),.int (Gw 8),.int (Gw 9),.int (Gw 10),.int (Gw 11),.int (Gw 12),.int (Gw 13),.int (Gw 14),.int (Gw 15),.int (Gw 16),.int (Gw 17),.int (Gw 18),.int (Gw 19),.int (Gw 20),.int (Gw 21),.int (Gw 22),.int (Gw 23),.int (Gw 24),.int (Gw 25),.int (Gw 26),.int (Gw 27),.int (Gw 28),.int (Gw 29),.int (Gw 30),.int (Gw 31),.int (Gw 32),.int (Gw 33),.int (Gw 34),.int (Gw 35)]
theorem AoE:∀i,i<36->AoD.getD i .top=bA i:=by
 have e:AoD=(List.range 36).map bA:=κ
 intro i hi
 rw[e,Γ,List.getElem?_map,List.getElem?_range hi]
 rfl
theorem AoM {n:Nat} {f g:Nat->AV} (h:∀i,i<n->f i=g i) (E:As) (v:Value) (hv:VR E (.elt n f) v):VR E (.elt n g) v:=by
 cases hv with
 |elt _ _ _ b q us hD hc hr=>exact .elt _ _ _ _ _ us hD hc λi hi=>by rw[<-h i hi];exact hr i hi
theorem yN {n k:Nat} (hk:k<6):Gw (n*6+(k*1+0))=(Hq n k:Int):=by
 unfold Gw
 rw[show (n*6+(k*1+0))/6=n by omega,show (n*6+(k*1+0))%6=k by omega]
theorem Ak4 {n k:Nat} (hn:n<6) (hk:k<=n):Gw (n*6+(k*1+0))≠0:=by
 have:=(yO n hn k hk).1
 rw[yN ω]
 omega
theorem AkK {n j k:Nat} (hn:n<6) (hj:j<=n) (hk:k<=j):IntKind.wrap .i64 (IntKind.wrap .i64 (Int.tdiv 60 (Gw (n*6+(k*1+0))))*Gw (j*6+(k*1+0)))=(Qy n j k:Int):=by
 rw[yN ω,yN ω,show (60:Int)=((60:Nat):Int) from rfl,<-Int.ofNat_tdiv]
 have h1:60/Hq n k<=60:=Nat.div_le_self _ _
 have h2:=AcJ j ω k ω
 unfold Qy
 generalize 60/Hq n k=q at h1 ⊢
 generalize Hq j k=c at h2 ⊢
 have h3:q*c<=60*10:=Nat.mul_le_mul h1 h2
 rw[IntWalk.i64_in (q:Int) ω,<-Int.natCast_mul]
 exact IntWalk.i64_in _ ω
theorem pG {n j k:Nat} (hn:n<6) (hj:j<6) (hk:k<6): -9223372036854775808<=(Qy n j k:Int)/\(Qy n j k:Int)<=9223372036854775807:=by
 have:=zG n hn j hj k hk
 omega
theorem Alq {P:Program} {B:Nat} {D0:As} {o:Oper} {ev:Operand->AV} {pre:Nat->Option Aw} (T T':TypeId) (x y:Operand) (a b:Int) (ho:o.op= .binOp .quo T x y T') (hx:ev x= .int a) (hy:ev y= .int b) (hb:b≠0):Dl P B D0 o ev pre (.int (IntKind.wrap .i64 (Int.tdiv a b))) .none:=by
 refine Bj (.inl rfl) λE ac c _ _ hv=>⟨.int .i64 (IntKind.wrap .i64 (Int.tdiv a b)),?_,.lit _ _⟩
 have e1:=hv x (by simp[ho,Op.operands])
 have e2:=hv y (by simp[ho,Op.operands])
 rw[hx] at e1
 rw[hy] at e2
 simp[execOp,ho,e1.lit_inv,e2.lit_inv,binOp_quo,Op.intDiv,eqGuard,hb]
theorem AfI (n:Nat) (y:Int) (hx:Cb (n:Int)) (hy:Cb y):AF Tryz.prog 150 [.lit (.agg #[.bool false,.string (Cz n)]),WA y] (.int ((n:Int)-y).sign):=by
 have h9:AF Tryz.prog 150 [.lit (Al (n:Int)),WA y] (.int ((n:Int)-y).sign):=bG (n:Int) y hx hy
 have e:Al (n:Int)= .agg #[.bool false,.string (Cz n)]:=by unfold Al;rw[decide_eq_false ω,Int.natAbs_natCast]
 rw[e] at h9
 exact h9
theorem Amd {l:List Int} {j k:Nat} (hl:l.length<=6) (hj:j<6) (hk:k<=6) (h:∀i,Cf (l.getD i 0)):Cb ((Zs l j k).natAbs:Int):=by
 have h9:=qZ hl hj h k hk
 refine Qz ?_
 rw[Int.natAbs_natCast]
 exact Nat.lt_of_le_of_lt (Nat.le_trans h9 (Nat.mul_le_mul_right _ hk)) δ
theorem Aqj {x y:Int} (h:0<(x-y).sign):y<x:=by
 have:=Int.sign_pos_iff.1 h
 omega
theorem Aqk {x y:Int} (h:¬0<(x-y).sign):x<=y:=by
 rcases Int.lt_or_le y x with g|g
 exact absurd (Int.sign_pos_iff.2 ω) h
 exact g
def gL (g:Nat) (l:List Int):Nat->Nat
 |0=>g
 |k+1=>Nat.gcd (gL g l k) (l.getD k 0).natAbs
theorem Adp (g:Nat) (l:List Int) {i:Nat} (h:i<l.length):aL g (l.take (i+1))=Nat.gcd (aL g (l.take i)) (l.getD i 0).natAbs:=by
 unfold aL
 rw[List.take_succ_eq_append_getElem h,List.foldl_append]
 simp[h]
theorem Abi (g:Nat) (l:List Int):∀k,k<=l.length->gL g l k=aL g (l.take k)
 |0,_=>rfl
 |k+1,h=>by rw[gL,Abi g l k ω,Adp g l ω]
theorem Ahq (l:List Int) (g:Nat):gL g l l.length=aL g l:=by
 have:=Abi g l l.length ζ
 rwa [List.take_length] at this
theorem Ahs {g:Nat} {l:List Int} (h0:0<g) (h:g<=4294967296):∀k,0<gL g l k/\gL g l k<=4294967296
 |0=>⟨h0,h⟩
 |k+1=>by
  have ih:=Ahs (l:=l) h0 h k
  exact⟨Nat.gcd_pos_of_pos_left _ ih.1,Nat.le_trans (Nat.gcd_le_left _ ih.1) ih.2⟩
theorem Ahr {g:Nat} {l:List Int} (h:0<g/\g<=4294967296) (k:Nat):Cb (gL g l k:Int):=Qz (by
 have:=(Ahs (l:=l) h.1 h.2 k).2
 rw[Int.natAbs_natCast]
 exact Nat.lt_of_le_of_lt this δ)
def Qu (s:Sg):Nat->List Int
 |0=>s.x
 |1=>s.y
 |_=>s.z
def gAx (s:Sg):Nat->Nat
 |0=>s.o.natAbs
 |i+1=>gL (gAx s i) (Qu s i) (Qu s i).length
theorem pP {s:Sg} (h:0<s.o.natAbs/\s.o.natAbs<=4294967296):∀i,0<gAx s i/\gAx s i<=4294967296
 |0=>h
 |i+1=>Ahs (pP h i).1 (pP h i).2 _
theorem Wf {s:Sg} (hs:Yf s) (i k:Nat):Cf ((Qu s i).getD k 0):=by
 match i with
 |0=>exact hs.x k
 |1=>exact hs.y k
 |_+2=>exact hs.z k
theorem iU {s:Sg} (h:Nq s) (i:Nat):Ko (Qu s i) s.o:=by
 match i with
 |0=>exact h.2.1
 |1=>exact h.2.2.1
 |_+2=>exact h.2.2.2.1
theorem AlM {s:Sg} (h:Np s.f s.t s.o) (hx:∀q,q<3->Ko (Qu s q) s.o):((gAx s 3:Nat):Int)=1↔Nq s:=by
 have e:gAx s 3=aL (aL (aL s.o.natAbs s.x) s.y) s.z:=by rw[<-Ahq,<-Ahq,<-Ahq];rfl
 rw[e]
 unfold Nq
 constructor
 intro e
 exact⟨h,hx 0 δ,hx 1 δ,hx 2 δ,ω⟩
 rintro⟨_,_,_,_,e⟩
 omega
theorem Aij {B:Nat} {D0:As} {o:Oper} {ev:Operand->AV} {pre:Nat->Option Aw} (s:Sg) (x y:Operand) (ho:o.op= .index 199 x y) (hx:ev x= .agg [Ar s.x,Ar s.y,Ar s.z]) (i:Nat) (hi:i<3) (hy:ev y= .int (i:Int)):Dl Tryz.prog B D0 o ev pre (Ar (Qu s i)) .none:=by
 have key:∀k,k<3->i=k->Dl Tryz.prog B D0 o ev pre ([Ar s.x,Ar s.y,Ar s.z].getD (k*1) .top) .none:=λk hk e=>Ea 199 x y ho underlying199 1 (λw=>by kernel_rfl) k false (λw=>by kernel_rfl) _ _ hx hy (by rw[e]) hk (by simp;omega) (λ_=>rfl) _ rfl
 match i,hi with
 |0,_=>exact key 0 δ rfl
 |1,_=>exact key 1 δ rfl
 |2,_=>exact key 2 δ rfl
theorem Aka (n:Int) (h0:0<=n) (h1:n<=9223372036854775807):AF Tryz.prog 123 [.int n] (WA (n.natAbs:Int)):=by
 have h9:=Dh n ω h1
 have e:(n.natAbs:Int)=n:=by omega
 rw[e]
 exact h9
theorem AqQ (x y:Int) (w:World):(Op.equal 197 (Al x) (Al y)).run Tryz.prog w= .ok (decide (x=y)) w:=eqW x y w 9998
theorem xJ:AF Tryz.prog 147 [] (.lit Arl):=by
 refine Au func147 rfl λB D0 hA0=>?_
 exact Ae 17 (Mg 6 (Ae 31 (Mg 0 (Ae 16 (Bo (.int .i64 1) (.int .i64 1) (Ae 34 (Mg 1 (Ae 13 (Cl [(3,.int 0,.none),(5,.int 0,.none),(10,.int 0,.none),(15,.int 1,.none)] [0,1,2,3,4] ⟨Bk (.int .i64 0) rfl,Bk (.int .i64 0) rfl,Bk (.int .i64 0) rfl,Bk (.int .i64 1) rfl,trivial⟩ (Ae 4 (Bo (.int .i64 2) (.int .i64 2) (Ae 19 (Bo (.int .i64 2) (.int .i64 2) (Ae 34 (Mg 2 (Ae 13 (Cl [(3,.int 1,.none),(5,.int 0,.none),(10,.int 1,.none),(15,.int 2,.none)] [0,1,2,3,4] ⟨Bk (.int .i64 1) rfl,Bk (.int .i64 0) rfl,Bk (.int .i64 1) rfl,Bk (.int .i64 2) rfl,trivial⟩ (Ae 4 (Bo (.int .i64 2) (.int .i64 2) (Ae 16 (Cl [(3,.int 1,.none),(5,.int 1,.none),(10,.int 1,.none),(15,.int 1,.none)] [0,1,2,3,4] ⟨Bk (.int .i64 1) rfl,Bk (.int .i64 1) rfl,Bk (.int .i64 1) rfl,Bk (.int .i64 1) rfl,trivial⟩ (Ae 4 (Bo (.int .i64 3) (.int .i64 3) (Ae 19 (Bo (.int .i64 3) (.int .i64 3) (Ae 34 (Mg 3 (Ae 13 (Cl [(3,.int 2,.none),(5,.int 0,.none),(10,.int 2,.none),(15,.int 3,.none)] [0,1,2,3,4] ⟨Bk (.int .i64 2) rfl,Bk (.int .i64 0) rfl,Bk (.int .i64 2) rfl,Bk (.int .i64 3) rfl,trivial⟩ (Ae 4 (Bo (.int .i64 2) (.int .i64 2) (Ae 16 (Cl [(3,.int 2,.none),(5,.int 1,.none),(10,.int 2,.none),(15,.int 3,.none)] [0,1,2,3,4] ⟨Bk (.int .i64 2) rfl,Bk (.int .i64 1) rfl,Bk (.int .i64 2) rfl,Bk (.int .i64 3) rfl,trivial⟩ (Ae 4 (Bo (.int .i64 3) (.int .i64 3) (Ae 16 (Cl [(3,.int 2,.none),(5,.int 2,.none),(10,.int 2,.none),(15,.int 1,.none)] [0,1,2,3,4] ⟨Bk (.int .i64 2) rfl,Bk (.int .i64 2) rfl,Bk (.int .i64 2) rfl,Bk (.int .i64 1) rfl,trivial⟩ (Ae 4 (Bo (.int .i64 4) (.int .i64 4) (Ae 19 (Bo (.int .i64 4) (.int .i64 4) (Ae 34 (Mg 4 (Ae 13 (Cl [(3,.int 3,.none),(5,.int 0,.none),(10,.int 3,.none),(15,.int 4,.none)] [0,1,2,3,4] ⟨Bk (.int .i64 3) rfl,Bk (.int .i64 0) rfl,Bk (.int .i64 3) rfl,Bk (.int .i64 4) rfl,trivial⟩ (Ae 4 (Bo (.int .i64 2) (.int .i64 2) (Ae 16 (Cl [(3,.int 3,.none),(5,.int 1,.none),(10,.int 3,.none),(15,.int 6,.none)] [0,1,2,3,4] ⟨Bk (.int .i64 3) rfl,Bk (.int .i64 1) rfl,Bk (.int .i64 3) rfl,Bk (.int .i64 6) rfl,trivial⟩ (Ae 4 (Bo (.int .i64 3) (.int .i64 3) (Ae 16 (Cl [(3,.int 3,.none),(5,.int 2,.none),(10,.int 3,.none),(15,.int 4,.none)] [0,1,2,3,4] ⟨Bk (.int .i64 3) rfl,Bk (.int .i64 2) rfl,Bk (.int .i64 3) rfl,Bk (.int .i64 4) rfl,trivial⟩ (Ae 4 (Bo (.int .i64 4) (.int .i64 4) (Ae 16 (Cl [(3,.int 3,.none),(5,.int 3,.none),(10,.int 3,.none),(15,.int 1,.none)] [0,1,2,3,4] ⟨Bk (.int .i64 3) rfl,Bk (.int .i64 3) rfl,Bk (.int .i64 3) rfl,Bk (.int .i64 1) rfl,trivial⟩ (Ae 4 (Bo (.int .i64 5) (.int .i64 5) (Ae 19 (Bo (.int .i64 5) (.int .i64 5) (Ae 34 (Mg 5 (Ae 13 (Cl [(3,.int 4,.none),(5,.int 0,.none),(10,.int 4,.none),(15,.int 5,.none)] [0,1,2,3,4] ⟨Bk (.int .i64 4) rfl,Bk (.int .i64 0) rfl,Bk (.int .i64 4) rfl,Bk (.int .i64 5) rfl,trivial⟩ (Ae 4 (Bo (.int .i64 2) (.int .i64 2) (Ae 16 (Cl [(3,.int 4,.none),(5,.int 1,.none),(10,.int 4,.none),(15,.int 10,.none)] [0,1,2,3,4] ⟨Bk (.int .i64 4) rfl,Bk (.int .i64 1) rfl,Bk (.int .i64 4) rfl,Bk (.int .i64 10) rfl,trivial⟩ (Ae 4 (Bo (.int .i64 3) (.int .i64 3) (Ae 16 (Cl [(3,.int 4,.none),(5,.int 2,.none),(10,.int 4,.none),(15,.int 10,.none)] [0,1,2,3,4] ⟨Bk (.int .i64 4) rfl,Bk (.int .i64 2) rfl,Bk (.int .i64 4) rfl,Bk (.int .i64 10) rfl,trivial⟩ (Ae 4 (Bo (.int .i64 4) (.int .i64 4) (Ae 16 (Cl [(3,.int 4,.none),(5,.int 3,.none),(10,.int 4,.none),(15,.int 5,.none)] [0,1,2,3,4] ⟨Bk (.int .i64 4) rfl,Bk (.int .i64 3) rfl,Bk (.int .i64 4) rfl,Bk (.int .i64 5) rfl,trivial⟩ (Ae 4 (Bo (.int .i64 5) (.int .i64 5) (Ae 16 (Cl [(3,.int 4,.none),(5,.int 4,.none),(10,.int 4,.none),(15,.int 1,.none)] [0,1,2,3,4] ⟨Bk (.int .i64 4) rfl,Bk (.int .i64 4) rfl,Bk (.int .i64 4) rfl,Bk (.int .i64 1) rfl,trivial⟩ (Ae 4 (Bo (.int .i64 6) (.int .i64 6) (Ae 19 (Bo (.int .i64 6) (.int .i64 6) (Ae 22 (Cm)))))))))))))))))))))))))))))))))))))))))))))))))))))))))))))))))))))))))))))))))))))))
theorem eK (l:List Int) (o:Int) (h1:1<=l.length) (h6:l.length<=6) (hi:∀i,Cf (l.getD i 0)) (ho:Cf o):AF Tryz.prog 125 [Ar l,.int o] (.bool (decide (jS l o l.length))):=by
 refine Au func125 rfl λB D0 hA0=>?_
 refine Ae 7 (Ao xJ (Ae 4 (Vz 0 (wI 5 (.elt 36 (λxi=>AoD.getD (0+xi) .top)) (.elt 36 bA) (AoM λi hi=>by rw[Nat.zero_add];exact AoE i hi) ?_))))
 refine Ae 2 (Ao (Dh 62914560 δ δ) (Ae 1 (Ao (Dh o ho.1 ho.2) (Ao (Lb _ _ (Eo δ δ) (Eo ho.1 ho.2) (uM ho.1 ho.2)) (Ae 8 (Dd ((l.length:Int)-1) ((l.length-1:Nat):Int) (Ae 12 (Vc [0,5,6,7,20,21] l.length (λj=>jS l o j) (λj=>⟨[(0,Ar l),(5,.elt 36 bA),(6,.ptr 1 0),(7,.int ((l.length-1:Nat):Int)),(20,.int (l.length:Int)),(21,.int (j:Int))],[(1,.box 197 [.bool (decide ((62914560*o)<0)),.lit (.string (Cz (62914560*o).natAbs))])],2,57⟩) (λq hq=>absurd hq (Nat.not_lt_zero q)) (λj hjn hFj J1 hJ1=>?_)))))))))
 refine Ae 6 (Fy 22 ((j:Int)<(l.length:Int)) (λhx1 hx1d=>?_) (λhx1 hx1d=>?_))
 ·
  refine Ae 20 (Dd ((j:Int)+1) ((j+1:Nat):Int) (Ae 4 (Vc [0,5,6,7,8,9,20,21,25,26] (j+1) (λk=>True) (λk=>⟨[(0,Ar l),(5,.elt 36 bA),(6,.ptr 1 0),(7,.int ((l.length-1:Nat):Int)),(8,.int (j:Int)),(9,.ptr 2 0),(20,.int (l.length:Int)),(21,.int (j:Int)),(25,.int ((j+1:Nat):Int)),(26,.int (k:Int))],[(1,.box 197 [.bool (decide ((62914560*o)<0)),.lit (.string (Cz (62914560*o).natAbs))]),(2,.box 197 [.bool (decide ((Zs l j k)<0)),.lit (.string (Cz (Zs l j k).natAbs))])],3,57⟩) trivial (λk hkn hFk J2 hJ2=>?_))))
  refine Ae 6 (Fy 27 ((k:Int)<((j+1:Nat):Int)) (λhx2 hx2d=>?_) (λhx2 hx2d=>?_))
  ·
   exact Ae 11 (Cl [(3,Co (Ar l) k,.none),(5,_,.none),(8,.elt 6 (λxi=>bA ((l.length-1)*6+xi)),.none),(9,.elt 1 (λxi=>(λxi=>bA ((l.length-1)*6+xi)) (k*1+xi)),.none),(11,.int (IntKind.wrap .i64 (Int.tdiv 60 (Gw ((l.length-1)*6+(k*1+0))))),.none),(14,.elt 6 (λxi=>bA (j*6+xi)),.none),(15,.elt 1 (λxi=>(λxi=>bA (j*6+xi)) (k*1+xi)),.none),(17,.int (Qy (l.length-1) j k:Int),.none),(18,_,.none),(19,_,.none),(20,_,.none)] [0,5,6,7,8,9,20,21,25,26] ⟨Ht k l.length,Be (Dh _ (hi k).1 (hi k).2),Br (Le 232 (.tmp 5) (.tmp 35) κ underlying232 36 bA 6 (l.length-1) ((l.length-1:Nat):Int) κ κ sizeOf231 δ rfl ω ω),Br (Le 231 (.tmp 37) (.tmp 36) κ underlying231 6 (λxi=>bA ((l.length-1)*6+xi)) 1 k (k:Int) κ κ sizeOf3 δ rfl ω ω),Br (Alq 3 3 (.const (.int .i64 60)) (.tmp 39) 60 (Gw ((l.length-1)*6+(k*1+0))) κ κ κ (Ak4 ω ω)),Br (Le 232 (.tmp 5) (.tmp 41) κ underlying232 36 bA 6 j (j:Int) κ κ sizeOf231 δ rfl ω ω),Br (Le 231 (.tmp 43) (.tmp 42) κ underlying231 6 (λxi=>bA (j*6+xi)) 1 k (k:Int) κ κ sizeOf3 δ rfl ω ω),Bk (.int .i64 (IntKind.wrap .i64 (IntKind.wrap .i64 (Int.tdiv 60 (Gw ((l.length-1)*6+(k*1+0))))*Gw (j*6+(k*1+0))))) (congrArg (Value.int .i64) (AkK ω ω ω)),Be (Dh _ (pG (n:=l.length-1) (j:=j) (k:=k) ω ω ω).1 (pG (n:=l.length-1) (j:=j) (k:=k) ω ω ω).2),Be (Lb _ _ (Eo (hi k).1 (hi k).2) (Eo (pG (n:=l.length-1) (j:=j) (k:=k) ω ω ω).1 (pG (n:=l.length-1) (j:=j) (k:=k) ω ω ω).2) (vV (n:=l.length-1) (j:=j) (k:=k) ω ω ω hi)),Be (dL (Zs l j k) _ (vR (j:=j) (k:=k) h6 ω ω hi) (vV (n:=l.length-1) (j:=j) (k:=k) ω ω ω hi) (vR (j:=j) (k:=k+1) h6 ω ω hi)),trivial⟩ (Ae 3 (Dd ((k:Int)+1) ((k+1:Nat):Int) (Ae 2 (rE [0,5,6,7,8,9,20,21,25,26] (hJ2 ω trivial))))))
  ·
   refine Ae 16 (Ao (AfI _ _ (Amd (j:=j) (k:=k) h6 ω ω hi) (uM ho.1 ho.2)) (Ae 3 (Fy 55 ((0:Int)<(((Zs l j k).natAbs:Int)-62914560*o).sign) (λhx3 hx3d=>?_) (λhx3 hx3d=>?_))))
   ·
    exact Ae 12 (Eb (.bool false) (congrArg AV.bool (decide_eq_false λh9=>by have h8:=h9 j ω;have h7:=Aqj hx3d;rw[show j+1=k by omega] at h8;omega).symm))
   ·
    exact Ae 5 (Dd ((j:Int)+1) ((j+1:Nat):Int) (Ae 2 (Tf [0,5,6,7,20,21] [(1,1)] 2 0 hA0 [] trivial (hJ1 ω (Agw hFj (by rw[show j+1=k by omega];exact Aqk hx3d))))))
 ·
  exact Ae 12 (Eb (.bool true) (congrArg AV.bool (decide_eq_true (by(obtain rfl:j=l.length:=(ω));exact hFj)).symm))
theorem Amz {c:List Int} {o:Int} (h1:1<=c.length) (h2:c.length<=6) (h3:1<c.length->c.getD (c.length-1) 0≠0) (h4:decide (jS c o c.length)=true):Ko c o:=⟨h1,h2,h3,of_decide_eq_true h4⟩
theorem Tj (s:Sg) (hs:Yf s):AF Tryz.prog 97 [Lx s] (.bool (decide (Nq s))):=by
 refine Au func97 rfl λB D0 hA0=>?_
 refine Ae 13 (Fy 11 (s.f<0) (λhx1 hx1d=>?_) (λhx1 hx1d=>?_))
 ·
  exact Ae 31 (Eb (.bool false) (congrArg AV.bool (decide_eq_false λh9=>by have h8:=h9.1;unfold Np at h8;omega).symm))
 ·
  refine Ae 7 (Fy 18 (s.t<=s.f) (λhx2 hx2d=>?_) (λhx2 hx2d=>?_))
  ·
   exact Ae 24 (Eb (.bool false) (congrArg AV.bool (decide_eq_false λh9=>by have h8:=h9.1;unfold Np at h8;omega).symm))
  ·
   refine Ae 5 (Fy 23 ((3600000:Int)<s.t) (λhx3 hx3d=>?_) (λhx3 hx3d=>?_))
   ·
    exact Ae 19 (Eb (.bool false) (congrArg AV.bool (decide_eq_false λh9=>by have h8:=h9.1;unfold Np at h8;omega).symm))
   ·
    refine Ae 5 (Fy 28 (s.o<1) (λhx4 hx4d=>?_) (λhx4 hx4d=>?_))
    ·
     exact Ae 14 (Eb (.bool false) (congrArg AV.bool (decide_eq_false λh9=>by have h8:=h9.1;unfold Np at h8;omega).symm))
    ·
     refine Ae 6 (Fy 32 ((4294967296:Int)<s.o) (λhx5 hx5d=>?_) (λhx5 hx5d=>?_))
     ·
      exact Ae 8 (Eb (.bool false) (congrArg AV.bool (decide_eq_false λh9=>by have h8:=h9.1;unfold Np at h8;omega).symm))
     ·
      refine Ae 3 ?_
      have g0:0<s.o.natAbs/\s.o.natAbs<=4294967296:=by omega
      refine Ae 4 (Ao (Aka s.o ω hs.o.2) (Ae 8 (Ao (AaM s) (Ae 4 (Vc [1,3,37,38] 3 (λi=>∀q,q<i->Ko (Qu s q) s.o) (λi=>⟨[(1,.ptr 0 0),(3,.ptr 1 0),(37,.agg [Ar s.x,Ar s.y,Ar s.z]),(38,.int (i:Int))],[(0,.box 141 [.int s.f,.int s.t,.int s.o,Ar s.x,Ar s.y,Ar s.z]),(1,.box 197 [.bool (decide ((gAx s i:Int)<0)),.lit (.string (Cz (gAx s i:Int).natAbs))])],2,85⟩) (λq hq=>absurd hq (Nat.not_lt_zero q)) (λi hin hFi J1 hJ1=>?_))))))
      refine Ae 6 (Fy 39 ((i:Int)<3) (λhx6 hx6d=>?_) (λhx6 hx6d=>?_))
      ·
       refine Ae 7 (Ci (Ar (Qu s i)) .none (Aij s (.tmp 37) (.tmp 38) κ κ i ω κ) (Ae 10 (Fy 44 (((Qu s i).length:Int)<1) (λhx7 hx7d=>?_) (λhx7 hx7d=>?_))))
       ·
        exact Ae 40 (Eb (.bool false) (congrArg AV.bool (decide_eq_false λh9=>by have h8:=iU h9 i;unfold Ko at h8;omega).symm))
       ·
        refine Ae 5 (Fy 49 ((6:Int)<((Qu s i).length:Int)) (λhx8 hx8d=>?_) (λhx8 hx8d=>?_))
        ·
         exact Ae 35 (Eb (.bool false) (congrArg AV.bool (decide_eq_false λh9=>by have h8:=iU h9 i;unfold Ko at h8;omega).symm))
        ·
         refine Ae 4 (Fy 53 ((1:Int)<((Qu s i).length:Int)) (λhx9 hx9d=>?_) (λhx9 hx9d=>?_))
         ·
          refine Ae 3 (Dd (((Qu s i).length:Int)-1) (((Qu s i).length-1:Nat):Int) (Fd ((Qu s i).length-1) ((Qu s i).length) (Ae 5 (Fy 63 ((Qu s i).getD ((Qu s i).length-1) 0=0) (λhx10 hx10d=>?_) (λhx10 hx10d=>?_)))))
          ·
           exact Ae 21 (Eb (.bool false) (congrArg AV.bool (decide_eq_false λh9=>by have h8:=iU h9 i;unfold Ko at h8;omega).symm))
          ·
           refine Ae 3 (Ao (eK (Qu s i) s.o ω ω (Wf hs i) hs.o) (Ae 4 (wJ 69 (jS (Qu s i) s.o (Qu s i).length) (λhx11 hx11d=>?_) (λhx11 hx11d=>?_))))
           ·
            refine Ae 11 (Vc [1,3,37,38,70,71,72] ((Qu s i).length) (λk=>True) (λk=>⟨[(1,.ptr 0 0),(3,.ptr 1 0),(37,.agg [Ar s.x,Ar s.y,Ar s.z]),(38,.int (i:Int)),(70,Ar (Qu s i)),(71,.int ((Qu s i).length:Int)),(72,.int (k:Int))],[(0,.box 141 [.int s.f,.int s.t,.int s.o,Ar s.x,Ar s.y,Ar s.z]),(1,.box 197 [.bool (decide ((gL (gAx s i) (Qu s i) k:Int)<0)),.lit (.string (Cz (gL (gAx s i) (Qu s i) k:Int).natAbs))])],2,85⟩) trivial (λk hkn hFk J2 hJ2=>?_))
            refine Ae 6 (Fy 73 ((k:Int)<((Qu s i).length:Int)) (λhx12 hx12d=>?_) (λhx12 hx12d=>?_))
            ·
             exact Ae 7 (Fd k ((Qu s i).length) (Ae 4 (Cl [(2,_,.none),(3,_,.none)] [1,3,37,38,70,71,72] ⟨Be (Dh _ (Wf hs i k).1 (Wf hs i k).2),Be (Xu _ _ (Ahr (l:=Qu s i) (pP g0 i) k) (Eo (Wf hs i k).1 (Wf hs i k).2)),trivial⟩ (Ae 3 (Dd ((k:Int)+1) ((k+1:Nat):Int) (Ae 2 (rE [1,3,37,38,70,71,72] (hJ2 ω trivial))))))))
            ·
             refine Ae 8 (Dd ((i:Int)+1) ((i+1:Nat):Int) (Ae 2 ?_))
             obtain rfl:k=(Qu s i).length:=by omega
             exact rE [1,3,37,38] (hJ1 ω (λq hq=>(Nat.lt_or_ge q i).elim (hFi q) λg9=>by(obtain rfl:q=i:=(ω));exact Amz ω ω (λ_=>by omega) hx11))
           ·
            exact Ae 13 (Eb (.bool false) (congrArg AV.bool (decide_eq_false λh9=>absurd (iU h9 i).2.2.2 (of_decide_eq_false hx11)).symm))
         ·
          refine Ae 13 (Ao (eK (Qu s i) s.o ω ω (Wf hs i) hs.o) (Ae 4 (wJ 69 (jS (Qu s i) s.o (Qu s i).length) (λhx13 hx13d=>?_) (λhx13 hx13d=>?_))))
          ·
           refine Ae 11 (Vc [1,3,37,38,70,71,72] ((Qu s i).length) (λk=>True) (λk=>⟨[(1,.ptr 0 0),(3,.ptr 1 0),(37,.agg [Ar s.x,Ar s.y,Ar s.z]),(38,.int (i:Int)),(70,Ar (Qu s i)),(71,.int ((Qu s i).length:Int)),(72,.int (k:Int))],[(0,.box 141 [.int s.f,.int s.t,.int s.o,Ar s.x,Ar s.y,Ar s.z]),(1,.box 197 [.bool (decide ((gL (gAx s i) (Qu s i) k:Int)<0)),.lit (.string (Cz (gL (gAx s i) (Qu s i) k:Int).natAbs))])],2,85⟩) trivial (λk hkn hFk J3 hJ3=>?_))
           refine Ae 6 (Fy 73 ((k:Int)<((Qu s i).length:Int)) (λhx14 hx14d=>?_) (λhx14 hx14d=>?_))
           ·
            exact Ae 7 (Fd k ((Qu s i).length) (Ae 4 (Cl [(2,_,.none),(3,_,.none)] [1,3,37,38,70,71,72] ⟨Be (Dh _ (Wf hs i k).1 (Wf hs i k).2),Be (Xu _ _ (Ahr (l:=Qu s i) (pP g0 i) k) (Eo (Wf hs i k).1 (Wf hs i k).2)),trivial⟩ (Ae 3 (Dd ((k:Int)+1) ((k+1:Nat):Int) (Ae 2 (rE [1,3,37,38,70,71,72] (hJ3 ω trivial))))))))
           ·
            refine Ae 8 (Dd ((i:Int)+1) ((i+1:Nat):Int) (Ae 2 ?_))
            obtain rfl:k=(Qu s i).length:=by omega
            exact rE [1,3,37,38] (hJ1 ω (λq hq=>(Nat.lt_or_ge q i).elim (hFi q) λg9=>by(obtain rfl:q=i:=(ω));exact Amz ω ω (λ_=>by omega) hx13))
          ·
           exact Ae 13 (Eb (.bool false) (congrArg AV.bool (decide_eq_false λh9=>absurd (iU h9 i).2.2.2 (of_decide_eq_false hx13)).symm))
      ·
       exact Ae 7 (Cl [(1,_,.none),(2,.bool (decide ((gAx s i:Int)=1)),.none)] [2] ⟨Be (Dh 1 δ δ),Br (dW 197 197 (.tmp 82) (.tmp 83) κ _ _ κ κ κ (decide ((gAx s i:Int)=1)) (AqQ _ _)),trivial⟩ (Ae 2 (Eb (.bool (decide ((gAx s i:Int)=1))) (congrArg AV.bool (decide_eq_decide.2 (by(obtain rfl:i=3:=(ω));exact AlM (by unfold Np;omega) hFi))))))
theorem Ad2 (l:List Int) {i:Nat} (h:i<l.length):(Ib l).getD i undef= .int .i64 (l.getD i 0):=by
 rw[Γ,Yv l i h,Γ,List.getElem?_eq_getElem h];rfl
theorem oQ {w:World} {D:Nat->Prop} {l:List Int} {v:Value} (h:Cs w D 1 v l.length (Ib l)) {E:As} (hw:E.w=w) (hD:∀b,D b->E.D b):VR E (Ar l) v:=
 Ms h hw hD λi j hi hj=>by
  obtain rfl:j=0:=by omega
  rw[Nat.mul_one,Nat.add_zero,Ad2 l hi]
  exact .lit _ _
def Sg.none:Sg:=⟨0,0,0,[],[],[]⟩
abbrev Gf (l:List Sg):AV:= .sl 6 l.length λi=>Lx (l.getD i Sg.none)
theorem Alu {w:World} {D:Nat->Prop} {l:List Sg} {v:Value} (h:Age w D v l) {E:As} (hw:E.w=w) (hD:∀b,D b->E.D b):VR E (Gf l) v:=by
 obtain⟨cs,h1,h2⟩:=h
 refine Ms h1 hw hD λi j hi hj=>?_
 obtain⟨a,⟨vx,vy,vz,rfl,hx,hy,hz⟩,ha⟩:=h2.at_ hi
 have e:l.getD i Sg.none=l[i]:=by rw[Γ,List.getElem?_eq_getElem hi];rfl
 have g:∀u,[Value.int .i64 l[i].f,.int .i64 l[i].t,.int .i64 l[i].o,vx,vy,vz][j]?=some u->cs.getD (i*6+j) undef=u:=λu hu=>by
  rw[Γ,ha j u hu];rfl
 rw[e]
 match j,hj with
 |0,_=>rw[g _ rfl];exact .lit _ _
 |1,_=>rw[g _ rfl];exact .lit _ _
 |2,_=>rw[g _ rfl];exact .lit _ _
 |3,_=>rw[g _ rfl];exact oQ (E:=E.fz) hx hw hD
 |4,_=>rw[g _ rfl];exact oQ (E:=E.fz) hy hw hD
 |5,_=>rw[g _ rfl];exact oQ (E:=E.fz) hz hw hD
abbrev Bg (v:V3):AV:= .lit (.agg #[.int .i64 v.x,.int .i64 v.y,.int .i64 v.z])
theorem Lg (v:V3):AF Tryz.prog 17 [Bg v] (.bool (Ed 1048576 [v.x,v.y,v.z])):=nY (vs:=[_]) λw=>nF v.x v.y v.z w
theorem AaB (x y z:Int) (w:World):
  Calls Tryz.prog 140 #[.agg #[.int .i64 x,.int .i64 y,.int .i64 z]] w λe w'=>e= .returned (.bool (Ed 16777216 [x,y,z]))/\Below w.heap.size w w':=by
 go_enter func140,ntmps140
 go_wp2_with fail
 refine(gO _ ?_ ?_ [x,y,z] _ _ ?_ ?_).mono ?_
 · omega
 · omega
 · simp
 · exact Bv.new1 _ [.int .i64 x,.int .i64 y,.int .i64 z] 3 _ 0 _ 1 3 rfl (by simp) Ω (by simp)
 ·
  rintro e w1 ⟨rfl,rfl⟩
  go_wp2_with fail
  go_ret
  exact⟨rfl,(Ψ.alloc ζ _).alloc (by simp) _⟩
theorem Vk (v:V3):AF Tryz.prog 140 [Bg v] (.bool (Ed 16777216 [v.x,v.y,v.z])):=nY (vs:=[_]) λw=>AaB v.x v.y v.z w
abbrev Oi (l:List V3):AV:= .sl 3 l.length λi=>Bg (l.getD i V3.zero)
abbrev Jj (l:List ByteArray):AV:= .sl 1 l.length λi=> .lit (.string (l.getD i ByteArray.empty))
abbrev mvA (m:Mv):AV:= .lit (.agg #[.int .i64 m.to.x,.int .i64 m.to.y,.int .i64 m.to.z,.int .i64 m.wait,.int .i64 m.flight,.int .i64 m.rise])
abbrev Aoe (l:List Mv):AV:= .sl 6 l.length λi=>mvA (l.getD i Mv.none)
abbrev Anh (a:Ac):AV:= .agg [.lit (.string a.name),.int a.len,Aoe a.moves]
abbrev Lh (l:List Ac):AV:= .sl 3 l.length λi=>Anh (l.getD i Ac.none)
abbrev Ie (p:Pr):AV:= .agg [Jj p.names,Oi p.homes,Lh p.acts]
theorem Rb {α:Type} (f:α->List Value) (k:Nat) (hf:∀a,(f a).length=k):∀(l:List α) (i j:Nat) (d:α),i<l.length->j<k->(l.flatMap f).getD (i*k+j) undef=(f (l.getD i d)).getD j undef
 |[],i,j,d,hi,_=>by simp at hi
 |a::l,0,j,d,_,hj=>by
  rw[List.flatMap_cons,Γ,List.getElem?_append_left (by rw[hf];omega)]
  simp
 |a::l,i+1,j,d,hi,hj=>by
  rw[List.flatMap_cons,Γ,List.getElem?_append_right (by rw[hf,Nat.succ_mul];omega),hf]
  have:=Rb f k hf l i j d (by simpa using hi) hj
  rw[Γ] at this
  rw[show (i+1)*k+j-k=i*k+j by rw[Nat.succ_mul];omega,this]
  simp
theorem cB {α:Type} (f:α->List Value) (k:Nat) (hf:∀a,(f a).length=k):∀l:List α,(l.flatMap f).length=l.length*k
 |[]=>by simp
 |a::l=>by rw[List.flatMap_cons,List.length_append,hf,cB f k hf l,List.length_cons,Nat.succ_mul];omega
theorem AeI {E:As} {l:List V3} {v:Value} (h:VR E (Oi l) v):Cs E.w E.D 3 v l.length (Iz l):=
 qW h (Iz l) (cP l) λi j hi hj=>by
  have:=Rb (λv:V3=>[Value.int .i64 v.x,.int .i64 v.y,.int .i64 v.z]) 3 (λ_=>rfl) l i j V3.zero hi hj
  show _=AV.lit ((Iz l).getD (i*3+j) undef)
  unfold Iz
  rw[this]
  match j,hj with
  |0,_=>rfl
  |1,_=>rfl
  |2,_=>rfl
theorem AhV {E:As} {l:List Mv} {v:Value} (h:VR E (Aoe l) v):Cs E.w E.D 6 v l.length (mvs l):=
 qW h (mvs l) (cB Mv.cells 6 (λ_=>rfl) l) λi j hi hj=>by
  have:=Rb Mv.cells 6 (λ_=>rfl) l i j Mv.none hi hj
  unfold mvs
  rw[this]
  match j,hj with
  |0,_=>rfl
  |1,_=>rfl
  |2,_=>rfl
  |3,_=>rfl
  |4,_=>rfl
  |5,_=>rfl
theorem Aag {E:As} {l:List ByteArray} {v:Value} (h:VR E (Jj l) v):Cs E.w E.D 1 v l.length (strs l):=
 qW h (strs l) (by simp[strs]) λi j hi hj=>by
  obtain rfl:j=0:=by omega
  rw[Nat.mul_one,Nat.add_zero]
  show AV.lit (.string (l.getD i ByteArray.empty))=AV.lit ((strs l).getD i undef)
  simp[strs,hi]
def bJ:List Ac->(Nat->Value)->List Value
 |[],_=>[]
 |a::l,g=>[.string a.name,.int .i64 a.len,g 0]++bJ l λi=>g (i+1)
theorem aG:∀(l:List Ac) (g:Nat->Value),(bJ l g).length=l.length*3
 |[],_=>rfl
 |a::l,g=>by rw[bJ,List.length_append,aG l];simp;omega
theorem sI:∀(l:List Ac) (g:Nat->Value) (i j:Nat),i<l.length->j<3->(bJ l g).getD (i*3+j) undef=[Value.string (l.getD i Ac.none).name,.int .i64 (l.getD i Ac.none).len,g i].getD j undef
 |[],g,i,j,hi,_=>by simp at hi
 |a::l,g,0,j,_,hj=>by
  rw[bJ,Γ,List.getElem?_append_left (by simp;omega)]
  simp
 |a::l,g,i+1,j,hi,hj=>by
  rw[bJ,Γ,List.getElem?_append_right (by simp;omega)]
  have:=sI l (λi=>g (i+1)) i j (by simpa using hi) hj
  rw[Γ] at this
  rw[show (i+1)*3+j-[Value.string a.name,.int .i64 a.len,g 0].length=i*3+j by simp;omega,this]
  simp
theorem fJ {w:World} {D:Nat->Prop}:∀(l:List Ac) (g:Nat->Value),(∀i,i<l.length->Cs w D 6 (g i) (l.getD i Ac.none).moves.length (mvs (l.getD i Ac.none).moves))->Tl w D l (bJ l g)
 |[],_,_=>rfl
 |a::l,g,h=>⟨_,_,rfl,⟨g 0,rfl,by simpa using h 0 (by simp)⟩,fJ l (λi=>g (i+1)) λi hi=>by simpa using h (i+1) (by simpa using hi)⟩
theorem AcD {E:As} {l:List Ac} {v:Value} (h:VR E (Lh l) v):∃cs,Cs E.w E.D 3 v l.length cs/\Tl E.w E.D l cs:=by
 unfold Lh at h
 generalize hn:l.length=n at h ⊢
 cases h with
 |sl0=>
  have:l=[]:=List.eq_nil_of_length_eq_zero hn
  subst this
  exact⟨[],⟨rfl,.inl ⟨_,_,rfl,rfl⟩⟩,rfl⟩
 |sl _ _ _ _ b q c us hn0 hD hcell hr=>
  refine⟨bJ l λi=>us i 2,⟨by rw[aG,hn],.inr ⟨b,q,c,rfl,hD,λk u hu=>?_⟩⟩,fJ l _ λi hi=>?_⟩
  obtain⟨hk,he⟩:=List.getElem?_eq_some_iff.1 hu
  rw[aG,hn] at hk
  obtain⟨d1,d2,d3⟩:=oZ hk δ
  have h1:=hcell _ _ d1 d2
  have h2:=hr _ _ d1 d2
  have h3:=sI l (λi=>us i 2) (k/3) (k%3) (by rw[hn];exact d1) d2
  rw[d3,Γ,hu] at h3
  rw[Nat.add_assoc,d3] at h1
  rw[h1]
  congr 1
  have h4:u=[Value.string (l.getD (k/3) Ac.none).name,.int .i64 (l.getD (k/3) Ac.none).len,us (k/3) 2].getD (k%3) undef:=h3
  rw[h4]
  generalize hj:k%3=j at h2 d2
  match j,d2 with
  |0,_=>exact h2.lit_inv
  |1,_=>exact h2.lit_inv
  |2,_=>rfl
  have h2:=hr i 2 ω δ
  exact AhV (E:=E.fz) h2
theorem AbE {E:As} {p:Pr} {v:Value} (h:VR E (Ie p) v) (hD:∀b,E.D b->b<E.w.heap.size):∃vn vh va,v= .agg #[vn,vh,va]/\Hx E.w E.w.heap.size vn vh va p:=by
 have hrg:∀b,E.D b->rg 0 E.w.heap.size b:=λb hb=>⟨Nat.zero_le _,hD b hb⟩
 cases h with
 |agg _ _ vs hn hr=>
  have g:=VR.tops hr
  have hvs:vs=#[vs.getD 0 undef,vs.getD 1 undef,vs.getD 2 undef]:=by
   apply Array.ext
   simpa using hn
   intro i h1 h2
   have h3:i<3:=by simpa using h2
   match i,h3 with
   |0,_=>simp[Array.getD,h1]
   |1,_=>simp[Array.getD,h1]
   |2,_=>simp[Array.getD,h1]
  obtain⟨cs,k1,k2⟩:=AcD (g 2)
  exact⟨_,_,_,congrArg _ hvs,⟨(Aag (g 0)).more hrg,(AeI (g 1)).more hrg,cs,k1.more hrg,k2.more hrg⟩⟩
structure fF (p:Pr):Prop where
 names:∀s∈p.names,s.size<=maxLen
 anames:∀a∈p.acts,a.name.size<=maxLen
 acts:p.acts.length<=1000000
 moves:∀a∈p.acts,a.moves.length<=1000000
 lens:∀a∈p.acts,Cf a.len
theorem Ab8 {vs:Array Value} (h:vs.size=1):vs=#[vs.getD 0 undef]:=by
 apply Array.ext
 simpa using h
 intro i h1 h2
 have:i=0:=by simp at h2;exact h2
 subst this
 simp[h1]
theorem Hb (p:Pr) (hp:fF p):AF Tryz.prog 29 [Ie p] (.bool (Ef p)):=Th λE us hD hn hv=>by
 rw[Ab8 hn]
 have h0:=hv 0 (by simp)
 obtain⟨vn,vh,va,e,h1⟩:=AbE (E:=E.fz) (p:=p) h0 hD
 rw[e]
 refine(AeF p vn vh va E.w h1 hp.names hp.anames hp.acts hp.moves).mono ?_
 rintro e w' ⟨rfl,hb⟩
 exact⟨_,rfl,hb,λ_ _ _ _=> .lit _ _⟩
def Ake (p:Pr) (a k:Int):Prop:=(p.names.length:Int)<=a/\(p.homes.length:Int)<=a/\(p.acts.length:Int)<=k/\(∀i,i<p.names.length->(p.names.getD i ByteArray.empty).size<=60)/\∀i,i<p.acts.length->(p.acts.getD i Ac.none).name.size<=60/\((p.acts.getD i Ac.none).moves.length:Int)<=a
theorem Afu (p:Pr) (a k:Int) (ha:Cf a) (hk:Cf k):AF Tryz.prog 4 [Ie p,.int a,.int k] (.bool (bP (Ake p a k))):=by
 refine Au func4 rfl λB D0 hA0=>?_
 refine Ae 15 (Fy 14 (a<(p.names.length:Int)) (λhx1 hx1d=>?_) (λhx1 hx1d=>?_))
 ·
  exact Ae 23 (Eb (.bool false) (congrArg AV.bool (Ck (by rintro⟨g1,g2,g3,g4,g5⟩;first|omega|(have:=g4 i ω;omega)|(have:=g5 j ω;omega))).symm))
 ·
  refine Ae 7 (Fy 21 (a<(p.homes.length:Int)) (λhx2 hx2d=>?_) (λhx2 hx2d=>?_))
  ·
   exact Ae 16 (Eb (.bool false) (congrArg AV.bool (Ck (by rintro⟨g1,g2,g3,g4,g5⟩;first|omega|(have:=g4 i ω;omega)|(have:=g5 j ω;omega))).symm))
  ·
   refine Ae 8 (Fy 27 (k<(p.acts.length:Int)) (λhx3 hx3d=>?_) (λhx3 hx3d=>?_))
   ·
    exact Ae 8 (Eb (.bool false) (congrArg AV.bool (Ck (by rintro⟨g1,g2,g3,g4,g5⟩;first|omega|(have:=g4 i ω;omega)|(have:=g5 j ω;omega))).symm))
   ·
    refine Ae 10 (Vc [1,3,7] p.names.length (λi=>∀q,q<i->(p.names.getD q ByteArray.empty).size<=60) (λi=>⟨[(1,.int a),(3,.ptr 0 0),(7,.int (i:Int))],[(0,.box 31 [Jj p.names,Oi p.homes,Lh p.acts])],1,68⟩) (λq hq=>absurd hq (Nat.not_lt_zero q)) (λi hin hFi J1 hJ1=>?_))
    refine Ae 10 (Fy 32 ((i:Int)<(p.names.length:Int)) (λhx4 hx4d=>?_) (λhx4 hx4d=>?_))
    ·
     refine Ae 10 (Fd i p.names.length (Ae 1 (Bo (.int .i64 (ByteArray.size (p.names.getD i ByteArray.empty):Int)) (.int .i64 (ByteArray.size (p.names.getD i ByteArray.empty):Int)) (Ae 3 (Fy 41 ((60:Int)<(ByteArray.size (p.names.getD i ByteArray.empty):Int)) (λhx5 hx5d=>?_) (λhx5 hx5d=>?_))))))
     ·
      exact Ae 12 (Eb (.bool false) (congrArg AV.bool (Ck (by rintro⟨g1,g2,g3,g4,g5⟩;first|omega|(have:=g4 i ω;omega)|(have:=g5 j ω;omega))).symm))
     ·
      exact Ae 6 (Dd ((i:Int)+1) ((i+1:Nat):Int) (Ae 2 (rE [1,3,7] (hJ1 ω (λq hq=>(Nat.lt_or_ge q i).elim (λg=>hFi q g) λg=>by have e:q=i:=(ω);subst e;omega)))))
    ·
     refine Ae 13 (Vc [1,3,8] p.acts.length (λj=>∀q,q<j->(p.acts.getD q Ac.none).name.size<=60/\((p.acts.getD q Ac.none).moves.length:Int)<=a) (λj=>⟨[(1,.int a),(3,.ptr 0 0),(8,.int (j:Int))],[(0,.box 31 [Jj p.names,Oi p.homes,Lh p.acts])],1,68⟩) (λq hq=>absurd hq (Nat.not_lt_zero q)) (λj hjn hFj J2 hJ2=>?_))
     refine Ae 10 (Fy 46 ((j:Int)<(p.acts.length:Int)) (λhx6 hx6d=>?_) (λhx6 hx6d=>?_))
     ·
      refine Ae 10 (Fd j p.acts.length (Ae 2 (Bo (.int .i64 (ByteArray.size ((p.acts.getD j Ac.none).name):Int)) (.int .i64 (ByteArray.size ((p.acts.getD j Ac.none).name):Int)) (Ae 2 (Fy 57 ((60:Int)<(ByteArray.size ((p.acts.getD j Ac.none).name):Int)) (λhx7 hx7d=>?_) (λhx7 hx7d=>?_))))))
      ·
       exact Ae 24 (Eb (.bool false) (congrArg AV.bool (Ck (by rintro⟨g1,g2,g3,g4,g5⟩;first|omega|(have:=g4 i ω;omega)|(have:=g5 j ω;omega))).symm))
      ·
       refine Ae 3 (Fd j p.acts.length (Ae 8 (Fy 67 (a<((p.acts.getD j Ac.none).moves.length:Int)) (λhx8 hx8d=>?_) (λhx8 hx8d=>?_))))
       ·
        exact Ae 12 (Eb (.bool false) (congrArg AV.bool (Ck (by rintro⟨g1,g2,g3,g4,g5⟩;first|omega|(have:=g4 i ω;omega)|(have:=g5 j ω;omega))).symm))
       ·
        exact Ae 6 (Dd ((j:Int)+1) ((j+1:Nat):Int) (Ae 2 (rE [1,3,8] (hJ2 ω (λq hq=>(Nat.lt_or_ge q j).elim (λg=>hFj q g) λg=>by have e:q=j:=(ω);subst e;omega)))))
     ·
      exact Ae 12 (Eb (.bool true) (congrArg AV.bool (Yg (⟨ω,ω,ω,λq hq=>hFi q ω,λq hq=>hFj q ω⟩)).symm))
def Fo (l:List Ac):Nat->Int
 |0=>0
 |k+1=>Fo l k+(l.getD k Ac.none).len
theorem gY {p:Pr} {k:Nat} {t:Int} {m:List Int}:∀{i:Nat} {l:List Int},Dy p k t m i=some l->∀j,j<i->Um p k t j=0
 |0,_,_,j,hj=>absurd hj (Nat.not_lt_zero j)
 |i+1,l,h,j,hj=>by
  rw[Dy] at h
  cases h1:Dy p k t m i with
  |none=>rw[h1] at h;cases h
  |some l1=>
   rw[h1] at h
   simp only at h
   split at h
   rename_i hc
   rcases Nat.lt_or_ge j i with hji|hji
   exact gY h1 j hji
   have:j=i:=by omega
   subst this
   exact hc.1
   cases h
theorem jL {p:Pr}:∀{k:Nat} {t:Int} {m:List Int},Kl p k=some (t,m)->t=Fo p.acts k/\0<=t/\t<=3600000/\∀j,j<k->(0<=Fo p.acts j/\Fo p.acts j<=3600000)/\1<=(p.acts.getD j Ac.none).len/\(p.acts.getD j Ac.none).moves.length=p.names.length/\∀i,i<p.names.length->Um p j (Fo p.acts j) i=0
 |0,t,m,h=>by
  simp only[Kl,Option.some.injEq,Prod.mk.injEq] at h
  obtain⟨rfl,_⟩:=h
  exact⟨rfl,Int.le_refl _,δ,λj hj=>absurd hj (Nat.not_lt_zero j)⟩
 |k+1,t,m,h=>by
  rw[Kl] at h
  cases h1:Kl p k with
  |none=>rw[h1] at h;cases h
  |some tm=>
   obtain⟨t1,m1⟩:=tm
   rw[h1] at h
   simp only at h
   split at h
   rename_i hc
   cases h2:Dy p k t1 m1 p.names.length with
   |none=>rw[h2] at h;cases h
   |some m2=>
    rw[h2] at h
    simp only[Option.some.injEq,Prod.mk.injEq] at h
    obtain⟨rfl,rfl⟩:=h
    obtain⟨e1,e2,e3,e4⟩:=jL h1
    refine⟨by rw[Fo,e1],ω,ω,λj hj=>?_⟩
    rcases Nat.lt_or_ge j k with hjk|hjk
    exact e4 j hjk
    have:j=k:=by omega
    subst this
    rw[<-e1]
    exact⟨⟨e2,e3⟩,hc.2.1,hc.2.2.2,gY h2⟩
   cases h
structure Agf (p:Pr):Prop where
 n1:1<=p.names.length/\p.names.length<=64
 homes:p.homes.length=p.names.length
 acts:p.acts.length<=60
 ends:∀j,j<=p.acts.length->0<=Fo p.acts j/\Fo p.acts j<=3600000
 len:∀j,j<p.acts.length->1<=(p.acts.getD j Ac.none).len
 mv:∀j,j<p.acts.length->(p.acts.getD j Ac.none).moves.length=p.names.length
 pe:∀j i,j<p.acts.length->i<p.names.length->Um p j (Fo p.acts j) i=0
theorem Vb {p:Pr} (h:Ef p=true):Agf p:=by
 unfold Ef at h
 simp only[Bool.and_eq_true,decide_eq_true_eq] at h
 obtain⟨⟨h1,h2⟩,h3⟩:=h
 unfold Ts at h1
 simp only[Bool.and_eq_true,decide_eq_true_eq] at h1
 obtain⟨tm,ht⟩:=Option.isSome_iff_exists.1 h3
 obtain⟨t,m⟩:=tm
 obtain⟨e1,e2,e3,e4⟩:=jL ht
 refine⟨⟨h1.1.1.1,h1.1.1.2⟩,h1.1.2,h2,λj hj=>?_,λj hj=>(e4 j hj).2.1,λj hj=>(e4 j hj).2.2.1,λj i hj hi=>(e4 j hj).2.2.2 i hi⟩
 rcases Nat.lt_or_ge j p.acts.length with hlt|hge
 exact(e4 j hlt).1
 have:j=p.acts.length:=by omega
 subst this
 rw[<-e1];exact⟨e2,e3⟩
theorem in3 {m x y z:Int} (h:Ed m [x,y,z]=true):(-m<=x/\x<=m)/\(-m<=y/\y<=m)/\(-m<=z/\z<=m):=by
 unfold Ed at h
 simpa using h
theorem getD_in {l:List Ac} (h:∀a∈l,Cf a.len) (i:Nat):Cf (l.getD i Ac.none).len:=by
 rw[Γ]
 cases hi:l[i]? with
 |none=>exact⟨δ,δ⟩
 |some a=>exact h a (List.mem_of_getElem? hi)
theorem aX {f:FuncId} {args:List AV} {σ:List SC} {r:AV} (h:AF Tryz.prog f args r) (hs:shA σ r=true:=by kernel_rfl):∃r,Ga σ r/\AF Tryz.prog f args r:=⟨_,hs,h⟩
theorem Qr (a b:Rw):AF Tryz.prog 187 [Fv a,Fv b] (.bool (Jg a&&Jg b)):=by
 refine Au func187 rfl λB D0 hA0=>?_
 refine Ae 10 (Ao (Gi a) (Ae 1 (vsb 7 (Jg a) (λhx1=>?_) (λhx1=>?_))))
 ·
  exact Ae 1 (Ao (Gi b) (Ae 5 (Eb (.bool (Jg b)) (congrArg AV.bool (by rw[hx1];rfl)))))
 ·
  exact Ae 7 (Eb (.bool false) (congrArg AV.bool (by rw[hx1];rfl)))
theorem Ajl (x y:Int) (hx:Cb x) (hy:Cb y):∃r,Ga [.agg [.b,.s],.one .i] r/\AF Tryz.prog 173 [.lit (Al x),.lit (Al y)] r:=aX (rY x y hx hy)
theorem AeJ (a:Rw) (b:Rw) (h:(Jg a&&Jg b)=false):∃r,Ga [.agg [.b,.s],.one .i] r/\AF Tryz.prog 173 [Fv a,Fv b] r:=by
 refine Av func173 rfl ?_
 exact Ab 13 (gs (Ao (Qr a b) ·) (Ab 3 (jD 9 (!(Jg a&&Jg b)) true (by rw[h];rfl) (Ab 10 (Bc)))))
theorem Ajk (a:Rw) (b:Rw):∃r,Ga [.agg [.b,.s],.one .i] r/\AF Tryz.prog 173 [Fv a,Fv b] r:=by
 cases h:(Jg a&&Jg b) with
 |false=>exact AeJ a b h
 |true=>
  obtain⟨h1,h2⟩:=Bool.and_eq_true_iff.1 h
  obtain⟨x,hx,ex⟩:=Lw h1
  obtain⟨y,hy,ey⟩:=Lw h2
  rw[ex,ey]
  exact Ajl x y hx hy
noncomputable def AoS (a:Rw) (b:Rw):Value:=Kp 173 [.agg [.b,.s],.one .i] [Fv a,Fv b]
theorem rZ (a:Rw) (b:Rw):AF Tryz.prog 173 [Fv a,Fv b] (.lit (Hi [.agg [.b,.s],.one .i] (AoS a b))):=Bn (Ajk a b)
theorem Aj3 (x y:Int) (hx:Cb x) (hy:Cb y):∃r,Ga [.agg [.b,.s],.one .i] r/\AF Tryz.prog 255 [.lit (Al x),.lit (Al y)] r:=aX (AfO x y hx hy)
theorem AeT (a:Rw) (b:Rw) (h:(Jg a&&Jg b)=false):∃r,Ga [.agg [.b,.s],.one .i] r/\AF Tryz.prog 255 [Fv a,Fv b] r:=by
 refine Av func255 rfl ?_
 exact Ab 13 (gs (Ao (Qr a b) ·) (Ab 3 (jD 9 (!(Jg a&&Jg b)) true (by rw[h];rfl) (Ab 10 (Bc)))))
theorem Aj2 (a:Rw) (b:Rw):∃r,Ga [.agg [.b,.s],.one .i] r/\AF Tryz.prog 255 [Fv a,Fv b] r:=by
 cases h:(Jg a&&Jg b) with
 |false=>exact AeT a b h
 |true=>
  obtain⟨h1,h2⟩:=Bool.and_eq_true_iff.1 h
  obtain⟨x,hx,ex⟩:=Lw h1
  obtain⟨y,hy,ey⟩:=Lw h2
  rw[ex,ey]
  exact Aj3 x y hx hy
noncomputable def AoZ (a:Rw) (b:Rw):Value:=Kp 255 [.agg [.b,.s],.one .i] [Fv a,Fv b]
theorem AfP (a:Rw) (b:Rw):AF Tryz.prog 255 [Fv a,Fv b] (.lit (Hi [.agg [.b,.s],.one .i] (AoZ a b))):=Bn (Aj2 a b)
theorem Ajv (x y:Int) (hx:Cb x) (hy:Cb y):∃r,Ga [.agg [.b,.s],.one .i] r/\AF Tryz.prog 186 [.lit (Al x),.lit (Al y)] r:=aX (sD x y hx hy)
theorem AeO (a:Rw) (b:Rw) (h:(Jg a&&Jg b)=false):∃r,Ga [.agg [.b,.s],.one .i] r/\AF Tryz.prog 186 [Fv a,Fv b] r:=by
 refine Av func186 rfl ?_
 exact Ab 13 (gs (Ao (Qr a b) ·) (Ab 3 (jD 9 (!(Jg a&&Jg b)) true (by rw[h];rfl) (Ab 10 (Bc)))))
theorem Aju (a:Rw) (b:Rw):∃r,Ga [.agg [.b,.s],.one .i] r/\AF Tryz.prog 186 [Fv a,Fv b] r:=by
 cases h:(Jg a&&Jg b) with
 |false=>exact AeO a b h
 |true=>
  obtain⟨h1,h2⟩:=Bool.and_eq_true_iff.1 h
  obtain⟨x,hx,ex⟩:=Lw h1
  obtain⟨y,hy,ey⟩:=Lw h2
  rw[ex,ey]
  exact Ajv x y hx hy
noncomputable def AoX (a:Rw) (b:Rw):Value:=Kp 186 [.agg [.b,.s],.one .i] [Fv a,Fv b]
theorem eZ (a:Rw) (b:Rw):AF Tryz.prog 186 [Fv a,Fv b] (.lit (Hi [.agg [.b,.s],.one .i] (AoX a b))):=Bn (Aju a b)
theorem Ajo (x y:Int) (hx:Cb x) (hy:Cb y):∃r,Ga [.one .i] r/\AF Tryz.prog 150 [.lit (Al x),.lit (Al y)] r:=aX (bG x y hx hy)
theorem AeK (a:Rw) (b:Rw) (h:(Jg a&&Jg b)=false):∃r,Ga [.one .i] r/\AF Tryz.prog 150 [Fv a,Fv b] r:=by
 refine Av func150 rfl ?_
 exact Ab 12 (gs (Ao (Qr a b) ·) (Ab 3 (jD 8 (!(Jg a&&Jg b)) true (by rw[h];rfl) (Ab 8 (Bc)))))
theorem Ajn (a:Rw) (b:Rw):∃r,Ga [.one .i] r/\AF Tryz.prog 150 [Fv a,Fv b] r:=by
 cases h:(Jg a&&Jg b) with
 |false=>exact AeK a b h
 |true=>
  obtain⟨h1,h2⟩:=Bool.and_eq_true_iff.1 h
  obtain⟨x,hx,ex⟩:=Lw h1
  obtain⟨y,hy,ey⟩:=Lw h2
  rw[ex,ey]
  exact Ajo x y hx hy
noncomputable def AoU (a:Rw) (b:Rw):Value:=Kp 150 [.one .i] [Fv a,Fv b]
theorem Tk (a:Rw) (b:Rw):AF Tryz.prog 150 [Fv a,Fv b] (.lit (Hi [.one .i] (AoU a b))):=Bn (Ajn a b)
theorem Ajx (x:Int) (hx:Cb x):∃r,Ga [.agg [.b,.s],.one .i] r/\AF Tryz.prog 162 [.lit (Al x)] r:=aX (sE x hx)
theorem AeP (a:Rw) (h:Jg a=false):∃r,Ga [.agg [.b,.s],.one .i] r/\AF Tryz.prog 162 [Fv a] r:=by
 refine Av func162 rfl ?_
 exact Ab 11 (gs (Ao (Gi a) ·) (Ab 3 (jD 6 (!Jg a) true (by rw[h];rfl) (Ab 10 (Bc)))))
theorem Ajw (a:Rw):∃r,Ga [.agg [.b,.s],.one .i] r/\AF Tryz.prog 162 [Fv a] r:=by
 cases h:Jg a with
 |false=>exact AeP a h
 |true=>
  obtain⟨x,hx,ex⟩:=Lw h
  rw[ex]
  exact Ajx x hx
noncomputable def AoY (a:Rw):Value:=Kp 162 [.agg [.b,.s],.one .i] [Fv a]
theorem AfN (a:Rw):AF Tryz.prog 162 [Fv a] (.lit (Hi [.agg [.b,.s],.one .i] (AoY a))):=Bn (Ajw a)
theorem Ajt (x:Int) (hx:Cb x):∃r,Ga [.one .i] r/\AF Tryz.prog 237 [.lit (Al x)] r:=aX (oD x hx)
theorem AeN (a:Rw) (h:Jg a=false):∃r,Ga [.one .i] r/\AF Tryz.prog 237 [Fv a] r:=by
 refine Av func237 rfl ?_
 exact Ab 10 (gs (Ao (Gi a) ·) (Ab 3 (jD 5 (!Jg a) true (by rw[h];rfl) (Ab 8 (Bc)))))
theorem Ajs (a:Rw):∃r,Ga [.one .i] r/\AF Tryz.prog 237 [Fv a] r:=by
 cases h:Jg a with
 |false=>exact AeN a h
 |true=>
  obtain⟨x,hx,ex⟩:=Lw h
  rw[ex]
  exact Ajt x hx
noncomputable def AoW (a:Rw):Value:=Kp 237 [.one .i] [Fv a]
theorem AfL (a:Rw):AF Tryz.prog 237 [Fv a] (.lit (Hi [.one .i] (AoW a))):=Bn (Ajs a)
theorem Amt (n:Int):∃r,Ga [.agg [.b,.s]] r/\AF Tryz.prog 123 [.int n] r:=by
 have hd1:=Zu n
 have hd2:=Zu (0-((Ds n:Nat):Int))
 refine Av func123 rfl ?_
 refine Ab 8 (gs (λh9=>Bo (.int .u64 (IntKind.wrap .u64 n)) (.int .u64 ((Ds n:Nat):Int)) h9 (congrArg (Value.int .u64) (Vw n))) (Ab 10 (Ev 9 ?_ ?_)))
 exact Ab 3 (gs (λh9=>Bo (.int .u64 (IntKind.wrap .u64 (0-((Ds n:Nat):Int)))) (.int .u64 ((Ds (0-((Ds n:Nat):Int)):Nat):Int)) h9 (congrArg (Value.int .u64) (Vw _))) (Ab 8 (gs (Oh 1 151 1 1 (λ_=> .lit (.int .u64 ((Ds (0-((Ds n:Nat):Int)):Nat):Int))) ·) (gs (Ci (Du (Ds (0-((Ds n:Nat):Int)))) (.drop 1) (Gj 145 #[.tmp 16] #[226] κ (λ_ _=>by kernel_rfl) 1 (.vec 151 1 1 (λ_=> .lit (.int .u64 ((Ds (0-((Ds n:Nat):Int)):Nat):Int)))) κ (λ_ _ _ _ h=>by cases h;exact(Df λ_ _=>rfl)) [.osl 1 1 1] κ [.slc 1 1 (λ_=> .lit (.int .u64 ((Ds (0-((Ds n:Nat):Int)):Nat):Int)))] κ (Du (Ds (0-((Ds n:Nat):Int)))) (Xv (Ds (0-((Ds n:Nat):Int))) (Zv _))) ·) (Ab 1 (Dx (Nj (decide (n<0)) (Ds (0-((Ds n:Nat):Int))) ω) λv1 hv1=>(gs (Ao hv1 ·) (Ab 15 (Bc)))))))))
 exact Ab 8 (gs (Oh 1 151 1 1 (λ_=> .lit (.int .u64 ((Ds n:Nat):Int))) ·) (gs (Ci (Du (Ds n)) (.drop 1) (Gj 145 #[.tmp 16] #[226] κ (λ_ _=>by kernel_rfl) 1 (.vec 151 1 1 (λ_=> .lit (.int .u64 ((Ds n:Nat):Int)))) κ (λ_ _ _ _ h=>by cases h;exact(Df λ_ _=>rfl)) [.osl 1 1 1] κ [.slc 1 1 (λ_=> .lit (.int .u64 ((Ds n:Nat):Int)))] κ (Du (Ds n)) (Xv (Ds n) (Zv _))) ·) (Ab 1 (Dx (Nj (decide (n<0)) (Ds n) ω) λv2 hv2=>(gs (Ao hv2 ·) (Ab 15 (Bc)))))))
noncomputable def Aq3 (n:Int):Value:=Kp 123 [.agg [.b,.s]] [.int n]
theorem Mj (n:Int):AF Tryz.prog 123 [.int n] (.lit (Hi [.agg [.b,.s]] (Aq3 n))):=Bn (Amt n)
theorem lH (p:Pr) (hp:fF p) (h:Ef p=true):AF Tryz.prog 30 [Ie p] (.lit (.tuple #[.int .i64 (Fo p.acts p.acts.length),.int .i64 0])):=by
 have ho:=Vb h
 have hac:=ho.acts
 refine Au func30 rfl λB D0 hA0=>?_
 refine Ae 11 (Ao (Hb p hp) (Ae 3 (La 9 (!Ef p) false (by rw[h];rfl) (Ae 18 (Vc [4,11,12,13] p.acts.length (λi=>True) (λi=>⟨[(4,.int (Fo p.acts i)),(11,Lh p.acts),(12,.int (p.acts.length:Int)),(13,.int (i:Int))],[(0,.box 31 [Jj p.names,Oi p.homes,Lh p.acts])],1,23⟩) trivial (λi hin hFi J1 hJ1=>?_))))))
 refine Ae 6 (Fy 14 ((i:Int)<(p.acts.length:Int)) (λhx1 hx1d=>?_) (λhx1 hx1d=>?_))
 ·
  refine Ae 5 ?_
  have he2:=ho.ends i ω
  have hl:=getD_in hp.lens i
  refine Ae 2 (Fd i p.acts.length (Ae 9 (Bo (.int .i64 (IntKind.wrap .i64 (Fo p.acts i+(p.acts.getD i Ac.none).len))) (.int .i64 (Fo p.acts (i+1))) ?_ (congrArg (Value.int .i64) ((IntWalk.i64_in _ (by have he3:=ho.ends (i+1) ω;rw[Fo] at he3;omega)).trans rfl)))))
  exact Ae 5 (Dd ((i:Int)+1) ((i+1:Nat):Int) (Ae 2 (Tf [4,11,12,13] [(0,0)] 1 0 hA0 [] trivial (hJ1 ω trivial))))
 ·
  exact Ae 14 (Eb (.lit (.tuple #[.int .i64 (Fo p.acts i),.int .i64 0])) (congrArg (λq=>AV.lit (.tuple #[.int .i64 (Fo p.acts q),.int .i64 0])) (show i=p.acts.length by omega)))
theorem Aov {s:Sg} {a d:Int} (ho:s.o≠0) (hd:d≠0):plG s a d≠0:=by
 have h0:(nE s d).natAbs≠0:=by
  unfold nE
  rw[Int.natAbs_mul,Int.natAbs_pow]
  have h1:0<s.o.natAbs:=by omega
  have h2:0<d.natAbs^5:=Nat.pow_pos ω
  exact Nat.ne_of_gt (Nat.mul_pos h1 h2)
 have g:∀x y:Int,x.natAbs≠0->(Nat.gcd x.natAbs y.natAbs:Int).natAbs≠0:=λx y hx=>by
  rw[Int.natAbs_natCast]
  exact Nat.ne_of_gt (Nat.gcd_pos_of_pos_left _ ω)
 have h:=g _ (plZ s a d) (g _ (plY s a d) (g _ (plX s a d) h0))
 unfold plG
 omega
theorem eU (s:Sg) (a d:Int) (hs:Yf s) (ho:Nq s) (ha:Cf a) (hd:Cf d) (h0:d≠0):AF Tryz.prog 127 [Lx s,.int a,.int d] (qI (Id s a d)):=
 Af9 s a d hs ho.2.1.2.1 ho.2.2.1.2.1 ho.2.2.2.1.2.1 ha hd (Aov (by have:=ho.1.2.2.2.1;omega) h0)
def bH (s u:Sg):Prop:=s.t=u.f/\Id s 1 1=Id u 0 1
instance (s u:Sg):Decidable (bH s u):=by unfold bH;infer_instance
def Wy (l:List Sg):Prop:=(∀i,i<l.length->Nq (l.getD i Sg.none)/\(0<i->bH (l.getD (i-1) Sg.none) (l.getD i Sg.none)))/\1<=l.length/\l.length<=256
instance (l:List Sg):Decidable (Wy l):=by unfold Wy;infer_instance
def Pz (l:List Sg):Prop:=l.length<=1000000/\∀i,Yf (l.getD i Sg.none)
theorem Si:Cf 0:=⟨δ,δ⟩
theorem pR:Cf 1:=⟨δ,δ⟩
theorem Af1 (s u:Sg) (hs:Yf s) (hu:Yf u) (ho:Nq s) (hp:Nq u):AF Tryz.prog 98 [Lx s,Lx u] (.bool (bP (bH s u))):=by
 refine Au func98 rfl λB D0 hA0=>?_
 refine Ae 8 (vsp (s.t=u.f) (λhx1 hx1d=>?_) (λhx1 hx1d=>?_))
 ·
  exact Cl [(4,.bool true,.none),(7,_,.none),(9,_,.none),(10,.bool (decide (Id s 1 1=Id u 0 1)),.none)] [4] ⟨rG hx1,Be (eU s 1 1 hs ho pR pR δ),Be (eU u 0 1 hu hp Si pR δ),Br (dW 204 204 (.tmp 12) (.tmp 14) κ _ _ κ κ κ (decide (Id s 1 1=Id u 0 1)) (AkF (Id s 1 1) (Id u 0 1))),trivial⟩ (Ae 2 (Eb (.bool (decide (Id s 1 1=Id u 0 1))) (congrArg AV.bool (if hz:Id s 1 1=Id u 0 1 then (decide_eq_true hz).trans (Yg ⟨by assumption,hz⟩).symm else (decide_eq_false hz).trans (Ck (λg=>hz g.2)).symm))))
 ·
  exact Cl [(4,.bool false,.none)] [4] ⟨rG hx1,trivial⟩ (Ae 2 (Eb (.bool false) (congrArg AV.bool (Ck (λg=>absurd g.1 θ)).symm)))
theorem Xz (l:List Sg) (hl:Pz l):AF Tryz.prog 67 [Gf l] (.bool (bP (Wy l))):=by
 have hln:=hl.1
 refine Au func67 rfl λB D0 hA0=>?_
 refine Ae 14 (Vc [0,5,6,7] l.length (λi=>∀q,q<i->Nq (l.getD q Sg.none)/\(0<q->bH (l.getD (q-1) Sg.none) (l.getD q Sg.none))) (λi=>⟨[(0,Gf l),(5,Gf l),(6,.int ((l).length:Int)),(7,.int (i:Int))],[],0,38⟩) (λq hq=>absurd hq (Nat.not_lt_zero q)) (λi hin hFi J1 hJ1=>?_))
 refine Ae 6 (Fy 8 ((i:Int)<((l).length:Int)) (λhx1 hx1d=>?_) (λhx1 hx1d=>?_))
 ·
  refine Ae 8 (Fd i ((l).length) (Ae 7 (vsp (Nq (l.getD i Sg.none)) (λhx2 hx2d=>?_) (λhx2 hx2d=>?_))))
  ·
   refine vsp ((0:Int)<(i:Int)) (λhx3 hx3d=>?_) (λhx3 hx3d=>?_)
   ·
    refine Cl [(1,.bool true,.none),(5,.bool true,.none),(9,.int ((i-1:Nat):Int),.none),(10,Co (Gf l) (i-1),.none),(13,_,.none)] [0,5,6,7,28] ⟨aO hx2 (Be (Tj (l.getD i Sg.none) (hl.2 i))),rG hx3,Bk (.int .i64 (IntKind.wrap .i64 ((i:Int)-1))) η,Ht (i-1) ((l).length),Be (Af1 _ _ (hl.2 (i-1)) (hl.2 i) (hFi (i-1) ω).1 (of_decide_eq_true θ)),trivial⟩ (Ae 1 (wH 28 (bP (bH (l.getD (i-1) Sg.none) (l.getD i Sg.none))) (λhx4=>?_) (λhx4=>?_)))
    ·
     exact Ae 5 (Dd ((i:Int)+1) ((i+1:Nat):Int) (Ae 2 (Tf [0,5,6,7] [] 0 0 hA0 [] trivial (hJ1 ω (λq hq=>(Nat.lt_or_ge q i).elim (λg=>hFi q g) λg=>by have e:q=i:=(ω);subst e;exact⟨of_decide_eq_true hx2,λ_=>sO hx4⟩)))))
    ·
     exact Ae 12 (Eb (.bool false) (congrArg AV.bool (Ck (by rintro⟨g1,g2,g3⟩;first|omega|exact Anl hx4 ((g1 i ω).2 ω)|exact absurd (g1 i ω).1 (of_decide_eq_false hx2))).symm))
   ·
    exact Cl [(1,.bool true,.none),(5,.bool false,.none)] [0,5,6,7,28] ⟨aO hx2 (Be (Tj (l.getD i Sg.none) (hl.2 i))),rG hx3,trivial⟩ (Ae 6 (Dd ((i:Int)+1) ((i+1:Nat):Int) (Ae 2 (Tf [0,5,6,7] [] 0 0 hA0 [] trivial (hJ1 ω (λq hq=>(Nat.lt_or_ge q i).elim (λg=>hFi q g) λg=>by have e:q=i:=(ω);subst e;exact⟨of_decide_eq_true hx2,λhz=>absurd hz ω⟩))))))
  ·
   exact Cl [(1,.bool false,.none)] [0,5,6,7,28] ⟨aO hx2 (Be (Tj (l.getD i Sg.none) (hl.2 i))),trivial⟩ (Ae 13 (Eb (.bool false) (congrArg AV.bool (Ck (by rintro⟨g1,g2,g3⟩;first|omega|exact absurd (g1 i ω).1 (of_decide_eq_false hx2))).symm)))
 ·
  refine Ae 12 (Fy 33 ((1:Int)<=((l).length:Int)) (λhx5 hx5d=>?_) (λhx5 hx5d=>?_))
  ·
   exact Ae 8 (Eb (.bool (decide (((l).length:Int)<=256))) (congrArg AV.bool (if hz:l.length<=256 then (decide_eq_true ω).trans (Yg ⟨λq hq=>hFi q ω,ω,ω⟩).symm else (decide_eq_false ω).trans (Ck (λg=>hz g.2.2)).symm)))
  ·
   exact Ae 8 (Eb (.bool false) (congrArg AV.bool (Ck (by rintro⟨g1,g2,g3⟩;first|omega)).symm))
end Go.Proofs.YtkpjchfniejdoaaGreatDoor