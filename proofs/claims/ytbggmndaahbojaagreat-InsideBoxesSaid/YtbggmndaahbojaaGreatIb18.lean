/- Part 18 of the proof of IB.row_holds: no condition beyond the row's. -/
import Derived.Test.YtbggmndaahbojaaGreatIb17
import Derived.RangeFuncNested
set_option maxRecDepth 100000
set_option maxHeartbeats 40000000
namespace Go.Proofs.YtbggmndaahbojaaGreat
open Go.RowKit
theorem η {x y:Int} (h: -9223372036854775808<=x/\x<=9223372036854775807:=by omega) (e:x=y:=by omega):Value.int .i64 (IntKind.wrap .i64 x)= .int .i64 y:=congrArg (Value.int .i64) ((IntWalk.i64_in x h).trans e)
theorem θ {p:Prop} (h:p:=by assumption):p:=h
variable {B:Nat} {D0:Ap} {s:St} {Q:Exit->St->Prop}
def AaD (P:Program) (R:Option Nat) (B:Nat) (D0 D1:Ap) (fn:Func) (s:St) (Q:Exit->St->Prop) (_:Fa):Exit->St->Prop:=AaC P B D1 fn λ_ h' nx'=>∃st pe sp t' n',Ak h' s.nx=some (.loop st pe sp t' n')/\st≠.busy/\
 match pe with
 |none=>Q .normal ⟨s.t,Hx h' s.nx,nx',s.n⟩
 |some c=>AC P R B D0 c ⟨s.t,Hx h' s.nx,nx',s.n⟩ Q
theorem uH (l0 lid:Nat) (hl0:D0.A lid/\D0.π lid=l0) {st0:LoopState} {pe0:Option Code} {sp0:Fa} {t0:Fd} {n0:Nat} (hlp:Ak s.h lid=some (.loop st0 pe0 sp0 t0 n0)) {g:Operand} {ps:Array Tmp} {assign body:Code} (f:FuncId) {fn:Func} {c:Code} (caps:List AV) (n:Nat) (hg:s.ev g= .fn f caps) (hcall:∀(vs:Array Value) w,(callFunc f vs).run Tryz.prog w= .ok (.enter f vs) w) (hf:Tryz.prog.funcs[f]?=some fn) (hc:fn.body=some c) (hn:fn.ntmps=n) (hle:Nat.ble (caps.length+1) n=true)
  (hbody:∀D1,(∀id,D1.A id->id<s.nx+1)->AC Tryz.prog none B D1 c ⟨Da (.yld s.nx::caps) 0,hset s.h s.nx (.loop .ready none ⟨ps,assign,body⟩ s.t s.n),s.nx+1,n⟩ (AaD Tryz.prog (some l0) B D0 D1 fn s Q ⟨ps,assign,body⟩)):AC Tryz.prog (some l0) B D0 (.rangeFunc g ps assign body) s Q:=by
 refine⟨λE a hs=>wpIn_rangeFunc λfid _=>?_⟩
 let sp:Fa:=⟨ps,assign,body⟩
 obtain⟨m0,fid0,tm0,hL0,_,_⟩:=hs.h.loopAt hlp
 have hπ0:E.π lid=l0:=(hs.h.le0.π lid hl0.1).trans hl0.2
 rw[hπ0] at hL0
 have hnid:¬E.A s.nx:=λh=>Nat.lt_irrefl _ (hs.A s.nx h)
 obtain⟨hle2,hb2,hm2⟩:=hs.h.more hnid 0 (.loop { state:= .ready,pending:=none,fn:=fid,tmps:=a.tmps,params:=ps,assign:=assign,body:=body,defers:=m0 })
 obtain⟨E2,hE2⟩:∃E2,E2=E.more s.nx 0 (.loop { state:= .ready,pending:=none,fn:=fid,tmps:=a.tmps,params:=ps,assign:=assign,body:=body,defers:=m0 }):=⟨_,rfl⟩
 rw[<-hE2] at hle2 hb2 hm2
 have hw2:E2.w=E.w.alloc (.loop { state:= .ready,pending:=none,fn:=fid,tmps:=a.tmps,params:=ps,assign:=assign,body:=body,defers:=m0 }):=by rw[hE2];rfl
 have hπ2:E2.π s.nx=E.w.heap.size:=by
  rw[hE2]
  show (if s.nx=s.nx then E.w.heap.size else _)=_
  rw[if_pos rfl]
 have hle02:E.le E2:=hle2
 have hA2:∀id,E2.A id->id<s.nx+1:=λid hid=>by
  rw[hE2] at hid
  rcases hid with hid|hid
  · have:=hs.A id hid;omega
  · omega
 have hA2n:E2.A s.nx:=by rw[hE2];exact .inr rfl
 have hh2:HR B D0 E2 (Ak (hset s.h s.nx (.loop .ready none sp s.t s.n))):=by
  have:(λid=>Ak (hset s.h s.nx (.loop .ready none sp s.t s.n)) id)=λi=>if s.nx=i then some (.loop .ready none sp s.t s.n) else Ak s.h i:=funext λid=>Dw _ _ _ _
  show HR B D0 E2 (λid=>Ak (hset s.h s.nx (.loop .ready none sp s.t s.n)) id)
  rw[this]
  refine hm2 _ (.loop _ _ _ _ _ _ _ m0 fid a.tmps ?_ hs.size λi=>(hs.t i).up hle02)
  rw[hw2]
  have:=World.alloc_heap_new E.w (.loop { state:= .ready,pending:=none,fn:=fid,tmps:=a.tmps,params:=ps,assign:=assign,body:=body,defers:=m0 })
  exact this
 have hgv:VR E (.fn f caps) (a.eval g):=by rw[<-hg];exact hs.ev g
 obtain⟨vs,hvs1,hvs2,hvs3⟩:∃vs:Array Value,a.eval g= .func (.func f) #[] vs/\vs.size=caps.length/\∀i,i<caps.length->VR E (caps.getD i .top) (vs.getD i undef):=by
  generalize a.eval g=z at hgv
  cases hgv with
  |fn _ _ _ vs hn hr=>exact⟨vs,rfl,hn,hr⟩
 refine⟨E.w.heap.size,[],E2.w,{ target:= .fn (.func f) vs,args:=#[.func (.yield E.w.heap.size) #[] #[]] },E2.w,f,
  #[.func (.yield E.w.heap.size) #[] #[]]++vs,E2.w,?_,?_,λ_ _=>trivial,?_,λhf=>by simp[Ph,Fence.wide] at hf,?_⟩
 · rw[hw2];exact run_enterLoop_inner hL0 _ _ _ _ _
 ·
  simp only[resolve,hvs1]
  simp[go_sem]
 · simp[invoke,go_sem,hcall]
 ·
  have hcalls:=Oq (K:=λ_ h' nx'=>∃st pe sp t' n',Ak h' s.nx=some (.loop st pe sp t' n')/\st≠.busy/\
    match pe with
    |none=>Q .normal ⟨s.t,Hx h' s.nx,nx',s.n⟩
    |some c=>AC Tryz.prog (some l0) B D0 c ⟨s.t,Hx h' s.nx,nx',s.n⟩ Q) hf hc n hn (args:= .yld s.nx::caps) (by simpa using hle) hbody (E:=E2) (vs:=#[.func (.yield E.w.heap.size) #[] #[]]++vs) hh2 hA2 (by simp[hvs2];omega) (λi hi=>by
     cases i with
     |zero=>
      have:=VR.yld E2 s.nx hA2n
      rw[hπ2] at this
      have e2:(#[Value.func (.yield E.w.heap.size) #[] #[]]++vs).getD 0 undef= .func (.yield E.w.heap.size) #[] #[]:=by simp[Array.getD_eq_getD_getElem?,Array.getElem?_append]
      rw[e2]
      exact this
     |succ i=>
      have hi2:i<caps.length:=by simpa using hi
      have h3:=(hvs3 i hi2).up hle02
      have e2:(#[Value.func (.yield E.w.heap.size) #[] #[]]++vs).getD (i+1) undef=vs.getD i undef:=by
       simp[Array.getD_eq_getD_getElem?,Array.getElem?_append]
      rw[e2]
      simpa using h3)
  refine callsIn_wide.2 (hcalls.mono ?_)
  rintro e w' ⟨v,r,h',nx',E',rfl,rfl,hr,⟨st,pe,sp',t',n',hl,hst,hk⟩,k1,k2,k3,k4⟩
  obtain⟨m,fid',tm,hL,hn',hr'⟩:=k2.loopAt hl
  have hπ':E'.π s.nx=E.w.heap.size:=(k1.π s.nx hA2n).trans hπ2
  rw[hπ'] at hL
  refine⟨pe,_,run_endLoop hL hst,?_⟩
  obtain⟨v1,v2,v3⟩:=k2.turnLoop (st':= .exhausted) (pe':=pe) (m:=m) (fid:=fid') hl hn' hr'
  rw[hπ'] at v1 v2 v3
  have hle3:=(hle02.trans k1).trans v1
  have hbl:Below B E.w (E'.w.putObj E.w.heap.size (.loop { state:= .exhausted,pending:=pe,fn:=fid',tmps:=tm,params:=sp'.params,assign:=sp'.assign,body:=sp'.body,defers:=m })):=by
   refine Below.trans ?_ (k4.trans v2)
   rw[hw2]
   exact(Below.refl B E.w).alloc hs.h.B _
  have hsim:Hv B D0 { E' with w:=E'.w.putObj E.w.heap.size (.loop { state:= .exhausted,pending:=pe,fn:=fid',tmps:=tm,params:=sp'.params,assign:=sp'.assign,body:=sp'.body,defers:=m }) } ⟨s.t,Hx h' s.nx,nx',s.n⟩ { a with defers:=[]++a.defers }:=by
   refine⟨hs.size,hs.df.up hle3.D hle3.blk,λi=>(hs.t i).up hle3,v3.sub λid b hb=>?_,k3⟩
   ·
    rw[Ft] at hb
    by_cases e:s.nx=id
    · rw[if_pos e] at hb;cases hb
    ·
     rw[if_neg e] at hb ⊢
     exact hb
  cases pe with
  |none=>exact⟨_,_,rfl,hk,hsim,hbl⟩
  |some c'=>
   refine Cq ?_ (hk.run _ _ hsim)
   rintro e a3 w3 ⟨s3,E3,rfl,hq3,hs3,hb3⟩
   exact⟨s3,E3,rfl,hq3,hs3,hbl.trans hb3⟩
end Go.Proofs.YtbggmndaahbojaaGreat
namespace Go.Proofs.YtbggmndaahbojaaGreat
open Go.RowKit
inductive FR where
 |call (c:Bn) (fn:Func)
 |rng (c:Bn) (fn:Func)
 |asg (c:Bn) (sp:Fa)
 |rnd (c:Bn) (sp:Fa)
 |lnt (t:TypeId) (hs:List (TypeId×List AV))
structure MC where
 c:Bn
 f:List FR
def Bn.lsp (c:Bn):Fa:=⟨c.rp,c.ra,c.rb⟩
def QGR (R:Option Nat) (B:Nat) (D0 D1:Ap) (fn:Func) (Q:Exit->St->Prop) (c0:Bn) (sp:Fa):Exit->St->Prop:=AaD Tryz.prog R B D0 D1 fn c0.s (λe s=>∃s',Hb B D0 s s'/\KQ Tryz.prog R B D0 Q c0.k e s') sp
def QL (P:Program) (B:Nat) (D0:Ap) (fn:Func) (r:AV) (t:TypeId) (hs:List (TypeId×List AV)):Exit->St->Prop:=λe s=>(e= .ret\/e= .normal)/\∃(V:Value) (us:List Value),r= .tup (.lit V::us.map .lit)/\Nl P B D0 fn s (.lit V)/\Ak s.h 0=some (.box t (us.map .lit))/\∀i,i<hs.length->Ak s.h (i+1)=some (.box (hs.getD i (0,[])).1 (hs.getD i (0,[])).2)
inductive nV (fn0:Func) (r:AV) (B:Nat):List FR->Option Nat->Ap->(Exit->St->Prop)->Prop
 |top (D0:Ap) (h:∀id,D0.A id->id<0):nV fn0 r B [] none D0 (QF Tryz.prog B D0 fn0 r)
 |lnt (t:TypeId) (hs:List (TypeId×List AV)) (D0:Ap) (h:∀id,D0.A id->id<hs.length+1):nV fn0 r B [.lnt t hs] none D0 (QL Tryz.prog B D0 fn0 r t hs)
 |call {fs:List FR} {R:Option Nat} {D:Ap} {Q:Exit->St->Prop} (c:Bn) (fn:Func) (D1:Ap) (hD:∀id,D1.A id->id<c.s.nx) (h:nV fn0 r B fs R D Q):nV fn0 r B (.call c fn::fs) none D1 (jK Tryz.prog B D1 fn λv h nx=>Go Tryz.prog R B D Q (c.back v h nx))
 |rng {fs:List FR} {R:Option Nat} {D:Ap} {Q:Exit->St->Prop} (c:Bn) (fn:Func) (D1:Ap) (hD:∀id,D1.A id->id<c.s.nx+1) (h:nV fn0 r B fs R D Q):nV fn0 r B (.rng c fn::fs) none D1 (QGR R B D D1 fn Q c c.lsp)
 |asg {fs:List FR} {R:Option Nat} {D:Ap} {Q:Exit->St->Prop} (c:Bn) (sp:Fa) (l0:Nat) (D1:Ap) (hD:∀id,D1.A id->id<c.s.nx) (hl:D1.A c.yl/\D1.π c.yl=l0) (h:nV fn0 r B fs R D Q):nV fn0 r B (.asg c sp::fs) (some l0) D1 (QY l0 B D1 sp.body c.yl sp (c.ln c.yl) (QR R B D Q c sp))
 |rnd {fs:List FR} {R:Option Nat} {D:Ap} {Q:Exit->St->Prop} (c:Bn) (sp:Fa) (l0:Nat) (D1:Ap) (hD:∀id,D1.A id->id<c.s.nx) (hl:D1.A c.yl/\D1.π c.yl=l0) (h:nV fn0 r B fs R D Q):nV fn0 r B (.rnd c sp::fs) (some l0) D1 (QR R B D Q c sp)
def TE (fn0:Func) (φ:AV->Prop) (m:MC):Prop:=∃r,φ r/\∀B R D Q,nV fn0 r B m.f R D Q->Go Tryz.prog R B D Q m.c
variable {fn0:Func} {φ:AV->Prop} {c c':Bn} {fs:List FR}
theorem gs (h:∀{R:Option Nat} {B:Nat} {D:Ap} {Q:Exit->St->Prop},Go Tryz.prog R B D Q c'->Go Tryz.prog R B D Q c) (t:TE fn0 φ ⟨c',fs⟩):TE fn0 φ ⟨c,fs⟩:=by
 obtain⟨r,h1,h2⟩:=t
 exact⟨r,h1,λB R D Q hc=>h (h2 B R D Q hc)⟩
theorem Ab (n:Nat) (t:TE fn0 φ ⟨run Tryz.prog n c,fs⟩):TE fn0 φ ⟨c,fs⟩:=gs (λh=>Aa n h) t
theorem aI {f:FuncId} {fn:Func} {x:Code} (hf:Tryz.prog.funcs[f]?=some fn)
  (t:TE fn0 φ ⟨⟨.code x,[],⟨Da (c.xs.toList.map c.s.ev) 0,c.s.h,c.s.nx,fn.ntmps⟩⟩,.call c fn::fs⟩)
  (hc:fn.body=some x:=by rfl) (ho:c.o.op= .call { callee:= .value (.func f),args:=c.xs,argTypes:=c.ts }:=by kernel_rfl) (hcall:∀(vs:Array Value) w,(callFunc f vs).run Tryz.prog w= .ok (.enter f vs) w:=by intro _ _;kernel_rfl)
  (hle:Nat.ble (c.xs.toList.map c.s.ev).length fn.ntmps=true:=by kernel_rfl) (hok:c.ok=true:=by kernel_rfl) (hg:c.o.guard=none:=by kernel_rfl):TE fn0 φ ⟨c,fs⟩:=by
 obtain⟨r,h1,h2⟩:=t
 exact⟨r,h1,λB R D Q hx=>Aee c.s.nx hf (λD1 hD=>h2 _ _ _ _ (.call c fn D1 hD hx)) hc ho hcall hle hok hg rfl⟩
theorem yR {f:FuncId} {fn:Func} {x:Code} (hf:Tryz.prog.funcs[f]?=some fn)
  (t:TE fn0 φ ⟨⟨.code x,[],⟨Da (c.xs.toList.map c.s.ev++c.cps) 0,c.s.h,c.s.nx,fn.ntmps⟩⟩,.call c fn::fs⟩)
  (hc:fn.body=some x:=by rfl) (ho:c.o.op= .call { callee:= .value c.fx,args:=c.xs,argTypes:=c.ts }:=by kernel_rfl) (hx:c.s.ev c.fx= .fn f c.cps:=by kernel_rfl) (hcall:∀(vs:Array Value) w,(callFunc f vs).run Tryz.prog w= .ok (.enter f vs) w:=by intro _ _;kernel_rfl)
  (hle:Nat.ble (c.xs.toList.map c.s.ev++c.cps).length fn.ntmps=true:=by kernel_rfl) (hok:c.ok=true:=by kernel_rfl) (hg:c.o.guard=none:=by kernel_rfl):TE fn0 φ ⟨c,fs⟩:=by
 obtain⟨r,h1,h2⟩:=t
 exact⟨r,h1,λB R D Q hy=>Rk c.s.nx hf (λD1 hD=>h2 _ _ _ _ (.call c fn D1 hD hy)) hc ho hx hcall hle hok hg rfl⟩
theorem Ha {c0:Bn} {fn:Func} (t:TE fn0 φ ⟨c0.back (c.rI Tryz.prog fn) c.s.h c.s.nx,fs⟩) (hv:(Py Tryz.prog fn c.s).isSome=true:=by kernel_rfl) (hn:c.isE=true:=by kernel_rfl):TE fn0 φ ⟨c,.call c0 fn::fs⟩:=by
 obtain⟨r,h1,h2⟩:=t
 refine⟨r,h1,λB R D Q hx=>?_⟩
 cases hx with
 |call _ _ D1 hD h=>exact qM (h2 _ _ _ _ h) hv hn
def yls:List FR->Option Nat
 | .asg c _::_=>some c.yl
 | .rnd c _::_=>some c.yl
 |_=>none
def pA:Option Ar->Bool|some (.loop ..)=>true|_=>false
def yok (fs:List FR) (h:Cx):Bool:=match yls fs with|none=>true|some l=>pA (Ak h l)
theorem dR:∀{o:Option Ar},pA o=true->∃st pe sp t n,o=some (.loop st pe sp t n)
 |some (.loop st pe sp t n),_=>⟨st,pe,sp,t,n,rfl⟩
 |some (.box ..),h=>by cases h
 |some (.vec ..),h=>by cases h
 |none,h=>by cases h
theorem nV.round {r:AV} {B:Nat} {R:Option Nat} {D:Ap} {Q:Exit->St->Prop} (h:nV fn0 r B fs R D Q):(R=none/\yls fs=none)\/∃l0 l,R=some l0/\yls fs=some l/\D.A l/\D.π l=l0:=by
 cases h with
 |top=>exact .inl ⟨rfl,rfl⟩
 |lnt=>exact .inl ⟨rfl,rfl⟩
 |call=>exact .inl ⟨rfl,rfl⟩
 |rng=>exact .inl ⟨rfl,rfl⟩
 |asg c sp l0 D1 hD hl=>exact .inr ⟨l0,_,rfl,rfl,hl.1,hl.2⟩
 |rnd c sp l0 D1 hD hl=>exact .inr ⟨l0,_,rfl,rfl,hl.1,hl.2⟩
theorem trg {f:FuncId} {fn:Func} {x:Code} (hf:Tryz.prog.funcs[f]?=some fn)
  (t:TE fn0 φ ⟨⟨.code x,[],⟨Da (.yld c.s.nx::c.rc) 0,hset c.s.h c.s.nx (.loop .ready none c.lsp c.s.t c.s.n),c.s.nx+1,fn.ntmps⟩⟩,.rng c fn::fs⟩)
  (hc:fn.body=some x:=by rfl) (hg:c.s.ev c.rg= .fn f c.rc:=by kernel_rfl) (hcall:∀(vs:Array Value) w,(callFunc f vs).run Tryz.prog w= .ok (.enter f vs) w:=by intro _ _;kernel_rfl) (hle:Nat.ble (c.rc.length+1) fn.ntmps=true:=by kernel_rfl) (hR:c.isR=true:=by kernel_rfl) (hy:yok fs c.s.h=true:=by kernel_rfl):TE fn0 φ ⟨c,fs⟩:=by
 obtain⟨r,h1,h2⟩:=t
 refine⟨r,h1,λB R D Q hx=>?_⟩
 have key:=λD1 (hD:∀id,D1.A id->id<c.s.nx+1)=>h2 B none D1 _ (.rng c fn D1 hD hx)
 obtain⟨m,k,s⟩:=c
 unfold Bn.isR at hR
 split at hR
 rename_i g ps asg bd hm
 cases hm
 rcases hx.round with⟨rfl,_⟩|⟨l0,l,rfl,h3,h4⟩
 exact⟨eM (zF f _ fn.ntmps hg hcall hf hc rfl hle λsp e1 e2 e3 D1 hD=>by
  obtain⟨a,b,d⟩:=sp
  cases e1;cases e2;cases e3
  exact(key D1 hD).m)⟩
 unfold yok at hy
 dsimp only at h3
 rw[h3] at hy
 obtain⟨st,pe,sp,t,n,hlp⟩:=dR hy
 exact⟨eM (uH l0 l h4 hlp f _ fn.ntmps hg hcall hf hc rfl hle λD1 hD=>(key D1 hD).m)⟩
 cases hR
theorem AkQ {R:Option Nat} {B:Nat} {D0:Ap} {Q:Exit->St->Prop} {c0:Bn} {D1:Ap} {fn:Func} {sp:Fa} (h:Go Tryz.prog R B D0 Q (c0.af c)) (hl:Ak c.s.h c0.s.nx=some (.loop (c.lst c0.s.nx) (c.lpe c0.s.nx) sp (c.lt c0.s.nx) (c.ln c0.s.nx)):=by kernel_rfl) (hb:tC (c.lst c0.s.nx)=true:=by kernel_rfl) (hv:(Py Tryz.prog fn c.s).isSome=true:=by kernel_rfl) (hn:c.isE=true:=by kernel_rfl):Go Tryz.prog none B D1 (QGR R B D0 D1 fn Q c0 sp) c:=by
 refine qM (K:=λ_ h' nx'=>∃st pe sp t' n',Ak h' c0.s.nx=some (.loop st pe sp t' n')/\st≠.busy/\match pe with
  |none=>∃s',Hb B D0 ⟨c0.s.t,Hx h' c0.s.nx,nx',c0.s.n⟩ s'/\KQ Tryz.prog R B D0 Q c0.k .normal s'
  |some x=>AC Tryz.prog R B D0 x ⟨c0.s.t,Hx h' c0.s.nx,nx',c0.s.n⟩ (λe s=>∃s',Hb B D0 s s'/\KQ Tryz.prog R B D0 Q c0.k e s')) ⟨_,_,_,_,_,hl,(λe=>by rw[e] at hb;cases hb),?_⟩ hv hn
 unfold Bn.af at h
 generalize c.lpe c0.s.nx=pe at h
 cases pe with
 |none=>exact h.m
 |some x=>exact Wi h.m λe s hq=>⟨s,Hb.refl s,hq⟩
theorem tyl {sp:Fa} (t:TE fn0 φ ⟨⟨.code sp.assign,[],⟨cB sp.params.toList (c.xs.toList.map c.s.ev) (c.lt c.yl),c.s.h,c.s.nx,c.ln c.yl⟩⟩,.asg c sp::fs⟩)
  (ho:c.o.op= .call { callee:= .value c.fx,args:=c.xs,argTypes:=c.ts }:=by kernel_rfl) (hx:c.s.ev c.fx= .yld c.yl:=by kernel_rfl) (hl:Ak c.s.h c.yl=some (.loop .ready none sp (c.lt c.yl) (c.ln c.yl)):=by kernel_rfl) (hpb:psB sp.params (c.xs.toList.map c.s.ev).length (c.ln c.yl)=true:=by kernel_rfl) (hok:c.ok=true:=by kernel_rfl):TE fn0 φ ⟨c,fs⟩:=by
 obtain⟨r,h1,h2⟩:=t
 exact⟨r,h1,λB R D Q hy=>vyl c.s.nx rfl rfl rfl (λl0 D1 hD hl0=>h2 _ _ _ _ (.asg c sp l0 D1 hD hl0 hy)) ho hx hl hpb hok rfl⟩
theorem tyb {c0:Bn} {sp:Fa} (t:TE fn0 φ ⟨⟨.code sp.body,[],⟨c.s.t,hset c.s.h c0.yl (.loop .busy none sp (c.lt c0.yl) (c0.ln c0.yl)),c.s.nx,c.s.n⟩⟩,.rnd c0 sp::fs⟩) (hl:Ak c.s.h c0.yl=some (.loop .ready none sp (c.lt c0.yl) (c0.ln c0.yl)):=by kernel_rfl) (hn:c.isN=true:=by kernel_rfl) (hk:c.isNil=true:=by kernel_rfl):TE fn0 φ ⟨c,.asg c0 sp::fs⟩:=by
 obtain⟨r,h1,h2⟩:=t
 refine⟨r,h1,λB R D Q hx=>?_⟩
 cases hx with
 |asg _ _ l0 D1 hD hl0 h=>exact vrb (h2 _ _ _ _ (.rnd c0 sp l0 D hD hl0 h)) hl hn hk
theorem Cj {c0:Bn} {sp:Fa} (t:TE fn0 φ ⟨⟨.ops c0.a c0.l.tail,c0.k,⟨Lc c0.s.t c0.o.dst (.bool (rdB c.e)),hset c.s.h c0.yl (.loop (rdS c.e) (rdC c.e) sp (c.lt c0.yl) (c0.ln c0.yl)),c.s.nx,c0.s.n⟩⟩,fs⟩) (hl:Ak c.s.h c0.yl=some (.loop .busy none sp (c.lt c0.yl) (c0.ln c0.yl)):=by kernel_rfl) (hX:c.isX=true:=by kernel_rfl) (hk:c.isNil=true:=by kernel_rfl):TE fn0 φ ⟨c,.rnd c0 sp::fs⟩:=by
 obtain⟨r,h1,h2⟩:=t
 refine⟨r,h1,λB R D Q hx=>?_⟩
 cases hx with
 |rnd _ _ l0 D1 hD hl0 h=>exact vre (h2 _ _ _ _ h) hl hX hk
def Bn.lin (c:Bn):Bn:=⟨.code c.lb,.il c.lb::c.k,c.s⟩
theorem vlo {P:Program} {R:Option Nat} {B:Nat} {D0:Ap} {Q:Exit->St->Prop} (h:Go P R B D0 Q c.lin) (hl:c.isL=true:=by kernel_rfl):Go P R B D0 Q c:=by
 obtain⟨m,k,s⟩:=c
 unfold Bn.isL at hl
 split at hl
 rename_i b hm
 cases hm
 exact⟨zE (cO h.m)⟩
 cases hl
theorem Jl {r:AV} (h:φ r) (hv:Pg Tryz.prog fn0 c.s=some r:=by kernel_rfl) (hn:c.isE=true:=by kernel_rfl):TE fn0 φ ⟨c,[]⟩:=
 ⟨r,h,λB R D Q hx=>by cases hx with|top D0 h=>exact Br hv hn⟩
theorem Bz {f:FuncId} {fn:Func} {args:List AV} (hf:Tryz.prog.funcs[f]?=some fn) {x:Code} (hc:fn.body=some x:=by rfl) (t:TE fn φ ⟨⟨.code x,[],⟨Da args 0,[],0,fn.ntmps⟩⟩,[]⟩) (hle:Nat.ble args.length fn.ntmps=true:=by kernel_rfl):∃r,φ r/\AF Tryz.prog f args r:=by
 obtain⟨r,h1,h2⟩:=t
 exact⟨r,h1,Ai hf hc (λB D0 hD=>h2 B none D0 _ (.top D0 hD)) hle⟩
end Go.Proofs.YtbggmndaahbojaaGreat
namespace Go.Proofs.YtbggmndaahbojaaGreat
open Go.RowKit
variable {fn0:Func} {φ:AV->Prop} {c:Bn} {fs:List FR}
theorem qI (d:Nat) (b v:Bool) (hb:b=v) (t:TE fn0 φ ⟨c.add d v,fs⟩) (hd:Bl c.s.t d= .bool b:=by kernel_rfl):TE fn0 φ ⟨c,fs⟩:=gs (λh=>Ev d b v hb h hd) t
theorem tsb (d:Nat) (b:Bool) (h1:b=true->TE fn0 φ ⟨c.add d true,fs⟩) (h2:b=false->TE fn0 φ ⟨c.add d false,fs⟩) (hd:Bl c.s.t d= .bool b:=by kernel_rfl):TE fn0 φ ⟨c,fs⟩:=
 Fk b (λh=>qI d b true h (h1 h) hd) (λh=>qI d b false h (h2 h) hd)
theorem AkM (d:Nat) (b:Bool) (h1:b=true->TE fn0 φ ⟨c.add d false,fs⟩) (h2:b=false->TE fn0 φ ⟨c.add d true,fs⟩) (hd:Bl c.s.t d= .bool (!b):=by kernel_rfl):TE fn0 φ ⟨c,fs⟩:=
 Fk b (λh=>qI d (!b) false (by rw[h];rfl) (h1 h) hd) (λh=>qI d (!b) true (by rw[h];rfl) (h2 h) hd)
theorem De (d:Nat) (p:Prop) [Decidable p] (h1:decide p=true->p->TE fn0 φ ⟨c.add d true,fs⟩) (h2:decide p=false->¬p->TE fn0 φ ⟨c.add d false,fs⟩) (hd:Bl c.s.t d= .bool (decide p):=by kernel_rfl):TE fn0 φ ⟨c,fs⟩:=
 tsb d (decide p) (λh=>h1 h (of_decide_eq_true h)) (λh=>h2 h (of_decide_eq_false h)) hd
theorem yU (d:Nat) (p:Prop) [Decidable p] (h1:decide p=true->p->TE fn0 φ ⟨c.add d false,fs⟩) (h2:decide p=false->¬p->TE fn0 φ ⟨c.add d true,fs⟩) (hd:Bl c.s.t d= .bool (!decide p):=by kernel_rfl):TE fn0 φ ⟨c,fs⟩:=
 AkM d (decide p) (λh=>h1 h (of_decide_eq_true h)) (λh=>h2 h (of_decide_eq_false h)) hd
def isB:AV->Bool| .lit (.bool _)=>true|_=>false
theorem tsx (d:Nat) (h1:TE fn0 φ ⟨c.add d true,fs⟩) (h2:TE fn0 φ ⟨c.add d false,fs⟩) (hd:isB (Bl c.s.t d)=true:=by kernel_rfl):TE fn0 φ ⟨c,fs⟩:=by
 unfold isB at hd
 split at hd
 rename_i b hx
 cases b with
 |true=>exact qI d true true rfl h1 hx
 |false=>exact qI d false false rfl h2 hx
 cases hd
def Bn.rnd (c:Bn) (s:St):Bn:=⟨.code c.lb,.il c.lb::c.k,s⟩
theorem AkO {P:Program} {R:Option Nat} {B:Nat} {D0:Ap} {Q:Exit->St->Prop} (keep:List Nat) (h:Go P R B D0 Q (c.rnd (Ks keep c.s))) (hl:c.isL=true):Go P R B D0 Q c:=by
 refine Fo _ (Gq keep c.s) (vlo (c:=⟨c.m,c.k,Ks keep c.s⟩) ?_ ?_)
 exact h
 exact hl
theorem mI (keep:List Nat) (I:Nat->St->Prop) (m:Nat) (h0:I m (Ks keep c.s)) (h:∀m s,I m s->(∀m' s',m'<m->I m' s'->TE fn0 φ ⟨c.rnd s',fs⟩)->TE fn0 φ ⟨c.rnd s,fs⟩) (hl:c.isL=true:=by kernel_rfl):TE fn0 φ ⟨c,fs⟩:=by
 have key:∀n m s,m<n->I m s->TE fn0 φ ⟨c.rnd s,fs⟩:=λn=>by
  induction n with
  |zero=>intro m s h1;exact absurd h1 (Nat.not_lt_zero _)
  |succ n ih=>intro m s h1 h2;exact h m s h2 λm' s' h3 h4=>ih m' s' ω h4
 exact gs (λh=>AkO keep h hl) (key (m+1) m _ (Nat.lt_succ_self m) h0)
def Bn.ib (c:Bn):Code:=match c.k with| .il b::_=>b|_=> .skip
def Bn.isNI (c:Bn):Bool:=match c.m,c.k with| .out .normal,.il _::_=>true|_,_=>false
def Bn.nxt (c:Bn) (s:St):Bn:=⟨.code c.ib,c.k,s⟩
theorem Ake {P:Program} {R:Option Nat} {B:Nat} {D0:Ap} {Q:Exit->St->Prop} (s':St) (hw:Hb B D0 c.s s') (h:Go P R B D0 Q (c.nxt s')) (hn:c.isNI=true):Go P R B D0 Q c:=by
 refine Fo s' hw ?_
 obtain⟨m,k,s⟩:=c
 unfold Bn.isNI at hn
 split at hn
 rename_i h1 h2
 dsimp only at h1 h2
 subst h1;subst h2
 exact AdM _ h
 cases hn
theorem trd (keep:List Nat) {m:MC} (t:TE fn0 φ m) (hm:(⟨c.nxt (Ks keep c.s),fs⟩:MC)=m:=by kernel_rfl) (hn:c.isNI=true:=by kernel_rfl):TE fn0 φ ⟨c,fs⟩:=by
 subst hm
 exact gs (λh=>Ake _ (Gq keep c.s) h hn) t
def Bn.nrK (keep:List Nat) (c:Bn):Bn:=⟨c.m,c.k,Ks keep c.s⟩
theorem tsh (n d:Nat) (v:Bool) (keep:List Nat) (h:TE fn0 φ ⟨(run Tryz.prog n (c.add d v)).nrK keep,fs⟩) (k:TE fn0 φ ⟨(run Tryz.prog n (c.add d v)).nrK keep,fs⟩->TE fn0 φ ⟨c,fs⟩):TE fn0 φ ⟨c,fs⟩:=k h
theorem tus (keep:List Nat) {m:MC} (t:TE fn0 φ m) (hm:(⟨c.nrK keep,fs⟩:MC)=m:=by kernel_rfl):TE fn0 φ ⟨c,fs⟩:=by
 subst hm
 exact gs (λh=>Fo _ (Gq keep c.s) h) t
def Bn.wS (c:Bn) (s:St):Bn:=⟨c.m,c.k,s⟩
theorem tjv {α:Type} (n d:Nat) (v:Bool) (st:α->St) (p:α->Prop) (h:∀x,p x->TE fn0 φ ⟨(run Tryz.prog n (c.add d v)).wS (st x),fs⟩) (k:(∀x,p x->TE fn0 φ ⟨(run Tryz.prog n (c.add d v)).wS (st x),fs⟩)->TE fn0 φ ⟨c,fs⟩):TE fn0 φ ⟨c,fs⟩:=k h
def bnd:List FR->Nat
 |[]=>0
 | .call c _::_=>c.s.nx
 | .rng c _::_=>c.s.nx+1
 | .asg c _::_=>c.s.nx
 | .rnd c _::_=>c.s.nx
 | .lnt _ hs::_=>hs.length+1
theorem nV.bnd {r:AV} {B:Nat} {R:Option Nat} {D:Ap} {Q:Exit->St->Prop} (h:nV fn0 r B fs R D Q):∀id,D.A id->id<YtbggmndaahbojaaGreat.bnd fs:=by
 cases h with
 |top D0 h=>exact λid hi=>h id hi
 |lnt t hs D0 h=>exact h
 |call c fn D1 hD h=>exact hD
 |rng c fn D1 hD h=>exact hD
 |asg c sp l0 D1 hD hl h=>exact hD
 |rnd c sp l0 D1 hD hl h=>exact hD
theorem Bb (keep:List Nat) (ρ:List (Nat×Nat)) (nx:Nat) (L:vP) (hfl:kG L) {m:MC} (t:TE fn0 φ m) (hv:aR c.s.h=L:=by kernel_rfl) (hm:(⟨c.nxt ⟨mapT (Si ρ) (Ks keep c.s).t,xV ρ c.s.h,nx,c.s.n⟩,fs⟩:MC)=m:=by kernel_rfl) (hd:Kq (ρ.map (·.2))=true:=by kernel_rfl) (hd1:Kq (ρ.map (·.1))=true:=by kernel_rfl) (hl:(ρ.all λp=>(Ak c.s.h p.1).isSome&&Nat.blt p.2 nx)=true:=by kernel_rfl) (hk0:(Nat.ble (bnd fs) nx&&ρ.all λp=>Nat.beq p.1 p.2||Nat.ble (bnd fs) p.2)=true:=by kernel_rfl) (hn:c.isNI=true:=by kernel_rfl):TE fn0 φ ⟨c,fs⟩:=by
 subst hm
 obtain⟨r,h1,h2⟩:=t
 exact⟨r,h1,λB R D Q hx=>Ake _ (Hb.trans (Gq keep c.s) λE a hs'=>iD (s:=Ks keep c.s) ρ nx (bnd fs) hx.bnd _ rfl hd hd1 hl hk0 (Nq hv hfl) E a hs') (h2 B R D Q hx) hn⟩
theorem tfg (keep:List Nat) (ρ:List (Nat×Nat)) (nx:Nat) (L:vP) (hfl:kG L) (t:TE fn0 φ ⟨⟨c.m,c.k,⟨mapT (Si ρ) (Ks keep c.s).t,xV ρ c.s.h,nx,c.s.n⟩⟩,fs⟩) (hv:aR c.s.h=L:=by kernel_rfl) (hd:Kq (ρ.map (·.2))=true:=by kernel_rfl) (hd1:Kq (ρ.map (·.1))=true:=by kernel_rfl) (hl:(ρ.all λp=>(Ak c.s.h p.1).isSome&&Nat.blt p.2 nx)=true:=by kernel_rfl) (hk0:(Nat.ble (bnd fs) nx&&ρ.all λp=>Nat.beq p.1 p.2||Nat.ble (bnd fs) p.2)=true:=by kernel_rfl):TE fn0 φ ⟨c,fs⟩:=by
 obtain⟨r,h1,h2⟩:=t
 exact⟨r,h1,λB R D Q hx=>Fo _ (Hb.trans (Gq keep c.s) λE a hs'=>iD (s:=Ks keep c.s) ρ nx (bnd fs) hx.bnd _ rfl hd hd1 hl hk0 (Nq hv hfl) E a hs') (h2 B R D Q hx)⟩
theorem bV {f:FuncId} {fn:Func} {x:Code} (hf:Tryz.prog.funcs[f]?=some fn)
 (t:∀sp:Fa,sp.params=c.rp->sp.assign=c.ra->sp.body=c.rb->TE fn0 φ ⟨⟨.code x,[],⟨Da (.yld c.s.nx::c.rc) 0,hset c.s.h c.s.nx (.loop .ready none sp c.s.t c.s.n),c.s.nx+1,fn.ntmps⟩⟩,.rng c fn::fs⟩)
 (hc:fn.body=some x:=by rfl) (hg:c.s.ev c.rg= .fn f c.rc:=by kernel_rfl) (hcall:∀(vs:Array Value) w,(callFunc f vs).run Tryz.prog w= .ok (.enter f vs) w:=by intro _ _;kernel_rfl) (hle:Nat.ble (c.rc.length+1) fn.ntmps=true:=by kernel_rfl) (hR:c.isR=true:=by kernel_rfl) (hy:yok fs c.s.h=true:=by kernel_rfl):TE fn0 φ ⟨c,fs⟩:=trg hf (t _ rfl rfl rfl) hc hg hcall hle hR hy
theorem Kn {sp:Fa} {ps:Array Tmp} {asg:Code} (hps:sp.params=ps) (has:sp.assign=asg) (t:TE fn0 φ ⟨⟨.code asg,[],⟨cB ps.toList (c.xs.toList.map c.s.ev) (c.lt c.yl),c.s.h,c.s.nx,c.ln c.yl⟩⟩,.asg c sp::fs⟩)
  (ho:c.o.op= .call { callee:= .value c.fx,args:=c.xs,argTypes:=c.ts }:=by kernel_rfl) (hx:c.s.ev c.fx= .yld c.yl:=by kernel_rfl) (hl:Ak c.s.h c.yl=some (.loop .ready none sp (c.lt c.yl) (c.ln c.yl)):=by kernel_rfl) (hpb:psB ps (c.xs.toList.map c.s.ev).length (c.ln c.yl)=true:=by kernel_rfl) (hok:c.ok=true:=by kernel_rfl):TE fn0 φ ⟨c,fs⟩:=by
 subst hps;subst has
 exact tyl t ho hx hl hpb hok
theorem Km {c0:Bn} {sp:Fa} {bd:Code} (hbd:sp.body=bd) (t:TE fn0 φ ⟨⟨.code bd,[],⟨c.s.t,hset c.s.h c0.yl (.loop .busy none sp (c.lt c0.yl) (c0.ln c0.yl)),c.s.nx,c.s.n⟩⟩,.rnd c0 sp::fs⟩) (hl:Ak c.s.h c0.yl=some (.loop .ready none sp (c.lt c0.yl) (c0.ln c0.yl)):=by kernel_rfl) (hn:c.isN=true:=by kernel_rfl) (hk:c.isNil=true:=by kernel_rfl):TE fn0 φ ⟨c,.asg c0 sp::fs⟩:=by
 subst hbd
 exact tyb t hl hn hk
theorem We {c0:Bn} {fn:Func} (t:TE fn0 φ ⟨c0.af c,fs⟩) (hl:pA (Ak c.s.h c0.s.nx)=true:=by kernel_rfl) (hb:tC (c.lst c0.s.nx)=true:=by kernel_rfl) (hv:(Py Tryz.prog fn c.s).isSome=true:=by kernel_rfl) (hn:c.isE=true:=by kernel_rfl):TE fn0 φ ⟨c,.rng c0 fn::fs⟩:=by
 obtain⟨r,h1,h2⟩:=t
 refine⟨r,h1,λB R D Q hx=>?_⟩
 obtain⟨st,pe,sp,t,n,hlp⟩:=dR hl
 have hlp:Ak c.s.h c0.s.nx=some (.loop (c.lst c0.s.nx) (c.lpe c0.s.nx) sp (c.lt c0.s.nx) (c.ln c0.s.nx)):=by
  unfold Bn.lst Bn.lpe Bn.lt Bn.ln
  rw[hlp]
 cases hx with
 |rng _ _ D1 hD h=>exact AkQ (sp:=sp) (h2 _ _ _ _ h) hlp hb hv hn
abbrev Ac (n:Int):Int:=IntKind.wrap .i64 n
theorem Adc {P:Program} {B:Nat} {D0:Ap} {o:Oper} {ev:Operand->AV} {pre:Nat->Option Ar} (T T':TypeId) (x y:Operand) (ho:o.op= .binOp .rem T x y T') (a b r:Int) (hx:ev x= .int a) (hy:ev y= .int b) (hb:b≠0) (hr:a.tmod b=r):Cw P B D0 o ev pre (.int r) .none:=by
 refine Bc (.inl rfl) λE a' c _ _ hv=>⟨.int .i64 r,?_,.lit _ _⟩
 have h1:=hv x (by simp[ho,Op.operands])
 have h2:=hv y (by simp[ho,Op.operands])
 rw[hx] at h1
 rw[hy] at h2
 simp only[execOp,ho]
 rw[h1.lit_inv,h2.lit_inv]
 simp[eqGuard,binOp,Op.intDiv,hb,hr]
theorem Adb {P:Program} {B:Nat} {D0:Ap} {o:Oper} {ev:Operand->AV} {pre:Nat->Option Ar} (T T':TypeId) (x y:Operand) (ho:o.op= .binOp .quo T x y T') (a b:Int) (hx:ev x= .int a) (hy:ev y= .int b) (hb:b≠0):Cw P B D0 o ev pre (.int (Ac (a.tdiv b))) .none:=by
 refine Bc (.inl rfl) λE a' c _ _ hv=>⟨.int .i64 (Ac (a.tdiv b)),?_,.lit _ _⟩
 have h1:=hv x (by simp[ho,Op.operands])
 have h2:=hv y (by simp[ho,Op.operands])
 rw[hx] at h1
 rw[hy] at h2
 simp only[execOp,ho]
 rw[h1.lit_inv,h2.lit_inv]
 simp[eqGuard,binOp,Op.intDiv,hb]
def _root_.Go.Oper.bX (o:Oper):Operand:=match o.op with| .binOp _ _ x _ _=>x|_=>default
def _root_.Go.Oper.bY (o:Oper):Operand:=match o.op with| .binOp _ _ _ y _=>y|_=>default
def _root_.Go.Oper.bT (o:Oper):TypeId:=match o.op with| .binOp _ t _ _ _=>t|_=>0
def _root_.Go.Oper.bU (o:Oper):TypeId:=match o.op with| .binOp _ _ _ _ t=>t|_=>0
theorem AkP {P:Program} {R:Option Nat} {B:Nat} {D0:Ap} {Q:Exit->St->Prop} (a b:Int) (hb:b≠0) (hk:Go P R B D0 Q (c.put (.int (Ac (a.tdiv b))) .none)) (ho:c.o.op= .binOp .quo c.o.bT c.o.bX c.o.bY c.o.bU:=by kernel_rfl) (hx:c.s.ev c.o.bX= .int a:=by kernel_rfl) (hy:c.s.ev c.o.bY= .int b:=by kernel_rfl) (hok:c.ok=true:=by kernel_rfl):Go P R B D0 Q c:=
 Ns _ .none (Adb _ _ _ _ ho a b hx hy hb) hk hok rfl
theorem Agd {P:Program} {B:Nat} {D0:Ap} {o:Oper} {ev:Operand->AV} {pre:Nat->Option Ar} (a b r:Int) (hb:b≠0) (hr:a.tmod b=r) (ho:o.op= .binOp .rem o.bT o.bX o.bY o.bU:=by kernel_rfl) (hx:ev o.bX= .int a:=by kernel_rfl) (hy:ev o.bY= .int b:=by kernel_rfl):Cw P B D0 o ev pre (.int r) .none:=Adc _ _ _ _ ho a b r hx hy hb hr
theorem kbE {P:Program} {B:Nat} {D0:Ap} {o:Oper} {ev:Operand->AV} {pre:Nat->Option Ar} {b v:Bool} {f:Ba} (hb:b=v) (h:evG P o ev pre 0=some (.bool b,f):=by kernel_rfl):Cw P B D0 o ev pre (.bool v) f:=hb▸Ry h
theorem xK {P:Program} {B:Nat} {D0:Ap} {o:Oper} {ev:Operand->AV} {pre:Nat->Option Ar} (x:Operand) (f:FuncId) (b:Value) (xs:Array Operand) (ts:Array TypeId) (ho:o.op= .call { callee:= .value x,args:=xs,argTypes:=ts }) (hx:ev x= .lit (.func (.func f) #[b] #[])) (hcall:∀(vs:Array Value) w,(callFunc f vs).run P w= .ok (.enter f vs) w) (args:List AV) (hargs: .lit b::xs.toList.map ev=args) (hfree:args.all AV.free=true) (r:AV) (hf:AF P f args r):Cw P B D0 o ev pre r .none:=by
 subst hargs
 refine Uy hf hcall λE a hv=>?_
 have h:=hv x (by simp[ho,Op.operands,Call.operands])
 rw[hx] at h
 have hz:=h.lit_inv
 refine⟨#[b]++xs.map a.eval,λw=>by simp[execOp,ho,resolve,Deferred.ofValue,hz,invoke],by simp;omega,λi hi=>?_⟩
 cases i with
 |zero=>
  have e2:(#[b]++xs.map a.eval).getD 0 undef=b:=by simp[Array.getD_eq_getD_getElem?,Array.getElem?_append]
  rw[e2]
  exact .lit _ _
 |succ i=>
  have hi1:i<xs.size:=by simpa using hi
  have e1:(AV.lit b::xs.toList.map ev).getD (i+1) .top=ev xs[i]:=by simp[hi1]
  have e2:(#[b]++xs.map a.eval).getD (i+1) undef=a.eval xs[i]:=by simp[Array.getD_eq_getD_getElem?,Array.getElem?_append,hi1]
  rw[e1,e2]
  refine(hv _ (by simp[ho,Op.operands,Call.operands])).free ?_
  exact List.all_eq_true.1 hfree (ev xs[i]) (List.mem_cons_of_mem _ (List.mem_map.2 ⟨xs[i],by simp,rfl⟩))
theorem vcm {P:Program} {R:Option Nat} {B:Nat} {D0:Ap} {Q:Exit->St->Prop} {f:FuncId} {b:Value} {args:List AV} {r:AV} (hf:AF P f args r) (hk:Go P R B D0 Q (c.put r .none)) (ho:c.o.op= .call { callee:= .value c.fx,args:=c.xs,argTypes:=c.ts }:=by kernel_rfl) (hargs: .lit b::c.xs.toList.map c.s.ev=args:=by kernel_rfl) (hx:c.s.ev c.fx= .lit (.func (.func f) #[b] #[]):=by kernel_rfl) (hfree:args.all AV.free=true:=by kernel_rfl) (hok:c.ok=true:=by kernel_rfl) (hcall:∀(vs:Array Value) w,(callFunc f vs).run P w= .ok (.enter f vs) w:=by intro _ _;kernel_rfl):Go P R B D0 Q c:=
 Ns r .none (xK c.fx f b c.xs c.ts ho hx hcall args hargs hfree r hf) hk hok rfl
inductive SK where|b|i|s
inductive SC where|one (k:SK)|agg (l:List SK)
def shK:SK->Value->Bool
 | .b,.bool _=>true
 | .i,.int .i64 _=>true
 | .s,.string _=>true
 |_,_=>false
def shL:List SK->List Value->Bool
 |[],[]=>true
 |k::l,v::vs=>shK k v&&shL l vs
 |_,_=>false
def shC:SC->Value->Bool
 | .one k,v=>shK k v
 | .agg l,.agg a=>shL l a.toList
 |_,_=>false
def AiA:List SC->List Value->Bool
 |[],[]=>true
 |k::l,v::vs=>shC k v&&AiA l vs
 |_,_=>false
def shV:List SC->Value->Bool
 |[c],v=>shC c v
 |l,.tuple a=>AiA l a.toList
 |_,_=>false
def shA (σ:List SC):AV->Bool
 | .lit v=>shV σ v
 |_=>false
def Shd (σ:List SC) (r:AV):Prop:=shA σ r=true
def gB:Value->Bool| .bool b=>b|_=>false
def gI:Value->Int| .int _ n=>n|_=>0
def gS:Value->ByteArray| .string s=>s|_=>ByteArray.empty
def gT:Value->Nat->Value
 | .tuple a,i=>a.toList.getD i undef
 | .agg a,i=>a.toList.getD i undef
 |_,_=>undef
def noK:SK->Value->Value
 | .b,v=> .bool (gB v)
 | .i,v=> .int .i64 (gI v)
 | .s,v=> .string (gS v)
theorem AcK:∀(k:SK) (v:Value),shK k v=true->noK k v=v
 | .b,.bool _,_=>rfl
 | .i,.int .i64 _,_=>rfl
 | .s,.string _,_=>rfl
def noL:List SK->Value->Nat->List Value
 |[],_,_=>[]
 |k::l,v,i=>noK k (gT v i)::noL l v (i+1)
def noC:SC->Value->Value
 | .one k,v=>noK k v
 | .agg l,v=> .agg (noL l v 0).toArray
def xE:List SC->Value->Nat->List Value
 |[],_,_=>[]
 |k::l,v,i=>noC k (gT v i)::xE l v (i+1)
def noV:List SC->Value->Value
 |[c],v=>noC c v
 |l,v=> .tuple (xE l v 0).toArray
theorem AcL {v:Value} {a:List Value} (hv:∀i,gT v i=a.getD i undef):∀(l:List SK) (i:Nat),shL l (a.drop i)=true->noL l v i=a.drop i
 |[],i,h=>by
  cases hd:a.drop i with
  |nil=>rfl
  |cons x y=>rw[hd] at h;cases h
 |k::l,i,h=>by
  cases hd:a.drop i with
  |nil=>rw[hd] at h;cases h
  |cons x y=>
   rw[hd] at h
   obtain⟨h1,h2⟩:=Bool.and_eq_true_iff.1 h
   have hy:y=a.drop (i+1):=by rw[<-List.drop_drop,hd];rfl
   have hx:gT v i=x:=by
    rw[hv i]
    have:(a.drop i)[0]?=some x:=by rw[hd];rfl
    rw[List.getElem?_drop] at this
    simp only[Nat.add_zero] at this
    simp[this]
   unfold noL
   rw[hx,AcK k x h1,AcL hv l (i+1) (by rw[<-hy];exact h2),<-hy]
theorem AcJ:∀(c:SC) (v:Value),shC c v=true->noC c v=v
 | .one k,v,h=>AcK k v h
 | .agg l,.agg a,h=>by
  have:=AcL (v:= .agg a) (a:=a.toList) (λ_=>rfl) l 0 (by simpa [shC] using h)
  show Value.agg (noL l (.agg a) 0).toArray=_
  rw[this];simp
theorem gM {v:Value} {a:List Value} (hv:∀i,gT v i=a.getD i undef):∀(l:List SC) (i:Nat),AiA l (a.drop i)=true->xE l v i=a.drop i
 |[],i,h=>by
  cases hd:a.drop i with
  |nil=>rfl
  |cons x y=>rw[hd] at h;cases h
 |k::l,i,h=>by
  cases hd:a.drop i with
  |nil=>rw[hd] at h;cases h
  |cons x y=>
   rw[hd] at h
   obtain⟨h1,h2⟩:=Bool.and_eq_true_iff.1 h
   have hy:y=a.drop (i+1):=by rw[<-List.drop_drop,hd];rfl
   have hx:gT v i=x:=by
    rw[hv i]
    have:(a.drop i)[0]?=some x:=by rw[hd];rfl
    rw[List.getElem?_drop] at this
    simp only[Nat.add_zero] at this
    simp[this]
   unfold xE
   rw[hx,AcJ k x h1,gM hv l (i+1) (by rw[<-hy];exact h2),<-hy]
theorem AcN:∀(l:List SC) (v:Value),shV l v=true->noV l v=v
 |[c],v,h=>AcJ c v h
 |[],.tuple a,h=>by
  have:=gM (v:= .tuple a) (a:=a.toList) (λ_=>rfl) [] 0 (by simpa [shV] using h)
  show Value.tuple (xE [] (.tuple a) 0).toArray=_
  rw[this];simp
 |c1::c2::l,.tuple a,h=>by
  have:=gM (v:= .tuple a) (a:=a.toList) (λ_=>rfl) (c1::c2::l) 0 (by simpa [shV] using h)
  show Value.tuple (xE (c1::c2::l) (.tuple a) 0).toArray=_
  rw[this];simp
noncomputable def chV (f:FuncId) (σ:List SC) (args:List AV):Value:=Classical.epsilon λv=>shV σ v=true/\AF Tryz.prog f args (.lit v)
noncomputable def cho (f:FuncId) (σ:List SC) (args:List AV):Value:=noV σ (chV f σ args)
theorem fC {f:FuncId} {σ:List SC} {args:List AV} (h:∃r,Shd σ r/\AF Tryz.prog f args r):AF Tryz.prog f args (.lit (cho f σ args)):=by
 obtain⟨r,h1,h2⟩:=h
 have key:∃v,shV σ v=true/\AF Tryz.prog f args (.lit v):=by
  cases r with
  |lit v=>exact⟨v,h1,h2⟩
  |_=>cases h1
 obtain⟨h3,h4⟩:=Classical.epsilon_spec key
 unfold cho chV
 rw[AcN σ _ h3]
 exact h4
theorem exk {G:Prop} {f:FuncId} {σ:List SC} {args:List AV} {v0:Value} (h:AF Tryz.prog f args (.lit (noV σ v0))) (k:∀v,AF Tryz.prog f args (.lit (noV σ v))->G):G:=k _ h
theorem iN {σ:List SC} (h:shA σ ((Pg Tryz.prog fn0 c.s).getD .top)=true:=by kernel_rfl) (hv:(Pg Tryz.prog fn0 c.s).isSome=true:=by kernel_rfl) (hn:c.isE=true:=by kernel_rfl):TE fn0 (Shd σ) ⟨c,[]⟩:=by
 cases he:Pg Tryz.prog fn0 c.s with
 |none=>rw[he] at hv;cases hv
 |some V=>rw[he] at h;exact Jl h he hn
noncomputable def chP (f:FuncId) (σ:List SC) (args:List AV) (ψ:AV->Prop):Value:=Classical.epsilon λv=>(shV σ v=true/\ψ (.lit v))/\AF Tryz.prog f args (.lit v)
theorem rR {f:FuncId} {σ:List SC} {args:List AV} {ψ:AV->Prop} (h:∃r,(Shd σ r/\ψ r)/\AF Tryz.prog f args r):AF Tryz.prog f args (.lit (noV σ (chP f σ args ψ)))/\ψ (.lit (noV σ (chP f σ args ψ))):=by
 obtain⟨r,⟨h1,h3⟩,h2⟩:=h
 have key:∃v,(shV σ v=true/\ψ (.lit v))/\AF Tryz.prog f args (.lit v):=by
  cases r with
  |lit v=>exact⟨v,⟨h1,h3⟩,h2⟩
  |_=>cases h1
 obtain⟨⟨h3,h5⟩,h4⟩:=Classical.epsilon_spec key
 unfold chP
 rw[AcN σ _ h3]
 exact⟨h4,h5⟩
theorem tZ {σ:List SC} {ψ:AV->Prop} (V:AV) (h:ψ V) (hs:shA σ V=true:=by kernel_rfl) (hv:Pg Tryz.prog fn0 c.s=some V:=by kernel_rfl) (hn:c.isE=true:=by kernel_rfl):TE fn0 (λr=>Shd σ r/\ψ r) ⟨c,[]⟩:=Jl ⟨hs,h⟩ hv hn
end Go.Proofs.YtbggmndaahbojaaGreat
namespace Go.Proofs.YtbggmndaahbojaaGreat
open Go.Proofs.Tryz
open Go.RowKit
abbrev Dn (n:Nat):AV:= .slc 1 (Ae n).length λi=> .lit (.int .u64 (dg (Ae n) i:Int))
abbrev Ed (b:Bool) (n:Nat):AV:= .agg [.bool b,Dn n]
theorem yV (l:List Nat) {i:Nat} (h:i<l.length):(Gw l).getD i undef= .int .u64 (dg l i:Int):=by
 rw[Γ,Ct l i h];rfl
theorem Mn {E':Ap} {w':World} {lo hi n:Nat} {v:Value} (h:Bf w' lo hi v n) (hw:E'.w=w') (hD:∀b,lo<=b->b<hi->E'.D b):VR E' (Dn n) v:=by
 have h1:=h.2
 obtain⟨A,c,rfl⟩:=h.1.slice
 refine .slc _ _ _ _ _ _ h1 (tR h.1 hw (λb hb=>hD b hb.1 hb.2) λi j hi hj=>?_)
 obtain rfl:j=0:=by omega
 rw[Nat.mul_one,Nat.add_zero,yV _ hi]
 exact .lit _ _
theorem iJ {E:Ap} {e n:Nat} {f:Nat->AV} {v:Value} (h:VR E (.slc e n f) v):∃a c,v= .slice a n c/\n<=c/\VR E (.sl e n f) v:=by
 cases h with
 |slc _ _ _ _ a c hnc h=>exact⟨a,c,rfl,hnc,h⟩
theorem qA {E:Ap} {e n:Nat} {f:Nat->AV} {v:Value} (h:VR E (.sl e n f) v):(n=0/\∃a c,v= .slice a 0 c)\/∃b q c,∃us:Nat->Nat->Value,v= .slice (some ⟨b,q,none⟩) n c/\E.D b/\(∀i j,i<n->j<e->E.w.cell? ⟨b,q+i*e+j,none⟩=some (us i j))/\∀i j,i<n->j<e->VR E.fz ((f i).cell j) (us i j):=by
 cases h with
 |sl0 _ _ _ a c=>exact .inl ⟨rfl,a,c,rfl⟩
 |sl _ _ _ _ b q c us hn hD hc hr=>exact .inr ⟨b,q,c,us,rfl,hD,hc,hr⟩
theorem Lr {E:Ap} {n:Nat} {v:Value} (hb:∀b,E.D b->b<E.w.heap.size) (h:VR E.fz (Dn n) v):∃lo hi,Bf E.w lo hi v n/\hi<=E.w.heap.size/\∀b,lo<=b->b<hi->E.D b:=by
 obtain⟨a,c,rfl,hnc,h⟩:=iJ h
 rcases qA h with⟨h0,a',c',e⟩|⟨b,q,c',us,e,hD,hc,hr⟩
 exact⟨0,0,⟨⟨by rw[Cd,Nat.mul_one],.inl ⟨a,c,by rw[h0],h0⟩⟩,hnc⟩,Nat.zero_le _,λb _ h=>absurd h (Nat.not_lt_zero b)⟩
 cases e
 refine⟨b,b+1,⟨⟨by rw[Cd,Nat.mul_one],.inr ⟨b,q,c,rfl,⟨Nat.le_refl _,Nat.lt_succ_self _⟩,λj u hu=>?_⟩⟩,hnc⟩,hb b hD,λb' h1 h2=>?_⟩
 have hj:j<(Ae n).length:=by rw[<-Cd];exact(List.getElem?_eq_some_iff.1 hu).1
 have h1:=hc j 0 hj ω
 have h2:=hr j 0 hj ω
 rw[Nat.mul_one,Nat.add_zero] at h1
 have h3:us j 0= .int .u64 (dg (Ae n) j:Int):=VR.lit_inv h2
 rw[h3] at h1
 rw[Ct _ _ hj] at hu
 cases hu
 exact h1
 obtain rfl:b'=b:=by omega
 exact hD
theorem Ahr {f:FuncId} {args args':List AV} {r r':AV} (h:AF Tryz.prog f args r) (hl:args'.length=args.length) (ha:∀i,i<args.length->∀E v,VR E (args'.getD i .top) v->VR E (args.getD i .top) v) (hr:∀E v,VR E r v->VR E r' v):AF Tryz.prog f args' r':=λE vs hD hn hv=>by
 refine Calls.mono (h E vs hD ω λi hi=>ha i hi _ _ (hv i ω)) ?_
 rintro e w' ⟨v,D',h1,h2,h3⟩
 exact⟨v,D',h1,hr _ _ h2,h3⟩
theorem Ahv {vs:Array Value} (h:vs.size=1):vs=#[vs.getD 0 undef]:=by
 obtain⟨l⟩:=vs
 match l,h with
 |[a],_=>rfl
theorem arr2 {vs:Array Value} (h:vs.size=2):vs=#[vs.getD 0 undef,vs.getD 1 undef]:=by
 obtain⟨l⟩:=vs
 match l,h with
 |[a,b],_=>rfl
theorem Fp (n m:Nat):(Ae (n*m)).length<=(Ae n).length+(Ae m).length:=Co (by rw[Nat.pow_add];exact Nat.mul_lt_mul'' Qc Qc)
theorem sN (n m:Nat):(Ae (n+m)).length<=(Ae n).length+(Ae m).length+1:=by
 refine Co ?_
 have h1:=@Qc n
 have h2:=@Qc m
 have h3:Bw^(Ae n).length<=Bw^((Ae n).length+(Ae m).length):=Nat.pow_le_pow_right (by rw[Mv];decide) ω
 have h4:Bw^(Ae m).length<=Bw^((Ae n).length+(Ae m).length):=Nat.pow_le_pow_right (by rw[Mv];decide) ω
 rw[Nat.pow_succ]
 have h5:2<=Bw:=by rw[Mv];decide
 have h6:=Nat.mul_le_mul_left (Bw^((Ae n).length+(Ae m).length)) h5
 omega
theorem gE (n m:Nat):(Ae (n-m)).length<=(Ae n).length:=Fg (Nat.sub_le _ _)
theorem Wt (n m:Nat):(Ae (n/m)).length<=(Ae n).length:=Fg (Nat.div_le_self _ _)
theorem Af5 {n m:Nat} (h:0<m):(Ae (Nat.gcd n m)).length<=(Ae m).length:=Fg (Nat.gcd_le_right n h)
theorem Af6 (n s:Nat):(Ae (n*2^s)).length<=(Ae n).length+(s/64+1):=by
 refine Nat.le_trans (Fp _ _) (Nat.add_le_add_left (Co ?_) _)
 rw[Mv,show (18446744073709551616:Nat)=2^64 by decide,<-Nat.pow_mul]
 exact Nat.pow_lt_pow_right δ ω
theorem qZ (n m:Nat) (hn:(Ae n).length<=900000) (hm:(Ae m).length<=900000):AF Tryz.prog 151 [Dn n,Dn m] (Dn (n+m)):=Sq λE vs hD hsz hv=>by
 obtain⟨l0,u0,h0,g0,d0⟩:=Lr hD (hv 0 (by simp))
 obtain⟨l1,u1,h1,g1,d1⟩:=Lr hD (hv 1 (by simp))
 rw[arr2 hsz]
 refine(AeQ n m _ _ l0 u0 l1 u1 E.w h0 h1 g0 g1 ω ω).mono ?_
 rintro e w' ⟨v',rfl,h2,hb⟩
 exact⟨v',rfl,hb,λE' hw h3 h4=>Mn h2 hw λb p q=>h4 b p q⟩
theorem eS (n m:Nat) (hn:(Ae n).length<=900000) (_:(Ae m).length<=900000) (hle:m<=n):AF Tryz.prog 153 [Dn n,Dn m] (Dn (n-m)):=Sq λE vs hD hsz hv=>by
 obtain⟨l0,u0,h0,g0,d0⟩:=Lr hD (hv 0 (by simp))
 obtain⟨l1,u1,h1,g1,d1⟩:=Lr hD (hv 1 (by simp))
 rw[arr2 hsz]
 refine(Ub n m _ _ l0 u0 l1 u1 E.w h0 h1 g0 g1 ω hle).mono ?_
 rintro e w' ⟨v',rfl,h2,hb⟩
 exact⟨v',rfl,hb,λE' hw h3 h4=>Mn h2 hw λb p q=>h4 b p q⟩
theorem Ae8 (n m:Nat) (hn:(Ae n).length<=400000) (hm:(Ae m).length<=400000):AF Tryz.prog 182 [Dn n,Dn m] (Dn (n*m)):=Sq λE vs hD hsz hv=>by
 obtain⟨l0,u0,h0,g0,d0⟩:=Lr hD (hv 0 (by simp))
 obtain⟨l1,u1,h1,g1,d1⟩:=Lr hD (hv 1 (by simp))
 rw[arr2 hsz]
 refine(gH n m _ _ l0 u0 l1 u1 E.w h0 h1 g0 g1 ω ω).mono ?_
 rintro e w' ⟨v',rfl,h2,hb⟩
 exact⟨v',rfl,hb,λE' hw h3 h4=>Mn h2 hw λb p q=>h4 b p q⟩
theorem AeD (n s:Nat) (hn:(Ae n).length<=400000) (hs:s<=6400000):AF Tryz.prog 116 [Dn n,.int (s:Int)] (Dn (n*2^s)):=Sq λE vs hD hsz hv=>by
 obtain⟨l0,u0,h0,g0,d0⟩:=Lr hD (hv 0 (by simp))
 have e1:vs.getD 1 undef= .int .i64 (s:Int):=VR.lit_inv (hv 1 (by simp))
 rw[arr2 hsz,e1]
 refine(iI n s _ l0 u0 E.w h0 g0 hn hs).mono ?_
 rintro e w' ⟨v',rfl,h2,hb⟩
 exact⟨v',rfl,hb,λE' hw h3 h4=>Mn h2 hw λb p q=>h4 b p q⟩
theorem Xk (n:Nat) (hn:(Ae n).length<=1000000):AF Tryz.prog 93 [Dn n] (.int (bitLen n:Int)):=Sq λE vs hD hsz hv=>by
 obtain⟨l0,u0,h0,g0,d0⟩:=Lr hD (hv 0 (by simp))
 rw[Ahv hsz]
 refine(mB n _ l0 u0 E.w h0 hn).mono ?_
 rintro e w' ⟨rfl,rfl⟩
 exact⟨_,rfl,Below.refl _ _,λE' hw h3 h4=> .lit _ _⟩
theorem cH (n:Nat) (hn:(be n).length<=400000):AF Tryz.prog 94 [Dn n] (.lit (.string (Bq n))):=Sq λE vs hD hsz hv=>by
 obtain⟨l0,u0,h0,g0,d0⟩:=Lr hD (hv 0 (by simp))
 rw[Ahv hsz]
 refine(yL n _ _ l0 u0 E.w h0 g0 rfl hn).mono ?_
 rintro e w' ⟨rfl,hb⟩
 exact⟨_,rfl,hb,λE' hw h3 h4=> .lit _ _⟩
theorem Sr (n:Nat) (hn:(be n).length<=400000):AF Tryz.prog 102 [.lit (.string (Bq n))] (Dn n):=Ae6 (vs:=[_]) λw=>by
 refine(Ac1 n _ w rfl hn).mono ?_
 rintro e w' ⟨v',rfl,h2,hb⟩
 exact⟨v',rfl,hb,λE' hw h4=>Mn h2 hw λb p q=>h4 b p q⟩
theorem Wk (n m:Nat) (hn:(Ae n).length<=100000) (hm:(Ae m).length<=100000) (h0:0<m):AF Tryz.prog 154 [Dn n,Dn m] (.tup [Dn (n/m),Dn (n%m)]):=Sq λE vs hD hsz hv=>by
 obtain⟨l0,u0,k0,g0,d0⟩:=Lr hD (hv 0 (by simp))
 obtain⟨l1,u1,k1,g1,d1⟩:=Lr hD (hv 1 (by simp))
 have hv0:=hv 0 (by simp)
 rw[arr2 hsz]
 refine(AhB n m _ _ l0 u0 l1 u1 E.w k0 k1 g0 g1 hn hm h0).mono ?_
 rintro e w' ⟨q,r,rfl,hq,hr,hb⟩
 refine⟨_,rfl,hb,λE' hw h3 h4=>AkN (Mn hq hw λb p q=>h4 b p q) ?_⟩
 rcases hr with⟨hlt,rfl⟩|hr
 rw[Nat.mod_eq_of_lt hlt]
 refine hv0.up (Ap.fz_le_of h3 λb hb'=>?_)
 rw[hw]
 exact hb.block b (hD b hb')
 exact Mn hr hw λb p q=>h4 b p q
theorem Ah7 {n m k:Nat} (hA:k<(Ae n).length) (hB:k<(Ae m).length) (hd:(Ae n).drop (k+1)=(Ae m).drop (k+1)) (h:dg (Ae n) k<dg (Ae m) k):Xs n m (-1):=by
 have:=Tg (Cb n) hA hB hd h
 rw[Bt,Bt] at this
 exact⟨ω,ω⟩
theorem Ah6 {n m k:Nat} (hA:k<(Ae n).length) (hB:k<(Ae m).length) (hd:(Ae n).drop (k+1)=(Ae m).drop (k+1)) (h:dg (Ae m) k<dg (Ae n) k):Xs n m 1:=by
 have:=Tg (Cb m) hB hA hd.symm h
 rw[Bt,Bt] at this
 exact⟨ω,ω⟩
theorem Ah5 {n m:Nat} (h:(Ae n).drop 0=(Ae m).drop 0):Xs n m 0:=by
 simp only[List.drop_zero] at h
 have:=sO h
 subst this
 exact⟨ω,ω⟩
theorem Afb {n m:Nat} (hne:(Ae n).length≠(Ae m).length):Xs n m (((Ae n).length:Int)-((Ae m).length:Int)):=by
 rcases Nat.lt_or_gt_of_ne hne with h|h
 have:=gC h;exact⟨ω,ω⟩
 have:=gC h;exact⟨ω,ω⟩
theorem wI {n m k j:Nat} (hj:k+1=j) (hA:k<(Ae n).length) (hB:k<(Ae m).length) (hd:(Ae n).drop j=(Ae m).drop j) (h1:¬(dg (Ae n) k:Int)<(dg (Ae m) k:Int)) (h2:¬(dg (Ae m) k:Int)<(dg (Ae n) k:Int)):(Ae n).drop k=(Ae m).drop k:=dE hA hB (by rw[hj];exact hd) ω
theorem sZ (n:Nat) (y:Nat) (h0:(Ae n).length<=100000/\(Ae y).length<=100000):∃r,(Shd [.one .i] r/\(∀x,r= .int x->Xs n y x))/\AF Tryz.prog 152 [Dn n,Dn y] r:=by
 refine Bz func152 rfl ?_
 refine Ab 15 (yU 10 (((Ae n).length:Int)=((Ae y).length:Int)) (λhx1 hx1d=>?_) (λhx1 hx1d=>?_))
 refine Ab 8 (gs (λh9=>Dx (.int .i64 (IntKind.wrap .i64 (((Ae n).length:Int)-1))) (.int .i64 (((Ae n).length:Int)-1)) h9 (congrArg (Value.int .i64) (IntWalk.i64_in _ ω))) (Ab 4 (mI [0,1,5] (λm s=>∃j,m=j+1/\(j<=(Ae n).length/\(Ae n).length=(Ae y).length/\(Ae n).drop j=(Ae y).drop j)/\s=⟨[(0,Dn n),(1,Dn y),(5,.int ((j:Int)-1))],[],0,43⟩) ((Ae n).length+1) ⟨(Ae n).length,rfl,⟨Nat.le_refl _,ω,by rw[List.drop_of_length_le ζ,List.drop_of_length_le ω]⟩,κ⟩ ?_)))
 rintro _ _ ⟨j,rfl,hF,rfl⟩ hJ1
 refine Ab 7 (De 20 ((0:Int)<=(j:Int)-1) (λhx2 hx2d=>?_) (λhx2 hx2d=>?_))
 refine Ab 7 (gs (Be [(2,Ax (Dn n) ((j:Int)-1).toNat,.none),(6,Ax (Dn y) ((j:Int)-1).toNat,.none)] [0,1,5,23] ⟨fZ ((j:Int)-1) ((j:Int)-1).toNat ((Ae n).length),fZ ((j:Int)-1) ((j:Int)-1).toNat ((Ae y).length),trivial⟩ ·) (Ab 1 (De 23 (((dg (Ae n) (((j:Int)-1).toNat):Nat):Int)<((dg (Ae y) (((j:Int)-1).toNat):Nat):Int)) (λhx3 hx3d=>?_) (λhx3 hx3d=>?_))))
 exact Ab 13 (tZ (.int (-1)) (λx hx=>by cases hx;exact Ah7 (k:=((j:Int)-1).toNat) ω ω (by rw[show ((j:Int)-1).toNat+1=j by omega];exact hF.2.2) ω))
 refine Ab 2 (gs (Be [(2,Ax (Dn n) ((j:Int)-1).toNat,.none),(6,Ax (Dn y) ((j:Int)-1).toNat,.none)] [0,1,5,33] ⟨fZ ((j:Int)-1) ((j:Int)-1).toNat ((Ae n).length),fZ ((j:Int)-1) ((j:Int)-1).toNat ((Ae y).length),trivial⟩ ·) (Ab 1 (De 33 (((dg (Ae y) (((j:Int)-1).toNat):Nat):Int)<((dg (Ae n) (((j:Int)-1).toNat):Nat):Int)) (λhx4 hx4d=>?_) (λhx4 hx4d=>?_))))
 exact Ab 13 (tZ (.int 1) (λx hx=>by cases hx;exact Ah6 (k:=((j:Int)-1).toNat) ω ω (by rw[show ((j:Int)-1).toNat+1=j by omega];exact hF.2.2) ω))
 exact Ab 7 (gs (Ao ((j:Int)-1-1) (((((j:Int)-1).toNat:Nat):Int)-1) ·) (Ab 2 (trd [0,1,5] (hJ1 _ _ (by omega:((j:Int)-1).toNat+1<j+1) ⟨((j:Int)-1).toNat,rfl,⟨ω,hF.2.1,wI (j:=j) ω ω ω hF.2.2 hx3d hx4d⟩,rfl⟩))))
 exact Ab 12 (tZ (.int 0) (λx hx=>by cases hx;exact Ah5 (by have:=hF.2.2;rw[show j=0 by omega] at this;exact this)))
 exact Ab 7 (gs (λh9=>Dx (.int .i64 (IntKind.wrap .i64 (((Ae n).length:Int)-((Ae y).length:Int)))) (.int .i64 (((Ae n).length:Int)-((Ae y).length:Int))) h9 (congrArg (Value.int .i64) (IntWalk.i64_in _ ω))) (Ab 5 (tZ (.int (((Ae n).length:Int)-((Ae y).length:Int))) (λx hx=>by cases hx;exact Afb ω))))
noncomputable def dT (n:Nat) (y:Nat):Value:=chP 152 [.one .i] [Dn n,Dn y] λr=>∀x,r= .int x->Xs n y x
theorem rA (n:Nat) (y:Nat) (h0:(Ae n).length<=100000/\(Ae y).length<=100000):AF Tryz.prog 152 [Dn n,Dn y] (.lit (noV [.one .i] (dT n y))):=(rR (sZ n y h0)).1
def Kv (b:Bool) (n:Nat) (c:Bool) (m:Nat):Bool:=if b=c then b else if m<=n then b else c
def Kc (b:Bool) (n:Nat) (c:Bool) (m:Nat):Nat:=if b=c then n+m else if m<=n then n-m else m-n
def Ga (b:Bool) (n m:Nat):Nat:=if (b&&decide (0<n%m))=true then n/m+1 else n/m
def fI (b:Bool) (n m:Nat):Nat:=if (b&&decide (0<n%m))=true then m-n%m else n%m
theorem Qb (b:Bool) (n:Nat) (c:Bool) (m:Nat):(Ae (Kc b n c m)).length<=(Ae n).length+(Ae m).length+1:=by
 unfold Kc
 split
 exact sN n m
 split
 have:=gE n m;omega
 have:=gE m n;omega
theorem Zb:(Ae 1).length=1:=by rw[sP];rfl
theorem Nt (b:Bool) (n m:Nat):(Ae (Ga b n m)).length<=(Ae n).length+2:=by
 have h:=Wt n m
 unfold Ga
 split
 have:=sN (n/m) 1;rw[Zb] at this;omega
 omega
theorem Acu (b:Bool) {n m:Nat} (h:0<m):(Ae (fI b n m)).length<=(Ae m).length:=by
 unfold fI
 split
 exact gE _ _
 exact Fg (Nat.le_of_lt (Nat.mod_lt _ h))
theorem cX {n:Nat} (h:(Ae n).length<=40000):(be n).length<=400000:=by have:=Tl n;omega
theorem Zc {n:Nat} (h:0<n):0<(Ae n).length:=List.length_pos_iff.2 λe=>by have:=Ky.1 e;omega
theorem Ut {n:Nat} (h:(Ae n).length=0):n=0:=Ky.1 (List.length_eq_zero_iff.1 h)
theorem Agr {E:Ap} {e n:Nat} {f g:Nat->AV} {v:Value} (h:VR E (.slc e n f) v) (hfg:∀i,i<n->f i=g i):VR E (.slc e n g) v:=by
 obtain⟨a,c,rfl,hnc,h⟩:=iJ h
 refine .slc _ _ _ _ _ _ hnc ?_
 rcases qA h with⟨rfl,a',c',e1⟩|⟨b,q,c',us,e1,hD,hc,hr⟩
 cases e1;exact .sl0 _ _ _ _ _
 cases e1
 by_cases h0:0<n
 exact .sl _ _ _ _ _ _ _ us h0 hD hc λi j hi hj=>by rw[<-hfg i hi];exact hr i j hi hj
 obtain rfl:n=0:=by omega
 exact .sl0 _ _ _ _ _
abbrev AjG:AV:= .slc 1 1 λ_=> .lit (.int .u64 1)
theorem AfN {E:Ap} {v:Value} (h:VR E AjG v):VR E (Dn 1) v:=by
 have e:Dn 1= .slc 1 1 λi=> .lit (.int .u64 (dg (Ae 1) i:Int)):=by unfold Dn;rw[Zb]
 rw[e]
 exact Agr h λi hi=>by
  obtain rfl:i=0:=by omega
  rw[sP];rfl
theorem jF (n:Nat) (hn:(Ae n).length<=800000):AF Tryz.prog 151 [Dn n,AjG] (Dn (n+1)):=
 Ahr (qZ n 1 ω (by rw[Zb];decide)) rfl (λi hi E v h=>by
  match i,hi with
  |0,_=>exact h
  |1,_=>exact AfN h) λE v h=>h
theorem Aai (n s:Nat) (t:Int) (ht:t=(s:Int)) (hn:(Ae n).length<=400000) (hs:s<=6400000):AF Tryz.prog 116 [Dn n,.int t] (Dn (n*2^s)):=by subst ht;exact AeD n s hn hs
theorem Db (z:Int) (hz:Bm z):AF Tryz.prog 98 [WA z] (Ed (decide (z<0)) z.natAbs):=by
 have hd:=hz.digits
 refine Ai func98 rfl λB D0 hA0=>?_
 exact Aa 7 (Be [(4,_,.none)] [2] ⟨Am (Sr z.natAbs (cX ω)),trivial⟩ (Aa 2 (Br)))
theorem Ss (b:Bool) (n:Nat):AF Tryz.prog 100 [Ed b n] (Ed (!b) n):=by
 refine Ai func100 rfl λB D0 hA0=>?_
 exact Aa 18 (Br)
theorem Nj (b:Bool) (n:Nat) (c:Bool) (m:Nat) (hn:(Ae n).length<=30000) (hm:(Ae m).length<=30000):AF Tryz.prog 150 [Ed b n,Ed c m] (Ed (!decide (b=c)) (n*m)):=by
 refine Ai func150 rfl λB D0 hA0=>?_
 exact Aa 8 (Be [(4,.bool (!decide (b=c)),.none),(9,_,.none)] [4] ⟨As (.bool (!decide (b=c))) rfl,Am (Ae8 n m ω ω),trivial⟩ (Aa 2 (Br)))
theorem tA {n m:Nat} (h:(Ae n).length<=100000/\(Ae m).length<=100000):0<=gI (dT n m)↔m<=n:=by
 have:=(rR (sZ n m h)).2 _ rfl
 have h1:=this.lt
 have h2:=this.gt
 constructor
 intro h3;exact Nat.le_of_not_lt λh4=>by have:=h1.2 h4;exact absurd (show (0:Int)<=gI (dT n m) from h3) (by have:gI (dT n m)<0:=this;omega)
 intro h3;exact Int.not_lt.1 λh4=>by have:=h1.1 h4;omega
theorem Aac (b:Bool) (n m:Nat) (hn:(Ae n).length<=30000) (hm:(Ae m).length<=30000):AF Tryz.prog 99 [Ed b n,Ed b m] (Ed b (n+m)):=by
 refine Ai func99 rfl λB D0 hA0=>?_
 exact Aa 15 (Dx (.bool (decide (b=b))) (.bool (decide (b=b))) (Aa 3 (Ev 5 (decide (b=b)) true (decide_eq_true rfl) (Aa 2 (Be [(6,_,.none)] [4] ⟨Am (qZ n m ω ω),trivial⟩ (Aa 4 (Br)))))))
theorem Aad (b:Bool) (n:Nat) (c:Bool) (m:Nat) (hn:(Ae n).length<=30000) (hm:(Ae m).length<=30000) (h:decide (b=c)=false) (hle:m<=n):AF Tryz.prog 99 [Ed b n,Ed c m] (Ed b (n-m)):=by
 have hc:=decide_eq_true ((tA ⟨(by omega:(Ae n).length<=100000),(by omega:(Ae m).length<=100000)⟩).2 hle)
 refine Ai func99 rfl λB D0 hA0=>?_
 exact Aa 15 (Dx (.bool (decide (b=c))) (.bool (decide (b=c))) (Aa 3 (Ev 5 (decide (b=c)) false h (Aa 7 (Aj (rA n m ω) (Aa 4 (Ev 19 (decide ((0:Int)<=(gI (dT n m)))) true hc (Aa 2 (Be [(6,_,.none)] [4] ⟨Am (eS n m ω ω ω),trivial⟩ (Aa 4 (Br)))))))))))
theorem Aae (b:Bool) (n:Nat) (c:Bool) (m:Nat) (hn:(Ae n).length<=30000) (hm:(Ae m).length<=30000) (h:decide (b=c)=false) (hle:¬m<=n):AF Tryz.prog 99 [Ed b n,Ed c m] (Ed c (m-n)):=by
 have hc:=decide_eq_false (λh=>hle ((tA ⟨(by omega:(Ae n).length<=100000),(by omega:(Ae m).length<=100000)⟩).1 h))
 refine Ai func99 rfl λB D0 hA0=>?_
 exact Aa 15 (Dx (.bool (decide (b=c))) (.bool (decide (b=c))) (Aa 3 (Ev 5 (decide (b=c)) false h (Aa 7 (Aj (rA n m ω) (Aa 4 (Ev 19 (decide ((0:Int)<=(gI (dT n m)))) false hc (Aa 5 (Be [(6,_,.none)] [4] ⟨Am (eS m n ω ω ω),trivial⟩ (Aa 2 (Br)))))))))))
theorem Nh (b:Bool) (n:Nat) (c:Bool) (m:Nat) (hn:(Ae n).length<=30000) (hm:(Ae m).length<=30000):AF Tryz.prog 99 [Ed b n,Ed c m] (Ed (Kv b n c m) (Kc b n c m)):=by
 unfold Kv Kc
 by_cases h:b=c
 subst h;rw[if_pos rfl,if_pos rfl];exact Aac b n m hn hm
 rw[if_neg h,if_neg h]
 by_cases hle:m<=n
 rw[if_pos hle,if_pos hle];exact Aad b n c m hn hm (decide_eq_false h) hle
 rw[if_neg hle,if_neg hle];exact Aae b n c m hn hm (decide_eq_false h) hle
theorem Aaf (n:Nat) (c:Bool) (m:Nat) (hn:(Ae n).length<=30000) (hm:(Ae m).length<=30000) (hm0:0<m) (h:decide ((0:Int)<((Ae (n%m)).length:Int))=true):AF Tryz.prog 117 [Ed true n,Ed c m] (.tup [Ed (!decide (true=c)) (n/m+1),Ed false (m-n%m)]):=by
 have hq:=Wt n m
 have hr:=Fg (Nat.le_of_lt (Nat.mod_lt n hm0))
 refine Ai func117 rfl λB D0 hA0=>?_
 exact Aa 14 (Aj (Wk n m ω ω ω) (Aa 19 (Ev 22 (decide ((0:Int)<((Ae (n%m)).length:Int))) true h (Aa 1 (Be [(1,.osl 4 1 1,(.new 4 (.vec 92 1 1 (λ_=> .lit (.int .u64 1))))),(2,Dn ((n/m)+1),(.drop 4)),(6,_,.none)] [2,3,4,5,6,7] ⟨Bo (Dj 95 1 #[(0,(.const (.int .u64 1)))] κ underlying95 1 sizeOf92 _ zeroValue92 κ β β β 4 [.lit (.int .u64 1)] κ (λ_=> .lit (.int .u64 1)) κ),Bo (Js 151 #[.tmp 23,.tmp 24] #[95,95] κ (λ_ _=>by kernel_rfl) 4 (.vec 92 1 1 (λ_=> .lit (.int .u64 1))) κ (λ_ _ _ _ h=>by cases h;exact(Bi λ_ _=>rfl)) [Dn (n/m),.osl 4 1 1] κ [Dn (n/m),.slc 1 1 (λ_=> .lit (.int .u64 1))] κ (Dn ((n/m)+1)) (jF (n/m) ω)),Am (eS m (n%m) ω ω (Nat.le_of_lt (Nat.mod_lt _ hm0))),trivial⟩ (Aa 7 (Dx (.bool (!decide (true=c))) (.bool (!decide (true=c))) (Aa 9 (Br)))))))))
theorem Aag (n:Nat) (c:Bool) (m:Nat) (hn:(Ae n).length<=30000) (hm:(Ae m).length<=30000) (hm0:0<m) (h:decide ((0:Int)<((Ae (n%m)).length:Int))=false):AF Tryz.prog 117 [Ed true n,Ed c m] (.tup [Ed (!decide (true=c)) (n/m),Ed false (n%m)]):=by
 have hq:=Wt n m
 have hr:=Fg (Nat.le_of_lt (Nat.mod_lt n hm0))
 refine Ai func117 rfl λB D0 hA0=>?_
 exact Aa 14 (Aj (Wk n m ω ω ω) (Aa 19 (Ev 22 (decide ((0:Int)<((Ae (n%m)).length:Int))) false h (Aa 9 (Dx (.bool (!decide (true=c))) (.bool (!decide (true=c))) (Aa 9 (Br)))))))
theorem Aah (n:Nat) (c:Bool) (m:Nat) (hn:(Ae n).length<=30000) (hm:(Ae m).length<=30000) (hm0:0<m):AF Tryz.prog 117 [Ed false n,Ed c m] (.tup [Ed (!decide (false=c)) (n/m),Ed false (n%m)]):=by
 have hq:=Wt n m
 have hr:=Fg (Nat.le_of_lt (Nat.mod_lt n hm0))
 refine Ai func117 rfl λB D0 hA0=>?_
 exact Aa 14 (Aj (Wk n m ω ω ω) (Aa 28 (Dx (.bool (!decide (false=c))) (.bool (!decide (false=c))) (Aa 9 (Br)))))
theorem Ni (b:Bool) (n:Nat) (c:Bool) (m:Nat) (hn:(Ae n).length<=30000) (hm:(Ae m).length<=30000) (hm0:0<m):AF Tryz.prog 117 [Ed b n,Ed c m] (.tup [Ed (!decide (b=c)) (Ga b n m),Ed false (fI b n m)]):=by
 unfold Ga fI
 cases b with
 |false=>exact Aah n c m hn hm hm0
 |true=>
  by_cases h:0<n%m
  have hl:=Zc h
  have e:(true&&decide (0<n%m))=true:=by rw[decide_eq_true h];rfl
  rw[if_pos e,if_pos e]
  exact Aaf n c m hn hm hm0 (decide_eq_true ω)
  have e:¬(true&&decide (0<n%m))=true:=by rw[decide_eq_false h];decide
  rw[if_neg e,if_neg e]
  exact Aag n c m hn hm hm0 (decide_eq_false λg=>h (Nat.pos_of_ne_zero λe0=>by rw[e0,Cf] at g;exact absurd g δ))
theorem xD {a b G:Nat} (h:Nat.gcd a b=G) (hl:(Ae b).length<=30000) (hb:0<b):Nat.gcd b (a%b)=G/\(Ae b).length<=30000/\(Ae (a%b)).length<=30000:=⟨by rw[<-h,Nat.gcd_comm a b,Nat.gcd_rec b a,Nat.gcd_comm],hl,Nat.le_trans (Fg (Nat.le_of_lt (Nat.mod_lt _ hb))) hl⟩
theorem AcH {a b G:Nat} (h:Nat.gcd a b=G) (hb:b=0):a=G:=by rw[hb,Nat.gcd_zero_right] at h;exact h
theorem kW {n:Nat} (h:0<(Ae n).length):0<n:=Nat.pos_of_ne_zero λe=>by rw[e,Cf] at h;exact absurd h δ
theorem eR (n k:Nat) (hn:(Ae n).length<=30000) (hm:(Ae k).length<=30000):AF Tryz.prog 103 [Dn n,Dn k] (Dn (Nat.gcd n k)):=by
 refine Ai func103 rfl λB D0 hA0=>?_
 refine Aa 7 (Wg [0,1] (λm s=>∃a b,m=b+1/\(Nat.gcd a b=Nat.gcd n k/\(Ae a).length<=30000/\(Ae b).length<=30000)/\s=⟨[(0,Dn a),(1,Dn b)],[],0,19⟩) (k+1) ⟨n,k,rfl,⟨rfl,hn,hm⟩,κ⟩ ?_)
 rintro _ _ ⟨a,b,rfl,hF,rfl⟩ J1 hJ1
 refine Aa 8 (Cu 9 ((0:Int)<((Ae b).length:Int)) (λhx1 hx1d=>?_) (λhx1 hx1d=>?_))
 ·
  refine Aa 4 ?_
  have hb0:0<b:=kW ω
  have hb1:=Nat.mod_lt a hb0
  exact Aa 4 (Aj (Wk a b ω ω hb0) (Aa 14 (Pe [0,1] (hJ1 _ _ (by omega:(a%b)+1<b+1) ⟨b,a%b,rfl,xD hF.1 hF.2.2 hb0,rfl⟩))))
 ·
  exact Aa 13 (Ch (Dn a) (congrArg Dn (AcH hF.1 (Ut ω))))
structure Rw where
 neg:Bool
 mag:ByteArray
abbrev rwA (w:Rw):AV:= .lit (.agg #[.bool w.neg,.string w.mag])
def dV (w:Rw):Bool:=if h:0<w.mag.size then decide ((w.mag[0]'h).toNat≠0)&&decide (w.mag.size<=8192) else !w.neg
theorem mQ (ng:Bool) (s:ByteArray) (w:World):Calls Tryz.prog 106 #[.agg #[.bool ng,.string s]] w λe w'=>e= .returned (.bool (dV ⟨ng,s⟩))/\Below w.heap.size w w':=by
 have hbw:Below w.heap.size w (w.alloc (.cells #[.bool ng,.string s] 68)):=Ψ.alloc ζ _
 have HBW:=Δ hbw
 clear hbw
 by_cases hn0:s.size=0
 ·
  have he:s.toList.isEmpty=true:=by
   rw[ByteArray.toList_eq]
   have:s.data.toList.length=0:=by rw[Array.length_toList];exact hn0
   rw[List.length_eq_zero_iff.1 this];rfl
  have HR:Hid (dV ⟨ng,s⟩= !ng):=by unfold Hid dV;rw[dif_neg (by simpa using hn0)]
  rw[HR.out]
  clear hn0 HR
  go_enter func106,ntmps106
  go_wp2_with fail
  go_ret
  exact⟨rfl,HBW.out⟩
 ·
  have he:s.toList.isEmpty=false:=by
   rw[ByteArray.toList_eq]
   have:s.data.toList.length≠0:=by rw[Array.length_toList];exact hn0
   cases h:s.data.toList with
   |nil=>rw[h] at this;exact absurd rfl this
   |cons _ _=>rfl
  have hps:0<s.size:=Nat.pos_of_ne_zero hn0
  have HR:Hid (dV ⟨ng,s⟩=(decide ((s[0]'hps).toNat≠0)&&decide (s.size<=8192))):=by unfold Hid dV;rw[dif_pos hps]
  rw[HR.out]
  clear hn0 HR
  obtain⟨L,hL⟩:∃L,L=s.size:=⟨_,rfl⟩
  rw[<-hL]
  have hLs:(s.size:Int)=(L:Int):=by omega
  by_cases hx0:(s[0]'hps).toNat=0
  ·
   have HR:Hid ((decide ((s[0]'hps).toNat≠0)&&decide (L<=8192))=false):=by unfold Hid;rw[decide_eq_false (by simpa using hx0)];rfl
   rw[HR.out]
   have hxb:(((s[0]'hps).toNat:Int) != 0)=false:=by simp[hx0]
   clear hx0 HR
   go_enter func106,ntmps106
   go_wp2_with fail
   go_ret
   exact⟨rfl,HBW.out⟩
  ·
   have HR:Hid ((decide ((s[0]'hps).toNat≠0)&&decide (L<=8192))=decide ((L:Int)<=8192)):=by
    unfold Hid
    rw[decide_eq_true (by simpa using hx0)]
    exact decide_eq_decide.2 ω
   rw[HR.out]
   have hxb:(((s[0]'hps).toNat:Int) != 0)=true:=by simp[hx0]
   clear hx0 HR
   go_enter func106,ntmps106
   go_wp2_with fail
   go_ret
   exact⟨rfl,HBW.out⟩
theorem Rp (a:Rw):AF Tryz.prog 106 [rwA a] (.bool (dV a)):=nH (vs:=[_]) λw=>mQ a.neg a.mag w
theorem Ahb {a:Rw} (h:dV a=true):∃z,Bm z/\rwA a=WA z:=by
 obtain⟨ng,s⟩:=a
 unfold dV at h
 split at h
 rename_i hps
 rw[Bool.and_eq_true,decide_eq_true_eq,decide_eq_true_eq] at h
 obtain⟨h1,h2⟩:=h
 have hhd:s.data.toList.head?≠some 0:=λe=>by
  have e2:s.data.toList[0]?=some 0:=by rw[<-List.head?_eq_getElem?];exact e
  have hp:0<s.data.toList.length:=by rw[Array.length_toList];exact hps
  rw[List.getElem?_eq_getElem hp] at e2
  have e3:s.data.toList[0]=0:=Option.some.inj e2
  apply h1
  show (s.data[0]'hps).toNat=0
  rw[show s.data[0]'hps=s.data.toList[0] from rfl,e3];rfl
 have hb:=Ahz hhd
 obtain⟨n,hn⟩:∃n,n=mT s.data.toList:=⟨_,rfl⟩
 rw[<-hn] at hb
 have hs:Bq n=s:=by unfold Bq;rw[hb]
 have hn0:n≠0:=λe=>by
  rw[e,Ih] at hb
  have:s.data.toList.length=0:=by rw[<-hb];rfl
  rw[Array.length_toList] at this
  have h3:0<s.data.size:=hps
  omega
 have hlen:(be n).length<=8192:=by rw[hb,Array.length_toList];exact h2
 rw[Qw] at hlen
 have hf:bitLen n<=65536:=by omega
 cases ng with
 |true=>exact⟨-(n:Int),by unfold Bm;simpa using hf,by show AV.lit (.agg #[.bool true,.string s])= .lit (Ah (-(n:Int)));unfold Ah;rw[Int.natAbs_neg,Int.natAbs_natCast,hs,decide_eq_true ω]⟩
 |false=>exact⟨(n:Int),by unfold Bm;simpa using hf,by show AV.lit (.agg #[.bool false,.string s])= .lit (Ah (n:Int));unfold Ah;rw[Int.natAbs_natCast,hs,decide_eq_false ω]⟩
 rename_i hps
 have hng:ng=false:=by simpa using h
 subst hng
 have hs:s=Bq 0:=by
  rw[Nm]
  obtain⟨⟨l⟩⟩:=s
  have:l.length=0:=by have h3:¬0<l.length:=hps;omega
  rw[List.length_eq_zero_iff.1 this]
 refine⟨0,by unfold Bm;decide,?_⟩
 show AV.lit (.agg #[.bool false,.string s])= .lit (Ah 0)
 rw[hs];rfl
theorem AfI {z:Int} (h:Bm z):dV ⟨decide (z<0),Bq z.natAbs⟩=true:=by
 unfold dV
 have hl:(Bq z.natAbs).size=(be z.natAbs).length:=by simp[Bq,ByteArray.size]
 by_cases hp:0<(Bq z.natAbs).size
 have hn:z.natAbs≠0:=λe=>by rw[hl,e,Ih] at hp;exact absurd hp δ
 have h1:=AaR hn ω
 have h2:=h.bytes
 rw[dif_pos hp,Bool.and_eq_true,decide_eq_true_eq,decide_eq_true_eq]
 exact⟨h1,by show (Bq z.natAbs).size<=8192;omega⟩
 rw[dif_neg hp]
 have h0:z.natAbs=0:=Nat.eq_zero_of_not_pos λg=>by
  have:=@cW z.natAbs
  rw[jP,decide_eq_false ω] at this
  cases hb:be z.natAbs with
  |nil=>rw[hb] at this;cases this
  |cons a l=>rw[hb] at hl;simp at hl;omega
 obtain rfl:z=0:=by omega
 rfl
theorem Du (x:Int) (hx:Bm x):AF Tryz.prog 106 [WA x] (.bool true):=by
 have:=Rp ⟨decide (x<0),Bq x.natAbs⟩
 rw[AfI hx] at this
 exact this
def Fc (z:Int):Int:=if bitLen z.natAbs<=65536 then z else 0
def Gd (z:Int):Int:=if bitLen z.natAbs<=65536 then 0 else 7
theorem Dy {z:Int} (h:Bm z):Fc z=z:=if_pos h
theorem Fx {z:Int} (h:Bm z):Gd z=0:=if_pos h
theorem Ahi {b v:Bool} {n:Nat} (hv:v=(b&&decide (0<n))):Value.agg #[.bool v,.string (Bq n)]=Ah (Cn b n):=by
 unfold Ah
 rw[Agl,Tz,hv]
theorem yW:Value.agg #[.bool false,.string ⟨#[]⟩]=Ah 0:=by unfold Ah;rw[show (0:Int).natAbs=0 from rfl,Nm];rfl
theorem Acv {n:Nat} (h:¬((Ae n).length:Int)=0):n≠0:=λe=>by rw[e,Cf] at h;exact h rfl
theorem Za (n m:Nat):(Ae (Nat.gcd n m)).length<=(Ae n).length+(Ae m).length:=by
 rcases Nat.eq_zero_or_pos m with rfl|h
 rw[Nat.gcd_zero_right];omega
 have:=Af5 (n:=n) h;omega
theorem tL {n:Nat}:decide ((0:Int)<((Ae n).length:Int))=decide (0<n):=decide_eq_decide.2 ⟨λh=>kW ω,λh=>by have:=Zc h;omega⟩
theorem iG (b:Bool) (n:Nat) (c:Bool) (m:Nat):Cn (Kv b n c m) (Kc b n c m)=Cn b n+Cn c m:=by
 unfold Kv Kc
 by_cases h:b=c
 subst h;rw[if_pos rfl,if_pos rfl];exact iH b n m
 rw[if_neg h,if_neg h]
 by_cases hm:m<=n
 rw[if_pos hm,if_pos hm];exact pY h hm
 rw[if_neg hm,if_neg hm];exact pZ h ω
theorem lY (x:Int):Cn (!decide (x<0)) x.natAbs= -x:=by unfold Cn;by_cases h:x<0<;>simp[h]<;>omega
theorem AdC (x y:Int):Cn (Kv (decide (x<0)) x.natAbs (decide (y<0)) y.natAbs) (Kc (decide (x<0)) x.natAbs (decide (y<0)) y.natAbs)=x+y:=by rw[iG,Je,Je]
theorem lZ (x y:Int):Cn (Kv (decide (x<0)) x.natAbs (!decide (y<0)) y.natAbs) (Kc (decide (x<0)) x.natAbs (!decide (y<0)) y.natAbs)=x-y:=by rw[iG,Je,lY];omega
theorem tB (a b:Bool):(!decide (a=b))=(a != b):=by cases a<;>cases b<;>rfl
theorem aC (x y:Int):Cn (!decide (decide (x<0)=decide (y<0))) (x.natAbs*y.natAbs)=x*y:=by rw[tB,Agk,Je,Je]
theorem Qm (x y:Int) (hy:y≠0):Cn (!decide (decide (x<0)=decide (y<0))) (Ga (decide (x<0)) x.natAbs y.natAbs)=x/y/\Cn false (fI (decide (x<0)) x.natAbs y.natAbs)=x%y:=by
 have hm:0<y.natAbs:=by omega
 have key:∀b:Bool,Cn b x.natAbs=x->Cn (!decide (b=decide (y<0))) (Ga b x.natAbs y.natAbs)=x/y/\Cn false (fI b x.natAbs y.natAbs)=x%y:=λb hb=>by
  have h2:x=Cn b x.natAbs:=hb.symm
  have h3:y=Cn (decide (y<0)) y.natAbs:=(Je y).symm
  rw[tB]
  unfold Ga fI
  cases b with
  |false=>
   obtain⟨k1,k2⟩:=yD (mg:=decide (y<0)) (n:=x.natAbs) hm
   rw[<-h2,Je] at k1 k2
   rw[k1,k2]
   cases decide (y<0)<;>exact⟨rfl,rfl⟩
  |true=>
   by_cases h:0<x.natAbs%y.natAbs
   obtain⟨k1,k2⟩:=pX (mg:=decide (y<0)) (n:=x.natAbs) hm h
   rw[<-h2,Je] at k1 k2
   rw[k1,k2,decide_eq_true h]
   cases decide (y<0)<;>exact⟨rfl,rfl⟩
   obtain⟨k1,k2⟩:=yE (mg:=decide (y<0)) (n:=x.natAbs) hm ω
   rw[<-h2,Je] at k1 k2
   rw[k1,k2,decide_eq_false h]
   cases decide (y<0)<;>exact⟨rfl,rfl⟩
 exact key _ (Je x)
theorem aD (b:Bool) (n:Nat):(Cn b n).sign=if n=0 then 0 else if b=true then -1 else 1:=by
 unfold Cn
 by_cases h:n=0
 subst h;cases b<;>rfl
 rw[if_neg h]
 cases b with
 |true=>rw[if_pos rfl,if_pos rfl];exact Int.sign_eq_neg_one_of_neg ω
 |false=>rw[if_neg δ,if_neg δ];exact Int.sign_eq_one_of_pos ω
theorem wE {n:Nat} (h:(Ae n).length=1):dg (Ae n) 0=n:=by
 have:=Bt n
 cases hl:Ae n with
 |nil=>rw[hl] at h;cases h
 |cons a l=>
  rw[hl] at h this
  cases l with
  |nil=>simpa [val,dg] using this
  |cons _ _=>simp at h
theorem wF {n:Nat} (h:1<(Ae n).length):18446744073709551616<=n:=Nat.le_of_not_lt λg=>by
 have:=Co (n:=n) (k:=1) (by rw[Nat.pow_one,Mv];exact g)
 omega
def iR (z:Int):Int:=if -9223372036854775808<=z/\z<=9223372036854775807 then z else 0
def iE (z:Int):Int:=if -9223372036854775808<=z/\z<=9223372036854775807 then 0 else 3
def Gk (n:Int):Nat:=(n%18446744073709551616).toNat
theorem eJ (n:Int):IntKind.wrap .u64 n=((Gk n:Nat):Int):=by
 unfold Gk;show n%18446744073709551616=_;omega
theorem iP (n:Int):Gk n<Bw:=by unfold Gk;rw[Mv];omega
theorem mM (n:Int):(Ae (Gk n)).length<=1:=Co (by rw[Nat.pow_one];exact iP n)
theorem AdV {n:Int} (h0: -9223372036854775808<=n) (h:n<0):Gk (0-((Gk n:Nat):Int))=n.natAbs:=by unfold Gk;omega
theorem AdW {n:Int} (h1:n<=9223372036854775807) (h:¬n<0):Gk n=n.natAbs:=by unfold Gk;omega
theorem jI (x:Nat) (hx:x<Bw):AF Tryz.prog 54 [.slc 1 1 λ_=> .lit (.int .u64 (x:Int))] (Dn x):=Sq λE vs hD hsz hv=>by
 have hv0:=hv 0 (by simp)
 obtain⟨a,c,e,hnc,h⟩:=iJ hv0
 rw[e] at h
 rw[Ahv hsz,e]
 have hs:∃b,E.D b/\Hc E.w b (b+1) 1 (.slice a 1 c) [x].length (Gw [x]):=by
  rcases qA h with⟨h0,_⟩|⟨b,q,c',us,e1,hDb,hc,hr⟩
  exact absurd h0 δ
  cases e1
  refine⟨b,hDb,rfl,.inr ⟨b,q,c,rfl,⟨Nat.le_refl _,Nat.lt_succ_self _⟩,λj u hu=>?_⟩⟩
  match j,hu with
  |0,hu=>
   have h1:=hc 0 0 δ δ
   have h2:us 0 0= .int .u64 (x:Int):=VR.lit_inv (hr 0 0 δ δ)
   rw[h2] at h1
   cases hu
   have h3:E.w.cell? ⟨b,q+0*1+0,none⟩=some (.int .u64 (x:Int)):=h1
   simpa using h3
  |j+1,hu=>simp[Gw] at hu
 obtain⟨b,hDb,hs⟩:=hs
 refine(Qp [x] _ b (b+1) E.w hs hnc (λy hy=>by simp at hy;subst hy;exact hx) (by simp)).mono ?_
 rintro e w' ⟨v',rfl,h2,rfl⟩
 have hval:val [x]=x:=by simp[val]
 rw[hval] at h2
 exact⟨v',rfl,Below.refl _ _,λE' hw h3 h4=>Mn h2 hw λb' p q=>by
  obtain rfl:b'=b:=by omega
  exact h3 _ hDb⟩
theorem fB {n:Nat} (h:0<n):((Bq n).toList==(⟨#[]⟩:ByteArray).toList)=false:=by
 have:=@cW n
 rw[decide_eq_false ω] at this
 cases hb:(Bq n).toList with
 |nil=>rw[hb] at this;cases this
 |cons a l=>
  have e0:(⟨#[]⟩:ByteArray).toList=[]:=by rw[ByteArray.toList_eq]
  rw[e0];rfl
theorem Hf (x y:Int) (hx:Bm x) (hy:Bm y):AF Tryz.prog 97 [WA x,WA y] (.bool true):=by
 refine Ai func97 rfl λB D0 hA0=>?_
 exact Aa 10 (Aj (Du x θ) (Aa 2 (Aj (Du y θ) (Aa 5 (Br)))))
theorem uV (b:Bool) (n:Nat) (hl:(Ae n).length<=30000) (hs:bitLen n<=65536):AF Tryz.prog 55 [Ed b n] (.lit (.tuple #[Ah (Fc (Cn b n)),.int .i64 (Gd (Cn b n))])):=by
 have e1:Fc (Cn b n)=Cn b n:=if_pos (by rw[Tz];exact hs)
 have e2:Gd (Cn b n)=0:=if_pos (by rw[Tz];exact hs)
 refine Ai func55 rfl λB D0 hA0=>?_
 refine Aa 12 (Aj (Xk n ω) (Aa 3 (Ev 7 (decide ((65536:Int)<(bitLen n:Int))) false (decide_eq_false ω) (Aa 4 ?_))))
 refine Fk b (λhx1=>?_) (λhx1=>?_)
 ·
  exact Be [(1,.bool true,(.read 0)),(10,_,.none)] [2,3] ⟨kbE hx1,Am (cH n (cX ω)),trivial⟩ (Aa 2 (Ch (.lit (.tuple #[.agg #[.bool (decide ((0:Int)<((Ae n).length:Int))),.string (Bq n)],.int .i64 0])) (by rw[Ahi (b:=b) (show decide ((0:Int)<((Ae n).length:Int))=(b&&decide (0<n)) by rw[tL,hx1];rfl),e1,e2])))
 ·
  exact Be [(1,.bool false,(.read 0)),(10,_,.none)] [2,3] ⟨kbE hx1,Am (cH n (cX ω)),trivial⟩ (Aa 2 (Ch (.lit (.tuple #[.agg #[.bool false,.string (Bq n)],.int .i64 0])) (by rw[Ahi (b:=b) (show false=(b&&decide (0<n)) by rw[hx1];rfl),e1,e2])))
theorem uW (b:Bool) (n:Nat) (hl:(Ae n).length<=30000) (hs:¬bitLen n<=65536):AF Tryz.prog 55 [Ed b n] (.lit (.tuple #[Ah (Fc (Cn b n)),.int .i64 (Gd (Cn b n))])):=by
 have e1:Fc (Cn b n)=0:=if_neg (by rw[Tz];exact hs)
 have e2:Gd (Cn b n)=7:=if_neg (by rw[Tz];exact hs)
 refine Ai func55 rfl λB D0 hA0=>?_
 exact Aa 12 (Aj (Xk n ω) (Aa 3 (Ev 7 (decide ((65536:Int)<(bitLen n:Int))) true (decide_eq_true ω) (Aa 10 (Ch (.lit (.tuple #[.agg #[.bool false,.string ⟨#[]⟩],.int .i64 7])) (by rw[e1,e2,yW]))))))
theorem Ds (b:Bool) (n:Nat) (hl:(Ae n).length<=30000):AF Tryz.prog 55 [Ed b n] (.lit (.tuple #[Ah (Fc (Cn b n)),.int .i64 (Gd (Cn b n))])):=(Decidable.em (bitLen n<=65536)).elim (uV b n hl) (uW b n hl)
theorem Uj (b:Bool) (n:Nat) (_:(Ae n).length<=30000):AF Tryz.prog 101 [Ed b n] (.int (Cn b n).sign):=by
 have h9:=@tL n
 refine Ai func101 rfl λB D0 hA0=>?_
 refine Aa 17 (Cu 3 (((Ae n).length:Int)=0) (λhx1 hx1d=>?_) (λhx1 hx1d=>?_))
 ·
  exact Aa 9 (Ch (.int 0) (congrArg AV.int (by rw[aD,if_pos (Ut ω)])))
 ·
  refine Aa 8 (vsb 8 b (λhx2=>?_) (λhx2=>?_))
  ·
   exact Aa 9 (Ch (.int (-1)) (congrArg AV.int (by rw[aD,if_neg (Acv ω),if_pos hx2])))
  ·
   exact Aa 10 (Ch (.int 1) (congrArg AV.int (by rw[aD,if_neg (Acv ω),if_neg (by rw[hx2];decide)])))
theorem Aa0 (x y:Int) (hx:Bm x) (hy:Bm y):AF Tryz.prog 96 [WA x,WA y] (.lit (.tuple #[Ah (Fc (x+y)),.int .i64 (Gd (x+y))])):=by
 have hd:=hx.digits
 have he:=hy.digits
 have h1:=Qb (decide (x<0)) x.natAbs (decide (y<0)) y.natAbs
 refine Ai func96 rfl λB D0 hA0=>?_
 exact Aa 13 (Aj (Hf x y θ θ) (Aa 7 (Be [(1,_,.none),(3,_,.none),(4,_,.none),(5,_,.none)] [4,5] ⟨Am (Db x θ),Am (Db y θ),Am (Nh (decide (x<0)) x.natAbs (decide (y<0)) y.natAbs ω ω),Am (Ds (Kv (decide (x<0)) x.natAbs (decide (y<0)) y.natAbs) (Kc (decide (x<0)) x.natAbs (decide (y<0)) y.natAbs) ω),trivial⟩ (Aa 2 (Ch (.lit (.tuple #[Ah (Fc (Cn (Kv (decide (x<0)) x.natAbs (decide (y<0)) y.natAbs) (Kc (decide (x<0)) x.natAbs (decide (y<0)) y.natAbs))),.int .i64 (Gd (Cn (Kv (decide (x<0)) x.natAbs (decide (y<0)) y.natAbs) (Kc (decide (x<0)) x.natAbs (decide (y<0)) y.natAbs)))])) (by rw[AdC]))))))
theorem Aa7 (x y:Int) (hx:Bm x) (hy:Bm y):AF Tryz.prog 201 [WA x,WA y] (.lit (.tuple #[Ah (Fc (x-y)),.int .i64 (Gd (x-y))])):=by
 have hd:=hx.digits
 have he:=hy.digits
 have h1:=Qb (decide (x<0)) x.natAbs (!decide (y<0)) y.natAbs
 refine Ai func201 rfl λB D0 hA0=>?_
 exact Aa 13 (Aj (Hf x y θ θ) (Aa 7 (Be [(1,_,.none),(3,_,.none),(4,_,.none),(5,_,.none),(6,_,.none)] [4,5] ⟨Am (Db x θ),Am (Db y θ),Am (Ss (decide (y<0)) y.natAbs),Am (Nh (decide (x<0)) x.natAbs (!(decide (y<0))) y.natAbs ω ω),Am (Ds (Kv (decide (x<0)) x.natAbs (!(decide (y<0))) y.natAbs) (Kc (decide (x<0)) x.natAbs (!(decide (y<0))) y.natAbs) ω),trivial⟩ (Aa 2 (Ch (.lit (.tuple #[Ah (Fc (Cn (Kv (decide (x<0)) x.natAbs (!(decide (y<0))) y.natAbs) (Kc (decide (x<0)) x.natAbs (!(decide (y<0))) y.natAbs))),.int .i64 (Gd (Cn (Kv (decide (x<0)) x.natAbs (!(decide (y<0))) y.natAbs) (Kc (decide (x<0)) x.natAbs (!(decide (y<0))) y.natAbs)))])) (by rw[lZ]))))))
theorem Aa4 (x y:Int) (hx:Bm x) (hy:Bm y):AF Tryz.prog 95 [WA x,WA y] (.lit (.tuple #[Ah (Fc (x*y)),.int .i64 (Gd (x*y))])):=by
 have hd:=hx.digits
 have he:=hy.digits
 have h1:=Fp x.natAbs y.natAbs
 refine Ai func95 rfl λB D0 hA0=>?_
 exact Aa 13 (Aj (Hf x y θ θ) (Aa 7 (Be [(1,_,.none),(3,_,.none),(4,_,.none),(5,_,.none)] [4,5] ⟨Am (Db x θ),Am (Db y θ),Am (Nj (decide (x<0)) x.natAbs (decide (y<0)) y.natAbs ω ω),Am (Ds (!decide ((decide (x<0))=(decide (y<0)))) (x.natAbs*y.natAbs) ω),trivial⟩ (Aa 2 (Ch (.lit (.tuple #[Ah (Fc (Cn (!decide ((decide (x<0))=(decide (y<0)))) (x.natAbs*y.natAbs))),.int .i64 (Gd (Cn (!decide ((decide (x<0))=(decide (y<0)))) (x.natAbs*y.natAbs)))])) (by rw[aC]))))))
theorem Aa2 (x y:Int) (hx:Bm x) (hy:Bm y):AF Tryz.prog 60 [WA x,WA y] (.lit (.tuple #[Ah (Fc (Nat.gcd x.natAbs y.natAbs:Int)),.int .i64 (Gd (Nat.gcd x.natAbs y.natAbs:Int))])):=by
 have hd:=hx.digits
 have he:=hy.digits
 have h1:=Za x.natAbs y.natAbs
 refine Ai func60 rfl λB D0 hA0=>?_
 exact Aa 13 (Aj (Hf x y θ θ) (Aa 7 (Be [(2,_,.none),(5,_,.none),(6,_,.none),(8,_,.none)] [4,5] ⟨Am (Sr x.natAbs (cX ω)),Am (Sr y.natAbs (cX ω)),Am (eR x.natAbs y.natAbs ω ω),Am (Ds false (Nat.gcd x.natAbs y.natAbs) ω),trivial⟩ (Aa 2 (Ch (.lit (.tuple #[Ah (Fc (Cn false (Nat.gcd x.natAbs y.natAbs))),.int .i64 (Gd (Cn false (Nat.gcd x.natAbs y.natAbs)))])) (by rw[show ∀g:Nat,Cn false g=(g:Int) from λ_=>rfl]))))))
theorem Hh (x y:Int) (hx:Bm x) (hy:Bm y):AF Tryz.prog 59 [WA x,WA y] (.int (x-y).sign):=by
 have hd:=hx.digits
 have he:=hy.digits
 have h1:=Qb (decide (x<0)) x.natAbs (!decide (y<0)) y.natAbs
 refine Ai func59 rfl λB D0 hA0=>?_
 exact Aa 12 (Aj (Hf x y θ θ) (Aa 7 (Be [(1,_,.none),(3,_,.none),(4,_,.none),(5,_,.none),(6,_,.none)] [4] ⟨Am (Db x θ),Am (Db y θ),Am (Ss (decide (y<0)) y.natAbs),Am (Nh (decide (x<0)) x.natAbs (!(decide (y<0))) y.natAbs ω ω),Am (Uj (Kv (decide (x<0)) x.natAbs (!(decide (y<0))) y.natAbs) (Kc (decide (x<0)) x.natAbs (!(decide (y<0))) y.natAbs) ω),trivial⟩ (Aa 2 (Ch (.int ((Cn (Kv (decide (x<0)) x.natAbs (!(decide (y<0))) y.natAbs) (Kc (decide (x<0)) x.natAbs (!(decide (y<0))) y.natAbs)).sign)) (by rw[lZ]))))))
theorem Aa6 (x:Int) (hx:Bm x):AF Tryz.prog 69 [WA x] (.lit (.tuple #[Ah (Fc (-x)),.int .i64 (Gd (-x))])):=by
 have hd:=hx.digits
 refine Ai func69 rfl λB D0 hA0=>?_
 exact Aa 11 (Aj (Du x θ) (Aa 9 (Aj (Db x θ) (Aj (Ss (decide (x<0)) x.natAbs) (Aj (Ds (!(decide (x<0))) x.natAbs ω) (Aa 7 (Ch (.lit (.tuple #[Ah (Fc (Cn (!(decide (x<0))) x.natAbs)),.int .i64 (Gd (Cn (!(decide (x<0))) x.natAbs))])) (by rw[lY]))))))))
theorem Eo (x:Int) (hx:Bm x):AF Tryz.prog 107 [WA x] (.int x.sign):=by
 have hd:=hx.digits
 refine Ai func107 rfl λB D0 hA0=>?_
 exact Aa 10 (Aj (Du x θ) (Aa 9 (Aj (Db x θ) (Aj (Uj (decide (x<0)) x.natAbs ω) (Aa 4 (Ch (.int ((Cn (decide (x<0)) x.natAbs).sign)) (by rw[Je])))))))
theorem rE (x:Int) (hx:Bm x):AF Tryz.prog 155 [WA x] (.int (bitLen x.natAbs:Int)):=by
 have hd:=hx.digits
 refine Ai func155 rfl λB D0 hA0=>?_
 exact Aa 10 (Aj (Du x θ) (Aa 10 (Aj (Sr x.natAbs (cX ω)) (Aj (Xk x.natAbs ω) (Aa 4 (Br))))))
theorem AeJ (x y:Int) (hx:Bm x) (hy:Bm y) (hy0:y≠0):AF Tryz.prog 211 [WA x,WA y] (.lit (.tuple #[Ah (x/y),Ah (x%y),.int .i64 0])):=by
 have hd:=hx.digits
 have he:=hy.digits
 have hm0:0<y.natAbs:=by omega
 have hq1:=Nt (decide (x<0)) x.natAbs y.natAbs
 have hq2:=Acu (decide (x<0)) (n:=x.natAbs) hm0
 have hs:=Qm x y hy0
 have hb:((Bq y.natAbs).toList==(⟨#[]⟩:ByteArray).toList)=false:=fB hm0
 refine Ai func211 rfl λB D0 hA0=>?_
 refine Aa 14 (Aj (Hf x y θ θ) (Aa 11 (Dx (.bool ((Bq y.natAbs).toList==(⟨#[]⟩:ByteArray).toList)) (.bool false) ?_ (congrArg Value.bool hb))))
 exact Aa 6 (Be [(1,_,.none),(3,_,.none),(4,_,.none)] [4,5,7,8] ⟨Am (Db x θ),Am (Db y θ),Am (Ni (decide (x<0)) x.natAbs (decide (y<0)) y.natAbs ω ω ω),trivial⟩ (Aa 4 (Aj (Ds (!decide ((decide (x<0))=(decide (y<0)))) (Ga (decide (x<0)) x.natAbs y.natAbs) ω) (Aa 9 (Aj (Ds false (fI (decide (x<0)) x.natAbs y.natAbs) ω) (Aa 7 (Be [] [4,5,6] trivial (Aa 2 (Ch (.lit (.tuple #[Ah (Fc (Cn (!decide ((decide (x<0))=(decide (y<0)))) (Ga (decide (x<0)) x.natAbs y.natAbs))),Ah (Fc (Cn false (fI (decide (x<0)) x.natAbs y.natAbs))),.int .i64 0])) (by rw[hs.1,hs.2,Dy (Kx hx),Dy (AfB hy hy0)]))))))))))
theorem Cg (n:Int) (h0: -9223372036854775808<=n) (h1:n<=9223372036854775807):AF Tryz.prog 29 [.int n] (WA n):=by
 have hd1:=mM n
 have hd2:=mM (0-((Gk n:Nat):Int))
 refine Ai func29 rfl λB D0 hA0=>?_
 refine Aa 8 (Dx (.int .u64 (IntKind.wrap .u64 n)) (.int .u64 ((Gk n:Nat):Int)) ?_ (congrArg (Value.int .u64) (eJ n)))
 refine Aa 10 (Cu 9 (n<0) (λhx1 hx1d=>?_) (λhx1 hx1d=>?_))
 ·
  refine Aa 3 (Dx (.int .u64 (IntKind.wrap .u64 (0-((Gk n:Nat):Int)))) (.int .u64 ((Gk (0-((Gk n:Nat):Int)):Nat):Int)) ?_ (congrArg (Value.int .u64) (eJ _)))
  refine Aa 8 (Iu 1 92 1 1 (λ_=> .lit (.int .u64 ((Gk (0-((Gk n:Nat):Int)):Nat):Int))) ?_)
  exact Cc (Dn (Gk (0-((Gk n:Nat):Int)))) (.drop 1) (Js 54 #[.tmp 16] #[95] κ (λ_ _=>by kernel_rfl) 1 (.vec 92 1 1 (λ_=> .lit (.int .u64 ((Gk (0-((Gk n:Nat):Int)):Nat):Int)))) κ (λ_ _ _ _ h=>by cases h;exact(Bi λ_ _=>rfl)) [.osl 1 1 1] κ [.slc 1 1 (λ_=> .lit (.int .u64 ((Gk (0-((Gk n:Nat):Int)):Nat):Int)))] κ (Dn (Gk (0-((Gk n:Nat):Int)))) (jI (Gk (0-((Gk n:Nat):Int))) (iP _))) (Aa 1 (Aj (Ds (decide (n<0)) (Gk (0-((Gk n:Nat):Int))) ω) (Aa 15 (Ch (.lit (Ah (Fc (Cn (decide (n<0)) (Gk (0-((Gk n:Nat):Int))))))) (by rw[AdV h0 (of_decide_eq_true hx1),Je,Dy (Di h0 h1)])))))
 ·
  refine Aa 8 (Iu 1 92 1 1 (λ_=> .lit (.int .u64 ((Gk n:Nat):Int))) ?_)
  exact Cc (Dn (Gk n)) (.drop 1) (Js 54 #[.tmp 16] #[95] κ (λ_ _=>by kernel_rfl) 1 (.vec 92 1 1 (λ_=> .lit (.int .u64 ((Gk n:Nat):Int)))) κ (λ_ _ _ _ h=>by cases h;exact(Bi λ_ _=>rfl)) [.osl 1 1 1] κ [.slc 1 1 (λ_=> .lit (.int .u64 ((Gk n:Nat):Int)))] κ (Dn (Gk n)) (jI (Gk n) (iP _))) (Aa 1 (Aj (Ds (decide (n<0)) (Gk n) ω) (Aa 15 (Ch (.lit (Ah (Fc (Cn (decide (n<0)) (Gk n))))) (by rw[AdW h1 (of_decide_eq_false hx1),Je,Dy (Di h0 h1)])))))
theorem Aa3 (z:Int) (h:Bm z):AF Tryz.prog 120 [WA z] (.lit (.tuple #[.int .i64 (iR z),.int .i64 (iE z)])):=by
 have hd:=h.digits
 have k0:=@Ut z.natAbs
 have k1:=@wE z.natAbs
 have k2:=@wF z.natAbs
 refine Ai func120 rfl λB D0 hA0=>?_
 refine Aa 11 (Aj (Du z h) (Aa 9 (Aj (Db z h) (Aa 15 (Cu 10 (((Ae z.natAbs).length:Int)=0) (λhx1 hx1d=>?_) (λhx1 hx1d=>?_))))))
 ·
  exact Aa 10 (Ch (.lit (.tuple #[.int .i64 0,.int .i64 0])) (by(obtain rfl:z=0:=(ω));rfl))
 ·
  refine Aa 8 (Cu 20 ((1:Int)<((Ae z.natAbs).length:Int)) (λhx2 hx2d=>?_) (λhx2 hx2d=>?_))
  ·
   exact Aa 31 (Ch (.lit (.tuple #[.int .i64 0,.int .i64 3])) (by unfold iR iE;rw[if_neg (λg=>by omega),if_neg (λg=>by omega)]))
  ·
   refine Aa 4 (qN 24 (z<0) (λhx3 hx3d=>?_) (λhx3 hx3d=>?_))
   ·
    refine Aa 10 (Dm 0 ((Ae z.natAbs).length) (Aa 6 (Cu 15 ((9223372036854775808:Int)<((dg (Ae z.natAbs) 0:Nat):Int)) (λhx4 hx4d=>?_) (λhx4 hx4d=>?_))))
    ·
     exact Aa 10 (Ch (.lit (.tuple #[.int .i64 0,.int .i64 3])) (by unfold iR iE;rw[if_neg (λg=>by omega),if_neg (λg=>by omega)]))
    ·
     refine Aa 8 (Ev 39 (decide (z<0)) true hx3 (Aa 5 (Dm 0 ((Ae z.natAbs).length) (Aa 1 (Dx (.int .u64 (IntKind.wrap .u64 (0-((dg (Ae z.natAbs) 0:Nat):Int)))) (.int .u64 (18446744073709551616-((dg (Ae z.natAbs) 0:Nat):Int))) ?_ (congrArg (Value.int .u64) (show (0-((dg (Ae z.natAbs) 0:Nat):Int))%18446744073709551616=_ by omega)))))))
     refine Dx (.int .i64 (IntKind.wrap .i64 (18446744073709551616-((dg (Ae z.natAbs) 0:Nat):Int)))) (.int .i64 z) ?_ (congrArg (Value.int .i64) (by simp[IntKind.wrap,IntKind.bits,IntKind.signed];omega))
     exact Aa 7 (Ch (.lit (.tuple #[.int .i64 z,.int .i64 0])) (by unfold iR iE;rw[if_pos ⟨ω,ω⟩,if_pos ⟨ω,ω⟩]))
   ·
    refine Aa 2 (Dm 0 ((Ae z.natAbs).length) (Aa 5 (Cu 32 ((9223372036854775808:Int)<=((dg (Ae z.natAbs) 0:Nat):Int)) (λhx5 hx5d=>?_) (λhx5 hx5d=>?_))))
    ·
     exact Aa 19 (Ch (.lit (.tuple #[.int .i64 0,.int .i64 3])) (by unfold iR iE;rw[if_neg (λg=>by omega),if_neg (λg=>by omega)]))
    ·
     refine Aa 2 (Dm 0 ((Ae z.natAbs).length) (Aa 6 (Cu 15 ((9223372036854775808:Int)<((dg (Ae z.natAbs) 0:Nat):Int)) (λhx6 hx6d=>?_) (λhx6 hx6d=>?_))))
     ·
      exact Aa 10 (Ch (.lit (.tuple #[.int .i64 0,.int .i64 3])) (by unfold iR iE;rw[if_neg (λg=>by omega),if_neg (λg=>by omega)]))
     ·
      refine Aa 8 (Ev 39 (decide (z<0)) false hx3 (Aa 8 (Dm 0 ((Ae z.natAbs).length) (Aa 1 (Dx (.int .i64 (IntKind.wrap .i64 ((dg (Ae z.natAbs) 0:Nat):Int))) (.int .i64 z) ?_ (congrArg (Value.int .i64) (by simp[IntKind.wrap,IntKind.bits,IntKind.signed];omega)))))))
      exact Aa 5 (Ch (.lit (.tuple #[.int .i64 z,.int .i64 0])) (by unfold iR iE;rw[if_pos ⟨ω,ω⟩,if_pos ⟨ω,ω⟩]))
theorem Wo (x y:Int) (hx:Bm x) (hy:Bm y) (hz:Bm (x+y)):AF Tryz.prog 96 [WA x,WA y] (.lit (.tuple #[Ah (x+y),.int .i64 0])):=by
 have:=Aa0 x y hx hy
 rwa [Dy hz,Fx hz] at this
theorem Sy (x y:Int) (hx:Bm x) (hy:Bm y) (hz:Bm (x*y)):AF Tryz.prog 95 [WA x,WA y] (.lit (.tuple #[Ah (x*y),.int .i64 0])):=by
 have:=Aa4 x y hx hy
 rwa [Dy hz,Fx hz] at this
theorem AeH (x y:Int) (hx:Bm x) (hy:Bm y):AF Tryz.prog 60 [WA x,WA y] (.lit (.tuple #[Ah (Nat.gcd x.natAbs y.natAbs:Int),.int .i64 0])):=by
 have:=Aa2 x y hx hy
 rwa [Dy (sF hx hy),Fx (sF hx hy)] at this
theorem zN (a b:Rw):AF Tryz.prog 97 [rwA a,rwA b] (.bool (dV a&&dV b)):=by
 refine Ai func97 rfl λB D0 hA0=>?_
 refine Aa 10 (Aj (Rp a) (Aa 1 (vsb 7 (dV a) (λhx1=>?_) (λhx1=>?_))))
 ·
  exact Aa 1 (Aj (Rp b) (Aa 5 (Ch (.bool (dV b)) (congrArg AV.bool (by rw[hx1];rfl)))))
 ·
  exact Aa 7 (Ch (.bool false) (congrArg AV.bool (by rw[hx1];rfl)))
theorem Wm (x y:Int) (hx:Bm x) (hy:Bm y) (hz:Bm (x+y)):AF Tryz.prog 58 [WA x,WA y] (WA (x+y)):=by
 refine Ai func58 rfl λB D0 hA0=>?_
 exact Aa 11 (Aj (Wo x y hx hy hz) (Aa 15 (Br)))
theorem Jw (x y:Int) (hx:Bm x) (hy:Bm y) (hz:Bm (x*y)):AF Tryz.prog 57 [WA x,WA y] (WA (x*y)):=by
 refine Ai func57 rfl λB D0 hA0=>?_
 exact Aa 11 (Aj (Sy x y hx hy hz) (Aa 15 (Br)))
theorem Sv (x y:Int) (hx:Bm x) (hy:Bm y):AF Tryz.prog 32 [WA x,WA y] (WA (Nat.gcd x.natAbs y.natAbs:Int)):=by
 refine Ai func32 rfl λB D0 hA0=>?_
 exact Aa 11 (Aj (AeH x y hx hy) (Aa 15 (Br)))
theorem Wn (x y:Int) (hx:Bm x) (hy:Bm y) (h0:y≠0):AF Tryz.prog 203 [WA x,WA y] (WA (x/y)):=by
 refine Ai func203 rfl λB D0 hA0=>?_
 exact Aa 11 (Aj (AeJ x y hx hy h0) (Aa 18 (Br)))
theorem Lk (n:Int) (k:Nat) (h0: -9223372036854775808<=n) (h1:n<=9223372036854775807) (hk:k<=1000) (hf:∀j,j<=k->Bm (n^j)):AF Tryz.prog 202 [.int n,.int (k:Int)] (WA (n^k)):=by
 refine Ai func202 rfl λB D0 hA0=>?_
 refine Aa 7 (Aj (Cg 1 δ δ) (Aa 12 (Wg [0,4,5,7,8] (λm s=>∃(i:Nat) (z:Int),m=k-i/\(z=n^i/\i<=k)/\s=⟨[(0,.int n),(4,.ptr 0 0),(5,.ptr 1 0),(7,.int (k:Int)),(8,.int (i:Int))],[(0,.box 68 [.bool false,.lit (.string ⟨#[]⟩)]),(1,.box 68 [.bool (decide (z<0)),.lit (.string (Bq (z).natAbs))])],2,16⟩) (k-0) ⟨0,1,rfl,⟨(Int.pow_zero n).symm,Nat.zero_le _⟩,κ⟩ ?_)))
 rintro _ _ ⟨i,z,rfl,hF,rfl⟩ J1 hJ1
 refine Aa 6 (Cu 9 ((i:Int)<(k:Int)) (λhx1 hx1d=>?_) (λhx1 hx1d=>?_))
 ·
  exact Aa 5 (Be [(2,_,.none),(3,_,.none)] [0,4,5,7,8] ⟨Am (Cg n h0 h1),Am (Jw z n (by rw[hF.1];exact hf i ω) (Di h0 h1) (by rw[hF.1,<-Int.pow_succ];exact hf (i+1) ω)),trivial⟩ (Aa 3 (Ao ((i:Int)+1) ((i+1:Nat):Int) (Aa 2 (Pe [0,4,5,7,8] (hJ1 _ _ (by omega:k-(i+1)<k-i) ⟨i+1,z*n,rfl,⟨by rw[hF.1,<-Int.pow_succ],ω⟩,rfl⟩))))))
 ·
  exact Aa 13 (Ch (.lit (Ah z)) (by rw[hF.1,show i=k by omega]))
abbrev Af (l:List Int):AV:= .sl 1 l.length λi=> .int (l.getD i 0)
abbrev Dp (s:Sg):AV:= .agg [.int s.f,.int s.t,.int s.o,Af s.x,Af s.y,Af s.z]
theorem qX (s:Sg):AF Tryz.prog 30 [Dp s] (.agg [Af s.x,Af s.y,Af s.z]):=by
 refine Ai func30 rfl λB D0 hA0=>?_
 exact Aa 19 (Br)
def Au:Nat->Nat->Nat
 |_,0=>1
 |0,_+1=>0
 |n+1,k+1=>Au n k+Au n (k+1)
def Kf (n j k:Nat):Nat:=60/Au n k*Au j k
def Cp (l:List Int) (j:Nat):Nat->Int
 |0=>0
 |k+1=>Cp l j k+l.getD k 0*(Kf (l.length-1) j k:Int)
def Mu (l:List Int) (o:Int) (n:Nat):Prop:=∀j,j<n->((Cp l j (j+1)).natAbs:Int)<=62914560*o
theorem fP:∀n,n<6->∀j,j<6->∀k,k<6->Kf n j k<=600:=by decide
theorem Yh:∀n,n<6->∀k,k<=n->1<=Au n k/\Au n k<=10:=by
 intro n hn k hk
 have:∀n,n<6->∀k,k<6->k<=n->1<=Au n k/\Au n k<=10:=by decide
 exact this n hn k ω hk
theorem vR:∀n,n<6->∀k,k<6->Au n k<=10:=by decide
theorem Np {z:Int} (h:z.natAbs<2^200):Bm z:=by
 unfold Bm
 exact Nat.le_trans (Em.2 h) δ
theorem Xa {l:List Int} {j:Nat} (hl:l.length<=6) (hj:j<6) (h:∀i,-9223372036854775808<=l.getD i 0/\l.getD i 0<=9223372036854775807):∀k,k<=6->(Cp l j k).natAbs<=k*(9223372036854775808*600)
 |0,_=>by simp[Cp]
 |k+1,hk=>by
  have h1:=Xa hl hj h k ω
  have h2:=fP (l.length-1) ω j hj k ω
  have h3:=h k
  have h4:(l.getD k 0).natAbs<=9223372036854775808:=by omega
  have h5:(l.getD k 0*(Kf (l.length-1) j k:Int)).natAbs<=9223372036854775808*600:=by
   rw[Int.natAbs_mul,Int.natAbs_natCast]
   exact Nat.mul_le_mul h4 h2
  have h6:(Cp l j (k+1)).natAbs<=(Cp l j k).natAbs+(l.getD k 0*(Kf (l.length-1) j k:Int)).natAbs:=by
   show (Cp l j k+l.getD k 0*(Kf (l.length-1) j k:Int)).natAbs<=_
   exact Int.natAbs_add_le _ _
  omega
theorem mF {l:List Int} {j k:Nat} (hl:l.length<=6) (hj:j<6) (hk:k<=6) (h:∀i,-9223372036854775808<=l.getD i 0/\l.getD i 0<=9223372036854775807):Bm (Cp l j k):=by
 refine Np ?_
 have:=Xa hl hj h k hk
 have h2:k*(9223372036854775808*600)<=6*(9223372036854775808*600):=Nat.mul_le_mul_right _ hk
 exact Nat.lt_of_le_of_lt (Nat.le_trans this h2) δ
theorem mH {l:List Int} {n j k:Nat} (hn:n<6) (hj:j<6) (hk:k<6) (h:∀i,-9223372036854775808<=l.getD i 0/\l.getD i 0<=9223372036854775807):Bm (l.getD k 0*(Kf n j k:Int)):=by
 refine Np ?_
 have h2:=fP n hn j hj k hk
 have h3:=h k
 have h4:(l.getD k 0).natAbs<=9223372036854775808:=by omega
 rw[Int.natAbs_mul,Int.natAbs_natCast]
 exact Nat.lt_of_le_of_lt (Nat.mul_le_mul h4 h2) δ
theorem lD {o:Int} (h0: -9223372036854775808<=o) (h1:o<=9223372036854775807):Bm (62914560*o):=by
 refine Np ?_
 have h4:o.natAbs<=9223372036854775808:=by omega
 rw[Int.natAbs_mul]
 exact Nat.lt_of_le_of_lt (Nat.mul_le_mul ζ h4) δ
theorem Yc {l:List Int} {o:Int} {n:Nat} (h:Mu l o n) (h2:((Cp l n (n+1)).natAbs:Int)<=62914560*o):Mu l o (n+1):=λj hj=>by
 by_cases e:j=n
 rw[e];exact h2
 exact h j ω
instance (l:List Int) (o:Int) (n:Nat):Decidable (Mu l o n):=by unfold Mu;infer_instance
def Gs (c:List Int) (o:Int):Prop:=1<=c.length/\c.length<=6/\(1<c.length->c.getD (c.length-1) 0≠0)/\Mu c o c.length
instance (c:List Int) (o:Int):Decidable (Gs c o):=by unfold Gs;infer_instance
def Ys (g:Nat) (l:List Int):Nat:=l.foldl (λg x=>Nat.gcd g x.natAbs) g
def Gt (f t o:Int):Prop:=0<=f/\f<t/\t<=3600000/\1<=o/\o<=4294967296
instance (f t o:Int):Decidable (Gt f t o):=by unfold Gt;infer_instance
def Gm (s:Sg):Prop:=Gt s.f s.t s.o/\Gs s.x s.o/\Gs s.y s.o/\Gs s.z s.o/\Ys (Ys (Ys s.o.natAbs s.x) s.y) s.z=1
instance (s:Sg):Decidable (Gm s):=by unfold Gm;infer_instance
theorem Ya {n m:Nat} (h:(Bq n).toList=(Bq m).toList):n=m:=by
 rw[ByteArray.toList_eq,ByteArray.toList_eq] at h
 exact AaS h
structure Bd (e:Nat) (z:Int):Prop where
 le:z.natAbs<=2^e
theorem Bd.fit {e:Nat} {z:Int} (h:Bd e z) (he:e<=60000):Bm z:=by
 unfold Bm
 have h1:z.natAbs<2^(e+1):=by
  have:=h.le
  have h2:0<2^e:=Nat.pow_pos δ
  rw[Nat.pow_succ]
  omega
 exact Nat.le_trans (Em.2 h1) ω
theorem Bd.mono {e f:Nat} {z:Int} (h:Bd e z) (hf:e<=f):Bd f z:=⟨Nat.le_trans h.le (Nat.pow_le_pow_right δ hf)⟩
theorem Bd.add {e:Nat} {x y:Int} (h:Bd e x) (k:Bd e y):Bd (e+1) (x+y):=⟨by
 have:=Int.natAbs_add_le x y
 have h1:=h.le
 have h2:=k.le
 rw[Nat.pow_succ]
 omega⟩
theorem Bd.mul {e f:Nat} {x y:Int} (h:Bd e x) (k:Bd f y):Bd (e+f) (x*y):=⟨by
 rw[Int.natAbs_mul,Nat.pow_add]
 exact Nat.mul_le_mul h.le k.le⟩
theorem Bd.pow {e:Nat} {x:Int} (h:Bd e x) (k:Nat):Bd (e*k) (x^k):=⟨by
 rw[Int.natAbs_pow,Nat.pow_mul]
 exact Nat.pow_le_pow_left h.le k⟩
theorem Bd.int {x:Int} (h0: -9223372036854775808<=x) (h1:x<=9223372036854775807):Bd 63 x:=⟨by
 have:(2:Nat)^63=9223372036854775808:=by decide
 omega⟩
theorem Bd.zero (e:Nat):Bd e 0:=⟨by simp⟩
theorem Bd.div {e:Nat} {x:Int} (h:Bd e x) (y:Int):Bd e (x/y):=⟨Nat.le_trans (Int.natAbs_ediv_le_natAbs x y) h.le⟩
theorem Bd.gcd {e:Nat} {x y:Int} (h:Bd e x) (k:Bd e y):Bd e (Nat.gcd x.natAbs y.natAbs:Int):=⟨by
 rw[Int.natAbs_natCast]
 by_cases hx:x.natAbs=0
 rw[hx,Nat.gcd_zero_left];exact k.le
 exact Nat.le_trans (Nat.gcd_le_left _ ω) h.le⟩
def lM (l:List Int) (a d:Int):Nat->Int
 |0=>0
 |k+1=>lM l a d k+l.getD k 0*(a^k*d^(5-k))
abbrev Bg (x:Int):Prop:= -9223372036854775808<=x/\x<=9223372036854775807
structure Jj (s:Sg):Prop where
 f:Bg s.f
 t:Bg s.t
 o:Bg s.o
 x:∀i,Bg (s.x.getD i 0)
 y:∀i,Bg (s.y.getD i 0)
 z:∀i,Bg (s.z.getD i 0)
theorem Ov {x a d:Int} (hx:Bg x) (ha:Bg a) (hd:Bg d) {k:Nat} (hk:k<=5):Bd 378 (x*(a^k*d^(5-k))):=
 ((Bd.int hx.1 hx.2).mul (((Bd.int ha.1 ha.2).pow k).mul ((Bd.int hd.1 hd.2).pow (5-k)))).mono ω
theorem gX {l:List Int} {a d:Int} (hl:∀i,Bg (l.getD i 0)) (ha:Bg a) (hd:Bg d):∀k,k<=6->Bd (378+k) (lM l a d k)
 |0,_=>Bd.zero _
 |k+1,hk=>(gX hl ha hd k ω).add ((Ov (hl k) ha hd ω).mono ω)
def yZ (s:Sg) (a d:Int):Int:=lM s.x a d s.x.length
def plY (s:Sg) (a d:Int):Int:=lM s.y a d s.y.length
def plZ (s:Sg) (a d:Int):Int:=lM s.z a d s.z.length
def iS (s:Sg) (d:Int):Int:=s.o*d^5
def plG (s:Sg) (a d:Int):Int:=((Nat.gcd ((Nat.gcd (Nat.gcd (iS s d).natAbs (yZ s a d).natAbs:Int).natAbs (plY s a d).natAbs:Nat):Int).natAbs (plZ s a d).natAbs:Nat):Int)
structure PL where
 x:Int
 y:Int
 z:Int
 o:Int
deriving DecidableEq
def Jc (s:Sg) (a d:Int):PL:=⟨yZ s a d/plG s a d,plY s a d/plG s a d,plZ s a d/plG s a d,iS s d/plG s a d⟩
theorem Io {x:Int} (h:Bg x):Bm x:=Di h.1 h.2
theorem Mq {x:Int} (h:Bg x) {k:Nat} (hk:k<=6):Bm (x^k):=((Bd.int h.1 h.2).pow k).fit ω
abbrev gY (p:PL):AV:= .lit (.agg #[.bool (decide (p.x<0)),.string (Bq p.x.natAbs),.bool (decide (p.y<0)),.string (Bq p.y.natAbs),.bool (decide (p.z<0)),.string (Bq p.z.natAbs),.bool (decide (p.o<0)),.string (Bq p.o.natAbs)])
theorem Aiv {s:Sg} {d:Int} (hs:Jj s) (hd:Bg d):Bd 378 (iS s d):=((Bd.int hs.o.1 hs.o.2).mul ((Bd.int hd.1 hd.2).pow 5)).mono ω
theorem Aam (s:Sg) (a d:Int) (hs:Jj s) (hx:s.x.length<=6) (hy:s.y.length<=6) (hz:s.z.length<=6) (ha:Bg a) (hd:Bg d) (hg:plG s a d≠0):AF Tryz.prog 180 [Dp s,.int a,.int d] (gY (Jc s a d)):=by
 have bX:∀k,k<=6->Bd 390 (lM s.x a d k):=λk hk=>(gX hs.x ha hd k hk).mono ω
 have bY:∀k,k<=6->Bd 390 (lM s.y a d k):=λk hk=>(gX hs.y ha hd k hk).mono ω
 have bZ:∀k,k<=6->Bd 390 (lM s.z a d k):=λk hk=>(gX hs.z ha hd k hk).mono ω
 have bO:Bd 390 (iS s d):=(Aiv hs hd).mono ω
 have bXX:Bd 390 (yZ s a d):=bX _ hx
 have bYY:Bd 390 (plY s a d):=bY _ hy
 have bZZ:Bd 390 (plZ s a d):=bZ _ hz
 have bG1:=bO.gcd bXX
 have bG2:=bG1.gcd bYY
 have bG3:=bG2.gcd bZZ
 have pw:∀{x:Int},Bg x->∀k,k<=6->∀j,j<=k->Bm (x^j):=λh k hk j hj=>Mq h ω
 refine Ai func180 rfl λB D0 hA0=>?_
 refine Aa 15 (Aj (Cg _ hs.o.1 hs.o.2) (Aa 1 (Aj (Lk d 5 hd.1 hd.2 ω (pw hd 5 ω)) (Aj (Jw _ _ (Io hs.o) (Mq hd ω) (bO.fit ω)) (Aa 15 (Aj (qX s) (Aa 4 (Kt 3 (Aa 14 (Cc (Af s.x) .none (Fl 70 (.tmp 22) (.tmp 23) κ underlying70 1 sizeOf22 0 false isAgg22 [Af s.x,Af s.y,Af s.z] 0 κ κ ω δ β δ (Af s.x) κ) (Aa 13 (Ue (keep:=[1,2,6,7,8,9,10,22,23,27,28,29]) s.x.length (λk=>⟨[(1,.int a),(2,.int d),(6,.ptr 1 0),(7,.ptr 2 0),(8,.ptr 3 0),(9,.ptr 4 0),(10,.int 0),(22,.agg [Af s.x,Af s.y,Af s.z]),(23,.int 0),(27,Af s.x),(28,.int (s.x.length:Int)),(29,.int (k:Int))],[(0,.box 24 [.int s.f,.int s.t,.int s.o,Af s.x,Af s.y,Af s.z]),(1,.box 227 [.bool false,.lit (.string ⟨#[]⟩),.bool false,.lit (.string ⟨#[]⟩),.bool false,.lit (.string ⟨#[]⟩),.bool false,.lit (.string ⟨#[]⟩)]),(2,.box 246 [.bool (decide (lM s.x a d k<0)),.lit (.string (Bq (lM s.x a d k).natAbs)),.bool false,.lit (.string ⟨#[]⟩),.bool false,.lit (.string ⟨#[]⟩)]),(3,.box 68 [.bool (decide (iS s d<0)),.lit (.string (Bq (iS s d).natAbs))]),(4,.box 68 [.bool (decide (iS s d<0)),.lit (.string (Bq (iS s d).natAbs))])],5,74⟩) (λk hk J1 hJ1=>?_) ?_))))))))))))
 ·
  exact Aa 3 (Ev 30 (decide ((k:Int)<(s.x.length:Int))) true (decide_eq_true ω) (Aa 11 (Dm k s.x.length (Aa 5 (Be [(5,_,.none),(8,_,.none),(11,.int ((5-k:Nat):Int),.none),(12,_,.none),(13,_,.none),(14,_,.none),(15,_,.none)] [1,2,6,7,8,9,10,22,23,27,28,29] ⟨Am (Cg _ (hs.x k).1 (hs.x k).2),Am (Lk a k ha.1 ha.2 ω (pw ha _ ω)),As (.int .i64 (IntKind.wrap .i64 ((5:Int)-(k:Int)))) η,Am (Lk d (5-k) hd.1 hd.2 ω (pw hd _ ω)),Am (Jw _ _ (Mq ha ω) (Mq hd ω) ((((Bd.int ha.1 ha.2).pow k).mul ((Bd.int hd.1 hd.2).pow (5-k))).fit ω)),Am (Jw _ _ (Io (hs.x k)) ((((Bd.int ha.1 ha.2).pow k).mul ((Bd.int hd.1 hd.2).pow (5-k))).fit ω) ((Ov (hs.x k) ha hd ω).fit ω)),Am (Wm (lM s.x a d k) _ ((bX k ω).fit ω) ((Ov (hs.x k) ha hd ω).fit ω) ((bX (k+1) ω).fit ω)),trivial⟩ (Aa 3 (Ao ((k:Int)+1) ((k+1:Nat):Int) (Aa 2 (Pe [1,2,6,7,8,9,10,22,23,27,28,29] hJ1)))))))))
 ·
  refine Aa 3 (Ev 30 (decide ((s.x.length:Int)<(s.x.length:Int))) false (decide_eq_false ω) (Aa 9 (Be [(4,_,.none)] [1,2,6,7,8,9,22,23] ⟨Am (Sv _ _ (bO.fit ω) (bXX.fit ω)),trivial⟩ (Aa 3 (Dx (.int .i64 1) (.int .i64 1) (Aa 17 (Cc (Af s.y) .none (Fl 70 (.tmp 22) (.tmp 23) κ underlying70 1 sizeOf22 1 false isAgg22 [Af s.x,Af s.y,Af s.z] 1 κ κ ω δ β δ (Af s.y) κ) (Aa 13 (Ue (keep:=[1,2,6,7,8,9,10,22,23,27,28,29]) s.y.length (λk=>⟨[(1,.int a),(2,.int d),(6,.ptr 1 0),(7,.ptr 2 0),(8,.ptr 3 0),(9,.ptr 4 0),(10,.int 1),(22,.agg [Af s.x,Af s.y,Af s.z]),(23,.int 1),(27,Af s.y),(28,.int (s.y.length:Int)),(29,.int (k:Int))],[(0,.box 24 [.int s.f,.int s.t,.int s.o,Af s.x,Af s.y,Af s.z]),(1,.box 227 [.bool false,.lit (.string ⟨#[]⟩),.bool false,.lit (.string ⟨#[]⟩),.bool false,.lit (.string ⟨#[]⟩),.bool false,.lit (.string ⟨#[]⟩)]),(2,.box 246 [.bool (decide (yZ s a d<0)),.lit (.string (Bq (yZ s a d).natAbs)),.bool (decide (lM s.y a d k<0)),.lit (.string (Bq (lM s.y a d k).natAbs)),.bool false,.lit (.string ⟨#[]⟩)]),(3,.box 68 [.bool (decide (iS s d<0)),.lit (.string (Bq (iS s d).natAbs))]),(4,.box 68 [.bool (decide ((Nat.gcd (iS s d).natAbs (yZ s a d).natAbs:Int)<0)),.lit (.string (Bq (Nat.gcd (iS s d).natAbs (yZ s a d).natAbs:Int).natAbs))])],5,74⟩) (λk hk J2 hJ2=>?_) ?_)))))))))
  ·
   exact Aa 3 (Ev 30 (decide ((k:Int)<(s.y.length:Int))) true (decide_eq_true ω) (Aa 11 (Dm k s.y.length (Aa 5 (Be [(5,_,.none),(8,_,.none),(11,.int ((5-k:Nat):Int),.none),(12,_,.none),(13,_,.none),(14,_,.none),(15,_,.none)] [1,2,6,7,8,9,10,22,23,27,28,29] ⟨Am (Cg _ (hs.y k).1 (hs.y k).2),Am (Lk a k ha.1 ha.2 ω (pw ha _ ω)),As (.int .i64 (IntKind.wrap .i64 ((5:Int)-(k:Int)))) η,Am (Lk d (5-k) hd.1 hd.2 ω (pw hd _ ω)),Am (Jw _ _ (Mq ha ω) (Mq hd ω) ((((Bd.int ha.1 ha.2).pow k).mul ((Bd.int hd.1 hd.2).pow (5-k))).fit ω)),Am (Jw _ _ (Io (hs.y k)) ((((Bd.int ha.1 ha.2).pow k).mul ((Bd.int hd.1 hd.2).pow (5-k))).fit ω) ((Ov (hs.y k) ha hd ω).fit ω)),Am (Wm (lM s.y a d k) _ ((bY k ω).fit ω) ((Ov (hs.y k) ha hd ω).fit ω) ((bY (k+1) ω).fit ω)),trivial⟩ (Aa 3 (Ao ((k:Int)+1) ((k+1:Nat):Int) (Aa 2 (Pe [1,2,6,7,8,9,10,22,23,27,28,29] hJ2)))))))))
  ·
   refine Aa 3 (Ev 30 (decide ((s.y.length:Int)<(s.y.length:Int))) false (decide_eq_false ω) (Aa 9 (Be [(4,_,.none)] [1,2,6,7,8,9,22,23] ⟨Am (Sv _ _ (bG1.fit ω) (bYY.fit ω)),trivial⟩ (Aa 3 (Dx (.int .i64 2) (.int .i64 2) (Aa 17 (Cc (Af s.z) .none (Fl 70 (.tmp 22) (.tmp 23) κ underlying70 1 sizeOf22 2 false isAgg22 [Af s.x,Af s.y,Af s.z] 2 κ κ ω δ β δ (Af s.z) κ) (Aa 13 (Ue (keep:=[1,2,6,7,8,9,10,22,23,27,28,29]) s.z.length (λk=>⟨[(1,.int a),(2,.int d),(6,.ptr 1 0),(7,.ptr 2 0),(8,.ptr 3 0),(9,.ptr 4 0),(10,.int 2),(22,.agg [Af s.x,Af s.y,Af s.z]),(23,.int 2),(27,Af s.z),(28,.int (s.z.length:Int)),(29,.int (k:Int))],[(0,.box 24 [.int s.f,.int s.t,.int s.o,Af s.x,Af s.y,Af s.z]),(1,.box 227 [.bool false,.lit (.string ⟨#[]⟩),.bool false,.lit (.string ⟨#[]⟩),.bool false,.lit (.string ⟨#[]⟩),.bool false,.lit (.string ⟨#[]⟩)]),(2,.box 246 [.bool (decide (yZ s a d<0)),.lit (.string (Bq (yZ s a d).natAbs)),.bool (decide (plY s a d<0)),.lit (.string (Bq (plY s a d).natAbs)),.bool (decide (lM s.z a d k<0)),.lit (.string (Bq (lM s.z a d k).natAbs))]),(3,.box 68 [.bool (decide (iS s d<0)),.lit (.string (Bq (iS s d).natAbs))]),(4,.box 68 [.bool (decide (((Nat.gcd (Nat.gcd (iS s d).natAbs (yZ s a d).natAbs:Int).natAbs (plY s a d).natAbs:Nat):Int)<0)),.lit (.string (Bq ((Nat.gcd (Nat.gcd (iS s d).natAbs (yZ s a d).natAbs:Int).natAbs (plY s a d).natAbs:Nat):Int).natAbs))])],5,74⟩) (λk hk J3 hJ3=>?_) ?_)))))))))
   ·
    exact Aa 3 (Ev 30 (decide ((k:Int)<(s.z.length:Int))) true (decide_eq_true ω) (Aa 11 (Dm k s.z.length (Aa 5 (Be [(5,_,.none),(8,_,.none),(11,.int ((5-k:Nat):Int),.none),(12,_,.none),(13,_,.none),(14,_,.none),(15,_,.none)] [1,2,6,7,8,9,10,22,23,27,28,29] ⟨Am (Cg _ (hs.z k).1 (hs.z k).2),Am (Lk a k ha.1 ha.2 ω (pw ha _ ω)),As (.int .i64 (IntKind.wrap .i64 ((5:Int)-(k:Int)))) η,Am (Lk d (5-k) hd.1 hd.2 ω (pw hd _ ω)),Am (Jw _ _ (Mq ha ω) (Mq hd ω) ((((Bd.int ha.1 ha.2).pow k).mul ((Bd.int hd.1 hd.2).pow (5-k))).fit ω)),Am (Jw _ _ (Io (hs.z k)) ((((Bd.int ha.1 ha.2).pow k).mul ((Bd.int hd.1 hd.2).pow (5-k))).fit ω) ((Ov (hs.z k) ha hd ω).fit ω)),Am (Wm (lM s.z a d k) _ ((bZ k ω).fit ω) ((Ov (hs.z k) ha hd ω).fit ω) ((bZ (k+1) ω).fit ω)),trivial⟩ (Aa 3 (Ao ((k:Int)+1) ((k+1:Nat):Int) (Aa 2 (Pe [1,2,6,7,8,9,10,22,23,27,28,29] hJ3)))))))))
   ·
    exact Aa 3 (Ev 30 (decide ((s.z.length:Int)<(s.z.length:Int))) false (decide_eq_false ω) (Aa 9 (Be [(4,_,.none)] [1,2,6,7,8,9,22,23] ⟨Am (Sv _ _ (bG2.fit ω) (bZZ.fit ω)),trivial⟩ (Aa 3 (Dx (.int .i64 3) (.int .i64 3) (Aa 16 (Be [(3,_,.none),(7,_,.none),(11,_,.none),(14,_,.none)] [6] ⟨Am (Wn _ _ (bXX.fit ω) (bG3.fit ω) hg),Am (Wn _ _ (bYY.fit ω) (bG3.fit ω) hg),Am (Wn _ _ (bZZ.fit ω) (bG3.fit ω) hg),Am (Wn _ _ (bO.fit ω) (bG3.fit ω) hg),trivial⟩ (Aa 2 (Br)))))))))
variable {B:Nat} {D0:Ap} {o:Oper} {ev:Operand->AV} {pre:Nat->Option Ar}
theorem Hs (t t':TypeId) (x y:Operand) (ho:o.op= .binOp .eql t x y t') (vs us:Array Value) (hx:ev x= .lit (.agg vs)) (hy:ev y= .lit (.agg us)) (hg:Tryz.prog.eqGuardType Tryz.prog.depth t=false) (b:Bool) (heq:∀w,(Op.equal t (.agg vs) (.agg us)).run Tryz.prog w= .ok b w):Cw Tryz.prog B D0 o ev pre (.bool b) .none:=by
 refine Bc (.inl rfl) λE a c _ _ hv=>⟨_,?_,.lit _ _⟩
 have h1:=hv x (by simp[ho,Op.operands])
 have h2:=hv y (by simp[ho,Op.operands])
 rw[hx] at h1
 rw[hy] at h2
 simp[execOp,ho,h1.lit_inv,h2.lit_inv,eqGuard,hg,binOp,heq]
theorem AfQ (t t':TypeId) (x y:Operand) (ho:o.op= .binOp .neq t x y t') (vs us:Array Value) (hx:ev x= .lit (.agg vs)) (hy:ev y= .lit (.agg us)) (hg:Tryz.prog.eqGuardType Tryz.prog.depth t=false) (b:Bool) (heq:∀w,(Op.equal t (.agg vs) (.agg us)).run Tryz.prog w= .ok b w):Cw Tryz.prog B D0 o ev pre (.bool (!b)) .none:=by
 refine Bc (.inl rfl) λE a c _ _ hv=>⟨_,?_,.lit _ _⟩
 have h1:=hv x (by simp[ho,Op.operands])
 have h2:=hv y (by simp[ho,Op.operands])
 rw[hx] at h1
 rw[hy] at h2
 simp[execOp,ho,h1.lit_inv,h2.lit_inv,eqGuard,hg,binOp,heq]
theorem Dh {b b':Bool} (h:Cw Tryz.prog B D0 o ev pre (.bool b) .none) (e:b=b'):Cw Tryz.prog B D0 o ev pre (.bool b') .none:=e▸h
theorem tQ (b b':Bool) (s s':ByteArray) (w:World) (d:Nat):(Op.equalIn (d+2) 68 (.agg #[.bool b,.string s]) (.agg #[.bool b',.string s'])).run Tryz.prog w= .ok ((b==b')&&(s==s')) w:=by
 have h91:=Tryz.runUnderlying68
 have ha4:=isAgg4
 unfold Op.equalIn
 simp[h91,part,ha4,Op.equalIn]
 by_cases h1:b=b'
 subst h1
 cases hs:(s==s')<;>simp
 simp[h1]
theorem eqW (x y:Int) (w:World) (d:Nat):(Op.equalIn (d+2) 68 (Ah x) (Ah y)).run Tryz.prog w= .ok (decide (x=y)) w:=by
 unfold Ah
 rw[tQ]
 congr 1
 rw[beq_toListBytes]
 by_cases h:x=y
 subst h;simp
 rw[decide_eq_false h]
 cases h1:((Bq x.natAbs).toList==(Bq y.natAbs).toList) with
 |false=>simp
 |true=>
  have h3:x.natAbs=y.natAbs:=Ya (by simpa using h1)
  have h4:¬(decide (x<0)=decide (y<0)):=λe=>by
   have:x<0↔y<0:=by simpa using e
   apply h
   omega
  simpa using h4
theorem Afi (p q:PL) (w:World):(Op.equal 227 (gY p).val (gY q).val).run Tryz.prog w= .ok (decide (p=q)) w:=by
 have e:∀(x y:Int) (w:World),(Op.equalIn 9999 68 (Ah x) (Ah y)).run Tryz.prog w= .ok (decide (x=y)) w:=λx y w=>eqW x y w 9997
 have h93:=Tryz.runUnderlying227
 have h91:=isAgg68
 have hs:=sizeOf68
 have hin:Tryz.prog.stoodInHeld 227=false:=κ
 unfold Op.equal
 rw[show Op.maxDepth=9999+1 from rfl]
 unfold Op.equalIn
 simp only[AV.val]
 unfold Ah at e
 simp[h93,part,h91,hs,e,hin]
 obtain⟨x,y,z,u⟩:=p
 obtain⟨x',y',z',u'⟩:=q
 simp only[PL.mk.injEq]
 by_cases h1:x=x'<;>by_cases h2:y=y'<;>by_cases h3:z=z'<;>by_cases h4:u=u'<;>simp[h1,h2,h3,h4]
theorem Na (x y z x' y' z':Int) (w:World):(Op.equal 30 (.agg #[.int .i64 x,.int .i64 y,.int .i64 z]) (.agg #[.int .i64 x',.int .i64 y',.int .i64 z'])).run Tryz.prog w= .ok (decide (x=x'/\y=y'/\z=z')) w:=by
 have h55:=Tryz.runUnderlying30
 have h3:=Tryz.runUnderlying3
 have ha:=isAgg3
 have hin:Tryz.prog.stoodInHeld 30=false:=κ
 unfold Op.equal
 rw[show Op.maxDepth=9998+1+1 from rfl]
 unfold Op.equalIn
 simp[h55,part,ha,hin]
 unfold Op.equalIn
 simp[h3]
 by_cases h1:x=x'<;>by_cases h2:y=y'<;>by_cases h3:z=z'<;>simp[h1,h2,h3]
end Go.Proofs.YtbggmndaahbojaaGreat
namespace Go.Proofs.YtbggmndaahbojaaGreat
open Go.Proofs.Tryz
open Go.RowKit
def Fz (i:Nat):Int:=(Au (i/6) (i%6):Int)
def Ve (i:Nat):AV:= .int (Fz i)
abbrev AkL:Value:= .agg #[.int .i64 (Fz 0),.int .i64 (Fz 1),.int .i64 (Fz 2),.int .i64 (Fz 3),.int .i64 (Fz 4),.int .i64 (Fz 5),.int .i64 (Fz 6),.int .i64 (Fz 7),.int .i64 (Fz 8),.int .i64 (Fz 9),.int .i64 (Fz 10),.int .i64 (Fz 11),.int .i64 (Fz 12),.int .i64 (Fz 13),.int .i64 (Fz 14),.int .i64 (Fz 15),.int .i64 (Fz 16),.int .i64 (Fz 17),.int .i64 (Fz 18),.int .i64 (Fz 19),.int .i64 (Fz 20),.int .i64 (Fz 21),.int .i64 (Fz 22),.int .i64 (Fz 23),.int .i64 (Fz 24),.int .i64 (Fz 25),.int .i64 (Fz 26),.int .i64 (Fz 27),.int .i64 (Fz 28),.int .i64 (Fz 29),.int .i64 (Fz 30),.int .i64 (Fz 31),.int .i64 (Fz 32),.int .i64 (Fz 33),.int .i64 (Fz 34),.int .i64 (Fz 35)]
abbrev AiO:List AV:=[.int (Fz 0),.int (Fz 1),.int (Fz 2),.int (Fz 3),.int (Fz 4),.int (Fz 5),.int (Fz 6),.int (Fz 7),.int (Fz 8),.int (Fz 9),.int (Fz 10),.int (Fz 11),.int (Fz 12),.int (Fz 13),.int (Fz 14),.int (Fz 15),.int (Fz 16),.int (Fz 17),.int (Fz 18),.int (Fz 19),.int (Fz 20),.int (Fz 21),.int (Fz 22),.int (Fz 23),.int (Fz 24),.int (Fz 25),.int (Fz 26),.int (Fz 27),.int (Fz 28),.int (Fz 29),.int (Fz 30),.int (Fz 31),.int (Fz 32),.int (Fz 33),.int (Fz 34),.int (Fz 35)]
theorem AiP:∀i,i<36->AiO.getD i .top=Ve i:=by
 have e:AiO=(List.range 36).map Ve:=κ
 intro i hi
 rw[e,Γ,List.getElem?_map,List.getElem?_range hi]
 rfl
theorem AiS {n:Nat} {f g:Nat->AV} (h:∀i,i<n->f i=g i) (E:Ap) (v:Value) (hv:VR E (.elt n f) v):VR E (.elt n g) v:=by
 cases hv with
 |elt _ _ _ b q us hD hc hr=>exact .elt _ _ _ _ _ us hD hc λi hi=>by rw[<-h i hi];exact hr i hi
theorem Yg {n k:Nat} (hk:k<6):Fz (n*6+(k*1+0))=(Au n k:Int):=by
 unfold Fz
 rw[show (n*6+(k*1+0))/6=n by omega,show (n*6+(k*1+0))%6=k by omega]
theorem Afa {n k:Nat} (hn:n<6) (hk:k<=n):Fz (n*6+(k*1+0))≠0:=by
 have:=(Yh n hn k hk).1
 rw[Yg ω]
 omega
theorem sA {n j k:Nat} (hn:n<6) (hj:j<=n) (hk:k<=j):IntKind.wrap .i64 (IntKind.wrap .i64 (Int.tdiv 60 (Fz (n*6+(k*1+0))))*Fz (j*6+(k*1+0)))=(Kf n j k:Int):=by
 rw[Yg ω,Yg ω,show (60:Int)=((60:Nat):Int) from rfl,<-Int.ofNat_tdiv]
 have h1:60/Au n k<=60:=Nat.div_le_self _ _
 have h2:=vR j ω k ω
 unfold Kf
 generalize 60/Au n k=q at h1 ⊢
 generalize Au j k=c at h2 ⊢
 have h3:q*c<=60*10:=Nat.mul_le_mul h1 h2
 rw[IntWalk.i64_in (q:Int) ω,<-Int.natCast_mul]
 exact IntWalk.i64_in _ ω
theorem Yq {n j k:Nat} (hn:n<6) (hj:j<6) (hk:k<6): -9223372036854775808<=(Kf n j k:Int)/\(Kf n j k:Int)<=9223372036854775807:=by
 have:=fP n hn j hj k hk
 omega
theorem La {P:Program} {B:Nat} {D0:Ap} {o:Oper} {ev:Operand->AV} {pre:Nat->Option Ar} (T T':TypeId) (x y:Operand) (a b:Int) (ho:o.op= .binOp .quo T x y T') (hx:ev x= .int a) (hy:ev y= .int b) (hb:b≠0):Cw P B D0 o ev pre (.int (IntKind.wrap .i64 (Int.tdiv a b))) .none:=by
 refine Bc (.inl rfl) λE ac c _ _ hv=>⟨.int .i64 (IntKind.wrap .i64 (Int.tdiv a b)),?_,.lit _ _⟩
 have e1:=hv x (by simp[ho,Op.operands])
 have e2:=hv y (by simp[ho,Op.operands])
 rw[hx] at e1
 rw[hy] at e2
 simp[execOp,ho,e1.lit_inv,e2.lit_inv,binOp_quo,Op.intDiv,eqGuard,hb]
theorem Aa1 (n:Nat) (y:Int) (hx:Bm (n:Int)) (hy:Bm y):AF Tryz.prog 59 [.lit (.agg #[.bool false,.string (Bq n)]),WA y] (.int ((n:Int)-y).sign):=by
 have h9:AF Tryz.prog 59 [.lit (Ah (n:Int)),WA y] (.int ((n:Int)-y).sign):=Hh (n:Int) y hx hy
 have e:Ah (n:Int)= .agg #[.bool false,.string (Bq n)]:=by unfold Ah;rw[decide_eq_false ω,Int.natAbs_natCast]
 rw[e] at h9
 exact h9
theorem Agy {l:List Int} {j k:Nat} (hl:l.length<=6) (hj:j<6) (hk:k<=6) (h:∀i,Bg (l.getD i 0)):Bm ((Cp l j k).natAbs:Int):=by
 have h9:=Xa hl hj h k hk
 refine Np ?_
 rw[Int.natAbs_natCast]
 exact Nat.lt_of_le_of_lt (Nat.le_trans h9 (Nat.mul_le_mul_right _ hk)) δ
theorem AdA {x y:Int} (h:0<(x-y).sign):y<x:=by
 have:=Int.sign_pos_iff.1 h
 omega
theorem AdB {x y:Int} (h:¬0<(x-y).sign):x<=y:=by
 rcases Int.lt_or_le y x with g|g
 exact absurd (Int.sign_pos_iff.2 ω) h
 exact g
def gL (g:Nat) (l:List Int):Nat->Nat
 |0=>g
 |k+1=>Nat.gcd (gL g l k) (l.getD k 0).natAbs
theorem wN (g:Nat) (l:List Int) {i:Nat} (h:i<l.length):Ys g (l.take (i+1))=Nat.gcd (Ys g (l.take i)) (l.getD i 0).natAbs:=by
 unfold Ys
 rw[List.take_succ_eq_append_getElem h,List.foldl_append]
 simp[h]
theorem sE (g:Nat) (l:List Int):∀k,k<=l.length->gL g l k=Ys g (l.take k)
 |0,_=>rfl
 |k+1,h=>by rw[gL,sE g l k ω,wN g l ω]
theorem AbV (l:List Int) (g:Nat):gL g l l.length=Ys g l:=by
 have:=sE g l l.length ζ
 rwa [List.take_length] at this
theorem sD {g:Nat} {l:List Int} (h0:0<g) (h:g<=4294967296):∀k,0<gL g l k/\gL g l k<=4294967296
 |0=>⟨h0,h⟩
 |k+1=>by
  have ih:=sD (l:=l) h0 h k
  exact⟨Nat.gcd_pos_of_pos_left _ ih.1,Nat.le_trans (Nat.gcd_le_left _ ih.1) ih.2⟩
theorem AbW {g:Nat} {l:List Int} (h:0<g/\g<=4294967296) (k:Nat):Bm (gL g l k:Int):=Np (by
 have:=(sD (l:=l) h.1 h.2 k).2
 rw[Int.natAbs_natCast]
 exact Nat.lt_of_le_of_lt this δ)
def Dd (s:Sg):Nat->List Int
 |0=>s.x
 |1=>s.y
 |_=>s.z
def Up (s:Sg):Nat->Nat
 |0=>s.o.natAbs
 |i+1=>gL (Up s i) (Dd s i) (Dd s i).length
theorem Rz {s:Sg} (h:0<s.o.natAbs/\s.o.natAbs<=4294967296):∀i,0<Up s i/\Up s i<=4294967296
 |0=>h
 |i+1=>sD (Rz h i).1 (Rz h i).2 _
theorem Ht {s:Sg} (hs:Jj s) (i k:Nat):Bg ((Dd s i).getD k 0):=by
 match i with
 |0=>exact hs.x k
 |1=>exact hs.y k
 |_+2=>exact hs.z k
theorem Gv {s:Sg} (h:Gm s) (i:Nat):Gs (Dd s i) s.o:=by
 match i with
 |0=>exact h.2.1
 |1=>exact h.2.2.1
 |_+2=>exact h.2.2.2.1
theorem tS {s:Sg} (h:Gt s.f s.t s.o) (hx:∀q,q<3->Gs (Dd s q) s.o):((Up s 3:Nat):Int)=1↔Gm s:=by
 have e:Up s 3=Ys (Ys (Ys s.o.natAbs s.x) s.y) s.z:=by rw[<-AbV,<-AbV,<-AbV];rfl
 rw[e]
 unfold Gm
 constructor
 intro e
 exact⟨h,hx 0 δ,hx 1 δ,hx 2 δ,ω⟩
 rintro⟨_,_,_,_,e⟩
 omega
theorem AcZ {B:Nat} {D0:Ap} {o:Oper} {ev:Operand->AV} {pre:Nat->Option Ar} (s:Sg) (x y:Operand) (ho:o.op= .index 70 x y) (hx:ev x= .agg [Af s.x,Af s.y,Af s.z]) (i:Nat) (hi:i<3) (hy:ev y= .int (i:Int)):Cw Tryz.prog B D0 o ev pre (Af (Dd s i)) .none:=by
 have key:∀k,k<3->i=k->Cw Tryz.prog B D0 o ev pre ([Af s.x,Af s.y,Af s.z].getD (k*1) .top) .none:=λk hk e=>Fl 70 x y ho underlying70 1 (λw=>by kernel_rfl) k false (λw=>by kernel_rfl) _ _ hx hy (by rw[e]) hk (by simp;omega) (λ_=>rfl) _ rfl
 match i,hi with
 |0,_=>exact key 0 δ rfl
 |1,_=>exact key 1 δ rfl
 |2,_=>exact key 2 δ rfl
theorem AeI (n:Int) (h0:0<=n) (h1:n<=9223372036854775807):AF Tryz.prog 29 [.int n] (WA (n.natAbs:Int)):=by
 have h9:=Cg n ω h1
 have e:(n.natAbs:Int)=n:=by omega
 rw[e]
 exact h9
theorem Ak1 (x y:Int) (w:World):(Op.equal 68 (Ah x) (Ah y)).run Tryz.prog w= .ok (decide (x=y)) w:=eqW x y w 9998
theorem nC:AF Tryz.prog 56 [] (.lit AkL):=by
 refine Ai func56 rfl λB D0 hA0=>?_
 exact Aa 17 (Kt 6 (Aa 31 (Kt 0 (Aa 16 (Dx (.int .i64 1) (.int .i64 1) (Aa 34 (Kt 1 (Aa 13 (Be [(3,.int 0,.none),(5,.int 0,.none),(10,.int 0,.none),(15,.int 1,.none)] [0,1,2,3,4] ⟨As (.int .i64 0) rfl,As (.int .i64 0) rfl,As (.int .i64 0) rfl,As (.int .i64 1) rfl,trivial⟩ (Aa 4 (Dx (.int .i64 2) (.int .i64 2) (Aa 19 (Dx (.int .i64 2) (.int .i64 2) (Aa 34 (Kt 2 (Aa 13 (Be [(3,.int 1,.none),(5,.int 0,.none),(10,.int 1,.none),(15,.int 2,.none)] [0,1,2,3,4] ⟨As (.int .i64 1) rfl,As (.int .i64 0) rfl,As (.int .i64 1) rfl,As (.int .i64 2) rfl,trivial⟩ (Aa 4 (Dx (.int .i64 2) (.int .i64 2) (Aa 16 (Be [(3,.int 1,.none),(5,.int 1,.none),(10,.int 1,.none),(15,.int 1,.none)] [0,1,2,3,4] ⟨As (.int .i64 1) rfl,As (.int .i64 1) rfl,As (.int .i64 1) rfl,As (.int .i64 1) rfl,trivial⟩ (Aa 4 (Dx (.int .i64 3) (.int .i64 3) (Aa 19 (Dx (.int .i64 3) (.int .i64 3) (Aa 34 (Kt 3 (Aa 13 (Be [(3,.int 2,.none),(5,.int 0,.none),(10,.int 2,.none),(15,.int 3,.none)] [0,1,2,3,4] ⟨As (.int .i64 2) rfl,As (.int .i64 0) rfl,As (.int .i64 2) rfl,As (.int .i64 3) rfl,trivial⟩ (Aa 4 (Dx (.int .i64 2) (.int .i64 2) (Aa 16 (Be [(3,.int 2,.none),(5,.int 1,.none),(10,.int 2,.none),(15,.int 3,.none)] [0,1,2,3,4] ⟨As (.int .i64 2) rfl,As (.int .i64 1) rfl,As (.int .i64 2) rfl,As (.int .i64 3) rfl,trivial⟩ (Aa 4 (Dx (.int .i64 3) (.int .i64 3) (Aa 16 (Be [(3,.int 2,.none),(5,.int 2,.none),(10,.int 2,.none),(15,.int 1,.none)] [0,1,2,3,4] ⟨As (.int .i64 2) rfl,As (.int .i64 2) rfl,As (.int .i64 2) rfl,As (.int .i64 1) rfl,trivial⟩ (Aa 4 (Dx (.int .i64 4) (.int .i64 4) (Aa 19 (Dx (.int .i64 4) (.int .i64 4) (Aa 34 (Kt 4 (Aa 13 (Be [(3,.int 3,.none),(5,.int 0,.none),(10,.int 3,.none),(15,.int 4,.none)] [0,1,2,3,4] ⟨As (.int .i64 3) rfl,As (.int .i64 0) rfl,As (.int .i64 3) rfl,As (.int .i64 4) rfl,trivial⟩ (Aa 4 (Dx (.int .i64 2) (.int .i64 2) (Aa 16 (Be [(3,.int 3,.none),(5,.int 1,.none),(10,.int 3,.none),(15,.int 6,.none)] [0,1,2,3,4] ⟨As (.int .i64 3) rfl,As (.int .i64 1) rfl,As (.int .i64 3) rfl,As (.int .i64 6) rfl,trivial⟩ (Aa 4 (Dx (.int .i64 3) (.int .i64 3) (Aa 16 (Be [(3,.int 3,.none),(5,.int 2,.none),(10,.int 3,.none),(15,.int 4,.none)] [0,1,2,3,4] ⟨As (.int .i64 3) rfl,As (.int .i64 2) rfl,As (.int .i64 3) rfl,As (.int .i64 4) rfl,trivial⟩ (Aa 4 (Dx (.int .i64 4) (.int .i64 4) (Aa 16 (Be [(3,.int 3,.none),(5,.int 3,.none),(10,.int 3,.none),(15,.int 1,.none)] [0,1,2,3,4] ⟨As (.int .i64 3) rfl,As (.int .i64 3) rfl,As (.int .i64 3) rfl,As (.int .i64 1) rfl,trivial⟩ (Aa 4 (Dx (.int .i64 5) (.int .i64 5) (Aa 19 (Dx (.int .i64 5) (.int .i64 5) (Aa 34 (Kt 5 (Aa 13 (Be [(3,.int 4,.none),(5,.int 0,.none),(10,.int 4,.none),(15,.int 5,.none)] [0,1,2,3,4] ⟨As (.int .i64 4) rfl,As (.int .i64 0) rfl,As (.int .i64 4) rfl,As (.int .i64 5) rfl,trivial⟩ (Aa 4 (Dx (.int .i64 2) (.int .i64 2) (Aa 16 (Be [(3,.int 4,.none),(5,.int 1,.none),(10,.int 4,.none),(15,.int 10,.none)] [0,1,2,3,4] ⟨As (.int .i64 4) rfl,As (.int .i64 1) rfl,As (.int .i64 4) rfl,As (.int .i64 10) rfl,trivial⟩ (Aa 4 (Dx (.int .i64 3) (.int .i64 3) (Aa 16 (Be [(3,.int 4,.none),(5,.int 2,.none),(10,.int 4,.none),(15,.int 10,.none)] [0,1,2,3,4] ⟨As (.int .i64 4) rfl,As (.int .i64 2) rfl,As (.int .i64 4) rfl,As (.int .i64 10) rfl,trivial⟩ (Aa 4 (Dx (.int .i64 4) (.int .i64 4) (Aa 16 (Be [(3,.int 4,.none),(5,.int 3,.none),(10,.int 4,.none),(15,.int 5,.none)] [0,1,2,3,4] ⟨As (.int .i64 4) rfl,As (.int .i64 3) rfl,As (.int .i64 4) rfl,As (.int .i64 5) rfl,trivial⟩ (Aa 4 (Dx (.int .i64 5) (.int .i64 5) (Aa 16 (Be [(3,.int 4,.none),(5,.int 4,.none),(10,.int 4,.none),(15,.int 1,.none)] [0,1,2,3,4] ⟨As (.int .i64 4) rfl,As (.int .i64 4) rfl,As (.int .i64 4) rfl,As (.int .i64 1) rfl,trivial⟩ (Aa 4 (Dx (.int .i64 6) (.int .i64 6) (Aa 19 (Dx (.int .i64 6) (.int .i64 6) (Aa 22 (Br)))))))))))))))))))))))))))))))))))))))))))))))))))))))))))))))))))))))))))))))))))))))
theorem Xh (l:List Int) (o:Int) (h1:1<=l.length) (h6:l.length<=6) (hi:∀i,Bg (l.getD i 0)) (ho:Bg o):AF Tryz.prog 31 [Af l,.int o] (.bool (decide (Mu l o l.length))):=by
 refine Ai func31 rfl λB D0 hA0=>?_
 refine Aa 7 (Aj nC (Aa 4 (aS 0 (Ee 5 (.elt 36 (λxi=>AiO.getD (0+xi) .top)) (.elt 36 Ve) (AiS λi hi=>by rw[Nat.zero_add];exact AiP i hi) ?_))))
 refine Aa 2 (Aj (Cg 62914560 δ δ) (Aa 1 (Aj (Cg o ho.1 ho.2) (Aj (Jw _ _ (Di δ δ) (Di ho.1 ho.2) (lD ho.1 ho.2)) (Aa 8 (Ao ((l.length:Int)-1) ((l.length-1:Nat):Int) (Aa 12 (Po [0,5,6,7,20,21] l.length (λj=>Mu l o j) (λj=>⟨[(0,Af l),(5,.elt 36 Ve),(6,.ptr 1 0),(7,.int ((l.length-1:Nat):Int)),(20,.int (l.length:Int)),(21,.int (j:Int))],[(1,.box 68 [.bool (decide ((62914560*o)<0)),.lit (.string (Bq (62914560*o).natAbs))])],2,57⟩) (λq hq=>absurd hq (Nat.not_lt_zero q)) (λj hjn hFj J1 hJ1=>?_)))))))))
 refine Aa 6 (Cu 22 ((j:Int)<(l.length:Int)) (λhx1 hx1d=>?_) (λhx1 hx1d=>?_))
 ·
  refine Aa 20 (Ao ((j:Int)+1) ((j+1:Nat):Int) (Aa 4 (Po [0,5,6,7,8,9,20,21,25,26] (j+1) (λk=>True) (λk=>⟨[(0,Af l),(5,.elt 36 Ve),(6,.ptr 1 0),(7,.int ((l.length-1:Nat):Int)),(8,.int (j:Int)),(9,.ptr 2 0),(20,.int (l.length:Int)),(21,.int (j:Int)),(25,.int ((j+1:Nat):Int)),(26,.int (k:Int))],[(1,.box 68 [.bool (decide ((62914560*o)<0)),.lit (.string (Bq (62914560*o).natAbs))]),(2,.box 68 [.bool (decide ((Cp l j k)<0)),.lit (.string (Bq (Cp l j k).natAbs))])],3,57⟩) trivial (λk hkn hFk J2 hJ2=>?_))))
  refine Aa 6 (Cu 27 ((k:Int)<((j+1:Nat):Int)) (λhx2 hx2d=>?_) (λhx2 hx2d=>?_))
  ·
   exact Aa 11 (Be [(3,Ax (Af l) k,.none),(5,_,.none),(8,.elt 6 (λxi=>Ve ((l.length-1)*6+xi)),.none),(9,.elt 1 (λxi=>(λxi=>Ve ((l.length-1)*6+xi)) (k*1+xi)),.none),(11,.int (IntKind.wrap .i64 (Int.tdiv 60 (Fz ((l.length-1)*6+(k*1+0))))),.none),(14,.elt 6 (λxi=>Ve (j*6+xi)),.none),(15,.elt 1 (λxi=>(λxi=>Ve (j*6+xi)) (k*1+xi)),.none),(17,.int (Kf (l.length-1) j k:Int),.none),(18,_,.none),(19,_,.none),(20,_,.none)] [0,5,6,7,8,9,20,21,25,26] ⟨Eg k l.length,Am (Cg _ (hi k).1 (hi k).2),Bo (Jx 101 (.tmp 5) (.tmp 35) κ underlying101 36 Ve 6 (l.length-1) ((l.length-1:Nat):Int) κ κ sizeOf100 δ rfl ω ω),Bo (Jx 100 (.tmp 37) (.tmp 36) κ underlying100 6 (λxi=>Ve ((l.length-1)*6+xi)) 1 k (k:Int) κ κ sizeOf3 δ rfl ω ω),Bo (La 3 3 (.const (.int .i64 60)) (.tmp 39) 60 (Fz ((l.length-1)*6+(k*1+0))) κ κ κ (Afa ω ω)),Bo (Jx 101 (.tmp 5) (.tmp 41) κ underlying101 36 Ve 6 j (j:Int) κ κ sizeOf100 δ rfl ω ω),Bo (Jx 100 (.tmp 43) (.tmp 42) κ underlying100 6 (λxi=>Ve (j*6+xi)) 1 k (k:Int) κ κ sizeOf3 δ rfl ω ω),As (.int .i64 (IntKind.wrap .i64 (IntKind.wrap .i64 (Int.tdiv 60 (Fz ((l.length-1)*6+(k*1+0))))*Fz (j*6+(k*1+0))))) (congrArg (Value.int .i64) (sA ω ω ω)),Am (Cg _ (Yq (n:=l.length-1) (j:=j) (k:=k) ω ω ω).1 (Yq (n:=l.length-1) (j:=j) (k:=k) ω ω ω).2),Am (Jw _ _ (Di (hi k).1 (hi k).2) (Di (Yq (n:=l.length-1) (j:=j) (k:=k) ω ω ω).1 (Yq (n:=l.length-1) (j:=j) (k:=k) ω ω ω).2) (mH (n:=l.length-1) (j:=j) (k:=k) ω ω ω hi)),Am (Wm (Cp l j k) _ (mF (j:=j) (k:=k) h6 ω ω hi) (mH (n:=l.length-1) (j:=j) (k:=k) ω ω ω hi) (mF (j:=j) (k:=k+1) h6 ω ω hi)),trivial⟩ (Aa 3 (Ao ((k:Int)+1) ((k+1:Nat):Int) (Aa 2 (Pe [0,5,6,7,8,9,20,21,25,26] (hJ2 ω trivial))))))
  ·
   refine Aa 16 (Aj (Aa1 _ _ (Agy (j:=j) (k:=k) h6 ω ω hi) (lD ho.1 ho.2)) (Aa 3 (Cu 55 ((0:Int)<(((Cp l j k).natAbs:Int)-62914560*o).sign) (λhx3 hx3d=>?_) (λhx3 hx3d=>?_))))
   ·
    exact Aa 12 (Ch (.bool false) (congrArg AV.bool (decide_eq_false λh9=>by have h8:=h9 j ω;have h7:=AdA hx3d;rw[show j+1=k by omega] at h8;omega).symm))
   ·
    exact Aa 5 (Ao ((j:Int)+1) ((j+1:Nat):Int) (Aa 2 (Ew [0,5,6,7,20,21] [(1,1)] 2 0 hA0 [] trivial (hJ1 ω (Yc hFj (by rw[show j+1=k by omega];exact AdB hx3d))))))
 ·
  exact Aa 12 (Ch (.bool true) (congrArg AV.bool (decide_eq_true (by(obtain rfl:j=l.length:=(ω));exact hFj)).symm))
theorem rL {c:List Int} {o:Int} (h1:1<=c.length) (h2:c.length<=6) (h3:1<c.length->c.getD (c.length-1) 0≠0) (h4:decide (Mu c o c.length)=true):Gs c o:=⟨h1,h2,h3,of_decide_eq_true h4⟩
theorem Hg (s:Sg) (hs:Jj s):AF Tryz.prog 15 [Dp s] (.bool (decide (Gm s))):=by
 refine Ai func15 rfl λB D0 hA0=>?_
 refine Aa 13 (Cu 11 (s.f<0) (λhx1 hx1d=>?_) (λhx1 hx1d=>?_))
 ·
  exact Aa 31 (Ch (.bool false) (congrArg AV.bool (decide_eq_false λh9=>by have h8:=h9.1;unfold Gt at h8;omega).symm))
 ·
  refine Aa 7 (Cu 18 (s.t<=s.f) (λhx2 hx2d=>?_) (λhx2 hx2d=>?_))
  ·
   exact Aa 24 (Ch (.bool false) (congrArg AV.bool (decide_eq_false λh9=>by have h8:=h9.1;unfold Gt at h8;omega).symm))
  ·
   refine Aa 5 (Cu 23 ((3600000:Int)<s.t) (λhx3 hx3d=>?_) (λhx3 hx3d=>?_))
   ·
    exact Aa 19 (Ch (.bool false) (congrArg AV.bool (decide_eq_false λh9=>by have h8:=h9.1;unfold Gt at h8;omega).symm))
   ·
    refine Aa 5 (Cu 28 (s.o<1) (λhx4 hx4d=>?_) (λhx4 hx4d=>?_))
    ·
     exact Aa 14 (Ch (.bool false) (congrArg AV.bool (decide_eq_false λh9=>by have h8:=h9.1;unfold Gt at h8;omega).symm))
    ·
     refine Aa 6 (Cu 32 ((4294967296:Int)<s.o) (λhx5 hx5d=>?_) (λhx5 hx5d=>?_))
     ·
      exact Aa 8 (Ch (.bool false) (congrArg AV.bool (decide_eq_false λh9=>by have h8:=h9.1;unfold Gt at h8;omega).symm))
     ·
      refine Aa 3 ?_
      have g0:0<s.o.natAbs/\s.o.natAbs<=4294967296:=by omega
      refine Aa 4 (Aj (AeI s.o ω hs.o.2) (Aa 8 (Aj (qX s) (Aa 4 (Po [1,3,37,38] 3 (λi=>∀q,q<i->Gs (Dd s q) s.o) (λi=>⟨[(1,.ptr 0 0),(3,.ptr 1 0),(37,.agg [Af s.x,Af s.y,Af s.z]),(38,.int (i:Int))],[(0,.box 24 [.int s.f,.int s.t,.int s.o,Af s.x,Af s.y,Af s.z]),(1,.box 68 [.bool (decide ((Up s i:Int)<0)),.lit (.string (Bq (Up s i:Int).natAbs))])],2,85⟩) (λq hq=>absurd hq (Nat.not_lt_zero q)) (λi hin hFi J1 hJ1=>?_))))))
      refine Aa 6 (Cu 39 ((i:Int)<3) (λhx6 hx6d=>?_) (λhx6 hx6d=>?_))
      ·
       refine Aa 7 (Cc (Af (Dd s i)) .none (AcZ s (.tmp 37) (.tmp 38) κ κ i ω κ) (Aa 10 (Cu 44 (((Dd s i).length:Int)<1) (λhx7 hx7d=>?_) (λhx7 hx7d=>?_))))
       ·
        exact Aa 40 (Ch (.bool false) (congrArg AV.bool (decide_eq_false λh9=>by have h8:=Gv h9 i;unfold Gs at h8;omega).symm))
       ·
        refine Aa 5 (Cu 49 ((6:Int)<((Dd s i).length:Int)) (λhx8 hx8d=>?_) (λhx8 hx8d=>?_))
        ·
         exact Aa 35 (Ch (.bool false) (congrArg AV.bool (decide_eq_false λh9=>by have h8:=Gv h9 i;unfold Gs at h8;omega).symm))
        ·
         refine Aa 4 (Cu 53 ((1:Int)<((Dd s i).length:Int)) (λhx9 hx9d=>?_) (λhx9 hx9d=>?_))
         ·
          refine Aa 3 (Ao (((Dd s i).length:Int)-1) (((Dd s i).length-1:Nat):Int) (Dm ((Dd s i).length-1) ((Dd s i).length) (Aa 5 (Cu 63 ((Dd s i).getD ((Dd s i).length-1) 0=0) (λhx10 hx10d=>?_) (λhx10 hx10d=>?_)))))
          ·
           exact Aa 21 (Ch (.bool false) (congrArg AV.bool (decide_eq_false λh9=>by have h8:=Gv h9 i;unfold Gs at h8;omega).symm))
          ·
           refine Aa 3 (Aj (Xh (Dd s i) s.o ω ω (Ht hs i) hs.o) (Aa 4 (qN 69 (Mu (Dd s i) s.o (Dd s i).length) (λhx11 hx11d=>?_) (λhx11 hx11d=>?_))))
           ·
            refine Aa 11 (Po [1,3,37,38,70,71,72] ((Dd s i).length) (λk=>True) (λk=>⟨[(1,.ptr 0 0),(3,.ptr 1 0),(37,.agg [Af s.x,Af s.y,Af s.z]),(38,.int (i:Int)),(70,Af (Dd s i)),(71,.int ((Dd s i).length:Int)),(72,.int (k:Int))],[(0,.box 24 [.int s.f,.int s.t,.int s.o,Af s.x,Af s.y,Af s.z]),(1,.box 68 [.bool (decide ((gL (Up s i) (Dd s i) k:Int)<0)),.lit (.string (Bq (gL (Up s i) (Dd s i) k:Int).natAbs))])],2,85⟩) trivial (λk hkn hFk J2 hJ2=>?_))
            refine Aa 6 (Cu 73 ((k:Int)<((Dd s i).length:Int)) (λhx12 hx12d=>?_) (λhx12 hx12d=>?_))
            ·
             exact Aa 7 (Dm k ((Dd s i).length) (Aa 4 (Be [(2,_,.none),(3,_,.none)] [1,3,37,38,70,71,72] ⟨Am (Cg _ (Ht hs i k).1 (Ht hs i k).2),Am (Sv _ _ (AbW (l:=Dd s i) (Rz g0 i) k) (Di (Ht hs i k).1 (Ht hs i k).2)),trivial⟩ (Aa 3 (Ao ((k:Int)+1) ((k+1:Nat):Int) (Aa 2 (Pe [1,3,37,38,70,71,72] (hJ2 ω trivial))))))))
            ·
             refine Aa 8 (Ao ((i:Int)+1) ((i+1:Nat):Int) (Aa 2 ?_))
             obtain rfl:k=(Dd s i).length:=by omega
             exact Pe [1,3,37,38] (hJ1 ω (λq hq=>(Nat.lt_or_ge q i).elim (hFi q) λg9=>by(obtain rfl:q=i:=(ω));exact rL ω ω (λ_=>by omega) hx11))
           ·
            exact Aa 13 (Ch (.bool false) (congrArg AV.bool (decide_eq_false λh9=>absurd (Gv h9 i).2.2.2 (of_decide_eq_false hx11)).symm))
         ·
          refine Aa 13 (Aj (Xh (Dd s i) s.o ω ω (Ht hs i) hs.o) (Aa 4 (qN 69 (Mu (Dd s i) s.o (Dd s i).length) (λhx13 hx13d=>?_) (λhx13 hx13d=>?_))))
          ·
           refine Aa 11 (Po [1,3,37,38,70,71,72] ((Dd s i).length) (λk=>True) (λk=>⟨[(1,.ptr 0 0),(3,.ptr 1 0),(37,.agg [Af s.x,Af s.y,Af s.z]),(38,.int (i:Int)),(70,Af (Dd s i)),(71,.int ((Dd s i).length:Int)),(72,.int (k:Int))],[(0,.box 24 [.int s.f,.int s.t,.int s.o,Af s.x,Af s.y,Af s.z]),(1,.box 68 [.bool (decide ((gL (Up s i) (Dd s i) k:Int)<0)),.lit (.string (Bq (gL (Up s i) (Dd s i) k:Int).natAbs))])],2,85⟩) trivial (λk hkn hFk J3 hJ3=>?_))
           refine Aa 6 (Cu 73 ((k:Int)<((Dd s i).length:Int)) (λhx14 hx14d=>?_) (λhx14 hx14d=>?_))
           ·
            exact Aa 7 (Dm k ((Dd s i).length) (Aa 4 (Be [(2,_,.none),(3,_,.none)] [1,3,37,38,70,71,72] ⟨Am (Cg _ (Ht hs i k).1 (Ht hs i k).2),Am (Sv _ _ (AbW (l:=Dd s i) (Rz g0 i) k) (Di (Ht hs i k).1 (Ht hs i k).2)),trivial⟩ (Aa 3 (Ao ((k:Int)+1) ((k+1:Nat):Int) (Aa 2 (Pe [1,3,37,38,70,71,72] (hJ3 ω trivial))))))))
           ·
            refine Aa 8 (Ao ((i:Int)+1) ((i+1:Nat):Int) (Aa 2 ?_))
            obtain rfl:k=(Dd s i).length:=by omega
            exact Pe [1,3,37,38] (hJ1 ω (λq hq=>(Nat.lt_or_ge q i).elim (hFi q) λg9=>by(obtain rfl:q=i:=(ω));exact rL ω ω (λ_=>by omega) hx13))
          ·
           exact Aa 13 (Ch (.bool false) (congrArg AV.bool (decide_eq_false λh9=>absurd (Gv h9 i).2.2.2 (of_decide_eq_false hx13)).symm))
      ·
       exact Aa 7 (Be [(1,_,.none),(2,.bool (decide ((Up s i:Int)=1)),.none)] [2] ⟨Am (Cg 1 δ δ),Bo (Hs 68 68 (.tmp 82) (.tmp 83) κ _ _ κ κ κ (decide ((Up s i:Int)=1)) (Ak1 _ _)),trivial⟩ (Aa 2 (Ch (.bool (decide ((Up s i:Int)=1))) (congrArg AV.bool (decide_eq_decide.2 (by(obtain rfl:i=3:=(ω));exact tS (by unfold Gt;omega) hFi))))))
def Sg.none:Sg:=⟨0,0,0,[],[],[]⟩
abbrev Hl (l:List Sg):AV:= .sl 6 l.length λi=>Dp (l.getD i Sg.none)
abbrev Bj (v:V3):AV:= .lit (.agg #[.int .i64 v.x,.int .i64 v.y,.int .i64 v.z])
theorem Aaq (v:V3):AF Tryz.prog 51 [Bj v] (.bool (Gg 1048576 [v.x,v.y,v.z])):=nH (vs:=[_]) λw=>xR v.x v.y v.z w
theorem qO (x y z:Int) (w:World):
  Calls Tryz.prog 189 #[.agg #[.int .i64 x,.int .i64 y,.int .i64 z]] w λe w'=>e= .returned (.bool (Gg 16777216 [x,y,z]))/\Below w.heap.size w w':=by
 go_enter func189,ntmps189
 go_wp2_with fail
 refine(Yy _ ?_ ?_ [x,y,z] _ _ ?_ ?_).mono ?_
 · omega
 · omega
 · simp
 · exact Hc.new1 _ [.int .i64 x,.int .i64 y,.int .i64 z] 3 _ 0 _ 1 3 rfl (by simp) Ω (by simp)
 ·
  rintro e w1 ⟨rfl,rfl⟩
  go_wp2_with fail
  go_ret
  exact⟨rfl,(Ψ.alloc ζ _).alloc (by simp) _⟩
theorem Qt (v:V3):AF Tryz.prog 189 [Bj v] (.bool (Gg 16777216 [v.x,v.y,v.z])):=nH (vs:=[_]) λw=>qO v.x v.y v.z w
theorem dJ {α:Type} (f:α->List Value) (k:Nat) (hf:∀a,(f a).length=k):∀(l:List α) (i j:Nat) (d:α),i<l.length->j<k->(l.flatMap f).getD (i*k+j) undef=(f (l.getD i d)).getD j undef
 |[],i,j,d,hi,_=>by simp at hi
 |a::l,0,j,d,_,hj=>by
  rw[List.flatMap_cons,Γ,List.getElem?_append_left (by rw[hf];omega)]
  simp
 |a::l,i+1,j,d,hi,hj=>by
  rw[List.flatMap_cons,Γ,List.getElem?_append_right (by rw[hf,Nat.succ_mul];omega),hf]
  have:=dJ f k hf l i j d (by simpa using hi) hj
  rw[Γ] at this
  rw[show (i+1)*k+j-k=i*k+j by rw[Nat.succ_mul];omega,this]
  simp
theorem Aiu {s:Sg} {a d:Int} (ho:s.o≠0) (hd:d≠0):plG s a d≠0:=by
 have h0:(iS s d).natAbs≠0:=by
  unfold iS
  rw[Int.natAbs_mul,Int.natAbs_pow]
  have h1:0<s.o.natAbs:=by omega
  have h2:0<d.natAbs^5:=Nat.pow_pos ω
  exact Nat.ne_of_gt (Nat.mul_pos h1 h2)
 have g:∀x y:Int,x.natAbs≠0->(Nat.gcd x.natAbs y.natAbs:Int).natAbs≠0:=λx y hx=>by
  rw[Int.natAbs_natCast]
  exact Nat.ne_of_gt (Nat.gcd_pos_of_pos_left _ ω)
 have h:=g _ (plZ s a d) (g _ (plY s a d) (g _ (yZ s a d) h0))
 unfold plG
 omega
theorem Xl (s:Sg) (a d:Int) (hs:Jj s) (ho:Gm s) (ha:Bg a) (hd:Bg d) (h0:d≠0):AF Tryz.prog 180 [Dp s,.int a,.int d] (gY (Jc s a d)):=
 Aam s a d hs ho.2.1.2.1 ho.2.2.1.2.1 ho.2.2.2.1.2.1 ha hd (Aiu (by have:=ho.1.2.2.2.1;omega) h0)
def cU (s u:Sg):Prop:=s.t=u.f/\Jc s 1 1=Jc u 0 1
instance (s u:Sg):Decidable (cU s u):=by unfold cU;infer_instance
def Xu (l:List Sg):Prop:=(∀i,i<l.length->Gm (l.getD i Sg.none)/\(0<i->cU (l.getD (i-1) Sg.none) (l.getD i Sg.none)))/\1<=l.length/\l.length<=256
instance (l:List Sg):Decidable (Xu l):=by unfold Xu;infer_instance
def AaH (l:List Sg):Prop:=l.length<=1000000/\∀i,Jj (l.getD i Sg.none)
theorem oV:Bg 0:=⟨δ,δ⟩
theorem oW:Bg 1:=⟨δ,δ⟩
theorem Aab (s u:Sg) (hs:Jj s) (hu:Jj u) (ho:Gm s) (hp:Gm u):AF Tryz.prog 147 [Dp s,Dp u] (.bool (bP (cU s u))):=by
 refine Ai func147 rfl λB D0 hA0=>?_
 refine Aa 8 (vsp (s.t=u.f) (λhx1 hx1d=>?_) (λhx1 hx1d=>?_))
 ·
  exact Be [(4,.bool true,.none),(7,_,.none),(9,_,.none),(10,.bool (decide (Jc s 1 1=Jc u 0 1)),.none)] [4] ⟨kQ hx1,Am (Xl s 1 1 hs ho oW oW δ),Am (Xl u 0 1 hu hp oV oW δ),Bo (Hs 227 227 (.tmp 12) (.tmp 14) κ _ _ κ κ κ (decide (Jc s 1 1=Jc u 0 1)) (Afi (Jc s 1 1) (Jc u 0 1))),trivial⟩ (Aa 2 (Ch (.bool (decide (Jc s 1 1=Jc u 0 1))) (congrArg AV.bool (if hz:Jc s 1 1=Jc u 0 1 then (decide_eq_true hz).trans (fA ⟨by assumption,hz⟩).symm else (decide_eq_false hz).trans (Kd (λg=>hz g.2)).symm))))
 ·
  exact Be [(4,.bool false,.none)] [4] ⟨kQ hx1,trivial⟩ (Aa 2 (Ch (.bool false) (congrArg AV.bool (Kd (λg=>absurd g.1 θ)).symm)))
theorem eU (l:List Sg) (hl:AaH l):AF Tryz.prog 89 [Hl l] (.bool (bP (Xu l))):=by
 have hln:=hl.1
 refine Ai func89 rfl λB D0 hA0=>?_
 refine Aa 14 (Po [0,5,6,7] l.length (λi=>∀q,q<i->Gm (l.getD q Sg.none)/\(0<q->cU (l.getD (q-1) Sg.none) (l.getD q Sg.none))) (λi=>⟨[(0,Hl l),(5,Hl l),(6,.int ((l).length:Int)),(7,.int (i:Int))],[],0,38⟩) (λq hq=>absurd hq (Nat.not_lt_zero q)) (λi hin hFi J1 hJ1=>?_))
 refine Aa 6 (Cu 8 ((i:Int)<((l).length:Int)) (λhx1 hx1d=>?_) (λhx1 hx1d=>?_))
 ·
  refine Aa 8 (Dm i ((l).length) (Aa 7 (vsp (Gm (l.getD i Sg.none)) (λhx2 hx2d=>?_) (λhx2 hx2d=>?_))))
  ·
   refine vsp ((0:Int)<(i:Int)) (λhx3 hx3d=>?_) (λhx3 hx3d=>?_)
   ·
    refine Be [(1,.bool true,.none),(5,.bool true,.none),(9,.int ((i-1:Nat):Int),.none),(10,Ax (Hl l) (i-1),.none),(13,_,.none)] [0,5,6,7,28] ⟨bF hx2 (Am (Hg (l.getD i Sg.none) (hl.2 i))),kQ hx3,As (.int .i64 (IntKind.wrap .i64 ((i:Int)-1))) η,Eg (i-1) ((l).length),Am (Aab _ _ (hl.2 (i-1)) (hl.2 i) (hFi (i-1) ω).1 (of_decide_eq_true θ)),trivial⟩ (Aa 1 (Akh 28 (bP (cU (l.getD (i-1) Sg.none) (l.getD i Sg.none))) (λhx4=>?_) (λhx4=>?_)))
    ·
     exact Aa 5 (Ao ((i:Int)+1) ((i+1:Nat):Int) (Aa 2 (Ew [0,5,6,7] [] 0 0 hA0 [] trivial (hJ1 ω (λq hq=>(Nat.lt_or_ge q i).elim (λg=>hFi q g) λg=>by have e:q=i:=(ω);subst e;exact⟨of_decide_eq_true hx2,λ_=>Ajt hx4⟩)))))
    ·
     exact Aa 12 (Ch (.bool false) (congrArg AV.bool (Kd (by rintro⟨g1,g2,g3⟩;first|omega|exact Ahx hx4 ((g1 i ω).2 ω)|exact absurd (g1 i ω).1 (of_decide_eq_false hx2))).symm))
   ·
    exact Be [(1,.bool true,.none),(5,.bool false,.none)] [0,5,6,7,28] ⟨bF hx2 (Am (Hg (l.getD i Sg.none) (hl.2 i))),kQ hx3,trivial⟩ (Aa 6 (Ao ((i:Int)+1) ((i+1:Nat):Int) (Aa 2 (Ew [0,5,6,7] [] 0 0 hA0 [] trivial (hJ1 ω (λq hq=>(Nat.lt_or_ge q i).elim (λg=>hFi q g) λg=>by have e:q=i:=(ω);subst e;exact⟨of_decide_eq_true hx2,λhz=>absurd hz ω⟩))))))
  ·
   exact Be [(1,.bool false,.none)] [0,5,6,7,28] ⟨bF hx2 (Am (Hg (l.getD i Sg.none) (hl.2 i))),trivial⟩ (Aa 13 (Ch (.bool false) (congrArg AV.bool (Kd (by rintro⟨g1,g2,g3⟩;first|omega|exact absurd (g1 i ω).1 (of_decide_eq_false hx2))).symm)))
 ·
  refine Aa 12 (Cu 33 ((1:Int)<=((l).length:Int)) (λhx5 hx5d=>?_) (λhx5 hx5d=>?_))
  ·
   exact Aa 8 (Ch (.bool (decide (((l).length:Int)<=256))) (congrArg AV.bool (if hz:l.length<=256 then (decide_eq_true ω).trans (fA ⟨λq hq=>hFi q ω,ω,ω⟩).symm else (decide_eq_false ω).trans (Kd (λg=>hz g.2.2)).symm)))
  ·
   exact Aa 8 (Ch (.bool false) (congrArg AV.bool (Kd (by rintro⟨g1,g2,g3⟩;first|omega)).symm))
def Ay (c:Nat->Int):Nat->Nat
 |0=>0
 |n+1=>if c n=0 then Ay c n else n+1
abbrev Cr (n:Nat) (c:Nat->Int):AV:= .sl 2 n λi=>WA (c i)
abbrev AgX (n:Nat) (c:Nat->Int):AV:= .slc 2 n λi=>WA (c i)
theorem Fw (c:Nat->Int):∀n,Ay c n<=n
 |0=>Nat.le_refl _
 |n+1=>by
  unfold Ay
  split
  exact Nat.le_succ_of_le (Fw c n)
  exact Nat.le_refl _
theorem Ox (c:Nat->Int):∀n,Ay c n=0\/c (Ay c n-1)≠0
 |0=> .inl rfl
 |n+1=>by
  unfold Ay
  split
  exact Ox c n
  rename_i h;exact .inr h
theorem Nz {c:Nat->Int} {n:Nat} (h:n=0\/c (n-1)≠0):Ay c n=n:=by
 cases n with
 |zero=>rfl
 |succ n=>
  unfold Ay
  rcases h with h|h
  cases h
  exact if_neg h
theorem aN {c:Nat->Int} {n i:Nat} (hi:i<n) (h:Ay c n<=i):c i=0:=by
 induction n with
 |zero=>omega
 |succ n ih=>
  unfold Ay at h
  split at h
  rename_i h0
  by_cases e:i=n
  subst e;exact h0
  exact ih ω h
  omega
theorem Vd {x:Int}:x.sign=0↔x=0:=Int.sign_eq_zero_iff_zero
theorem aM {c:Nat->Int} {q:Nat} (hq:0<q) (h:(c (q-1)).sign=0):Ay c q=Ay c (q-1):=by
 obtain⟨k,rfl⟩:∃k,q=k+1:=⟨q-1,ω⟩
 rw[Nat.add_sub_cancel] at h ⊢
 rw[Ay,if_pos (Vd.1 h)]
theorem Oy {c:Nat->Int} {q n:Nat} (h0:Ay c q=Ay c n) (h:q=0\/(c (q-1)).sign≠0):q=Ay c n:=by
 rw[<-h0]
 exact(Nz (h.imp id λh e=>h (Vd.2 e))).symm
theorem rD (n:Nat) (c:Nat->Int) (hn:n<=1000000) (hc:∀i,i<n->Bm (c i)):AF Tryz.prog 104 [AgX n c] (Cr (Ay c n) c):=by
 refine Ai func104 rfl λB D0 hA0=>?_
 refine Aa 7 (Wg [0] (λm s=>∃m1,m=m1+1/\(m1<=n/\Ay c m1=Ay c n)/\s=⟨[(0,AgX m1 c)],[],0,22⟩) (n+1) ⟨n,rfl,⟨Nat.le_refl _,rfl⟩,κ⟩ ?_)
 rintro _ _ ⟨m1,rfl,hF,rfl⟩ J1 hJ1
 obtain⟨hF1,hF2⟩:=hF
 refine Aa 7 (Cu 6 ((0:Int)<((m1:Nat):Int)) (λhx1 hx1d=>?_) (λhx1 hx1d=>?_))
 ·
  refine Aa 3 (Ao (((m1:Nat):Int)-1) ((m1-1:Nat):Int) (Dm (m1-1) m1 (Aa 1 (Aj (Eo (c (m1-1)) (hc _ ω)) (Aa 4 (Cu 15 ((c (m1-1)).sign=0) (λhx2 hx2d=>?_) (λhx2 hx2d=>?_)))))))
  ·
   exact Aa 8 (Ao (((m1:Nat):Int)-1) ((m1-1:Nat):Int) (Cc (.slc 2 (m1-1) (λi0=> .lit (Ah (c i0)))) .none (Nb 106 (.tmp 16) (.tmp 19) κ underlying106 2 m1 sizeOf68 (λi0=> .lit (Ah (c i0))) κ (m1-1) ((m1-1:Nat):Int) κ ω ω) (Aa 3 (Pe [0] (hJ1 _ _ (by omega:m1-1+1<m1+1) ⟨m1-1,rfl,⟨ω,(aM ω hx2d).symm.trans hF2⟩,rfl⟩)))))
  ·
   exact Aa 6 (vwk 0 (Aa 7 (Ch (.sl 2 m1 (λi0=> .lit (Ah (c i0)))) (congrArg (λz=>Cr z c) (Oy hF2 ω)))))
 ·
  exact Aa 17 (vwk 0 (Aa 7 (Ch (.sl 2 m1 (λi0=> .lit (Ah (c i0)))) (congrArg (λz=>Cr z c) (Oy hF2 ω)))))
theorem iV (x:Int):AFM Tryz.prog 156 158 [.int .i64 0] [WA x,.int 0] (Ah x):=by
 refine oR func156 rfl λB D0 hA0=>?_
 exact Aa 32 (AiT (.lit (Ah x)) κ)
theorem Wj (x y:Int) (hx:Bm x) (hy:Bm y) (hz:Bm (x*y)):AFM Tryz.prog 109 158 [.int .i64 0] [WA x,WA y] (Ah (x*y)):=by
 refine oR func109 rfl λB D0 hA0=>?_
 exact Aa 8 (Be [(5,_,.none),(8,.lit (Ah (x*y)),(.set 0 (.box 158 [.int 0])))] [6] ⟨Am (Sy x y hx hy hz),Bo (Iq 156 #[.tmp 9,.tmp 13,.tmp 14] #[156,68,31] κ (λ_ _=>by kernel_rfl) 0 158 [.int .i64 0] κ [.lit (Ah (x*y)),.int 0] κ κ (Ah (x*y)) (iV (x*y))),trivial⟩ (Aa 2 (AiT (.lit (Ah (x*y))) κ)))
theorem qU (x y:Int) (hx:Bm x) (hy:Bm y) (hz:Bm (x+y)):AFM Tryz.prog 110 158 [.int .i64 0] [WA x,WA y] (Ah (x+y)):=by
 refine oR func110 rfl λB D0 hA0=>?_
 exact Aa 8 (Be [(5,_,.none),(8,.lit (Ah (x+y)),(.set 0 (.box 158 [.int 0])))] [6] ⟨Am (Wo x y hx hy hz),Bo (Iq 156 #[.tmp 9,.tmp 13,.tmp 14] #[156,68,31] κ (λ_ _=>by kernel_rfl) 0 158 [.int .i64 0] κ [.lit (Ah (x+y)),.int 0] κ κ (Ah (x+y)) (iV (x+y))),trivial⟩ (Aa 2 (AiT (.lit (Ah (x+y))) κ)))
theorem AjW {c:Nat->Int} {n:Nat} (hl:n=0\/c (n-1)≠0) (h:n≠0):(!decide ((c (n-1)).sign=0))=true:=by
 have h9:¬(c (n-1)).sign=0:=λe=>by
  rcases hl with g|g
  exact h g
  exact g (Vd.1 e)
 rw[decide_eq_false h9];rfl
theorem Oe (n:Nat) (c:Nat->Int) (hn:n<=25) (hc:∀i,i<n->Bm (c i)) (hl:n=0\/c (n-1)≠0):AF Tryz.prog 105 [Cr n c] (.bool true):=by
 refine Ai func105 rfl λB D0 hA0=>?_
 refine Aa 14 (Po [0,5,6,7] n (λi=>True) (λi=>⟨[(0,Cr n c),(5,Cr n c),(6,.int (n:Int)),(7,.int (i:Int))],[],0,33⟩) trivial (λi hin hFi J1 hJ1=>?_))
 refine Aa 6 (Cu 8 ((i:Int)<(n:Int)) (λhx1 hx1d=>?_) (λhx1 hx1d=>?_))
 ·
  exact Aa 7 (Dm i n (Aa 8 (Aj (Du (c i) (hc _ ω)) (Aa 8 (Ao ((i:Int)+1) ((i+1:Nat):Int) (Aa 2 (Ew [0,5,6,7] [] 0 0 hA0 [] trivial (hJ1 ω trivial))))))))
 ·
  refine Aa 12 (Ev 18 (decide ((n:Int)<=25)) true (decide_eq_true ω) (Aa 4 (Cu 22 ((n:Int)=0) (λhx2 hx2d=>?_) (λhx2 hx2d=>?_))))
  ·
   exact Aa 14 (Br)
  ·
   exact Aa 3 (Ao ((n:Int)-1) ((n-1:Nat):Int) (Dm (n-1) n (Aa 1 (Aj (Eo (c (n-1)) (hc _ ω)) (Aa 7 (Ch (.bool (!decide ((c (n-1)).sign=0))) (congrArg AV.bool (AjW hl ω))))))))
def Cv (c:Nat->Int):Nat->Int
 |0=>0
 |n+1=>max (Cv c n) (bitLen (c n).natAbs:Int)
theorem Ua {c:Nat->Int} {k:Nat}:∀n,(∀i,i<n->bitLen (c i).natAbs<=k)->0<=Cv c n/\Cv c n<=(k:Int)
 |0,_=>⟨Int.le_refl _,by show (0:Int)<=_;omega⟩
 |n+1,h=>by
  have h1:=Ua n λi hi=>h i ω
  have h2:=h n (Nat.lt_succ_self n)
  unfold Cv
  omega
theorem rC (n:Nat) (c:Nat->Int) (hn:n<=1000000) (hc:∀i,i<n->Bm (c i)):AF Tryz.prog 108 [Cr n c] (.int (Cv c n)):=by
 refine Ai func108 rfl λB D0 hA0=>?_
 refine Aa 19 (Po [3,6,7,8] n (λi=>True) (λi=>⟨[(3,.int (Cv c i)),(6,Cr n c),(7,.int (n:Int)),(8,.int (i:Int))],[],0,18⟩) trivial (λi hin hFi J1 hJ1=>?_))
 refine Aa 6 (Cu 9 ((i:Int)<(n:Int)) (λhx1 hx1d=>?_) (λhx1 hx1d=>?_))
 ·
  exact Aa 7 (Dm i n (Aa 8 (Aj (rE (c i) (hc _ ω)) (Cc (.int (max (Cv c i) (bitLen (c i).natAbs:Int))) .none (Ja (.tmp 12) (.tmp 14) #[3,3] κ (Cv c i) (bitLen (c i).natAbs:Int) κ κ) (Aa 5 (Ao ((i:Int)+1) ((i+1:Nat):Int) (Aa 2 (Ew [3,6,7,8] [] 0 0 hA0 [] trivial (hJ1 ω trivial)))))))))
 ·
  exact Aa 13 (Ch (.int (Cv c i)) (congrArg (λz=>AV.int (Cv c z)) (show _=n by omega)))
abbrev Sn (l:List Int) (i:Nat):Int:=l.getD i 0
theorem uX (l:List Int) (hl:0<l.length) (hn:l.length<=25) (hc:∀i,Bg (l.getD i 0)):AF Tryz.prog 61 [Af l] (.tup [Cr (Ay (Sn l) l.length) (Sn l),.int 0]):=by
 have hle:=Fw (Sn l) l.length
 refine Ai func61 rfl λB D0 hA0=>?_
 refine Aa 20 (Wg [4,7,8,9] (λm s=>∃i,i<=l.length/\m=l.length-i/\True/\((i=0/\s=⟨[(4,.lit (.slice none 0 0)),(7,Af l),(8,.int (l.length:Int)),(9,.int ((0:Nat):Int))],[],0,25⟩)\/(0<i/\s=⟨[(4,.osl 9 2 i),(7,Af l),(8,.int (l.length:Int)),(9,.int (i:Int))],[(9,.vec 68 2 i (λxi=>WA (Sn l xi)))],10,25⟩))) l.length ⟨0,Nat.zero_le _,rfl,trivial,.inl ⟨rfl,κ⟩⟩ ?_)
 rintro _ _ ⟨i,hin,rfl,hFi,(⟨hi0,rfl⟩|⟨hi0,rfl⟩)⟩ J1 hJ1
 ·
  subst hi0
  refine Aa 6 (Cu 10 (((0:Nat):Int)<(l.length:Int)) (λhx1 hx1d=>?_) (λhx1 hx1d=>?_))
  ·
   refine Aa 7 (Dm 0 l.length (Aa 7 (Aj (Cg ((l).getD 0 0) (hc _).1 (hc _).2) (Iu 0 68 2 1 (λ_=> .lit (Ah ((l).getD 0 0))) ?_))))
   refine Sk 24 68 68 2 1 0 1 (λ_=> .lit (Ah ((l).getD 0 0))) (λxi=>WA (Sn l xi)) (λi hi=>by(obtain rfl:i=0:=(ω));rfl) ?_
   exact Aa 5 (Ao (((0:Nat):Int)+1) ((0+1:Nat):Int) (Aa 2 (Ew [4,7,8,9] [(1,9)] 10 0 hA0 [(68,2,1,(λ_=> .lit (Ah ((l).getD 0 0)))),(68,2,1,(λxi=>WA (Sn l xi)))] ⟨(Bi λ_ _=>rfl),(Bi λ_ _=>rfl),trivial⟩ (hJ1 _ _ (by omega:l.length-(0+1)<l.length-0) ⟨0+1,ω,rfl,trivial,.inr ⟨Nat.succ_pos _,rfl⟩⟩))))
  ·
   refine Aa 6 ?_
   exfalso;omega
 ·
  refine Aa 6 (Cu 10 ((i:Int)<(l.length:Int)) (λhx2 hx2d=>?_) (λhx2 hx2d=>?_))
  ·
   refine Aa 7 (Dm i l.length (Aa 7 (Aj (Cg ((l).getD i 0) (hc _).1 (hc _).2) (Iu 10 68 2 1 (λ_=> .lit (Ah ((l).getD i 0))) ?_))))
   refine Lz 24 68 68 2 i 1 9 10 11 (λxi=>WA (Sn l xi)) (λ_=> .lit (Ah ((l).getD i 0))) (λxi=>WA (Sn l xi)) (λi hi=>rfl) (λi hi=>by(obtain rfl:i=0:=(ω));rfl) ?_
   exact Aa 5 (Ao ((i:Int)+1) ((i+1:Nat):Int) (Aa 2 (Ew [4,7,8,9] [(11,9)] 10 0 hA0 [(68,2,1,(λ_=> .lit (Ah ((l).getD i 0)))),(68,2,i+1,(λxi=>WA (Sn l xi)))] ⟨(Bi λ_ _=>rfl),(Bi λ_ _=>rfl),trivial⟩ (hJ1 _ _ (by omega:l.length-(i+1)<l.length-i) ⟨i+1,ω,rfl,trivial,.inr ⟨Nat.succ_pos _,rfl⟩⟩))))
  ·
   refine Aa 6 ?_
   have hie:i=l.length:=by omega
   subst hie
   exact Jg 9 [4] 68 2 l.length (λxi=>WA (Sn l xi)) (Bi λ_ _=>rfl) (Aa 3 (Aj (rD l.length (Sn l) ω (λi _=>Io (hc i))) (Aa 11 (Ev 23 (decide ((25:Int)<(Ay (Sn l) l.length:Int))) false (decide_eq_false ω) (Aa 11 (Br))))))
def Lf (a b:Int) (c:Nat->Int) (t k:Nat):Int:=if k<t then (if k=0 then 0 else c (k-1)*b)+c k*a else if k=t/\0<t then c (t-1)*b else 0
theorem Acr (a b:Int) (c:Nat->Int) (k:Nat):WA 0=WA (Lf a b c 0 k):=by
 unfold Lf
 rw[if_neg (Nat.not_lt_zero k),if_neg ω]
theorem Acq (a b:Int) (c:Nat->Int) (t k:Nat):(if k=t+1 then WA (c t*b) else if k=t then WA (Lf a b c t t+c t*a) else WA (Lf a b c t k))=WA (Lf a b c (t+1) k):=by
 by_cases h1:k=t+1
 rw[if_pos h1]
 unfold Lf
 rw[if_neg ω,if_pos ω,Nat.add_sub_cancel]
 rw[if_neg h1]
 by_cases h2:k=t
 subst h2
 rw[if_pos rfl]
 unfold Lf
 rw[if_neg (Nat.lt_irrefl k),if_pos (Nat.lt_succ_self k)]
 by_cases h3:k=0
 subst h3;rw[if_neg ω,if_pos rfl]
 rw[if_pos ω,if_neg h3]
 rw[if_neg h2]
 by_cases h3:k<t
 rw[Lf,Lf,if_pos h3,if_pos (show k<t+1 by omega)]
 rw[Lf,Lf,if_neg h3,if_neg ω,if_neg ω,if_neg ω]
def Lb (d:Int):Nat->Int
 |0=>1
 |k+1=>Lb d k*d
theorem Ww (d:Int):∀k,Lb d k=d^k
 |0=>by rw[Int.pow_zero];rfl
 |k+1=>by rw[Lb,Ww d k,Int.pow_succ]
def cN (p:Nat->Int) (m:Nat) (a b d:Int):Nat->Nat->Int
 |0,_=>p (m-1)
 |j+1,k=>Lf a b (cN p m a b d j) (j+1) k+(if k=0 then p (m-2-j)*Lb d (j+1) else 0)
theorem AeY (p:Nat->Int) (m:Nat) (a b d:Int) (j k:Nat) {q:Nat} (hq:q=m-2-j):(if k=0 then WA (Lf a b (cN p m a b d j) (j+1) 0+p q*Lb d (j+1)) else WA (Lf a b (cN p m a b d j) (j+1) k))=WA (cN p m a b d (j+1) k):=by
 subst hq
 rw[cN]
 by_cases h:k=0
 subst h;rw[if_pos rfl,if_pos rfl]
 rw[if_neg h,if_neg h,Int.add_zero]
theorem Acp {a b:Int} {c:Nat->Int} {e:Nat} (ha:Bg a) (hb:Bg b) (hc:∀k,Bd e (c k)) (t k:Nat):Bd (e+64) (Lf a b c t k):=by
 have h1:∀k,Bd (e+63) (c k*a):=λk=>(hc k).mul (Bd.int ha.1 ha.2)
 have h2:∀k,Bd (e+63) (c k*b):=λk=>(hc k).mul (Bd.int hb.1 hb.2)
 unfold Lf
 split
 refine Bd.add (e:=e+63) ?_ (h1 k)
 split
 exact Bd.zero _
 exact h2 _
 split
 exact(h2 _).mono ω
 exact Bd.zero _
theorem jW {p:Nat->Int} {m:Nat} {a b d:Int} (hp:∀i,Bg (p i)) (ha:Bg a) (hb:Bg b) (hd:Bg d):∀j k,Bd (70*j+63) (cN p m a b d j k)
 |0,_=>Bd.int (hp _).1 (hp _).2
 |j+1,k=>by
  have h1:=Acp ha hb (jW (m:=m) hp ha hb hd j) (j+1) k
  rw[cN]
  refine(Bd.add (e:=70*j+63+64) (h1.mono ζ) ?_).mono ω
  split
  rw[Ww];exact((Bd.int (hp _).1 (hp _).2).mul ((Bd.int hd.1 hd.2).pow (j+1))).mono ω
  exact Bd.zero _
def c3 (a b d:Int):Nat->Int
 |0=>a
 |1=>b
 |_=>d
theorem AgH {a b d:Int} (ha:Bg a) (hb:Bg b) (hd:Bg d):∀i,Bg (c3 a b d i)
 |0=>ha
 |1=>hb
 |_+2=>hd
theorem AdJ {c:Nat->Int} {n:Nat} (h:∀i,Bg (c i)):0<=Cv c n/\Cv c n<=64:=Ua (k:=64) n λi _=>by
 have:=(Bd.int (h i).1 (h i).2).le
 exact Em.2 ω
theorem iX (k0:Nat) (p:Nat->Int) (a b d:Int) (hm:k0<=5) (hp:∀i,Bg (p i)) (hl:p k0≠0) (ha:Bg a) (hb:Bg b) (hd:Bg d) (hdp:0<d):AF Tryz.prog 62 [Cr (k0+1) p,WA a,WA b,WA d] (.tup [Cr (Ay (cN p (k0+1) a b d k0) (k0+1)) (cN p (k0+1) a b d k0),.int 0]):=by
 have hsp:=AdJ (n:=k0+1) hp
 have hs3:=AdJ (n:=3) (AgH ha hb hd)
 have hml:0<=((k0+1-1:Nat):Int)*(Cv (c3 a b d) 3+1)/\((k0+1-1:Nat):Int)*(Cv (c3 a b d) 3+1)<=325:=⟨Int.mul_nonneg ω ω,Int.le_trans (Int.mul_le_mul (show ((k0+1-1:Nat):Int)<=5 by omega) (show Cv (c3 a b d) 3+1<=65 by omega) ω ω) δ⟩
 have fc:∀j k,j<=6->Bm (cN p (k0+1) a b d j k):=λj k hj=>(jW hp ha hb hd j k).fit ω
 have fi:∀j t k,j<=6->Bd 600 (Lf a b (cN p (k0+1) a b d j) t k):=λj t k hj=>(Acp ha hb (jW hp ha hb hd j) t k).mono ω
 have fm:∀j k y,j<=6->Bg y->Bd 600 (cN p (k0+1) a b d j k*y):=λj k y hj hy=>((jW hp ha hb hd j k).mul (Bd.int hy.1 hy.2)).mono ω
 have fd:∀j,j<=6->Bd 500 (Lb d j):=λj hj=>by rw[Ww];exact((Bd.int hd.1 hd.2).pow j).mono ω
 have fp:∀i j,j<=6->Bd 600 (p i*Lb d j):=λi j hj=>((Bd.int (hp i).1 (hp i).2).mul (fd j hj)).mono ω
 refine Ai func62 rfl λB D0 hA0=>?_
 refine Aa 13 (Aj (Oe (k0+1) p ω (λi _=>Io (hp i)) (.inr hl)) (Aa 3 (Aj (Du _ (Io ha)) (Aa 4 (Aj (Du _ (Io hb)) (Aa 4 (Aj (Du _ (Io hd)) (Aa 11 (Aj (Eo d (Io hd)) (Aa 3 (Ev 37 (decide (d.sign<=0)) false (decide_eq_false (by rw[Int.sign_eq_one_of_pos hdp];decide)) (Aa 11 (Ev 40 (decide (((k0+1:Nat):Int)=0)) false (decide_eq_false ω) (Aa 5 (Be [(1,_,.none),(4,.int ((k0+1-1:Nat):Int),.none),(8,.osl 3 2 3,(.new 3 (.vec 68 2 3 (λxi=>WA (c3 a b d xi))))),(9,.int (Cv (c3 a b d) 3),(.read 3)),(10,.int (Cv (c3 a b d) 3+1),.none),(11,.int (((k0+1-1:Nat):Int)*(Cv (c3 a b d) 3+1)),.none),(12,.int (Cv p (k0+1)+((k0+1-1:Nat):Int)*(Cv (c3 a b d) 3+1)),.none),(13,.int (Cv p (k0+1)+((k0+1-1:Nat):Int)*(Cv (c3 a b d) 3+1)+8),.none),(14,.bool false,.none)] [0,5,6,7,55] ⟨Am (rC (k0+1) p ω (λi _=>Io (hp i))),As (.int .i64 (IntKind.wrap .i64 (((k0+1:Nat):Int)-1))) η,Bo (Dj 105 3 #[(0,(.tmp 46)),(1,(.tmp 47)),(2,(.tmp 48))] κ underlying105 2 sizeOf68 _ zeroValue68 κ β β β 3 [.bool (decide (a<0)),.lit (.string (Bq (a).natAbs)),.bool (decide (b<0)),.lit (.string (Bq (b).natAbs)),.bool (decide (d<0)),.lit (.string (Bq (d).natAbs))] κ (λxi=>WA (c3 a b d xi)) κ),Bo (Jr 108 #[.tmp 49] #[105] κ (λ_ _=>by kernel_rfl) 3 (.vec 68 2 3 (λxi=>WA (c3 a b d xi))) κ (λ_ _ _ _ h=>by cases h;exact(Bi λ_ _=>rfl)) [.osl 3 2 3] κ [.sl 2 3 (λxi=>WA (c3 a b d xi))] κ (.int .i64 (Cv (c3 a b d) 3)) (rC 3 (c3 a b d) ω (λi _=>Io (AgH ha hb hd i)))),As (.int .i64 (IntKind.wrap .i64 (Cv (c3 a b d) 3+1))) η,As (.int .i64 (IntKind.wrap .i64 (((k0+1-1:Nat):Int)*(Cv (c3 a b d) 3+1)))) η,As (.int .i64 (IntKind.wrap .i64 (Cv p (k0+1)+((k0+1-1:Nat):Int)*(Cv (c3 a b d) 3+1)))) η,As (.int .i64 (IntKind.wrap .i64 (Cv p (k0+1)+((k0+1-1:Nat):Int)*(Cv (c3 a b d) 3+1)+8))) η,kQ (b:=decide ((65536:Int)<Cv p (k0+1)+((k0+1-1:Nat):Int)*(Cv (c3 a b d) 3+1)+8)) (decide_eq_false ω),trivial⟩ (Aa 10 (Be [(3,.int ((k0+1-1:Nat):Int),.none),(4,Ax (Cr (k0+1) p) (k0+1-1),.none),(6,.osl 5 2 1,(.new 5 (.vec 68 2 1 (λ_=> .lit (Ah (p (k0+1-1))))))),(7,_,.none)] [0,5,6,7,10,11,12] ⟨As (.int .i64 (IntKind.wrap .i64 (((k0+1:Nat):Int)-1))) η,Eg (k0+1-1) (k0+1),Bo (Dj 106 1 #[(0,(.tmp 61))] κ underlying106 2 sizeOf68 _ zeroValue68 κ β β β 5 [.bool (decide (p (k0+1-1)<0)),.lit (.string (Bq (p (k0+1-1)).natAbs))] κ (λ_=> .lit (Ah (p (k0+1-1)))) κ),Am (Cg 1 δ δ),trivial⟩ (Aa 6 (Ao (((k0+1:Nat):Int)-2) (((k0-0:Nat):Int)-1) (Aa 4 (Po [0,5,6,7,10,11,12,13] k0 (λj=>True) (λj=>⟨[(0,Cr (k0+1) p),(5,.ptr 0 0),(6,.ptr 1 0),(7,.ptr 2 0),(10,.ptr 4 0),(11,.osl 5 2 (j+1)),(12,.ptr 6 0),(13,.int (((k0-j:Nat):Int)-1))],[(0,.box 68 [.bool (decide (a<0)),.lit (.string (Bq (a).natAbs))]),(1,.box 68 [.bool (decide (b<0)),.lit (.string (Bq (b).natAbs))]),(2,.box 68 [.bool (decide (d<0)),.lit (.string (Bq (d).natAbs))]),(3,.vec 68 2 3 (λxi=>WA (c3 a b d xi))),(4,.box 158 [.int 0]),(5,.vec 68 2 (j+1) (λxi=>WA (cN p (k0+1) a b d j xi))),(6,.box 68 [.bool (decide (Lb d j<0)),.lit (.string (Bq (Lb d j).natAbs))])],7,121⟩) trivial (λj hjn hFj J1 hJ1=>?_))))))))))))))))))))))
 refine Aa 7 (Cu 68 ((0:Int)<=((k0-j:Nat):Int)-1) (λhx1 hx1d=>?_) (λhx1 hx1d=>?_))
 ·
  refine Aa 9 (Cc (.lit (Ah (Lb d (j+1)))) (.set 4 (.box 158 [.int 0])) (Iq 109 #[.tmp 10,.tmp 71,.tmp 72] #[158,68,68] κ (λ_ _=>by kernel_rfl) 4 158 [.int .i64 0] κ [.lit (Ah (Lb d j)),.lit (Ah d)] κ κ (Ah (Lb d (j+1))) (Wj (Lb d j) d ((fd j ω).fit ω) (Io hd) ((fd (j+1) ω).fit ω))) (Aa 7 (Ao (((j+1:Nat):Int)+1) ((j+1+1:Nat):Int) (Cc (.osl 7 2 (j+1+1)) (.new 7 (.vec 68 2 (j+1+1) (λ_=> .lit (Ah 0)))) (Jy 106 (.tmp 76) (.tmp 76) κ underlying106 2 24 (.agg #[.bool false,.string ⟨#[]⟩]) κ κ δ ((j+1+1:Nat):Int) (j+1+1) ω κ κ ω ω ω 7 (.lit (Ah 0)) κ) (Aa 12 (Sp 7 68 2 (j+1+1) (λ_=> .lit (Ah 0)) (λxi=>WA (Lf a b (cN p (k0+1) a b d j) 0 xi)) (λx9 hx9=>Acr _ _ _ _) (Po [0,5,6,7,10,12,13,14,78,79,80] (j+1) (λt=>True) (λt=>⟨[(0,Cr (k0+1) p),(5,.ptr 0 0),(6,.ptr 1 0),(7,.ptr 2 0),(10,.ptr 4 0),(12,.ptr 6 0),(13,.int (((k0-j:Nat):Int)-1)),(14,.osl 7 2 (j+1+1)),(78,.osl 5 2 (j+1)),(79,.int ((j+1:Nat):Int)),(80,.int (t:Int))],[(0,.box 68 [.bool (decide (a<0)),.lit (.string (Bq (a).natAbs))]),(1,.box 68 [.bool (decide (b<0)),.lit (.string (Bq (b).natAbs))]),(2,.box 68 [.bool (decide (d<0)),.lit (.string (Bq (d).natAbs))]),(3,.vec 68 2 3 (λxi=>WA (c3 a b d xi))),(4,.box 158 [.int 0]),(5,.vec 68 2 (j+1) (λxi=>WA (cN p (k0+1) a b d j xi))),(6,.box 68 [.bool (decide (Lb d (j+1)<0)),.lit (.string (Bq (Lb d (j+1)).natAbs))]),(7,.vec 68 2 (j+1+1) (λxi=>WA (Lf a b (cN p (k0+1) a b d j) t xi)))],8,121⟩) trivial (λt htn hFt J2 hJ2=>?_))))))))
  refine Aa 6 (Cu 81 ((t:Int)<((j+1:Nat):Int)) (λhx2 hx2d=>?_) (λhx2 hx2d=>?_))
  ·
   exact Aa 8 (Dm t (j+1) (Cc (.lit (Ah (cN p (k0+1) a b d j t))) (.read 5) (Az 68 (.tmp 83) κ isAgg68 2 sizeOf68 5 t κ 68 (j+1) (λxi=>WA (cN p (k0+1) a b d j xi)) κ ω) (Aa 6 (Be [(4,Ax (.osl 7 2 (j+1+1)) t,.none),(5,.lit (Ah (Lf a b (cN p (k0+1) a b d j) t t)),(.read 7)),(8,.lit (Ah (cN p (k0+1) a b d j t*a)),(.set 4 (.box 158 [.int 0]))),(9,.lit (Ah (Lf a b (cN p (k0+1) a b d j) t t+cN p (k0+1) a b d j t*a)),(.set 4 (.box 158 [.int 0]))),(10,Ax (.osl 7 2 (j+1+1)) t,.none),(11,.lit Go.undef,(.set 7 (.vec 68 2 (j+1+1) (λxi=>if xi=t then .lit (Ah (Lf a b (cN p (k0+1) a b d j) t t+cN p (k0+1) a b d j t*a)) else (λxi=>WA (Lf a b (cN p (k0+1) a b d j) t xi)) xi))))] [0,5,6,7,10,12,13,14,15,16,78,79,80] ⟨Eg t (j+1+1),Bo (Az 68 (.tmp 89) κ isAgg68 2 sizeOf68 7 t κ 68 (j+1+1) (λxi=>WA (Lf a b (cN p (k0+1) a b d j) t xi)) κ ω),Bo (Iq 109 #[.tmp 10,.tmp 91,.tmp 92] #[158,68,68] κ (λ_ _=>by kernel_rfl) 4 158 [.int .i64 0] κ [.lit (Ah (cN p (k0+1) a b d j t)),.lit (Ah a)] κ κ (Ah (cN p (k0+1) a b d j t*a)) (Wj _ _ (fc j _ ω) (Io ha) ((fm j _ _ ω ha).fit ω))),Bo (Iq 110 #[.tmp 10,.tmp 90,.tmp 93] #[158,68,68] κ (λ_ _=>by kernel_rfl) 4 158 [.int .i64 0] κ [.lit (Ah (Lf a b (cN p (k0+1) a b d j) t t)),.lit (Ah (cN p (k0+1) a b d j t*a))] κ κ (Ah (Lf a b (cN p (k0+1) a b d j) t t+cN p (k0+1) a b d j t*a)) (qU _ _ ((fi j _ _ ω).fit ω) ((fm j _ _ ω ha).fit ω) (((fi j _ _ ω).add (fm j _ _ ω ha)).fit ω))),Eg t (j+1+1),Bo (Eb 68 (.tmp 95) (.tmp 94) κ 2 sizeOf68 7 t κ 68 (j+1+1) (λxi=>WA (Lf a b (cN p (k0+1) a b d j) t xi)) κ ω κ κ κ (.lit (Ah (Lf a b (cN p (k0+1) a b d j) t t+cN p (k0+1) a b d j t*a))) κ),trivial⟩ (Aa 4 (Ao ((t:Int)+1) ((t+1:Nat):Int) (Aa 2 (Cc (.lit (Ah (cN p (k0+1) a b d j t*b))) (.set 4 (.box 158 [.int 0])) (Iq 109 #[.tmp 10,.tmp 99,.tmp 100] #[158,68,68] κ (λ_ _=>by kernel_rfl) 4 158 [.int .i64 0] κ [.lit (Ah (cN p (k0+1) a b d j t)),.lit (Ah b)] κ κ (Ah (cN p (k0+1) a b d j t*b)) (Wj _ _ (fc j _ ω) (Io hb) ((fm j _ _ ω hb).fit ω))) (Dm (t+1) (j+1+1) (Cc (.lit Go.undef) (.set 7 (.vec 68 2 (j+1+1) (λxi=>if xi=t+1 then .lit (Ah (cN p (k0+1) a b d j t*b)) else (λxi=>if xi=t then .lit (Ah (Lf a b (cN p (k0+1) a b d j) t t+cN p (k0+1) a b d j t*a)) else (λxi=>WA (Lf a b (cN p (k0+1) a b d j) t xi)) xi) xi))) (Eb 68 (.tmp 102) (.tmp 101) κ 2 sizeOf68 7 (t+1) κ 68 (j+1+1) (λxi=>if xi=t then .lit (Ah (Lf a b (cN p (k0+1) a b d j) t t+cN p (k0+1) a b d j t*a)) else (λxi=>WA (Lf a b (cN p (k0+1) a b d j) t xi)) xi) κ ω κ κ κ (.lit (Ah (cN p (k0+1) a b d j t*b))) κ) (Aa 4 (Ao ((t:Int)+1) ((t+1:Nat):Int) (Aa 2 (Sp 7 68 2 (j+1+1) (λxi=>if xi=t+1 then .lit (Ah (cN p (k0+1) a b d j t*b)) else (λxi=>if xi=t then .lit (Ah (Lf a b (cN p (k0+1) a b d j) t t+cN p (k0+1) a b d j t*a)) else (λxi=>WA (Lf a b (cN p (k0+1) a b d j) t xi)) xi) xi) (λxi=>WA (Lf a b (cN p (k0+1) a b d j) (t+1) xi)) (λx9 hx9=>Acq _ _ _ _ _) (Ew [0,5,6,7,10,12,13,14,78,79,80] [(0,0),(1,1),(2,2),(3,3),(4,4),(5,5),(6,6),(7,7)] 8 0 hA0 [(68,2,3,(λxi=>WA (c3 a b d xi))),(68,2,j+1,(λxi=>WA (cN p (k0+1) a b d j xi))),(68,2,j+1+1,(λxi=>WA (Lf a b (cN p (k0+1) a b d j) (t+1) xi)))] ⟨(Bi λ_ _=>rfl),(Bi λ_ _=>rfl),(Bi λ_ _=>rfl),trivial⟩ (hJ2 ω trivial))))))))))))))))
  ·
   refine Aa 6 ?_
   have hte:t=j+1:=by omega
   subst hte
   exact Aa 1 (Be [(2,Ax (.osl 7 2 (j+1+1)) 0,.none),(3,.lit (Ah (Lf a b (cN p (k0+1) a b d j) (j+1) 0)),(.read 7)),(6,Ax (Cr (k0+1) p) (((k0-j:Nat):Int)-1).toNat,.none),(9,.lit (Ah (p ((((k0-j:Nat):Int)-1).toNat)*(Lb d (j+1)))),(.set 4 (.box 158 [.int 0]))),(10,.lit (Ah (Lf a b (cN p (k0+1) a b d j) (j+1) 0+p ((((k0-j:Nat):Int)-1).toNat)*(Lb d (j+1)))),(.set 4 (.box 158 [.int 0]))),(11,Ax (.osl 7 2 (j+1+1)) 0,.none),(12,.lit Go.undef,(.set 7 (.vec 68 2 (j+1+1) (λxi=>if xi=0 then .lit (Ah (Lf a b (cN p (k0+1) a b d j) (j+1) 0+p ((((k0-j:Nat):Int)-1).toNat)*(Lb d (j+1)))) else (λxi=>WA (Lf a b (cN p (k0+1) a b d j) (j+1) xi)) xi))))] [0,5,6,7,10,12,13,14] ⟨Eg 0 (j+1+1),Bo (Az 68 (.tmp 106) κ isAgg68 2 sizeOf68 7 0 κ 68 (j+1+1) (λxi=>WA (Lf a b (cN p (k0+1) a b d j) (j+1) xi)) κ ω),fZ (((k0-j:Nat):Int)-1) (((k0-j:Nat):Int)-1).toNat (k0+1),Bo (Iq 109 #[.tmp 10,.tmp 111,.tmp 112] #[158,68,68] κ (λ_ _=>by kernel_rfl) 4 158 [.int .i64 0] κ [.lit (Ah (p ((((k0-j:Nat):Int)-1).toNat))),.lit (Ah (Lb d (j+1)))] κ κ (Ah (p ((((k0-j:Nat):Int)-1).toNat)*(Lb d (j+1)))) (Wj _ _ (Io (hp _)) ((fd _ ω).fit ω) ((fp _ _ ω).fit ω))),Bo (Iq 110 #[.tmp 10,.tmp 107,.tmp 113] #[158,68,68] κ (λ_ _=>by kernel_rfl) 4 158 [.int .i64 0] κ [.lit (Ah (Lf a b (cN p (k0+1) a b d j) (j+1) 0)),.lit (Ah (p ((((k0-j:Nat):Int)-1).toNat)*(Lb d (j+1))))] κ κ (Ah (Lf a b (cN p (k0+1) a b d j) (j+1) 0+p ((((k0-j:Nat):Int)-1).toNat)*(Lb d (j+1)))) (qU _ _ ((fi j _ _ ω).fit ω) ((fp _ _ ω).fit ω) (((fi j _ _ ω).add (fp _ _ ω)).fit ω))),Eg 0 (j+1+1),Bo (Eb 68 (.tmp 115) (.tmp 114) κ 2 sizeOf68 7 0 κ 68 (j+1+1) (λxi=>WA (Lf a b (cN p (k0+1) a b d j) (j+1) xi)) κ ω κ κ κ (.lit (Ah (Lf a b (cN p (k0+1) a b d j) (j+1) 0+p ((((k0-j:Nat):Int)-1).toNat)*(Lb d (j+1))))) κ),trivial⟩ (Aa 9 (Ao (((k0-j:Nat):Int)-1-1) (((k0-(j+1):Nat):Int)-1) (Aa 2 (Sp 7 68 2 (j+1+1) (λxi=>if xi=0 then .lit (Ah (Lf a b (cN p (k0+1) a b d j) (j+1) 0+p ((((k0-j:Nat):Int)-1).toNat)*(Lb d (j+1)))) else (λxi=>WA (Lf a b (cN p (k0+1) a b d j) (j+1) xi)) xi) (λxi=>WA (cN p (k0+1) a b d (j+1) xi)) (λx9 hx9=>AeY _ _ _ _ _ _ _ ω) (Ew [0,5,6,7,10,11,12,13] [(0,0),(1,1),(2,2),(3,3),(4,4),(7,5),(6,6)] 7 0 hA0 [(68,2,3,(λxi=>WA (c3 a b d xi))),(68,2,j+1,(λxi=>WA (cN p (k0+1) a b d j xi))),(68,2,j+1+1,(λxi=>WA (cN p (k0+1) a b d (j+1) xi)))] ⟨(Bi λ_ _=>rfl),(Bi λ_ _=>rfl),(Bi λ_ _=>rfl),trivial⟩ (hJ1 ω trivial)))))))
 ·
  refine Aa 6 ?_
  have hje:j=k0:=by omega
  subst hje
  refine Jg 5 [11] 68 2 (j+1) (λxi=>WA (cN p (j+1) a b d j xi)) (Bi λ_ _=>rfl) (Aa 3 (Aee 7 func111 (λ_ hD3=>?_)))
  exact Aa 23 (Aj (rD (j+1) (cN p (j+1) a b d j) ω (λi _=>fc _ i ω)) (Aa 5 (qM (Aa 7 (Br)))))
theorem Aef (n:Int):∃r,Shd [.one .i] r/\AF Tryz.prog 190 [.int n] r:=by
 refine Bz func190 rfl ?_
 refine Ab 14 (tsx 3 ?_ ?_)
 exact Ab 9 (iN)
 refine Ab 8 (tsx 6 ?_ ?_)
 exact Ab 9 (iN)
 exact Ab 10 (iN)
noncomputable def AiU (n:Int):Value:=chV 190 [.one .i] [.int n]
theorem Aay (n:Int):AF Tryz.prog 190 [.int n] (.lit (noV [.one .i] (AiU n))):=fC (Aef n)
theorem Aeg (a:V3) (b:V3) (c:V3):∃r,Shd [.one .i,.one .i] r/\AF Tryz.prog 162 [Bj a,Bj b,Bj c] r:=by
 refine Bz func162 rfl ?_
 refine Ab 13 (gs (Aj (Qt a) ·) (Ab 2 (tsx 11 ?_ ?_)))
 exact Ab 20 (iN)
 refine Ab 1 (gs (Aj (Qt b) ·) (Ab 3 (tsx 16 ?_ ?_)))
 exact Ab 15 (iN)
 refine Ab 1 (gs (Aj (Qt c) ·) (Ab 4 (tsx 20 ?_ ?_)))
 exact Ab 9 (iN)
 exact Ab 28 (exk (Aay (Ac (Ac ((Ac (b.x-a.x))*(Ac (c.y-a.y)))-Ac ((Ac (b.y-a.y))*(Ac (c.x-a.x)))))) λv3 hv3=>(gs (Aj hv3 ·) (Ab 5 (iN))))
noncomputable def AiV (a:V3) (b:V3) (c:V3):Value:=chV 162 [.one .i,.one .i] [Bj a,Bj b,Bj c]
theorem Aaz (a:V3) (b:V3) (c:V3):AF Tryz.prog 162 [Bj a,Bj b,Bj c] (.lit (noV [.one .i,.one .i] (AiV a b c))):=fC (Aeg a b c)
theorem AbU (a:V3) (b:V3) (c:V3):∃r,Shd [.one .i] r/\AF Tryz.prog 127 [Bj a,Bj b,Bj c] r:=by
 refine Bz func127 rfl ?_
 exact Ab 13 (exk (Aaz a b c) λv1 hv1=>(gs (Aj hv1 ·) (Ab 14 (iN))))
noncomputable def AhE (a:V3) (b:V3) (c:V3):Value:=chV 127 [.one .i] [Bj a,Bj b,Bj c]
theorem zV (a:V3) (b:V3) (c:V3):AF Tryz.prog 127 [Bj a,Bj b,Bj c] (.lit (noV [.one .i] (AhE a b c))):=fC (AbU a b c)
structure Vs where
 n:Nat
 f:Nat->V3
abbrev Bs (l:Vs):AV:= .sl 3 l.n λi=>Bj (l.f i)
end Go.Proofs.YtbggmndaahbojaaGreat