/- Part 24 of the proof of EX.row_holds, joined by program: no condition beyond the row's own. -/
import Derived.Test.YtkcnbaeoahoglaaGreatX23
set_option maxRecDepth 100000
set_option maxHeartbeats 40000000
namespace Go.Proofs.YtkcnbaeoahoglaaGreat
open Go.Proofs.Tryz
open Go.RowKit
abbrev Hw (p:Pr):Int:=Et p.acts p.acts.length
abbrev Tk (p:Pr) (a:Int):V3:=((p.acts.getD (p.acts.length-1) Ac.none).moves.getD a.toNat Mv.none).to
abbrev Ll (p:Pr) (a:Int):List Sg:=Lr p p.acts.length a.toNat
noncomputable abbrev Hz (p:Pr) (a f:Int):List Sg×Int:=My (Ll p a) f (Hw p)
def Hv (p:Pr) (d:De) (a:Int):List Sg:=[Lj (Tk p a) (Tk p a) (Hw p) (Kt p d) 0]
noncomputable def Kh (p:Pr) (d:De) (a f:Int):List Sg×Int:=if f<Hw p then (if (Hz p a f).2=0 then Fe (Hz p a f).1 (Hv p d a) else ([],(Hz p a f).2)) else (Hv p d a,0)
structure Fj (p:Pr) (d:De) (a f:Int):Prop where
 h:aL p d
 k:0<p.acts.length
 a0:0<=a
 a1:a<(p.names.length:Int)
 u:Kt p d<=3600000
 f0:0<=f
 f1:f<=Hw p
theorem Fj.own {p:Pr} {d:De} {a f:Int} (h:Fj p d a f):AbR p a.toNat (Ll p a):=Ac4 h.h.1 h.k (by have:=h.a0;have:=h.a1;omega)
theorem Fj.zero {p:Pr} {d:De} {a:Int} (h:Fj p d a 0):Hz p a 0=(Ll p a,0):=by
 have ho:=h.own
 have ht:=oQ ho.ok
 refine tG ho.pin ho.ok λi hi=>⟨ho.one i hi,?_,?_⟩
 have:=ht.1 i hi
 have:=ho.first
 omega
 have:=ht.2 i hi
 have:=ho.last
 have e:Hw p=Et p.acts p.acts.length:=rfl
 omega
theorem Fj.hov {p:Pr} {d:De} {a f:Int} (h:Fj p d a f):Ua (Tk p a) (Tk p a) (Hw p) (Kt p d) 0=(Hv p d a,0):=by
 have ho:=Eo h.h.1
 have h1:=ho.to (j:=p.acts.length-1) (i:=a.toNat) (by have:=h.k;omega) (by have:=h.a0;have:=h.a1;omega)
 have h2:=ho.ends p.acts.length (Nat.le_refl _)
 have h3:=h.h.2.1
 have hu:=h.u
 refine gS ?_
 unfold Na Gv
 simp only[Bool.and_eq_true,decide_eq_true_eq]
 refine⟨⟨⟨⟨h1,h1⟩,h2.1⟩,?_⟩,hu⟩
 show Hw p<Hw p+d.across+d.down
 omega
theorem Sq {p:Pr} {d:De} {a f:Int} (h:Fj p d a f):Cm (Hv p d a):=by
 have:=qU (Tk p a) (Tk p a) (Hw p) (Kt p d) 0
 rwa [h.hov] at this
theorem Jt {p:Pr} {d:De} {a f:Int} (h:Fj p d a f):AF Tryz.prog 22 [Ew (Tk p a),.int (Hw p),.int (Kt p d)] (.tup [Bj (Hv p d a),.int 0]):=by
 have:=dI (Tk p a) (Hw p) (Kt p d)
 rwa [h.hov] at this
theorem Ur (p:Pr) (a:Int) (hp:Mx p) (h:Da p=true) (h0:0<=a) (h1:a<(p.names.length:Int)) (hk:0<p.acts.length):AF Tryz.prog 20 [Em p,.int a] (.tup [Bj (Ll p a),.int 0]):=by
 have:=jM p a.toNat hp h (by omega) hk
 rwa [show (a.toNat:Int)=a by omega] at this
theorem Fj.cut {p:Pr} {d:De} {a f:Int} (h:Fj p d a f) (hf:f<Hw p):((Ll p a).getD 0 Sg.none).f<=f/\f<Hw p/\Hw p<=((Ll p a).getD ((Ll p a).length-1) Sg.none).t:=by
 have ho:=h.own
 have:=ho.first
 have:=ho.last
 have:=h.f0
 exact⟨by omega,hf,by show Et _ _<=_;omega⟩
theorem Fj.cutIn {p:Pr} {d:De} {a f:Int} (h:Fj p d a f):Cm (Hz p a f).1/\Ib (Hz p a f).1:=by
 have h0:=h.f0
 have h1:=h.f1
 have h2:=(Eo h.h.1).ends p.acts.length (Nat.le_refl _)
 have e:Hw p=Et p.acts p.acts.length:=rfl
 exact AaW h.own.pin h.own.ok (Cr (by omega)) (Cr (by omega))
theorem Fj.cutPos {p:Pr} {d:De} {a f:Int} (h:Fj p d a f) (hf:f<Hw p) (h0:(Hz p a f).2=0):0<(Hz p a f).1.length:=by
 have hc:=h.cut hf
 unfold Hz My at*
 split at h0
 rename_i hk
 rw[if_pos hk]
 exact qO h.own.ok hc.1 hc.2.1 hc.2.2
 cases h0
theorem yL {p:Pr} {d:De} {a f:Int} (h:¬f<Hw p):Kh p d a f=(Hv p d a,0):=if_neg h
theorem gO {p:Pr} {d:De} {a f:Int} (h:f<Hw p) (h2:(Hz p a f).2=0):Kh p d a f=Fe (Hz p a f).1 (Hv p d a):=by unfold Kh;rw[if_pos h,if_pos h2]
theorem Abc {p:Pr} {d:De} {a f:Int} (h:f<Hw p) (h2:¬(Hz p a f).2=0):Kh p d a f=([],7):=by unfold Kh;rw[if_pos h,if_neg h2,((aB _ _ _).resolve_left h2).1]
theorem kM {p:Pr} {d:De} {a f:Int} (h:Fj p d a f) (h0:f<Hw p) (hf:¬0<f):Kh p d a f=Fe (Ll p a) (Hv p d a):=by
 have e:f=0:=by have:=h.f0;omega
 subst e
 rw[gO h0 (by rw[h.zero]),h.zero]
theorem Ow (p:Pr) (d:De) (a f:Int) (hp:Mx p) (hd:Wp d) (hda:Cj a) (hdf:Cj f) (h:¬(aL p d/\0<=a/\a<(p.names.length:Int))):AF Tryz.prog 18 [Em p,Fy d,.int a,.int f] (.lit (.tuple #[.slice none 0 0,.int .i64 2])):=by
 refine Dl ⟨[(0,Em p),(1,Fy d),(2,.int a),(3,.int f)],[],0,118⟩ func18 rfl 118 ntmps18 (by kernel_rfl) (by kernel_rfl) λB D0 hA0=>?_
 refine Bu 4 [2,3,4,5] ?_
 refine Ab (Ae 2 ?_)
 refine Ao (bP (aL p d)) (λhx1=>?_) (λhx1=>?_)
 refine Ao (decide ((p.acts.length:Int)=0)) (λhx2=>?_) (λhx2=>?_)
 have hx2d:=of_decide_eq_true hx2
 refine Fg (Qf p d hp hd (Cq hx1) (by omega)) ?_
 refine Ae 1 ?_
 refine qi 0 ?_
 refine qi 9 ?_
 refine Ae 2 ?_
 refine As [2,3,4,10,11] ?_
 refine Al (Ab ?_)
 refine Ae 1 ?_
 refine qb false ?_
 refine Ae 2 ?_
 refine Ga (decide (a<0)) ?_
 refine Ae 2 ?_
 refine Ao (decide (a<0)) (λhx3=>?_) (λhx3=>?_)
 have hx3d:=of_decide_eq_true hx3
 refine Bg 31 _ true hx3 ?_
 refine Ae 6 ?_
 refine As [2,3,4,10,11,37] ?_
 refine Ca (Bu 2 [8,9] ?_)
 refine Be ?_
 exact⟨.inl rfl,(Cv results18 (Ak (x:= .lit (.slice none 0 0)) (by kernel_rfl) (by kernel_rfl)) (Ak (x:= .int 2) (by kernel_rfl) (by kernel_rfl))).cast (by kernel_rfl)⟩
 have hx3d:=of_decide_eq_false hx3
 refine Bg 31 _ false hx3 ?_
 refine Ae 3 ?_
 refine Ei (.int (p.names.length:Int)) .none (Dg (.tmp 34) 22 #[22] underlying22 p.names.length (.inl ⟨1,(λi0=> .lit (.string (p.names.getD i0 ByteArray.empty))),by kernel_rfl⟩)) ?_
 refine Ga (decide ((p.names.length:Int)<=a)) ?_
 refine Ae 1 ?_
 refine As [2,3,4,10,11,37] ?_
 refine Ao (decide ((p.names.length:Int)<=a)) (λhx4=>?_) (λhx4=>?_)
 have hx4d:=of_decide_eq_true hx4
 refine qT hx4 ?_
 refine Bu 2 [8,9] ?_
 refine Be ?_
 exact⟨.inl rfl,(Cv results18 (Ak (x:= .lit (.slice none 0 0)) (by kernel_rfl) (by kernel_rfl)) (Ak (x:= .int 2) (by kernel_rfl) (by kernel_rfl))).cast (by kernel_rfl)⟩
 have hx4d:=of_decide_eq_false hx4
 refine qF hx4 ?_
 refine Aw (Al ?_)
 exact absurd ⟨Cq hx1,by omega,by omega⟩ h
 have hx2d:=of_decide_eq_false hx2
 refine Ao (decide ((3600000:Int)<Kt p d)) (λhx5=>?_) (λhx5=>?_)
 have hx5d:=of_decide_eq_true hx5
 refine Fg (Ny p d hp hd (Cq hx1) (by omega) hx5d) ?_
 refine Ae 1 ?_
 refine qi 0 ?_
 refine qi 3 ?_
 refine Ae 2 ?_
 refine As [2,3,4,10,11] ?_
 refine Al (Ab ?_)
 refine Ae 1 ?_
 refine qb false ?_
 refine Ae 2 ?_
 refine Ga (decide (a<0)) ?_
 refine Ae 2 ?_
 refine Ao (decide (a<0)) (λhx6=>?_) (λhx6=>?_)
 have hx6d:=of_decide_eq_true hx6
 refine Bg 31 _ true hx6 ?_
 refine Ae 6 ?_
 refine As [2,3,4,10,11,37] ?_
 refine Ca (Bu 2 [8,9] ?_)
 refine Be ?_
 exact⟨.inl rfl,(Cv results18 (Ak (x:= .lit (.slice none 0 0)) (by kernel_rfl) (by kernel_rfl)) (Ak (x:= .int 2) (by kernel_rfl) (by kernel_rfl))).cast (by kernel_rfl)⟩
 have hx6d:=of_decide_eq_false hx6
 refine Bg 31 _ false hx6 ?_
 refine Ae 3 ?_
 refine Ei (.int (p.names.length:Int)) .none (Dg (.tmp 34) 22 #[22] underlying22 p.names.length (.inl ⟨1,(λi0=> .lit (.string (p.names.getD i0 ByteArray.empty))),by kernel_rfl⟩)) ?_
 refine Ga (decide ((p.names.length:Int)<=a)) ?_
 refine Ae 1 ?_
 refine As [2,3,4,10,11,37] ?_
 refine Ao (decide ((p.names.length:Int)<=a)) (λhx7=>?_) (λhx7=>?_)
 have hx7d:=of_decide_eq_true hx7
 refine qT hx7 ?_
 refine Bu 2 [8,9] ?_
 refine Be ?_
 exact⟨.inl rfl,(Cv results18 (Ak (x:= .lit (.slice none 0 0)) (by kernel_rfl) (by kernel_rfl)) (Ak (x:= .int 2) (by kernel_rfl) (by kernel_rfl))).cast (by kernel_rfl)⟩
 have hx7d:=of_decide_eq_false hx7
 refine qF hx7 ?_
 refine Aw (Al ?_)
 exact absurd ⟨Cq hx1,by omega,by omega⟩ h
 have hx5d:=of_decide_eq_false hx5
 refine Fg (Ij p d hp hd (Cq hx1) (by omega) (by omega)) ?_
 refine Ae 1 ?_
 refine qi (Kt p d) ?_
 refine qi 0 ?_
 refine Ae 2 ?_
 refine As [2,3,4,10,11] ?_
 refine Al (Ab ?_)
 refine Ae 1 ?_
 refine qb false ?_
 refine Ae 2 ?_
 refine Ga (decide (a<0)) ?_
 refine Ae 2 ?_
 refine Ao (decide (a<0)) (λhx8=>?_) (λhx8=>?_)
 have hx8d:=of_decide_eq_true hx8
 refine Bg 31 _ true hx8 ?_
 refine Ae 6 ?_
 refine As [2,3,4,10,11,37] ?_
 refine Ca (Bu 2 [8,9] ?_)
 refine Be ?_
 exact⟨.inl rfl,(Cv results18 (Ak (x:= .lit (.slice none 0 0)) (by kernel_rfl) (by kernel_rfl)) (Ak (x:= .int 2) (by kernel_rfl) (by kernel_rfl))).cast (by kernel_rfl)⟩
 have hx8d:=of_decide_eq_false hx8
 refine Bg 31 _ false hx8 ?_
 refine Ae 3 ?_
 refine Ei (.int (p.names.length:Int)) .none (Dg (.tmp 34) 22 #[22] underlying22 p.names.length (.inl ⟨1,(λi0=> .lit (.string (p.names.getD i0 ByteArray.empty))),by kernel_rfl⟩)) ?_
 refine Ga (decide ((p.names.length:Int)<=a)) ?_
 refine Ae 1 ?_
 refine As [2,3,4,10,11,37] ?_
 refine Ao (decide ((p.names.length:Int)<=a)) (λhx9=>?_) (λhx9=>?_)
 have hx9d:=of_decide_eq_true hx9
 refine qT hx9 ?_
 refine Bu 2 [8,9] ?_
 refine Be ?_
 exact⟨.inl rfl,(Cv results18 (Ak (x:= .lit (.slice none 0 0)) (by kernel_rfl) (by kernel_rfl)) (Ak (x:= .int 2) (by kernel_rfl) (by kernel_rfl))).cast (by kernel_rfl)⟩
 have hx9d:=of_decide_eq_false hx9
 refine qF hx9 ?_
 refine Aw (Al ?_)
 exact absurd ⟨Cq hx1,by omega,by omega⟩ h
 refine Fg (Zi p d hp hd (Tx hx1)) ?_
 refine Ae 1 ?_
 refine qi 0 ?_
 refine qi 2 ?_
 refine Ae 2 ?_
 refine As [2,3,4,10,11] ?_
 refine Al (Ab ?_)
 refine Ae 1 ?_
 refine qb true ?_
 refine Ae 11 ?_
 refine As [2,3,4,10,11,37] ?_
 refine Ca (Bu 2 [8,9] ?_)
 refine Be ?_
 exact⟨.inl rfl,(Cv results18 (Ak (x:= .lit (.slice none 0 0)) (by kernel_rfl) (by kernel_rfl)) (Ak (x:= .int 2) (by kernel_rfl) (by kernel_rfl))).cast (by kernel_rfl)⟩
theorem jK (p:Pr) (d:De) (a f:Int) (hp:Mx p) (hd:Wp d) (hda:Cj a) (hdf:Cj f) (h:aL p d) (h0:0<=a) (h1:a<(p.names.length:Int)) (hk:p.acts.length=0):AF Tryz.prog 18 [Em p,Fy d,.int a,.int f] (.lit (.tuple #[.slice none 0 0,.int .i64 9])):=by
 refine Dl ⟨[(0,Em p),(1,Fy d),(2,.int a),(3,.int f)],[],0,118⟩ func18 rfl 118 ntmps18 (by kernel_rfl) (by kernel_rfl) λB D0 hA0=>?_
 refine Bu 4 [2,3,4,5] ?_
 refine Ab (Ae 2 ?_)
 refine Fg (Qf p d hp hd (Cq (Dq h)) (by omega)) ?_
 refine Ae 1 ?_
 refine qi 0 ?_
 refine qi 9 ?_
 refine Ae 2 ?_
 refine As [2,3,4,10,11] ?_
 refine Al (Ab ?_)
 refine Ae 1 ?_
 refine qb false ?_
 refine Ae 2 ?_
 refine Ga (decide (a<0)) ?_
 refine Ae 2 ?_
 refine Bg 31 (decide (a<0)) false (decide_eq_false (by omega)) ?_
 refine Ae 3 ?_
 refine Ei (.int (p.names.length:Int)) .none (Dg (.tmp 34) 22 #[22] underlying22 p.names.length (.inl ⟨1,(λi0=> .lit (.string (p.names.getD i0 ByteArray.empty))),by kernel_rfl⟩)) ?_
 refine Ga (decide ((p.names.length:Int)<=a)) ?_
 refine Ae 1 ?_
 refine As [2,3,4,10,11,37] ?_
 refine qF (b:=(decide ((p.names.length:Int)<=a))) (decide_eq_false (by omega)) ?_
 refine Aw (Al ?_)
 refine Ab (Ae 1 ?_)
 refine qb true ?_
 refine As [2,3,4,10,11,39] ?_
 refine Ca (Bu 3 [8,9] ?_)
 refine Be ?_
 exact⟨.inl rfl,(Cv results18 (Ak (x:= .lit (.slice none 0 0)) (by kernel_rfl) (by kernel_rfl)) (Ak (x:= .int 9) (by kernel_rfl) (by kernel_rfl))).cast (by kernel_rfl)⟩
theorem Ox (p:Pr) (d:De) (a f:Int) (hp:Mx p) (hd:Wp d) (hda:Cj a) (hdf:Cj f) (h:aL p d) (h0:0<=a) (h1:a<(p.names.length:Int)) (hk:0<p.acts.length) (hr:¬(Kt p d<=3600000/\0<=f/\f<=Hw p)):AF Tryz.prog 18 [Em p,Fy d,.int a,.int f] (.lit (.tuple #[.slice none 0 0,.int .i64 3])):=by
 refine Dl ⟨[(0,Em p),(1,Fy d),(2,.int a),(3,.int f)],[],0,118⟩ func18 rfl 118 ntmps18 (by kernel_rfl) (by kernel_rfl) λB D0 hA0=>?_
 refine Bu 4 [2,3,4,5] ?_
 refine Ab (Ae 2 ?_)
 refine Ao (decide ((3600000:Int)<Kt p d)) (λhx1=>?_) (λhx1=>?_)
 have hx1d:=of_decide_eq_true hx1
 refine Fg (Ny p d hp hd (Cq (Dq h)) (by omega) hx1d) ?_
 refine Ae 1 ?_
 refine qi 0 ?_
 refine qi 3 ?_
 refine Ae 2 ?_
 refine As [2,3,4,10,11] ?_
 refine Al (Ab ?_)
 refine Ae 1 ?_
 refine qb false ?_
 refine Ae 2 ?_
 refine Ga (decide (a<0)) ?_
 refine Ae 2 ?_
 refine Bg 31 (decide (a<0)) false (decide_eq_false (by omega)) ?_
 refine Ae 3 ?_
 refine Ei (.int (p.names.length:Int)) .none (Dg (.tmp 34) 22 #[22] underlying22 p.names.length (.inl ⟨1,(λi0=> .lit (.string (p.names.getD i0 ByteArray.empty))),by kernel_rfl⟩)) ?_
 refine Ga (decide ((p.names.length:Int)<=a)) ?_
 refine Ae 1 ?_
 refine As [2,3,4,10,11,37] ?_
 refine qF (b:=(decide ((p.names.length:Int)<=a))) (decide_eq_false (by omega)) ?_
 refine Aw (Al ?_)
 refine Ab (Ae 1 ?_)
 refine qb true ?_
 refine As [2,3,4,10,11,39] ?_
 refine Ca (Bu 3 [8,9] ?_)
 refine Be ?_
 exact⟨.inl rfl,(Cv results18 (Ak (x:= .lit (.slice none 0 0)) (by kernel_rfl) (by kernel_rfl)) (Ak (x:= .int 3) (by kernel_rfl) (by kernel_rfl))).cast (by kernel_rfl)⟩
 have hx1d:=of_decide_eq_false hx1
 refine Fg (Ij p d hp hd (Cq (Dq h)) (by omega) (by omega)) ?_
 refine Ae 1 ?_
 refine qi (Kt p d) ?_
 refine qi 0 ?_
 refine Ae 2 ?_
 refine As [2,3,4,10,11] ?_
 refine Al (Ab ?_)
 refine Ae 1 ?_
 refine qb false ?_
 refine Ae 2 ?_
 refine Ga (decide (a<0)) ?_
 refine Ae 2 ?_
 refine Bg 31 (decide (a<0)) false (decide_eq_false (by omega)) ?_
 refine Ae 3 ?_
 refine Ei (.int (p.names.length:Int)) .none (Dg (.tmp 34) 22 #[22] underlying22 p.names.length (.inl ⟨1,(λi0=> .lit (.string (p.names.getD i0 ByteArray.empty))),by kernel_rfl⟩)) ?_
 refine Ga (decide ((p.names.length:Int)<=a)) ?_
 refine Ae 1 ?_
 refine As [2,3,4,10,11,37] ?_
 refine qF (b:=(decide ((p.names.length:Int)<=a))) (decide_eq_false (by omega)) ?_
 refine Aw (Al ?_)
 refine Ab (Ae 1 ?_)
 refine qb false ?_
 refine As [2,3,4,10,11,39] ?_
 refine Bq (Aw ?_)
 refine Ab (Ae 1 ?_)
 refine Fg (Si p hp (Cq (Dq h)).1) ?_
 refine Ae 1 ?_
 refine qi (Hw p) ?_
 refine qi 0 ?_
 refine Ae 2 ?_
 refine As [2,3,4,10,12] ?_
 refine Al (Ab ?_)
 refine Ae 1 ?_
 refine qb (decide (f<0)) ?_
 refine Ae 1 ?_
 refine Ao (decide (f<0)) (λhx2=>?_) (λhx2=>?_)
 have hx2d:=of_decide_eq_true hx2
 refine Bg 48 _ true hx2 ?_
 refine Ae 4 ?_
 refine As [2,3,4,10,12,52] ?_
 refine Ca (Bu 2 [8,9] ?_)
 refine Be ?_
 exact⟨.inl rfl,(Cv results18 (Ak (x:= .lit (.slice none 0 0)) (by kernel_rfl) (by kernel_rfl)) (Ak (x:= .int 3) (by kernel_rfl) (by kernel_rfl))).cast (by kernel_rfl)⟩
 have hx2d:=of_decide_eq_false hx2
 refine Bg 48 _ false hx2 ?_
 refine Ae 2 ?_
 refine Ga (decide (Hw p<f)) ?_
 refine Ae 1 ?_
 refine As [2,3,4,10,12,52] ?_
 refine Ao (decide (Hw p<f)) (λhx3=>?_) (λhx3=>?_)
 have hx3d:=of_decide_eq_true hx3
 refine qT hx3 ?_
 refine Bu 2 [8,9] ?_
 refine Be ?_
 exact⟨.inl rfl,(Cv results18 (Ak (x:= .lit (.slice none 0 0)) (by kernel_rfl) (by kernel_rfl)) (Ak (x:= .int 3) (by kernel_rfl) (by kernel_rfl))).cast (by kernel_rfl)⟩
 have hx3d:=of_decide_eq_false hx3
 refine qF hx3 ?_
 refine Aw ?_
 exact absurd ⟨by omega,by omega,by omega⟩ hr
theorem sM (p:Pr) (d:De) (a f:Int) (hp:Mx p) (hd:Wp d) (hda:Cj a) (hdf:Cj f) (h:Fj p d a f):AF Tryz.prog 18 [Em p,Fy d,.int a,.int f] (Qp (Kh p d a f)):=by
 have hv:=Eo h.h.1
 have hk:=h.k
 have h0:=h.a0
 have h1:=h.a1
 have hu:=h.u
 have hf0:=h.f0
 have hf1:=h.f1
 have hac:=hv.acts
 have hmv:=hv.mv (p.acts.length-1) (by omega)
 refine Dl ⟨[(0,Em p),(1,Fy d),(2,.int a),(3,.int f)],[],0,118⟩ func18 rfl 118 ntmps18 (by kernel_rfl) (by kernel_rfl) λB D0 hA0=>?_
 refine Bu 4 [2,3,4,5] ?_
 refine Ab (Ae 2 ?_)
 refine Fg (Ij p d hp hd (Cq (Dq h.h)) (by omega) (by omega)) ?_
 refine Ae 1 ?_
 refine qi (Kt p d) ?_
 refine qi 0 ?_
 refine Ae 2 ?_
 refine As [2,3,4,10,11] ?_
 refine Al (Ab ?_)
 refine Ae 1 ?_
 refine qb false ?_
 refine Ae 2 ?_
 refine Ga (decide (a<0)) ?_
 refine Ae 2 ?_
 refine Bg 31 (decide (a<0)) false (decide_eq_false (by omega)) ?_
 refine Ae 3 ?_
 refine Ei (.int (p.names.length:Int)) .none (Dg (.tmp 34) 22 #[22] underlying22 p.names.length (.inl ⟨1,(λi0=> .lit (.string (p.names.getD i0 ByteArray.empty))),by kernel_rfl⟩)) ?_
 refine Ga (decide ((p.names.length:Int)<=a)) ?_
 refine Ae 1 ?_
 refine As [2,3,4,10,11,37] ?_
 refine qF (b:=(decide ((p.names.length:Int)<=a))) (decide_eq_false (by omega)) ?_
 refine Aw (Al ?_)
 refine Ab (Ae 1 ?_)
 refine qb false ?_
 refine As [2,3,4,10,11,39] ?_
 refine Bq (Aw ?_)
 refine Ab (Ae 1 ?_)
 refine Fg (Si p hp (Cq (Dq h.h)).1) ?_
 refine Ae 1 ?_
 refine qi (Hw p) ?_
 refine qi 0 ?_
 refine Ae 2 ?_
 refine As [2,3,4,10,12] ?_
 refine Al (Ab ?_)
 refine Ae 1 ?_
 refine qb (decide (f<0)) ?_
 refine Ae 1 ?_
 refine Bg 48 (decide (f<0)) false (decide_eq_false (by omega)) ?_
 refine Ae 2 ?_
 refine Ga (decide (Hw p<f)) ?_
 refine Ae 1 ?_
 refine As [2,3,4,10,12,52] ?_
 refine qF (b:=(decide (Hw p<f))) (decide_eq_false (by omega)) ?_
 refine Aw (Ab ?_)
 refine Fa 36 [] 10 rfl (by kernel_rfl) (Ps 36 #[] #[] (by kernel_rfl) (λ_ _=>by kernel_rfl) _ (by kernel_rfl)) func36 rfl ntmps36 (by kernel_rfl) λ_ hD1=>?_
 refine Bu 3 [] ?_
 refine Bu 6 [3,4] ?_
 refine Dk [(0,.fn 56 [.ptr 5 0,.ptr 4 0],.none)] [0,1,2] 6 ⟨?_,trivial⟩ ?_
 exact Bn (lT 56 #[.tmp 4,.tmp 3] [.ptr 5 0,.ptr 4 0])
 refine Be ?_
 refine⟨.inl rfl,.tup [.fn 56 [.ptr 5 0,.ptr 4 0],.ptr 2 0,.ptr 3 0],(Aae results36 (Fn (x:= .fn 56 [.ptr 5 0,.ptr 4 0]) (by kernel_rfl)) (Fn (x:= .ptr 2 0) (by kernel_rfl)) (Fn (x:= .ptr 3 0) (by kernel_rfl))).castI (by kernel_rfl),?_⟩
 refine Ae 7 ?_
 refine As [2,3,4,10,12,14,15,16] ?_
 refine Al (Ab ?_)
 refine Ae 2 ?_
 refine qb (decide (f<Hw p)) ?_
 refine As [2,3,4,10,12,14,15,16,60] ?_
 refine Ao (decide (f<Hw p)) (λhx2=>?_) (λhx2=>?_)
 have hx2d:=of_decide_eq_true hx2
 refine qT hx2 ?_
 have hop:=h.own.ok.2
 refine Ab (Ae 2 ?_)
 refine Fg (Ur p a hp h.h.1 h0 h1 hk) ?_
 refine Ae 5 ?_
 refine As [2,3,4,10,12,14,15,16,17,18] ?_
 refine Ab (Ae 3 ?_)
 refine Fa 56 [Bj (Ll p a),.int 0,.ptr 5 0,.ptr 4 0] 37 rfl (by kernel_rfl) (Jk (.tmp 67) 56 #[.tmp 68,.tmp 69] #[41,32] (by kernel_rfl) [.ptr 5 0,.ptr 4 0] (by kernel_rfl) (λ_ _=>by kernel_rfl) _ (by kernel_rfl)) func56 rfl ntmps56 (by kernel_rfl) λ_ hD3=>?_
 refine Bb (Ab ?_)
 refine Ae 3 ?_
 refine qb false ?_
 refine Ae 1 ?_
 refine As [0,1,2,3,18] ?_
 refine Bq (Ab ?_)
 refine Ae 1 ?_
 refine qb false ?_
 refine Ae 1 ?_
 refine As [0,1,2,3,23] ?_
 refine Bq (Ab ?_)
 refine Ae 3 ?_
 refine Bl (.bool true) (Za 41 41 (.tmp 32) underlying41) ?_
 refine Ae 1 ?_
 refine As [0,2,3,29] ?_
 refine Ca (Bi ?_)
 refine Ae 4 ?_
 refine Bx [] ?_
 refine⟨.inr rfl,.lit (.tuple #[]),(Fh results56).castI (by kernel_rfl),?_⟩
 refine As [2,3,4,10,12,14,15,16,17,18] ?_
 refine Ab (Ae 1 ?_)
 refine qb (decide ((0:Int)<f)) ?_
 refine Ae 1 ?_
 refine Ao (decide ((0:Int)<f)) (λhx4=>?_) (λhx4=>?_)
 have hx4d:=of_decide_eq_true hx4
 refine Bg 73 _ true hx4 ?_
 refine Ae 1 ?_
 refine Ga true ?_
 refine Ae 1 ?_
 refine As [2,3,4,10,12,14,15,16,17,76] ?_
 refine Ca (Bi ?_)
 refine Ae 5 ?_
 refine Ao (decide ((Hz p a f).2=0)) (λhx5=>?_) (λhx5=>?_)
 have hx5d:=of_decide_eq_true hx5
 have hx5l:=h.cutPos (by omega) hx5d
 refine Bl (.tup [Bj ((Hz p a f).1),.int 0]) (Br 21 #[.tmp 80,.tmp 81,.tmp 82] #[41,3,3] [Bj (Ll p a),.int f,.int (Hw p)] (.tup [Bj ((Hz p a f).1),.int 0]) (dE _ _ _ h.own.pin h.own.ok (h.cut (by omega)).1 (h.cut (by omega)).2.1 (h.cut (by omega)).2.2 (of_decide_eq_true hx5))) ?_
 refine Ae 7 ?_
 refine Bx [2,4,10,12,14,15,16] ?_
 refine Ab (Ae 5 ?_)
 refine Bl (.int (p.acts.length:Int)) (Dg (.tmp 92) 24 #[24] underlying24 p.acts.length (.inl ⟨3,(λi0=>Fq (p.acts.getD i0 Ac.none)),by kernel_rfl⟩)) ?_
 refine qw ((p.acts.length:Int)-1) ((p.acts.length-1:Nat):Int) ?_
 refine Bl (.elt 3 (λq=>AV.cell (Fq (p.acts.getD (p.acts.length-1) Ac.none)) q)) (Bk 24 (.tmp 90) (.tmp 94) underlying24 3 p.acts.length (p.acts.length-1) (λi0=>Fq (p.acts.getD i0 Ac.none)) ((p.acts.length-1:Nat):Int) sizeOf60) ?_
 refine Ae 3 ?_
 refine Bl (.elt 6 (λq=>AV.cell (Wj ((p.acts.getD (p.acts.length-1) Ac.none).moves.getD ((a).toNat) Mv.none)) q)) (Bk 58 (.tmp 97) (.tmp 98) underlying58 6 ((p.acts.getD (p.acts.length-1) Ac.none).moves.length) ((a).toNat) (λi0=>Wj ((p.acts.getD (p.acts.length-1) Ac.none).moves.getD i0 Mv.none)) a sizeOf57) ?_
 refine Ae 4 ?_
 refine Fg (Jt h) ?_
 refine Ae 2 ?_
 refine Fa 56 [Bj (Hv p d a),.int 0,.ptr 5 0,.ptr 4 0] 37 rfl (by kernel_rfl) (Jk (.tmp 88) 56 #[.tmp 105,.tmp 106] #[41,32] (by kernel_rfl) [.ptr 5 0,.ptr 4 0] (by kernel_rfl) (λ_ _=>by kernel_rfl) _ (by kernel_rfl)) func56 rfl ntmps56 (by kernel_rfl) λ_ hD6=>?_
 refine Bb (Ab ?_)
 refine Ae 3 ?_
 refine qb false ?_
 refine Ae 1 ?_
 refine As [0,1,2,3,18] ?_
 refine Bq (Ab ?_)
 refine Ae 1 ?_
 refine qb false ?_
 refine Ae 1 ?_
 refine As [0,1,2,3,23] ?_
 refine Bq (Ab ?_)
 refine Ae 3 ?_
 refine Bl (.bool false) (bL 41 41 (.tmp 32) underlying41 6 (((Hz p a f).1).length) (λi0=>Bs (((Hz p a f).1).getD i0 Sg.none))) ?_
 refine Ae 1 ?_
 refine As [0,2,3,29] ?_
 refine Bq ?_
 refine Ao (decide ((Fe (Hz p a f).1 (Hv p d a)).2=0)) (λhx7=>?_) (λhx7=>?_)
 have hx7d:=of_decide_eq_true hx7
 have hx7l:=qG (by omega) hx7d
 refine Lm [(6,.tup [Bj ((Fe (Hz p a f).1 (Hv p d a)).1),.int 0],.none)] [] 6 ⟨?_,trivial⟩ ?_
 exact Bn (Br 45 #[.tmp 11,.tmp 12] #[41,41] [Bj ((Hz p a f).1),Bj (Hv p d a)] (.tup [Bj ((Fe (Hz p a f).1 (Hv p d a)).1),.int 0]) (Lv _ _ h.cutIn.1 (Sq h) (of_decide_eq_true hx7)))
 refine⟨.inr rfl,.lit (.tuple #[]),(Fh results56).castI (by kernel_rfl),?_⟩
 refine As [15,16] ?_
 refine Al (Ab ?_)
 refine Ae 3 ?_
 refine qb false ?_
 refine As [15,16,111] ?_
 refine Bq (Aw ?_)
 refine Bu 5 [8,9] ?_
 refine Be ?_
 exact⟨.inl rfl,(Cv results18 (Ak (x:=Bj ((Fe (Hz p a f).1 (Hv p d a)).1)) (by kernel_rfl) (by kernel_rfl)) (Ak (x:= .int 0) (by kernel_rfl) (by kernel_rfl))).cast (show (.tup [_,_]:AV)=_ by rw[gO (by omega) hx5d];unfold Qp;rw[if_pos hx7d])⟩
 have hx7d:=of_decide_eq_false hx7
 refine Lm [(6,.lit (.tuple #[.slice none 0 0,.int .i64 ((Fe (Hz p a f).1 (Hv p d a)).2)]),.none),(8,.lit (.slice none 0 0),.none),(9,.int ((Fe (Hz p a f).1 (Hv p d a)).2),.none)] [] 6 ⟨?_,?_,?_,trivial⟩ ?_
 exact Bn (Br 45 #[.tmp 11,.tmp 12] #[41,41] [Bj ((Hz p a f).1),Bj (Hv p d a)] (.lit (.tuple #[.slice none 0 0,.int .i64 ((Fe (Hz p a f).1 (Hv p d a)).2)])) (Nr _ _ h.cutIn.1 (Sq h) (of_decide_eq_false hx7)))
 exact Bn (Dx (v:= .slice none 0 0) (v':= .slice none 0 0) rfl _)
 exact rW
 refine⟨.inr rfl,.lit (.tuple #[]),(Fh results56).castI (by kernel_rfl),?_⟩
 refine As [15,16] ?_
 refine Al (Ab ?_)
 refine Ae 3 ?_
 refine qb (!decide ((Fe (Hz p a f).1 (Hv p d a)).2=0)) ?_
 refine As [15,16,111] ?_
 refine qT (nf hx7) ?_
 refine Dk [] [8,9] 6 trivial ?_
 refine Be ?_
 exact⟨.inl rfl,(Cv results18 (Ak (x:= .lit (.slice none 0 0)) (by kernel_rfl) (by kernel_rfl)) (Ak (x:= .int ((Fe (Hz p a f).1 (Hv p d a)).2)) (by kernel_rfl) (by kernel_rfl))).cast (show (.lit _:AV)=_ by rw[gO (by omega) hx5d];unfold Qp;rw[if_neg hx7d])⟩
 have hx5d:=of_decide_eq_false hx5
 refine Bl (.lit (.tuple #[.slice none 0 0,.int .i64 7])) (Br 21 #[.tmp 80,.tmp 81,.tmp 82] #[41,3,3] [Bj (Ll p a),.int f,.int (Hw p)] (.lit (.tuple #[.slice none 0 0,.int .i64 7])) (dC _ _ _ h.own.pin h.own.ok (h.cut (by omega)).1 (h.cut (by omega)).2.1 (h.cut (by omega)).2.2 (of_decide_eq_false hx5))) ?_
 refine Ae 1 ?_
 refine Bl (.lit (.slice none 0 0)) (Dx (v:= .slice none 0 0) (v':= .slice none 0 0) rfl _) ?_
 refine qi 7 ?_
 refine Ae 4 ?_
 refine Bx [2,4,10,12,14,15,16] ?_
 refine Ab (Ae 5 ?_)
 refine Bl (.int (p.acts.length:Int)) (Dg (.tmp 92) 24 #[24] underlying24 p.acts.length (.inl ⟨3,(λi0=>Fq (p.acts.getD i0 Ac.none)),by kernel_rfl⟩)) ?_
 refine qw ((p.acts.length:Int)-1) ((p.acts.length-1:Nat):Int) ?_
 refine Bl (.elt 3 (λq=>AV.cell (Fq (p.acts.getD (p.acts.length-1) Ac.none)) q)) (Bk 24 (.tmp 90) (.tmp 94) underlying24 3 p.acts.length (p.acts.length-1) (λi0=>Fq (p.acts.getD i0 Ac.none)) ((p.acts.length-1:Nat):Int) sizeOf60) ?_
 refine Ae 3 ?_
 refine Bl (.elt 6 (λq=>AV.cell (Wj ((p.acts.getD (p.acts.length-1) Ac.none).moves.getD ((a).toNat) Mv.none)) q)) (Bk 58 (.tmp 97) (.tmp 98) underlying58 6 ((p.acts.getD (p.acts.length-1) Ac.none).moves.length) ((a).toNat) (λi0=>Wj ((p.acts.getD (p.acts.length-1) Ac.none).moves.getD i0 Mv.none)) a sizeOf57) ?_
 refine Ae 4 ?_
 refine Fg (Jt h) ?_
 refine Ae 2 ?_
 refine Fa 56 [Bj (Hv p d a),.int 0,.ptr 5 0,.ptr 4 0] 37 rfl (by kernel_rfl) (Jk (.tmp 88) 56 #[.tmp 105,.tmp 106] #[41,32] (by kernel_rfl) [.ptr 5 0,.ptr 4 0] (by kernel_rfl) (λ_ _=>by kernel_rfl) _ (by kernel_rfl)) func56 rfl ntmps56 (by kernel_rfl) λ_ hD8=>?_
 refine Bb (Ab ?_)
 refine Ae 3 ?_
 refine qb true ?_
 refine Ae 1 ?_
 refine As [0,1,2,3,18] ?_
 refine Ca (Aw ?_)
 refine⟨.inr rfl,.lit (.tuple #[]),(Fh results56).castI (by kernel_rfl),?_⟩
 refine As [15,16] ?_
 refine Al (Ab ?_)
 refine Ae 3 ?_
 refine qb true ?_
 refine As [15,16,111] ?_
 refine Ca (Dk [] [8,9] 6 trivial ?_)
 refine Be ?_
 exact⟨.inl rfl,(Cv results18 (Ak (x:= .lit (.slice none 0 0)) (by kernel_rfl) (by kernel_rfl)) (Ak (x:= .int 7) (by kernel_rfl) (by kernel_rfl))).cast (Mq (Abc (by omega) hx5d) (by decide)).symm⟩
 have hx4d:=of_decide_eq_false hx4
 refine Bg 73 _ false hx4 ?_
 refine Ae 3 ?_
 refine As [2,3,4,10,12,14,15,16,17,76] ?_
 refine Bq (Aw ?_)
 refine Ab (Ae 5 ?_)
 refine Bl (.int (p.acts.length:Int)) (Dg (.tmp 92) 24 #[24] underlying24 p.acts.length (.inl ⟨3,(λi0=>Fq (p.acts.getD i0 Ac.none)),by kernel_rfl⟩)) ?_
 refine qw ((p.acts.length:Int)-1) ((p.acts.length-1:Nat):Int) ?_
 refine Bl (.elt 3 (λq=>AV.cell (Fq (p.acts.getD (p.acts.length-1) Ac.none)) q)) (Bk 24 (.tmp 90) (.tmp 94) underlying24 3 p.acts.length (p.acts.length-1) (λi0=>Fq (p.acts.getD i0 Ac.none)) ((p.acts.length-1:Nat):Int) sizeOf60) ?_
 refine Ae 3 ?_
 refine Bl (.elt 6 (λq=>AV.cell (Wj ((p.acts.getD (p.acts.length-1) Ac.none).moves.getD ((a).toNat) Mv.none)) q)) (Bk 58 (.tmp 97) (.tmp 98) underlying58 6 ((p.acts.getD (p.acts.length-1) Ac.none).moves.length) ((a).toNat) (λi0=>Wj ((p.acts.getD (p.acts.length-1) Ac.none).moves.getD i0 Mv.none)) a sizeOf57) ?_
 refine Ae 4 ?_
 refine Fg (Jt h) ?_
 refine Ae 2 ?_
 refine Fa 56 [Bj (Hv p d a),.int 0,.ptr 5 0,.ptr 4 0] 37 rfl (by kernel_rfl) (Jk (.tmp 88) 56 #[.tmp 105,.tmp 106] #[41,32] (by kernel_rfl) [.ptr 5 0,.ptr 4 0] (by kernel_rfl) (λ_ _=>by kernel_rfl) _ (by kernel_rfl)) func56 rfl ntmps56 (by kernel_rfl) λ_ hD9=>?_
 refine Bb (Ab ?_)
 refine Ae 3 ?_
 refine qb false ?_
 refine Ae 1 ?_
 refine As [0,1,2,3,18] ?_
 refine Bq (Ab ?_)
 refine Ae 1 ?_
 refine qb false ?_
 refine Ae 1 ?_
 refine As [0,1,2,3,23] ?_
 refine Bq (Ab ?_)
 refine Ae 3 ?_
 refine Bl (.bool false) (bL 41 41 (.tmp 32) underlying41 6 ((Ll p a).length) (λi0=>Bs ((Ll p a).getD i0 Sg.none))) ?_
 refine Ae 1 ?_
 refine As [0,2,3,29] ?_
 refine Bq ?_
 refine Ao (decide ((Fe (Ll p a) (Hv p d a)).2=0)) (λhx10=>?_) (λhx10=>?_)
 have hx10d:=of_decide_eq_true hx10
 have hx10l:=qG (by omega) hx10d
 refine Lm [(6,.tup [Bj ((Fe (Ll p a) (Hv p d a)).1),.int 0],.none)] [] 6 ⟨?_,trivial⟩ ?_
 exact Bn (Br 45 #[.tmp 11,.tmp 12] #[41,41] [Bj (Ll p a),Bj (Hv p d a)] (.tup [Bj ((Fe (Ll p a) (Hv p d a)).1),.int 0]) (Lv _ _ h.own.pin (Sq h) (of_decide_eq_true hx10)))
 refine⟨.inr rfl,.lit (.tuple #[]),(Fh results56).castI (by kernel_rfl),?_⟩
 refine As [15,16] ?_
 refine Al (Ab ?_)
 refine Ae 3 ?_
 refine qb false ?_
 refine As [15,16,111] ?_
 refine Bq (Aw ?_)
 refine Bu 5 [8,9] ?_
 refine Be ?_
 exact⟨.inl rfl,(Cv results18 (Ak (x:=Bj ((Fe (Ll p a) (Hv p d a)).1)) (by kernel_rfl) (by kernel_rfl)) (Ak (x:= .int 0) (by kernel_rfl) (by kernel_rfl))).cast (show (.tup [_,_]:AV)=_ by rw[kM h (by omega) (by omega)];unfold Qp;rw[if_pos hx10d])⟩
 have hx10d:=of_decide_eq_false hx10
 refine Lm [(6,.lit (.tuple #[.slice none 0 0,.int .i64 ((Fe (Ll p a) (Hv p d a)).2)]),.none),(8,.lit (.slice none 0 0),.none),(9,.int ((Fe (Ll p a) (Hv p d a)).2),.none)] [] 6 ⟨?_,?_,?_,trivial⟩ ?_
 exact Bn (Br 45 #[.tmp 11,.tmp 12] #[41,41] [Bj (Ll p a),Bj (Hv p d a)] (.lit (.tuple #[.slice none 0 0,.int .i64 ((Fe (Ll p a) (Hv p d a)).2)])) (Nr _ _ h.own.pin (Sq h) (of_decide_eq_false hx10)))
 exact Bn (Dx (v:= .slice none 0 0) (v':= .slice none 0 0) rfl _)
 exact rW
 refine⟨.inr rfl,.lit (.tuple #[]),(Fh results56).castI (by kernel_rfl),?_⟩
 refine As [15,16] ?_
 refine Al (Ab ?_)
 refine Ae 3 ?_
 refine qb (!decide ((Fe (Ll p a) (Hv p d a)).2=0)) ?_
 refine As [15,16,111] ?_
 refine qT (nf hx10) ?_
 refine Dk [] [8,9] 6 trivial ?_
 refine Be ?_
 exact⟨.inl rfl,(Cv results18 (Ak (x:= .lit (.slice none 0 0)) (by kernel_rfl) (by kernel_rfl)) (Ak (x:= .int ((Fe (Ll p a) (Hv p d a)).2)) (by kernel_rfl) (by kernel_rfl))).cast (show (.lit _:AV)=_ by rw[kM h (by omega) (by omega)];unfold Qp;rw[if_neg hx10d])⟩
 have hx2d:=of_decide_eq_false hx2
 refine qF hx2 ?_
 refine Aw (Ab ?_)
 refine Ae 5 ?_
 refine Bl (.int (p.acts.length:Int)) (Dg (.tmp 92) 24 #[24] underlying24 p.acts.length (.inl ⟨3,(λi0=>Fq (p.acts.getD i0 Ac.none)),by kernel_rfl⟩)) ?_
 refine qw ((p.acts.length:Int)-1) ((p.acts.length-1:Nat):Int) ?_
 refine Bl (.elt 3 (λq=>AV.cell (Fq (p.acts.getD (p.acts.length-1) Ac.none)) q)) (Bk 24 (.tmp 90) (.tmp 94) underlying24 3 p.acts.length (p.acts.length-1) (λi0=>Fq (p.acts.getD i0 Ac.none)) ((p.acts.length-1:Nat):Int) sizeOf60) ?_
 refine Ae 3 ?_
 refine Bl (.elt 6 (λq=>AV.cell (Wj ((p.acts.getD (p.acts.length-1) Ac.none).moves.getD ((a).toNat) Mv.none)) q)) (Bk 58 (.tmp 97) (.tmp 98) underlying58 6 ((p.acts.getD (p.acts.length-1) Ac.none).moves.length) ((a).toNat) (λi0=>Wj ((p.acts.getD (p.acts.length-1) Ac.none).moves.getD i0 Mv.none)) a sizeOf57) ?_
 refine Ae 4 ?_
 refine Fg (Jt h) ?_
 refine Ae 2 ?_
 refine Fa 56 [Bj (Hv p d a),.int 0,.ptr 5 0,.ptr 4 0] 37 rfl (by kernel_rfl) (Jk (.tmp 88) 56 #[.tmp 105,.tmp 106] #[41,32] (by kernel_rfl) [.ptr 5 0,.ptr 4 0] (by kernel_rfl) (λ_ _=>by kernel_rfl) _ (by kernel_rfl)) func56 rfl ntmps56 (by kernel_rfl) λ_ hD11=>?_
 refine Bb (Ab ?_)
 refine Ae 3 ?_
 refine qb false ?_
 refine Ae 1 ?_
 refine As [0,1,2,3,18] ?_
 refine Bq (Ab ?_)
 refine Ae 1 ?_
 refine qb false ?_
 refine Ae 1 ?_
 refine As [0,1,2,3,23] ?_
 refine Bq (Ab ?_)
 refine Ae 3 ?_
 refine Bl (.bool true) (Za 41 41 (.tmp 32) underlying41) ?_
 refine Ae 1 ?_
 refine As [0,2,3,29] ?_
 refine Ca (Bi ?_)
 refine Ae 4 ?_
 refine Bx [] ?_
 refine⟨.inr rfl,.lit (.tuple #[]),(Fh results56).castI (by kernel_rfl),?_⟩
 refine As [15,16] ?_
 refine Al (Ab ?_)
 refine Ae 3 ?_
 refine qb false ?_
 refine As [15,16,111] ?_
 refine Bq (Aw ?_)
 refine Bu 5 [8,9] ?_
 refine Be ?_
 exact⟨.inl rfl,(Cv results18 (Ak (x:=Bj (Hv p d a)) (by kernel_rfl) (by kernel_rfl)) (Ak (x:= .int 0) (by kernel_rfl) (by kernel_rfl))).cast (iP (yL (by omega))).symm⟩
theorem Tg (a:List Sg) (ha:Ib a):AF Tryz.prog 17 [Bj a,Bj a] (.bool true):=by
 have:=wJ a a ha ha
 rwa [Dq rfl] at this
end Go.Proofs.YtkcnbaeoahoglaaGreat
namespace Go.Proofs.YtkcnbaeoahoglaaGreat
open Go.Proofs.Tryz
open Go.RowKit
theorem wM (p:Pr) (d:De) (a f:Int) (hp:Mx p) (hd:Wp d) (hda:Cj a) (hdf:Cj f) (h:Fj p d a f):AF Tryz.prog 18 [Em p,Fy d,.int a,.int f] (cW (Kh p d a f)):=
 dJ (sM p d a f hp hd hda hdf h) rfl (λ_ _ _ _ h=>h) λE v hv=>hv.resA_P λh2=>by
  unfold Kh at*
  split
  rename_i hf
  rw[if_pos hf] at h2
  split
  rename_i hc
  rw[if_pos hc] at h2
  exact jW h2
  rfl
  rename_i hf
  rw[if_neg hf] at h2
  exact absurd rfl h2
theorem qI {p:Pr} {d:De} {a f:Int} (h:Fj p d a f):nK (if f<Hw p then Hz p a f else ([],0)) (Hv p d a,0)=Kh p d a f:=by
 unfold Kh
 by_cases hf:f<Hw p
 rw[if_pos hf,if_pos hf]
 unfold nK
 by_cases hc:(Hz p a f).2=0
 rw[if_pos ⟨hc,rfl⟩,if_pos hc,if_neg (by have:=h.cutPos hf hc;omega)]
 rw[if_neg (λg=>hc g.1),if_neg hc]
 have e:(Hz p a f).2=7:=((aB (Ll p a) f (Hw p)).resolve_left hc).1
 refine Prod.ext rfl ?_
 show max (Hz p a f).2 0=(Hz p a f).2
 rw[e];rfl
 rw[if_neg hf,if_neg hf]
 exact xR (.inl ⟨rfl,Nat.one_pos⟩)
theorem yB (l:List Sg) (f t:Int):Cj (My l f t).2:=by
 rcases aB l f t with h|h
 rw[h];exact Gw
 rw[h.1];exact⟨by decide,by decide⟩
theorem dZ {p:Pr} {d:De} {a f:Int} (h:Fj p d a f):Ib (Kh p d a f).1:=by
 have h1:=Ib.fly (Tk p a) (Tk p a) (Hw p) (Kt p d) 0
 rw[h.hov] at h1
 unfold Kh
 split
 split
 exact Ib.app h.cutIn.2 h1
 exact Ib.nil
 exact h1
theorem Wm (p:Pr) (d:De) (a f:Int) (hl:∀a∈p.acts,Cj a.len) (hac:Cj d.across) (hdn:Cj d.down) (hgr:Cj d.ground) (hda:Cj a) (hdf:Cj f):AF Tryz.prog 5 [Em p,Fy d,.int a,.int f] (.bool true):=by
 refine Dl ⟨[(0,Em p),(1,Fy d),(2,.int a),(3,.int f)],[],0,154⟩ func5 rfl 154 ntmps5 (by kernel_rfl) (by kernel_rfl) λB D0 hA0=>?_
 refine Bu 3 [2,3,4,5] ?_
 refine Al (Ab ?_)
 refine Ae 1 ?_
 refine Fg (wN p 4 5 ⟨by decide,by decide⟩ ⟨by decide,by decide⟩) ?_
 refine qb (!bP (AaI p 4 5)) ?_
 refine Ae 1 ?_
 refine Ao (bP (AaI p 4 5)) (λhx1=>?_) (λhx1=>?_)
 refine Bg 22 _ false (nt hx1) ?_
 refine Ae 1 ?_
 refine Kk (wO d) ?_
 refine Ga (!decide ((d.sides.length:Int)<=17)) ?_
 refine Ae 1 ?_
 refine As [2,3,4,5,26] ?_
 refine Ao (decide ((d.sides.length:Int)<=17)) (λhx2=>?_) (λhx2=>?_)
 have hx2d:=of_decide_eq_true hx2
 refine qF (nt hx2) ?_
 refine Aw (Ab ?_)
 refine Ae 4 ?_
 refine Ao (Da p) (λhx3=>?_) (λhx3=>?_)
 refine Ao (bP (Hj d)) (λhx4=>?_) (λhx4=>?_)
 refine Ao (decide (a<0)) (λhx5=>?_) (λhx5=>?_)
 have hx5d:=of_decide_eq_true hx5
 refine Fg (Ow p d a f (Fk (Cq hx1) (by decide) (by decide) hl) ⟨by omega,hac,hdn,hgr⟩ hda hdf (λg=>by omega)) ?_
 refine Ae 1 ?_
 refine Bl (.lit (.slice none 0 0)) (Dx (v:= .slice none 0 0) (v':= .slice none 0 0) rfl _) ?_
 refine qi 2 ?_
 refine Ae 2 ?_
 refine As [2,3,4,5,9,10] ?_
 refine Bu 1 [2,3,4,5,9,10,11] ?_
 refine Al (Ab ?_)
 refine Ae 1 ?_
 refine Fg (Dp p (Fk (Cq hx1) (by decide) (by decide) hl)) ?_
 refine qb (!Da p) ?_
 refine Ae 1 ?_
 refine Bg 39 _ false (nt hx3) ?_
 refine Ae 1 ?_
 refine Kk (Ia d ⟨by omega,hac,hdn,hgr⟩) ?_
 refine Ga (!bP (Hj d)) ?_
 refine Ae 2 ?_
 refine Bg 44 _ false (nt hx4) ?_
 refine Ae 1 ?_
 refine Ga (decide (a<0)) ?_
 refine Ae 2 ?_
 refine Bg 48 _ true hx5 ?_
 refine Ae 6 ?_
 refine As [2,3,4,5,9,10,11,54] ?_
 refine Ca (Bi ?_)
 refine Ae 1 ?_
 refine Bx [2,3,4,5,9,10,11] ?_
 refine Al (Ab ?_)
 refine Ae 1 ?_
 refine qb true ?_
 refine As [2,3,4,5,9,10,11,78] ?_
 refine Ca (Ab ?_)
 refine Ae 1 ?_
 refine qi 0 ?_
 refine qb true ?_
 refine Ae 3 ?_
 refine Ga true ?_
 refine Ae 2 ?_
 refine Kk Gc ?_
 refine Ae 2 ?_
 refine As [8] ?_
 refine Be ?_
 exact⟨.inl rfl,(Bv results5 (Ak (x:= .bool true) (by kernel_rfl) (by kernel_rfl))).cast (by kernel_rfl)⟩
 have hx5d:=of_decide_eq_false hx5
 refine Ao (decide ((p.names.length:Int)<=a)) (λhx6=>?_) (λhx6=>?_)
 have hx6d:=of_decide_eq_true hx6
 refine Fg (Ow p d a f (Fk (Cq hx1) (by decide) (by decide) hl) ⟨by omega,hac,hdn,hgr⟩ hda hdf (λg=>by omega)) ?_
 refine Ae 1 ?_
 refine Bl (.lit (.slice none 0 0)) (Dx (v:= .slice none 0 0) (v':= .slice none 0 0) rfl _) ?_
 refine qi 2 ?_
 refine Ae 2 ?_
 refine As [2,3,4,5,9,10] ?_
 refine Bu 1 [2,3,4,5,9,10,11] ?_
 refine Al (Ab ?_)
 refine Ae 1 ?_
 refine Fg (Dp p (Fk (Cq hx1) (by decide) (by decide) hl)) ?_
 refine qb (!Da p) ?_
 refine Ae 1 ?_
 refine Bg 39 _ false (nt hx3) ?_
 refine Ae 1 ?_
 refine Kk (Ia d ⟨by omega,hac,hdn,hgr⟩) ?_
 refine Ga (!bP (Hj d)) ?_
 refine Ae 2 ?_
 refine Bg 44 _ false (nt hx4) ?_
 refine Ae 1 ?_
 refine Ga (decide (a<0)) ?_
 refine Ae 2 ?_
 refine Bg 48 _ false hx5 ?_
 refine Ae 3 ?_
 refine Ei (.int (p.names.length:Int)) .none (Dg (.tmp 51) 22 #[22] underlying22 p.names.length (.inl ⟨1,(λi0=> .lit (.string (p.names.getD i0 ByteArray.empty))),by kernel_rfl⟩)) ?_
 refine Ga (decide ((p.names.length:Int)<=a)) ?_
 refine Ae 1 ?_
 refine As [2,3,4,5,9,10,11,54] ?_
 refine qT hx6 ?_
 refine Bi (Ae 1 ?_)
 refine Bx [2,3,4,5,9,10,11] ?_
 refine Al (Ab ?_)
 refine Ae 1 ?_
 refine qb true ?_
 refine As [2,3,4,5,9,10,11,78] ?_
 refine Ca (Ab ?_)
 refine Ae 1 ?_
 refine qi 0 ?_
 refine qb true ?_
 refine Ae 3 ?_
 refine Ga true ?_
 refine Ae 2 ?_
 refine Kk Gc ?_
 refine Ae 2 ?_
 refine As [8] ?_
 refine Be ?_
 exact⟨.inl rfl,(Bv results5 (Ak (x:= .bool true) (by kernel_rfl) (by kernel_rfl))).cast (by kernel_rfl)⟩
 have hx6d:=of_decide_eq_false hx6
 refine Ao (decide ((p.acts.length:Int)=0)) (λhx7=>?_) (λhx7=>?_)
 have hx7d:=of_decide_eq_true hx7
 refine Fg (jK p d a f (Fk (Cq hx1) (by decide) (by decide) hl) ⟨by omega,hac,hdn,hgr⟩ hda hdf ⟨hx3,Cq hx4⟩ (by omega) (by omega) (by omega)) ?_
 refine Ae 1 ?_
 refine Bl (.lit (.slice none 0 0)) (Dx (v:= .slice none 0 0) (v':= .slice none 0 0) rfl _) ?_
 refine qi 9 ?_
 refine Ae 2 ?_
 refine As [2,3,4,5,9,10] ?_
 refine Bu 1 [2,3,4,5,9,10,11] ?_
 refine Al (Ab ?_)
 refine Ae 1 ?_
 refine Fg (Dp p (Fk (Cq hx1) (by decide) (by decide) hl)) ?_
 refine qb (!Da p) ?_
 refine Ae 1 ?_
 refine Bg 39 _ false (nt hx3) ?_
 refine Ae 1 ?_
 refine Kk (Ia d ⟨by omega,hac,hdn,hgr⟩) ?_
 refine Ga (!bP (Hj d)) ?_
 refine Ae 2 ?_
 refine Bg 44 _ false (nt hx4) ?_
 refine Ae 1 ?_
 refine Ga (decide (a<0)) ?_
 refine Ae 2 ?_
 refine Bg 48 _ false hx5 ?_
 refine Ae 3 ?_
 refine Ei (.int (p.names.length:Int)) .none (Dg (.tmp 51) 22 #[22] underlying22 p.names.length (.inl ⟨1,(λi0=> .lit (.string (p.names.getD i0 ByteArray.empty))),by kernel_rfl⟩)) ?_
 refine Ga (decide ((p.names.length:Int)<=a)) ?_
 refine Ae 1 ?_
 refine As [2,3,4,5,9,10,11,54] ?_
 refine qF hx6 ?_
 refine Ab (Ae 2 ?_)
 refine Bl (.int (p.acts.length:Int)) (Dg (.tmp 56) 24 #[24] underlying24 p.acts.length (.inl ⟨3,(λi0=>Fq (p.acts.getD i0 Ac.none)),by kernel_rfl⟩)) ?_
 refine qb (decide ((p.acts.length:Int)=0)) ?_
 refine As [2,3,4,5,9,10,11,58] ?_
 refine qT hx7 ?_
 refine Bi (Ae 1 ?_)
 refine Bx [2,3,4,5,9,10,11] ?_
 refine Al (Ab ?_)
 refine Ae 1 ?_
 refine qb true ?_
 refine As [2,3,4,5,9,10,11,78] ?_
 refine Ca (Ab ?_)
 refine Ae 1 ?_
 refine qi 0 ?_
 refine qb true ?_
 refine Ae 3 ?_
 refine Ga true ?_
 refine Ae 2 ?_
 refine Kk Gc ?_
 refine Ae 2 ?_
 refine As [8] ?_
 refine Be ?_
 exact⟨.inl rfl,(Bv results5 (Ak (x:= .bool true) (by kernel_rfl) (by kernel_rfl))).cast (by kernel_rfl)⟩
 have hx7d:=of_decide_eq_false hx7
 refine Ao (decide ((3600000:Int)<Kt p d)) (λhx8=>?_) (λhx8=>?_)
 have hx8d:=of_decide_eq_true hx8
 refine Fg (Ox p d a f (Fk (Cq hx1) (by decide) (by decide) hl) ⟨by omega,hac,hdn,hgr⟩ hda hdf ⟨hx3,Cq hx4⟩ (by omega) (by omega) (by omega) (λg=>by omega)) ?_
 refine Ae 1 ?_
 refine Bl (.lit (.slice none 0 0)) (Dx (v:= .slice none 0 0) (v':= .slice none 0 0) rfl _) ?_
 refine qi 3 ?_
 refine Ae 2 ?_
 refine As [2,3,4,5,9,10] ?_
 refine Bu 1 [2,3,4,5,9,10,11] ?_
 refine Al (Ab ?_)
 refine Ae 1 ?_
 refine Fg (Dp p (Fk (Cq hx1) (by decide) (by decide) hl)) ?_
 refine qb (!Da p) ?_
 refine Ae 1 ?_
 refine Bg 39 _ false (nt hx3) ?_
 refine Ae 1 ?_
 refine Kk (Ia d ⟨by omega,hac,hdn,hgr⟩) ?_
 refine Ga (!bP (Hj d)) ?_
 refine Ae 2 ?_
 refine Bg 44 _ false (nt hx4) ?_
 refine Ae 1 ?_
 refine Ga (decide (a<0)) ?_
 refine Ae 2 ?_
 refine Bg 48 _ false hx5 ?_
 refine Ae 3 ?_
 refine Ei (.int (p.names.length:Int)) .none (Dg (.tmp 51) 22 #[22] underlying22 p.names.length (.inl ⟨1,(λi0=> .lit (.string (p.names.getD i0 ByteArray.empty))),by kernel_rfl⟩)) ?_
 refine Ga (decide ((p.names.length:Int)<=a)) ?_
 refine Ae 1 ?_
 refine As [2,3,4,5,9,10,11,54] ?_
 refine qF hx6 ?_
 refine Ab (Ae 2 ?_)
 refine Bl (.int (p.acts.length:Int)) (Dg (.tmp 56) 24 #[24] underlying24 p.acts.length (.inl ⟨3,(λi0=>Fq (p.acts.getD i0 Ac.none)),by kernel_rfl⟩)) ?_
 refine qb (decide ((p.acts.length:Int)=0)) ?_
 refine As [2,3,4,5,9,10,11,58] ?_
 refine qF hx7 ?_
 have hmv:=(Eo hx3).mv (p.acts.length-1) (by omega)
 have hac9:=(Eo hx3).acts
 refine Ab (Ae 2 ?_)
 refine Fg (Ik p d (Fk (Cq hx1) (by decide) (by decide) hl) ⟨by omega,hac,hdn,hgr⟩ ⟨hx3,Cq hx4⟩ (by omega)) ?_
 refine qb (decide ((3600000:Int)<Kt p d)) ?_
 refine Ae 1 ?_
 refine Bg 63 _ true hx8 ?_
 refine Ae 13 ?_
 refine As [2,3,4,5,9,10,11,76] ?_
 refine Ca (Bi ?_)
 refine Ae 1 ?_
 refine Bx [2,3,4,5,9,10,11] ?_
 refine Al (Ab ?_)
 refine Ae 1 ?_
 refine qb true ?_
 refine As [2,3,4,5,9,10,11,78] ?_
 refine Ca (Ab ?_)
 refine Ae 1 ?_
 refine qi 0 ?_
 refine qb true ?_
 refine Ae 3 ?_
 refine Ga true ?_
 refine Ae 2 ?_
 refine Kk Gc ?_
 refine Ae 2 ?_
 refine As [8] ?_
 refine Be ?_
 exact⟨.inl rfl,(Bv results5 (Ak (x:= .bool true) (by kernel_rfl) (by kernel_rfl))).cast (by kernel_rfl)⟩
 have hx8d:=of_decide_eq_false hx8
 refine Ao (decide (f<0)) (λhx9=>?_) (λhx9=>?_)
 have hx9d:=of_decide_eq_true hx9
 refine Fg (Ox p d a f (Fk (Cq hx1) (by decide) (by decide) hl) ⟨by omega,hac,hdn,hgr⟩ hda hdf ⟨hx3,Cq hx4⟩ (by omega) (by omega) (by omega) (λg=>by omega)) ?_
 refine Ae 1 ?_
 refine Bl (.lit (.slice none 0 0)) (Dx (v:= .slice none 0 0) (v':= .slice none 0 0) rfl _) ?_
 refine qi 3 ?_
 refine Ae 2 ?_
 refine As [2,3,4,5,9,10] ?_
 refine Bu 1 [2,3,4,5,9,10,11] ?_
 refine Al (Ab ?_)
 refine Ae 1 ?_
 refine Fg (Dp p (Fk (Cq hx1) (by decide) (by decide) hl)) ?_
 refine qb (!Da p) ?_
 refine Ae 1 ?_
 refine Bg 39 _ false (nt hx3) ?_
 refine Ae 1 ?_
 refine Kk (Ia d ⟨by omega,hac,hdn,hgr⟩) ?_
 refine Ga (!bP (Hj d)) ?_
 refine Ae 2 ?_
 refine Bg 44 _ false (nt hx4) ?_
 refine Ae 1 ?_
 refine Ga (decide (a<0)) ?_
 refine Ae 2 ?_
 refine Bg 48 _ false hx5 ?_
 refine Ae 3 ?_
 refine Ei (.int (p.names.length:Int)) .none (Dg (.tmp 51) 22 #[22] underlying22 p.names.length (.inl ⟨1,(λi0=> .lit (.string (p.names.getD i0 ByteArray.empty))),by kernel_rfl⟩)) ?_
 refine Ga (decide ((p.names.length:Int)<=a)) ?_
 refine Ae 1 ?_
 refine As [2,3,4,5,9,10,11,54] ?_
 refine qF hx6 ?_
 refine Ab (Ae 2 ?_)
 refine Bl (.int (p.acts.length:Int)) (Dg (.tmp 56) 24 #[24] underlying24 p.acts.length (.inl ⟨3,(λi0=>Fq (p.acts.getD i0 Ac.none)),by kernel_rfl⟩)) ?_
 refine qb (decide ((p.acts.length:Int)=0)) ?_
 refine As [2,3,4,5,9,10,11,58] ?_
 refine qF hx7 ?_
 have hmv:=(Eo hx3).mv (p.acts.length-1) (by omega)
 have hac9:=(Eo hx3).acts
 refine Ab (Ae 2 ?_)
 refine Fg (Ik p d (Fk (Cq hx1) (by decide) (by decide) hl) ⟨by omega,hac,hdn,hgr⟩ ⟨hx3,Cq hx4⟩ (by omega)) ?_
 refine qb (decide ((3600000:Int)<Kt p d)) ?_
 refine Ae 1 ?_
 refine Bg 63 _ false hx8 ?_
 refine Ae 1 ?_
 refine Ga (decide (f<0)) ?_
 refine Ae 2 ?_
 refine Bg 67 _ true hx9 ?_
 refine Ae 9 ?_
 refine As [2,3,4,5,9,10,11,76] ?_
 refine Ca (Bi ?_)
 refine Ae 1 ?_
 refine Bx [2,3,4,5,9,10,11] ?_
 refine Al (Ab ?_)
 refine Ae 1 ?_
 refine qb true ?_
 refine As [2,3,4,5,9,10,11,78] ?_
 refine Ca (Ab ?_)
 refine Ae 1 ?_
 refine qi 0 ?_
 refine qb true ?_
 refine Ae 3 ?_
 refine Ga true ?_
 refine Ae 2 ?_
 refine Kk Gc ?_
 refine Ae 2 ?_
 refine As [8] ?_
 refine Be ?_
 exact⟨.inl rfl,(Bv results5 (Ak (x:= .bool true) (by kernel_rfl) (by kernel_rfl))).cast (by kernel_rfl)⟩
 have hx9d:=of_decide_eq_false hx9
 refine Ao (decide (Hw p<f)) (λhx10=>?_) (λhx10=>?_)
 have hx10d:=of_decide_eq_true hx10
 refine Fg (Ox p d a f (Fk (Cq hx1) (by decide) (by decide) hl) ⟨by omega,hac,hdn,hgr⟩ hda hdf ⟨hx3,Cq hx4⟩ (by omega) (by omega) (by omega) (λg=>by omega)) ?_
 refine Ae 1 ?_
 refine Bl (.lit (.slice none 0 0)) (Dx (v:= .slice none 0 0) (v':= .slice none 0 0) rfl _) ?_
 refine qi 3 ?_
 refine Ae 2 ?_
 refine As [2,3,4,5,9,10] ?_
 refine Bu 1 [2,3,4,5,9,10,11] ?_
 refine Al (Ab ?_)
 refine Ae 1 ?_
 refine Fg (Dp p (Fk (Cq hx1) (by decide) (by decide) hl)) ?_
 refine qb (!Da p) ?_
 refine Ae 1 ?_
 refine Bg 39 _ false (nt hx3) ?_
 refine Ae 1 ?_
 refine Kk (Ia d ⟨by omega,hac,hdn,hgr⟩) ?_
 refine Ga (!bP (Hj d)) ?_
 refine Ae 2 ?_
 refine Bg 44 _ false (nt hx4) ?_
 refine Ae 1 ?_
 refine Ga (decide (a<0)) ?_
 refine Ae 2 ?_
 refine Bg 48 _ false hx5 ?_
 refine Ae 3 ?_
 refine Ei (.int (p.names.length:Int)) .none (Dg (.tmp 51) 22 #[22] underlying22 p.names.length (.inl ⟨1,(λi0=> .lit (.string (p.names.getD i0 ByteArray.empty))),by kernel_rfl⟩)) ?_
 refine Ga (decide ((p.names.length:Int)<=a)) ?_
 refine Ae 1 ?_
 refine As [2,3,4,5,9,10,11,54] ?_
 refine qF hx6 ?_
 refine Ab (Ae 2 ?_)
 refine Bl (.int (p.acts.length:Int)) (Dg (.tmp 56) 24 #[24] underlying24 p.acts.length (.inl ⟨3,(λi0=>Fq (p.acts.getD i0 Ac.none)),by kernel_rfl⟩)) ?_
 refine qb (decide ((p.acts.length:Int)=0)) ?_
 refine As [2,3,4,5,9,10,11,58] ?_
 refine qF hx7 ?_
 have hmv:=(Eo hx3).mv (p.acts.length-1) (by omega)
 have hac9:=(Eo hx3).acts
 refine Ab (Ae 2 ?_)
 refine Fg (Ik p d (Fk (Cq hx1) (by decide) (by decide) hl) ⟨by omega,hac,hdn,hgr⟩ ⟨hx3,Cq hx4⟩ (by omega)) ?_
 refine qb (decide ((3600000:Int)<Kt p d)) ?_
 refine Ae 1 ?_
 refine Bg 63 _ false hx8 ?_
 refine Ae 1 ?_
 refine Ga (decide (f<0)) ?_
 refine Ae 2 ?_
 refine Bg 67 _ false hx9 ?_
 refine Ae 4 ?_
 refine Ei (.int (p.acts.length:Int)) .none (Dg (.tmp 71) 24 #[24] underlying24 p.acts.length (.inl ⟨3,(λi0=>Fq (p.acts.getD i0 Ac.none)),by kernel_rfl⟩)) ?_
 refine Ei (.int ((p.acts.length-1:Nat):Int)) .none (Dx (v:= .int .i64 (IntKind.wrap .i64 ((p.acts.length:Int)-1))) (v':= .int .i64 ((p.acts.length-1:Nat):Int)) (congrArg (Value.int .i64) ((IntWalk.i64_in _ (by omega)).trans (by omega))) _) ?_
 refine Kk (by have:=Up p (Fk (Cq hx1) (by decide) (by decide) hl) (Eo hx3) (p.acts.length-1) (by omega);rwa [show p.acts.length-1+1=p.acts.length by omega] at this) ?_
 refine Ga (decide (Hw p<f)) ?_
 refine Ae 1 ?_
 refine As [2,3,4,5,9,10,11,76] ?_
 refine qT hx10 ?_
 refine Bi (Ae 1 ?_)
 refine Bx [2,3,4,5,9,10,11] ?_
 refine Al (Ab ?_)
 refine Ae 1 ?_
 refine qb true ?_
 refine As [2,3,4,5,9,10,11,78] ?_
 refine Ca (Ab ?_)
 refine Ae 1 ?_
 refine qi 0 ?_
 refine qb true ?_
 refine Ae 3 ?_
 refine Ga true ?_
 refine Ae 2 ?_
 refine Kk Gc ?_
 refine Ae 2 ?_
 refine As [8] ?_
 refine Be ?_
 exact⟨.inl rfl,(Bv results5 (Ak (x:= .bool true) (by kernel_rfl) (by kernel_rfl))).cast (by kernel_rfl)⟩
 have hx10d:=of_decide_eq_false hx10
 refine Fg (wM p d a f (Fk (Cq hx1) (by decide) (by decide) hl) ⟨by omega,hac,hdn,hgr⟩ hda hdf (show Fj p d a f from⟨⟨hx3,Cq hx4⟩,by omega,by omega,by omega,by omega,by omega,by omega⟩)) ?_
 refine Ae 5 ?_
 refine As [2,3,4,5,9,10] ?_
 refine Bu 1 [2,3,4,5,9,10,11] ?_
 refine Al (Ab ?_)
 refine Ae 1 ?_
 refine Fg (Dp p (Fk (Cq hx1) (by decide) (by decide) hl)) ?_
 refine qb (!Da p) ?_
 refine Ae 1 ?_
 refine Bg 39 _ false (nt hx3) ?_
 refine Ae 1 ?_
 refine Kk (Ia d ⟨by omega,hac,hdn,hgr⟩) ?_
 refine Ga (!bP (Hj d)) ?_
 refine Ae 2 ?_
 refine Bg 44 _ false (nt hx4) ?_
 refine Ae 1 ?_
 refine Ga (decide (a<0)) ?_
 refine Ae 2 ?_
 refine Bg 48 _ false hx5 ?_
 refine Ae 3 ?_
 refine Ei (.int (p.names.length:Int)) .none (Dg (.tmp 51) 22 #[22] underlying22 p.names.length (.inl ⟨1,(λi0=> .lit (.string (p.names.getD i0 ByteArray.empty))),by kernel_rfl⟩)) ?_
 refine Ga (decide ((p.names.length:Int)<=a)) ?_
 refine Ae 1 ?_
 refine As [2,3,4,5,9,10,11,54] ?_
 refine qF hx6 ?_
 refine Ab (Ae 2 ?_)
 refine Bl (.int (p.acts.length:Int)) (Dg (.tmp 56) 24 #[24] underlying24 p.acts.length (.inl ⟨3,(λi0=>Fq (p.acts.getD i0 Ac.none)),by kernel_rfl⟩)) ?_
 refine qb (decide ((p.acts.length:Int)=0)) ?_
 refine As [2,3,4,5,9,10,11,58] ?_
 refine qF hx7 ?_
 have hmv:=(Eo hx3).mv (p.acts.length-1) (by omega)
 have hac9:=(Eo hx3).acts
 refine Ab (Ae 2 ?_)
 refine Fg (Ik p d (Fk (Cq hx1) (by decide) (by decide) hl) ⟨by omega,hac,hdn,hgr⟩ ⟨hx3,Cq hx4⟩ (by omega)) ?_
 refine qb (decide ((3600000:Int)<Kt p d)) ?_
 refine Ae 1 ?_
 refine Bg 63 _ false hx8 ?_
 refine Ae 1 ?_
 refine Ga (decide (f<0)) ?_
 refine Ae 2 ?_
 refine Bg 67 _ false hx9 ?_
 refine Ae 4 ?_
 refine Ei (.int (p.acts.length:Int)) .none (Dg (.tmp 71) 24 #[24] underlying24 p.acts.length (.inl ⟨3,(λi0=>Fq (p.acts.getD i0 Ac.none)),by kernel_rfl⟩)) ?_
 refine Ei (.int ((p.acts.length-1:Nat):Int)) .none (Dx (v:= .int .i64 (IntKind.wrap .i64 ((p.acts.length:Int)-1))) (v':= .int .i64 ((p.acts.length-1:Nat):Int)) (congrArg (Value.int .i64) ((IntWalk.i64_in _ (by omega)).trans (by omega))) _) ?_
 refine Kk (by have:=Up p (Fk (Cq hx1) (by decide) (by decide) hl) (Eo hx3) (p.acts.length-1) (by omega);rwa [show p.acts.length-1+1=p.acts.length by omega] at this) ?_
 refine Ga (decide (Hw p<f)) ?_
 refine Ae 1 ?_
 refine As [2,3,4,5,9,10,11,76] ?_
 refine qF hx10 ?_
 refine Aw (Al ?_)
 refine Ab (Ae 1 ?_)
 refine qb false ?_
 refine As [2,3,4,5,9,10,11,78] ?_
 refine Bq (Aw ?_)
 refine Ab (Ae 3 ?_)
 refine Bl (.int (p.acts.length:Int)) (Dg (.tmp 92) 24 #[24] underlying24 p.acts.length (.inl ⟨3,(λi0=>Fq (p.acts.getD i0 Ac.none)),by kernel_rfl⟩)) ?_
 refine qw ((p.acts.length:Int)-1) ((p.acts.length-1:Nat):Int) ?_
 refine Fg (by have:=Up p (Fk (Cq hx1) (by decide) (by decide) hl) (Eo hx3) (p.acts.length-1) (by omega);rwa [show p.acts.length-1+1=p.acts.length by omega] at this) ?_
 refine Ae 1 ?_
 refine As [2,3,4,5,9,10,12] ?_
 refine Bu 1 [2,3,4,5,9,10,12,13] ?_
 refine Bu 1 [2,3,4,5,9,10,12,13,14] ?_
 refine Al (Ab ?_)
 refine Ae 2 ?_
 refine qb (decide (f<Hw p)) ?_
 refine As [2,3,4,5,9,10,12,13,14,98] ?_
 refine Ao (decide (f<Hw p)) (λhx11=>?_) (λhx11=>?_)
 have hx11d:=of_decide_eq_true hx11
 refine qT hx11 ?_
 refine Ab (Ae 2 ?_)
 refine Fg (Ur p a (Fk (Cq hx1) (by decide) (by decide) hl) hx3 (by omega) (by omega) (by omega)) ?_
 refine Ae 5 ?_
 refine As [2,3,4,5,9,10,12,15,16] ?_
 refine Al (Ab ?_)
 refine Ae 1 ?_
 refine qb false ?_
 refine As [2,3,4,5,9,10,12,15,106] ?_
 refine Bq (Aw ?_)
 refine Bi (Ae 3 ?_)
 refine Bl (.tup [Bj ((Hz p a f).1),.int ((Hz p a f).2)]) (Br 21 #[.tmp 108,.tmp 109,.tmp 110] #[41,3,3] [Bj (Ll p a),.int f,.int (Hw p)] (.tup [Bj ((Hz p a f).1),.int ((Hz p a f).2)]) (Aa8 _ _ _ (Fj.own (show Fj p d a f from⟨⟨hx3,Cq hx4⟩,by omega,by omega,by omega,by omega,by omega,by omega⟩)).pin (Fj.own (show Fj p d a f from⟨⟨hx3,Cq hx4⟩,by omega,by omega,by omega,by omega,by omega,by omega⟩)).ok (Fj.cut (show Fj p d a f from⟨⟨hx3,Cq hx4⟩,by omega,by omega,by omega,by omega,by omega,by omega⟩) (by omega)).1 (by omega) (Fj.cut (show Fj p d a f from⟨⟨hx3,Cq hx4⟩,by omega,by omega,by omega,by omega,by omega,by omega⟩) (by omega)).2.2)) ?_
 refine Ae 5 ?_
 refine Bx [2,4,5,9,10,12,13,14] ?_
 refine Dk [(4,.int (p.acts.length:Int),.none),(5,.int ((p.acts.length-1:Nat):Int),.none),(6,.elt 3 (λq=>AV.cell (Fq (p.acts.getD (p.acts.length-1) Ac.none)) q),.none),(10,.elt 6 (λq=>AV.cell (Wj ((p.acts.getD (p.acts.length-1) Ac.none).moves.getD ((a).toNat) Mv.none)) q),.none),(16,.int (Kt p d),.none),(17,.tup [Bj (Hv p d a),.int 0],.none)] [9,10,13,14,17,18] 2 ⟨?_,?_,?_,?_,?_,?_,trivial⟩ ?_
 exact Bn (Dg (.tmp 118) 24 #[24] underlying24 p.acts.length (.inl ⟨3,(λi0=>Fq (p.acts.getD i0 Ac.none)),by kernel_rfl⟩))
 exact Yk ((p.acts.length:Int)-1)
 exact Bn (Bk 24 (.tmp 116) (.tmp 120) underlying24 3 p.acts.length (p.acts.length-1) (λi0=>Fq (p.acts.getD i0 Ac.none)) ((p.acts.length-1:Nat):Int) sizeOf60)
 exact Bn (Bk 58 (.tmp 123) (.tmp 124) underlying58 6 ((p.acts.getD (p.acts.length-1) Ac.none).moves.length) ((a).toNat) (λi0=>Wj ((p.acts.getD (p.acts.length-1) Ac.none).moves.getD i0 Mv.none)) a sizeOf57)
 exact Oi (Ik p d (Fk (Cq hx1) (by decide) (by decide) hl) ⟨by omega,hac,hdn,hgr⟩ ⟨hx3,Cq hx4⟩ (by omega))
 exact Oi (Jt (show Fj p d a f from⟨⟨hx3,Cq hx4⟩,by omega,by omega,by omega,by omega,by omega,by omega⟩))
 refine Ab (Ae 4 ?_)
 refine Bl (.tup [Bj ((Kh p d a f).1),.int ((Kh p d a f).2)]) (Br 23 #[.tmp 136,.tmp 137,.tmp 138,.tmp 139] #[41,32,41,32] [Bj ((Hz p a f).1),.int ((Hz p a f).2),Bj (Hv p d a),.int 0] (.tup [Bj ((Kh p d a f).1),.int ((Kh p d a f).2)]) (by have h9:=qI (show Fj p d a f from⟨⟨hx3,Cq hx4⟩,by omega,by omega,by omega,by omega,by omega,by omega⟩);rw[if_pos hx11d] at h9;have h8:=dG (Hz p a f) ((Hv p d a),0) (Fj.cutIn (show Fj p d a f from⟨⟨hx3,Cq hx4⟩,by omega,by omega,by omega,by omega,by omega,by omega⟩)).1 (Sq (show Fj p d a f from⟨⟨hx3,Cq hx4⟩,by omega,by omega,by omega,by omega,by omega,by omega⟩)) (yB _ _ _) Gw;rw[h9] at h8;exact h8)) ?_
 refine Ae 5 ?_
 refine As [9,10,13,14] ?_
 refine Ab (Ae 2 ?_)
 refine qb (decide ((Kh p d a f).2=(Kh p d a f).2)) ?_
 refine Ae 1 ?_
 refine Bg 146 (decide ((Kh p d a f).2=(Kh p d a f).2)) true (decide_eq_true rfl) ?_
 refine Ae 2 ?_
 refine Ei (.bool true) .none (Br 17 #[.tmp 147,.tmp 148] #[41,41] [Bj ((Kh p d a f).1),Bj ((Kh p d a f).1)] (.bool true) (Tg _ (dZ (show Fj p d a f from⟨⟨hx3,Cq hx4⟩,by omega,by omega,by omega,by omega,by omega,by omega⟩)))) ?_
 refine Ae 2 ?_
 refine Kk Gc ?_
 refine Ae 2 ?_
 refine As [8] ?_
 refine Be ?_
 exact⟨.inl rfl,(Bv results5 (Ak (x:= .bool true) (by kernel_rfl) (by kernel_rfl))).cast (by kernel_rfl)⟩
 have hx11d:=of_decide_eq_false hx11
 refine qF hx11 ?_
 refine Aw ?_
 refine Dk [(4,.int (p.acts.length:Int),.none),(5,.int ((p.acts.length-1:Nat):Int),.none),(6,.elt 3 (λq=>AV.cell (Fq (p.acts.getD (p.acts.length-1) Ac.none)) q),.none),(10,.elt 6 (λq=>AV.cell (Wj ((p.acts.getD (p.acts.length-1) Ac.none).moves.getD ((a).toNat) Mv.none)) q),.none),(16,.int (Kt p d),.none),(17,.tup [Bj (Hv p d a),.int 0],.none)] [9,10,13,14,17,18] 2 ⟨?_,?_,?_,?_,?_,?_,trivial⟩ ?_
 exact Bn (Dg (.tmp 118) 24 #[24] underlying24 p.acts.length (.inl ⟨3,(λi0=>Fq (p.acts.getD i0 Ac.none)),by kernel_rfl⟩))
 exact Yk ((p.acts.length:Int)-1)
 exact Bn (Bk 24 (.tmp 116) (.tmp 120) underlying24 3 p.acts.length (p.acts.length-1) (λi0=>Fq (p.acts.getD i0 Ac.none)) ((p.acts.length-1:Nat):Int) sizeOf60)
 exact Bn (Bk 58 (.tmp 123) (.tmp 124) underlying58 6 ((p.acts.getD (p.acts.length-1) Ac.none).moves.length) ((a).toNat) (λi0=>Wj ((p.acts.getD (p.acts.length-1) Ac.none).moves.getD i0 Mv.none)) a sizeOf57)
 exact Oi (Ik p d (Fk (Cq hx1) (by decide) (by decide) hl) ⟨by omega,hac,hdn,hgr⟩ ⟨hx3,Cq hx4⟩ (by omega))
 exact Oi (Jt (show Fj p d a f from⟨⟨hx3,Cq hx4⟩,by omega,by omega,by omega,by omega,by omega,by omega⟩))
 refine Ab (Ae 4 ?_)
 refine Fg (by have h9:=qI (show Fj p d a f from⟨⟨hx3,Cq hx4⟩,by omega,by omega,by omega,by omega,by omega,by omega⟩);rw[if_neg hx11d] at h9;have h8:=mY ((Hv p d a),0) (Sq (show Fj p d a f from⟨⟨hx3,Cq hx4⟩,by omega,by omega,by omega,by omega,by omega,by omega⟩)) Gw;rw[h9] at h8;exact h8) ?_
 refine Ae 5 ?_
 refine As [9,10,13,14] ?_
 refine Ab (Ae 2 ?_)
 refine qb (decide ((Kh p d a f).2=(Kh p d a f).2)) ?_
 refine Ae 1 ?_
 refine Bg 146 (decide ((Kh p d a f).2=(Kh p d a f).2)) true (decide_eq_true rfl) ?_
 refine Ae 2 ?_
 refine Ei (.bool true) .none (Br 17 #[.tmp 147,.tmp 148] #[41,41] [Bj ((Kh p d a f).1),Bj ((Kh p d a f).1)] (.bool true) (Tg _ (dZ (show Fj p d a f from⟨⟨hx3,Cq hx4⟩,by omega,by omega,by omega,by omega,by omega,by omega⟩)))) ?_
 refine Ae 2 ?_
 refine Kk Gc ?_
 refine Ae 2 ?_
 refine As [8] ?_
 refine Be ?_
 exact⟨.inl rfl,(Bv results5 (Ak (x:= .bool true) (by kernel_rfl) (by kernel_rfl))).cast (by kernel_rfl)⟩
 refine Fg (Ow p d a f (Fk (Cq hx1) (by decide) (by decide) hl) ⟨by omega,hac,hdn,hgr⟩ hda hdf (λg=>Tx hx4 g.1.2)) ?_
 refine Ae 1 ?_
 refine Bl (.lit (.slice none 0 0)) (Dx (v:= .slice none 0 0) (v':= .slice none 0 0) rfl _) ?_
 refine qi 2 ?_
 refine Ae 2 ?_
 refine As [2,3,4,5,9,10] ?_
 refine Bu 1 [2,3,4,5,9,10,11] ?_
 refine Al (Ab ?_)
 refine Ae 1 ?_
 refine Fg (Dp p (Fk (Cq hx1) (by decide) (by decide) hl)) ?_
 refine qb (!Da p) ?_
 refine Ae 1 ?_
 refine Bg 39 _ false (nt hx3) ?_
 refine Ae 1 ?_
 refine Kk (Ia d ⟨by omega,hac,hdn,hgr⟩) ?_
 refine Ga (!bP (Hj d)) ?_
 refine Ae 2 ?_
 refine Bg 44 _ true (nf hx4) ?_
 refine Ae 10 ?_
 refine As [2,3,4,5,9,10,11,54] ?_
 refine Ca (Bi ?_)
 refine Ae 1 ?_
 refine Bx [2,3,4,5,9,10,11] ?_
 refine Al (Ab ?_)
 refine Ae 1 ?_
 refine qb true ?_
 refine As [2,3,4,5,9,10,11,78] ?_
 refine Ca (Ab ?_)
 refine Ae 1 ?_
 refine qi 0 ?_
 refine qb true ?_
 refine Ae 3 ?_
 refine Ga true ?_
 refine Ae 2 ?_
 refine Kk Gc ?_
 refine Ae 2 ?_
 refine As [8] ?_
 refine Be ?_
 exact⟨.inl rfl,(Bv results5 (Ak (x:= .bool true) (by kernel_rfl) (by kernel_rfl))).cast (by kernel_rfl)⟩
 refine Fg (Ow p d a f (Fk (Cq hx1) (by decide) (by decide) hl) ⟨by omega,hac,hdn,hgr⟩ hda hdf (λg=>Bool.false_ne_true (hx3.symm.trans g.1.1))) ?_
 refine Ae 1 ?_
 refine Bl (.lit (.slice none 0 0)) (Dx (v:= .slice none 0 0) (v':= .slice none 0 0) rfl _) ?_
 refine qi 2 ?_
 refine Ae 2 ?_
 refine As [2,3,4,5,9,10] ?_
 refine Bu 1 [2,3,4,5,9,10,11] ?_
 refine Al (Ab ?_)
 refine Ae 1 ?_
 refine Fg (Dp p (Fk (Cq hx1) (by decide) (by decide) hl)) ?_
 refine qb (!Da p) ?_
 refine Ae 1 ?_
 refine Bg 39 _ true (nf hx3) ?_
 refine Ae 15 ?_
 refine As [2,3,4,5,9,10,11,54] ?_
 refine Ca (Bi ?_)
 refine Ae 1 ?_
 refine Bx [2,3,4,5,9,10,11] ?_
 refine Al (Ab ?_)
 refine Ae 1 ?_
 refine qb true ?_
 refine As [2,3,4,5,9,10,11,78] ?_
 refine Ca (Ab ?_)
 refine Ae 1 ?_
 refine qi 0 ?_
 refine qb true ?_
 refine Ae 3 ?_
 refine Ga true ?_
 refine Ae 2 ?_
 refine Kk Gc ?_
 refine Ae 2 ?_
 refine As [8] ?_
 refine Be ?_
 exact⟨.inl rfl,(Bv results5 (Ak (x:= .bool true) (by kernel_rfl) (by kernel_rfl))).cast (by kernel_rfl)⟩
 have hx2d:=of_decide_eq_false hx2
 refine qT (nf hx2) ?_
 refine Ab (Fg Gc ?_)
 refine Ae 1 ?_
 refine As [8] ?_
 refine Be ?_
 exact⟨.inl rfl,(Bv results5 (Ak (x:= .bool true) (by kernel_rfl) (by kernel_rfl))).cast (by kernel_rfl)⟩
 refine Bg 22 _ true (nf hx1) ?_
 refine Ae 4 ?_
 refine As [2,3,4,5,26] ?_
 refine Ca (Ab ?_)
 refine Fg Gc ?_
 refine Ae 1 ?_
 refine As [8] ?_
 refine Be ?_
 exact⟨.inl rfl,(Bv results5 (Ak (x:= .bool true) (by kernel_rfl) (by kernel_rfl))).cast (by kernel_rfl)⟩
end Go.Proofs.YtkcnbaeoahoglaaGreat
namespace Go.Proofs.YtkcnbaeoahoglaaGreat.Open
open Go.ChangeShapes Go.WideShapes Go.ChangeAt Go.RowKit Go.Deep
section
variable {H:Type} {enc:TypeId×Value->H} {W:World}
end
end Go.Proofs.YtkcnbaeoahoglaaGreat.Open
namespace Go.Proofs.YtkcnbaeoahoglaaGreat
theorem rC {k:Int} (h:(Lit.int IntKind.i64 k).wf=true):Cj k:=by
 simp[Lit.wf,IntKind.min,IntKind.max,IntKind.signed,IntKind.bits] at h
 exact⟨by omega,by omega⟩
end Go.Proofs.YtkcnbaeoahoglaaGreat
namespace Go.Proofs.YtkcnbaeoahoglaaGreat.EX
open Go.ChangeShapes Go.WideShapes Go.ChangeAt Go.RowKit Go.Deep
theorem own:ownKnob Tryz.prog.godebug=none:=by kernel_rfl
theorem rD:laidOutB Tryz.prog=true:=by kernel_rfl
theorem Acs (os:Os) (started:os.Started) (H:Type) (enc:TypeId×Value->H):
  ReturnsInHanded {} Tryz.checked os 5 .any (λw args=>Rows.escapeExtendsSpec.pre enc Tryz.prog Tryz.f5 [] false w args/\sizedMet enc Tryz.prog Tryz.f5 (OpenSpec.ofChange Rows.escapeExtendsSpec) false w args)
   (Rows.escapeExtendsSpec.post enc Tryz.prog Tryz.f5 false true false false):=by
 refine returnsInHanded_of_change (C:=Tryz.checked) own started (by kernel_rfl) Tryz.func5
  (by
   obtain⟨w,tape,i,h1,h2,h3,h4,⟨⟨hp,_⟩,hs⟩,h5⟩:=ChangeSpec.witness_shaped (enc:=enc) (C:=Tryz.checked) (os:=os) (f:=5) (fn:=Tryz.f5) (s:=Rows.escapeExtendsSpec) (conds:=[]) (apart:=false) (X:=λ_ _=>True) false (World.doorLaid Tryz.prog 400 os) #[.agg #[.slice none 0 0,.slice none 0 0,.slice none 0 0],.agg #[.slice none 0 0,.int .i64 0,.int .i64 0,.int .i64 0],.int .i64 0,.int .i64 0] 8 rfl (World.shaped_of_RefB (by kernel_rfl) (by kernel_rfl)) (by kernel_rfl) (by kernel_rfl) (by kernel_rfl) trivial
   exact⟨w,tape,i,h1,h2,h3,h4,⟨hp,hs⟩,h5⟩) ?_
 intro W base args ds gs before hval0 hW _ _
 have hval:∀(j:Nat) t v,Tryz.f5.params[j]?=some t->args[j]?=some v->Value.okWide Tryz.prog W .any base t v:=hval0
 have hW':=hW
 obtain⟨p,q,hA0,hV,rfl,hfz,hnd⟩:=hW
 have hA:DataW.TrodAll enc Tryz.prog W 0 (λ_=>true) true Tryz.f5.params.toList args.toList ds p:=hA0
 rw[Tryz.params5] at hA hval
 obtain⟨v0,vs0,d0,ds0,p0,q0,hargs,rfl,rfl,h0,r0⟩:=trodAll_cons hA
 obtain⟨v1,vs1,d1,ds1,p1,q1,rfl,rfl,rfl,h1,r1⟩:=trodAll_cons r0
 obtain⟨v2,vs2,d2,ds2,p2,q2,rfl,rfl,rfl,h2,r2⟩:=trodAll_cons r1
 obtain⟨v3,vs3,d3,ds3,p3,q3,rfl,rfl,rfl,h3,r3⟩:=trodAll_cons r2
 obtain⟨rfl,rfl,rfl⟩:=trodAll_nil r3
 obtain rfl:args=#[v0,v1,v2,v3]:=by cases args;simp_all
 obtain⟨rfl,rfl⟩:=trodVars_none hV
 have k0:=h0
 have k1:=h1
 have lt0:∀x∈p0,x.block<W.heap.size:=by obtain⟨m,hm⟩:=k0;exact DataW.trod_lt m _ _ _ hm
 have lt1:∀x∈p1,x.block<W.heap.size:=by obtain⟨m,hm⟩:=k1;exact DataW.trod_lt m _ _ _ hm
 obtain⟨vn,vh,va,pr,rfl,hp,hsn,hsa⟩:=Open.open_prog2 (hval 0 26 v0 rfl rfl) h0
 obtain⟨A,c,de,rfl,hs,hcap,f1,f2,f3⟩:=Open.open_desc (hval 1 28 v1 rfl rfl) h1
 obtain⟨ac,rfl,rfl,rfl,w2⟩:=open_int Tryz.underlying3 (hval 2 3 v2 rfl rfl) h2
 obtain⟨sd,rfl,rfl,rfl,w3⟩:=open_int Tryz.underlying3 (hval 3 3 v3 rfl rfl) h3
 clear hA0 hval0
 refine((Wm pr de ac sd (λa ha=>(hsa a ha).2) f1 f2 f3 (rC w2) (rC w3)).call W #[.agg #[vn,vh,va],.agg #[.slice A de.sides.length c,.int .i64 de.across,.int .i64 de.down,.int .i64 de.ground],.int .i64 ac,.int .i64 sd] rfl (λE hw hD i hi=>?_)).mono λe W' ⟨he,bel⟩=>?_
 have h4:i<4:=hi
 match i,h4 with
 |0,_=>exact Ab1 hp hw hD
 |1,_=>exact AaX hs hcap hw hD
 |2,_=>exact .lit _ _
 |3,_=>exact .lit _ _
 subst he
 exact⟨_,rfl,_,_,_,[],_,[],hW',trodAll_mk1 (shut_bool Tryz.underlying4 _),(trodAll_cons_mk (Below.trod rD (by kernel_rfl) (of_decide_eq_true (by kernel_rfl)) k0 bel lt0) (trodAll_cons_mk (Below.trod rD (by kernel_rfl) (of_decide_eq_true (by kernel_rfl)) k1 bel lt1) (trodAll_cons_mk (shut_int Tryz.underlying3 w2) (trodAll_cons_mk (shut_int Tryz.underlying3 w3) trodAll_mk0)))),rfl,bel.frame _,λh=>by cases h⟩
theorem row_holds:Rows.EscapeExtendsSaid:=
 OpenClaim.holds_of_wide 5 Tryz.f5 rfl rfl rfl rfl rfl rfl rfl ⟨rfl,rfl,rfl,rfl,rfl⟩ rfl rfl rfl rfl rfl (by kernel_rfl) Tryz.func5 (by kernel_rfl)
  (of_decide_eq_true (by kernel_rfl)) (by unfold Func.isWrapper;first|(rw[if_pos (by decide+kernel)];kernel_rfl)|(rw[if_neg (by decide+kernel)];exact⟨rfl,rfl⟩))
  (λos started H enc _=>Acs os started H enc)
end Go.Proofs.YtkcnbaeoahoglaaGreat.EX