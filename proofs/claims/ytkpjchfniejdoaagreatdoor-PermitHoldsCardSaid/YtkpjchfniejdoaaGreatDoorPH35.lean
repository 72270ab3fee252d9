/- Part 35 of the proof of PH.card_holds: no condition beyond the row's. -/
import Derived.Test.YtkpjchfniejdoaaGreatDoorPH34
import Derived.Laws.IdiomArrays
set_option maxRecDepth 100000
set_option maxHeartbeats 40000000
namespace Go.Proofs.YtkpjchfniejdoaaGreatDoor.Open
open Go.ChangeShapes Go.WideShapes Go.ChangeAt Go.RowKit Go.Deep
theorem Ak0:Tryz.prog.cellsOf 35=12:=κ
theorem Ans:Tryz.prog.cellsOf 33=3:=κ
theorem Akx:Tryz.prog.cellsOf 4=1:=κ
theorem Anq:Tryz.prog.cellsOf 36=3:=κ
section
variable {H:Type} {enc:TypeId×Value->H} {W:World}
theorem nA {cs:List Value} {n:Nat} {y:DataW H×List MemPlace} (hl:cs.length=3) (h:DataW.trod enc Tryz.prog W 0 (λ_=>true) true n 33 cs=some y):∃a b c:Int,cs=[.int .i64 a,.int .i64 b,.int .i64 c]:=by
 match cs,hl with
 |[v0,v1,v2],_=>
  obtain⟨m0,z0,h0⟩:=Bf (ty:=3) (off:=0) Tryz.underlying33 h 0 (by rfl)
  obtain⟨m1,z1,h1⟩:=Bf (ty:=3) (off:=1) Tryz.underlying33 h 1 (by rfl)
  obtain⟨m2,z2,h2⟩:=Bf (ty:=3) (off:=2) Tryz.underlying33 h 2 (by rfl)
  simp only[bM] at h0 h1 h2
  obtain⟨k0,e0,_⟩:=Dc h0
  obtain⟨k1,e1,_⟩:=Dc h1
  obtain⟨k2,e2,_⟩:=Dc h2
  simp at e0 e1 e2
  subst e0 e1 e2
  exact⟨k0,k1,k2,rfl⟩
theorem open_sheet {v:Value} {d:DataW H} {p:List MemPlace} {base:Nat} (hv:Value.okWide Tryz.prog W .any base 35 v) (h:DataW.Trod enc Tryz.prog W 0 (λ_=>true) true 35 v d p):∃y:Sh,v=kH y:=by
 obtain⟨cs,rfl,hsz⟩:=okWide_struct Tryz.underlying35 hv
 obtain⟨fuel,hf⟩:=h
 rw[Ak0] at hsz
 have hf:DataW.trod enc Tryz.prog W 0 (λ_=>true) true fuel 35 cs.toList=some (d,p):=by simpa [Value.cells] using hf
 obtain⟨l⟩:=cs
 match l,hsz with
 |[v0,v1,v2,v3,v4,v5,v6,v7,v8,v9,v10,v11],_=>
  obtain⟨m0,z0,h0⟩:=Bf (ty:=3) (off:=0) Tryz.underlying35 hf 0 (by rfl)
  obtain⟨m1,z1,h1⟩:=Bf (ty:=3) (off:=1) Tryz.underlying35 hf 1 (by rfl)
  obtain⟨m2,z2,h2⟩:=Bf (ty:=3) (off:=2) Tryz.underlying35 hf 2 (by rfl)
  obtain⟨m3,z3,h3⟩:=Bf (ty:=33) (off:=3) Tryz.underlying35 hf 3 (by rfl)
  obtain⟨m4,z4,h4⟩:=Bf (ty:=33) (off:=6) Tryz.underlying35 hf 4 (by rfl)
  obtain⟨m5,z5,h5⟩:=Bf (ty:=3) (off:=9) Tryz.underlying35 hf 5 (by rfl)
  obtain⟨m6,z6,h6⟩:=Bf (ty:=3) (off:=10) Tryz.underlying35 hf 6 (by rfl)
  obtain⟨m7,z7,h7⟩:=Bf (ty:=4) (off:=11) Tryz.underlying35 hf 7 (by rfl)
  simp only[bM,Ans,Akx] at h0 h1 h2 h3 h4 h5 h6 h7
  obtain⟨k0,e0,_⟩:=Dc h0
  obtain⟨k1,e1,_⟩:=Dc h1
  obtain⟨k2,e2,_⟩:=Dc h2
  obtain⟨a3,b3,c3,e3⟩:=nA (by rfl) h3
  obtain⟨a4,b4,c4,e4⟩:=nA (by rfl) h4
  obtain⟨k5,e5,_⟩:=Dc h5
  obtain⟨k6,e6,_⟩:=Dc h6
  obtain⟨k7,e7,_⟩:=DataW.trod_bool Tryz.underlying4 h7
  simp at e0 e1 e2 e3 e4 e5 e6 e7
  obtain⟨f3,g3,i3⟩:=e3
  obtain⟨f4,g4,i4⟩:=e4
  subst e0 e1 e2 f3 g3 i3 f4 g4 i4 e5 e6 e7
  exact⟨⟨k0,k1,k2,a3,b3,c3,a4,b4,c4,k5,k6,k7⟩,rfl⟩
theorem open_arr3 {v:Value} {d:DataW H} {p:List MemPlace} {base:Nat} (hv:Value.okWide Tryz.prog W .any base 36 v) (h:DataW.Trod enc Tryz.prog W 0 (λ_=>true) true 36 v d p):∃a b c:Int,v= .agg #[.int .i64 a,.int .i64 b,.int .i64 c]:=by
 obtain⟨cs,rfl,hsz,_⟩:∃cs,v= .agg cs/\cs.size=Tryz.prog.cellsOf 36/\Row.okWide Tryz.prog W .any base 36 cs:=by simpa [Value.okWide,Tryz.underlying36] using hv
 obtain⟨fuel,hf⟩:=h
 rw[Anq] at hsz
 have hf:DataW.trod enc Tryz.prog W 0 (λ_=>true) true fuel 36 cs.toList=some (d,p):=by simpa [Value.cells] using hf
 obtain⟨l⟩:=cs
 match l,hsz with
 |[v0,v1,v2],_=>
  obtain⟨y0,y1,y2,m,hx,h0,h1,h2⟩:=trod_array3 Tryz.underlying36 bM hf
  obtain⟨k0,e0,_⟩:=Dc h0
  obtain⟨k1,e1,_⟩:=Dc h1
  obtain⟨k2,e2,_⟩:=Dc h2
  simp at e0 e1 e2
  subst e0 e1 e2
  exact⟨k0,k1,k2,rfl⟩
end
end Go.Proofs.YtkpjchfniejdoaaGreatDoor.Open