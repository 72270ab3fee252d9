/- Part 22 of the proof of EW.row_holds, joined by program: no condition beyond the row's own. -/
import Derived.Test.YtkcnbaeoahoglaaGreatW21
import Derived.Test.YtkcnbaeoahoglaaGreatRows
import Derived.LaidMore
import Derived.OpenShut
import Derived.ShutString
import Derived.ChangeOld
import Derived.Lib.LaidTab
import Derived.Stop.Joined
import Derived.HandedShaped
import Derived.Deep.Fields
set_option maxRecDepth 100000
set_option maxHeartbeats 40000000
namespace Go.Proofs.YtkcnbaeoahoglaaGreat.Open
open Go.ChangeShapes Go.WideShapes Go.ChangeAt Go.RowKit Go.Deep
section
variable {H : Type} {enc : TypeId × Value → H} {W : World} {n : Nat} {y : DataW H × List MemPlace} {cs : List Value}
theorem open_act2 (hl : cs.length = 3) (h : DataW.trod enc Tryz.prog W 0 (fun _ => true) true n 60 cs = some y) : ∃ a : Ac, ActAt W (rg 0 W.heap.size) a cs ∧ (a.name.size ≤ maxLen ∧ In64 a.len) := by
 match cs, hl with
 | [a, b, c], _ =>
  obtain ⟨m0, z0, h0⟩ := open_field (ty := 9) (off := 0) Tryz.underlying60 h 0 (by rfl)
  obtain ⟨m1, z1, h1⟩ := open_field (ty := 3) (off := 1) Tryz.underlying60 h 1 (by rfl)
  obtain ⟨m2, z2, h2⟩ := open_field (ty := 58) (off := 2) Tryz.underlying60 h 2 (by rfl)
  simp only [c_int, c_str, c_moves] at h0 h1 h2
  obtain ⟨s, e0, _, hs⟩ := DataW.trod_string Tryz.underlying9 h0
  obtain ⟨k1, e1, f1⟩ := open_int h1
  obtain ⟨ad, len, cap, e2⟩ := Go.Joins.slice_form Tryz.underlying58 h2
  rw [e2] at h2
  obtain ⟨l, g1, g2, g3, _⟩ := open_rows Tryz.underlying58 c_move (by decide) h2
  obtain ⟨L, L1, L2⟩ := list_of (cells := Mv.cells) l (fun cs hc => by obtain ⟨hl, n, y, ht⟩ := g2 cs hc; exact open_move hl ht)
  simp at e0 e1 e2
  refine ⟨⟨s, k1, L⟩, ⟨.slice ad len cap, by simp [e0, e1, e2], ?_⟩, hs, f1⟩
  show SeesD W _ 6 _ L.length (mvs L)
  have hL : L.length = len := by omega
  rw [hL]
  unfold mvs
  rw [← L2]
  exact g3
theorem acts_of2 : ∀ (l : List (List Value)) (_ : ∀ cs ∈ l, ∃ a : Ac, ActAt W (rg 0 W.heap.size) a cs ∧ (a.name.size ≤ maxLen ∧ In64 a.len)), ∃ L : List Ac, L.length = l.length ∧ Acts W (rg 0 W.heap.size) L l.flatten ∧ ∀ a ∈ L, (a.name.size ≤ maxLen ∧ In64 a.len)
 | [], _ => ⟨[], rfl, rfl, by simp⟩
 | cs :: l, h => by
  obtain ⟨a, ha, hs⟩ := h cs (by simp)
  obtain ⟨L, h1, h2, h3⟩ := acts_of2 l (fun c hc => h c (by simp [hc]))
  refine ⟨a :: L, by simp [h1], ⟨cs, l.flatten, by simp, ha, h2⟩, fun x hx => ?_⟩
  rcases List.mem_cons.1 hx with rfl | hx
  · exact hs
  · exact h3 x hx
theorem open_prog2 {v : Value} {d : DataW H} {p : List MemPlace} {base : Nat} (hv : Value.okWide Tryz.prog W .any base 26 v) (h : DataW.Trod enc Tryz.prog W 0 (fun _ => true) true 26 v d p) :
  ∃ (vn vh va : Value) (pr : Pr), v = .agg #[vn, vh, va] ∧ ProgAt W W.heap.size vn vh va pr ∧ (∀ s ∈ pr.names, s.size ≤ maxLen) ∧ (∀ a ∈ pr.acts, (a.name.size ≤ maxLen ∧ In64 a.len)) := by
 obtain ⟨v0, v1, v2, y0, y1, y2, n, rfl, _, _, h0, h1, h2⟩ := Go.Joins.open_agg3 Tryz.underlying26 (by kernel_rfl) (by kernel_rfl) hv h
 obtain ⟨a0, l0, c0, e0⟩ := Go.Joins.slice_form Tryz.underlying22 h0
 obtain ⟨a1, l1, c1, e1⟩ := Go.Joins.slice_form Tryz.underlying23 h1
 obtain ⟨a2, l2, c2, e2⟩ := Go.Joins.slice_form Tryz.underlying24 h2
 obtain rfl : v0 = .slice a0 l0 c0 := by simpa using e0
 obtain rfl : v1 = .slice a1 l1 c1 := by simpa using e1
 obtain rfl : v2 = .slice a2 l2 c2 := by simpa using e2
 obtain ⟨N, hN, sN, _, zN⟩ := open_names h0
 obtain ⟨lh, g1, g2, g3, _⟩ := open_rows Tryz.underlying23 c_vec (by decide) h1
 obtain ⟨Hm, H1, H2⟩ := list_of (cells := fun v : V3 => [.int .i64 v.x, .int .i64 v.y, .int .i64 v.z]) lh (fun cs hc => by obtain ⟨hl, n, y, ht⟩ := g2 cs hc; exact open_vec hl ht)
 obtain ⟨la, k1, k2, k3, _⟩ := open_rows Tryz.underlying24 c_act (by decide) h2
 obtain ⟨Ac, A1, A2, A3⟩ := acts_of2 la (fun cs hc => by obtain ⟨hl, n, y, ht⟩ := k2 cs hc; exact open_act2 hl ht)
 refine ⟨_, _, _, ⟨N, Hm, Ac⟩, rfl, ⟨sN, ?_, la.flatten, ?_, A2⟩, zN, A3⟩
 ·
  have hL : Hm.length = l1 := by omega
  show Sees W 0 W.heap.size 3 _ Hm.length (vecs Hm)
  rw [hL]
  unfold vecs
  rw [← H2]
  exact g3
 ·
  have hL : Ac.length = l2 := by omega
  show Sees W 0 W.heap.size 3 _ Ac.length _
  rw [hL]
  exact k3
theorem open_cap {a0 : Option Addr} {len0 cap0 fuel : Nat} {t e : TypeId} (ht : Tryz.prog.underlying t = some (.slice e)) (h : DataW.trod enc Tryz.prog W 0 (fun _ => true) true fuel t [.slice a0 len0 cap0] = some y) : len0 ≤ cap0 := by
 rcases open_slice ht h with ⟨hcs, _⟩ | ⟨x, n, c, m, nn, D, Pl, hcs, _, hl, hm, hmm, _, hi⟩
 ·
  simp at hcs
  obtain ⟨rfl, rfl, rfl⟩ := hcs
  exact Nat.le_refl _
 ·
  simp at hcs
  obtain ⟨rfl, rfl, rfl⟩ := hcs
  have hmm' : m = cap0 := by simpa using hmm
  omega
theorem open_desc {v : Value} {d : DataW H} {p : List MemPlace} {base : Nat} (hv : Value.okWide Tryz.prog W .any base 28 v) (h : DataW.Trod enc Tryz.prog W 0 (fun _ => true) true 28 v d p) :
  ∃ (A : Option Addr) (c : Nat) (de : De), v = .agg #[.slice A de.sides.length c, .int .i64 de.across, .int .i64 de.down, .int .i64 de.ground] ∧ Sees W 0 W.heap.size 3 (.slice A de.sides.length c) de.sides.length (vecs de.sides) ∧ de.sides.length ≤ c ∧ In64 de.across ∧ In64 de.down ∧ In64 de.ground := by
 obtain ⟨v0, v1, v2, v3, y0, y1, y2, y3, n, rfl, _, _, h0, h1, h2, h3⟩ := Go.Joins.open_agg4 Tryz.underlying28 (by kernel_rfl) (by kernel_rfl) hv h
 obtain ⟨a0, l0, c0, e0⟩ := Go.Joins.slice_form Tryz.underlying23 h0
 obtain rfl : v0 = .slice a0 l0 c0 := by simpa using e0
 obtain ⟨k1, e1, f1⟩ := open_int h1
 obtain ⟨k2, e2, f2⟩ := open_int h2
 obtain ⟨k3, e3, f3⟩ := open_int h3
 have hc := open_cap Tryz.underlying23 h0
 obtain ⟨lh, g1, g2, g3, _⟩ := open_rows Tryz.underlying23 c_vec (by decide) h0
 obtain ⟨Hm, H1, H2⟩ := list_of (cells := fun v : V3 => [.int .i64 v.x, .int .i64 v.y, .int .i64 v.z]) lh (fun cs hc => by obtain ⟨hl, n, y, ht⟩ := g2 cs hc; exact open_vec hl ht)
 have hL : Hm.length = l0 := by omega
 subst hL
 simp at e1 e2 e3
 refine ⟨a0, c0, ⟨Hm, k1, k2, k3⟩, by simp [e1, e2, e3], ?_, hc, f1, f2, f3⟩
 show Sees W 0 W.heap.size 3 _ Hm.length (vecs Hm)
 unfold vecs
 rw [← H2]
 exact g3
end
end Go.Proofs.YtkcnbaeoahoglaaGreat.Open
namespace Go.Proofs.YtkcnbaeoahoglaaGreat
open Go.RowKit
theorem vecs_sl {w : World} {D : Nat → Prop} {l : List V3} {v : Value} (h : SeesD w D 3 v l.length (vecs l)) {E : Env} (hw : E.w = w) (hD : ∀ b, D b → E.D b) : VR E (vecsA l) v :=
 sees_sl h hw hD fun i j hi hj => by
  have := getD_flat (fun v : V3 => [Value.int .i64 v.x, .int .i64 v.y, .int .i64 v.z]) 3 (fun _ => rfl) l i j V3.zero hi hj
  unfold vecs
  rw [this]
  match j, hj with
  | 0, _ => exact .lit _ _
  | 1, _ => exact .lit _ _
  | 2, _ => exact .lit _ _
theorem mvs_sl {w : World} {D : Nat → Prop} {l : List Mv} {v : Value} (h : SeesD w D 6 v l.length (mvs l)) {E : Env} (hw : E.w = w) (hD : ∀ b, D b → E.D b) : VR E (mvsA l) v :=
 sees_sl h hw hD fun i j hi hj => by
  have := getD_flat Mv.cells 6 (fun _ => rfl) l i j Mv.none hi hj
  unfold mvs
  rw [this]
  match j, hj with
  | 0, _ => exact .lit _ _
  | 1, _ => exact .lit _ _
  | 2, _ => exact .lit _ _
  | 3, _ => exact .lit _ _
  | 4, _ => exact .lit _ _
  | 5, _ => exact .lit _ _
theorem names_sl {w : World} {D : Nat → Prop} {l : List ByteArray} {v : Value} (h : SeesD w D 1 v l.length (strs l)) {E : Env} (hw : E.w = w) (hD : ∀ b, D b → E.D b) : VR E (namesA l) v :=
 sees_sl h hw hD fun i j hi hj => by
  obtain rfl : j = 0 := by omega
  have e : (strs l).getD (i * 1 + 0) undef = .string (l.getD i ByteArray.empty) := by simp [strs, List.getD_eq_getElem?_getD, hi]
  rw [e]
  exact .lit _ _
theorem acts_sl {w : World} {D : Nat → Prop} {l : List Ac} {v : Value} {cs : List Value} (h : SeesD w D 3 v l.length cs) (ha : Acts w D l cs) {E : Env} (hw : E.w = w) (hD : ∀ b, D b → E.D b) : VR E (actsA l) v :=
 sees_sl h hw hD fun i j hi hj => by
  obtain ⟨vm, hm, hat⟩ := ha.at_ hi
  have e : l.getD i Ac.none = l[i] := by rw [List.getD_eq_getElem?_getD, List.getElem?_eq_getElem hi]; rfl
  have g : ∀ u, [Value.string l[i].name, .int .i64 l[i].len, vm][j]? = some u → cs.getD (i * 3 + j) undef = u := fun u hu => by
   rw [List.getD_eq_getElem?_getD, hat j u hu]; rfl
  rw [e]
  match j, hj with
  | 0, _ => rw [g _ rfl]; exact .lit _ _
  | 1, _ => rw [g _ rfl]; exact .lit _ _
  | 2, _ => rw [g _ rfl]; exact mvs_sl (E := E.fz) hm hw hD
theorem prog_sl {w : World} {hi : Nat} {vn vh va : Value} {p : Pr} (h : ProgAt w hi vn vh va p) {E : Env} (hw : E.w = w) (hD : ∀ b, b < hi → E.D b) : VR E (progA p) (.agg #[vn, vh, va]) := by
 obtain ⟨cs, k1, k2⟩ := h.acts
 have hD2 : ∀ b, rg 0 hi b → E.D b := fun b hb => hD b hb.2
 refine .agg _ _ _ rfl fun i hi => ?_
 have h3 : i < 3 := hi
 match i, h3 with
 | 0, _ => exact names_sl h.names hw hD2
 | 1, _ => exact vecs_sl h.homes hw hD2
 | 2, _ => exact acts_sl k1 k2 hw hD2
theorem desc_sl {w : World} {A : Option Addr} {c : Nat} {d : De} (h : Sees w 0 w.heap.size 3 (.slice A d.sides.length c) d.sides.length (vecs d.sides)) (hc : d.sides.length ≤ c) {E : Env} (hw : E.w = w) (hD : ∀ b, b < w.heap.size → E.D b) : VR E (descA d) (.agg #[.slice A d.sides.length c, .int .i64 d.across, .int .i64 d.down, .int .i64 d.ground]) := by
 refine .agg _ _ _ rfl fun i hi => ?_
 have h3 : i < 4 := hi
 match i, h3 with
 | 0, _ => exact .slc _ _ _ _ _ _ hc (vecs_sl h hw fun b hb => hD b hb.2)
 | 1, _ => exact .lit _ _
 | 2, _ => exact .lit _ _
 | 3, _ => exact .lit _ _
theorem AF.call {P : Program} {f : FuncId} {args : List AV} {v : Value} (h : AF P f args (.lit v)) (W : World) (vs : Array Value) (hn : vs.size = args.length) (hv : ∀ E : Env, E.w = W → (∀ b, b < W.heap.size → E.D b) → ∀ i, i < args.length → VR E (args.getD i .top) (vs.getD i undef)) : Calls P f vs W fun e w' => e = .returned v ∧ Below W.heap.size W w' := by
 refine (h { π := fun _ => 0, cap := fun _ => 0, A := fun _ => False, D := fun b => b < W.heap.size, w := W } vs (fun b hb => hb) hn fun i hi => hv _ rfl (fun b hb => hb) i hi).mono ?_
 rintro e w' ⟨u, D', rfl, hr, hb, _⟩
 exact ⟨by rw [hr.lit_inv], hb⟩
end Go.Proofs.YtkcnbaeoahoglaaGreat
namespace Go.Proofs.YtkcnbaeoahoglaaGreat
open Go.RowKit
theorem list_ext0 {a b : List Int} (h : a.length = b.length) (hq : ∀ q, q < a.length → a.getD q 0 = b.getD q 0) : a = b := by
 refine List.ext_getElem h fun i h1 h2 => ?_
 have := hq i h1
 rwa [List.getD_eq_getElem?_getD, List.getD_eq_getElem?_getD, List.getElem?_eq_getElem h1, List.getElem?_eq_getElem h2] at this
theorem AF_eqInts (a b : List Int) (ha : a.length ≤ 1000000) (hb : b.length ≤ 1000000) : AF Tryz.prog 40 [coefA a, coefA b] (.bool (bP (a = b))) := by
  refine AF_of ⟨[(0, coefA (a)), (1, coefA (b))], [], 0, 26⟩ Tryz.func40 rfl 26 Tryz.ntmps40 (by kernel_rfl) (by kernel_rfl) fun B D0 hA0 => ?_
  refine qreg 1 [0, 1] ?_
  refine AC_seq ?_
  refine AC_seq_list ?_
  refine qrun 1 ?_
  refine qopn (.int (((a.length : Nat) : Int))) (qlen (.tmp 6) 65 #[65] Tryz.underlying65 (a.length) (.inl ⟨1, (fun i0 => .int ((a).getD i0 0)), by kernel_rfl⟩)) ?_
  refine qrun 1 ?_
  refine qopn (.int (((b.length : Nat) : Int))) (qlen (.tmp 8) 65 #[65] Tryz.underlying65 (b.length) (.inl ⟨1, (fun i0 => .int ((b).getD i0 0)), by kernel_rfl⟩)) ?_
  refine qb (!decide (((a.length : Nat) : Int) = ((b.length : Nat) : Int))) ?_
  refine qend [0, 1, 10] ?_
  refine bool_split (decide (((a.length : Nat) : Int) = ((b.length : Nat) : Int))) (fun hx1 => ?_) (fun hx1 => ?_)
  ·
   have hx1d := of_decide_eq_true hx1
   refine qF (nt hx1) ?_
   refine AC_skip ?_
   refine AC_seq ?_
   refine AC_seq_list ?_
   refine qrun 1 ?_
   refine qopn (.int (((a.length : Nat) : Int))) (qlen (.tmp 11) 65 #[65] Tryz.underlying65 (a.length) (.inl ⟨1, (fun i0 => .int ((a).getD i0 0)), by kernel_rfl⟩)) ?_
   refine qrun 1 ?_
   refine qend [0, 1, 12, 13] ?_
   refine AC_block ?_
   refine AC_loop_inv (fun m s => ∃ i, i ≤ a.length ∧ m = a.length - i ∧ (∀ q, q < i → a.getD q 0 = b.getD q 0) ∧ s = ⟨[(0, coefA (a)), (1, coefA (b)), (12, .int (((a.length : Nat) : Int))), (13, .int (((i : Nat) : Int)))], [], 0, 26⟩) (a.length) ⟨0, Nat.zero_le _, rfl, (fun q hq => absurd hq (Nat.not_lt_zero q)), (by kernel_rfl)⟩ ?_
   rintro _ _ ⟨i, hin, rfl, hFi, rfl⟩
   refine AC_seq_list ?_
   refine qb (decide (((i : Nat) : Int) < ((a.length : Nat) : Int))) ?_
   refine qend [0, 1, 12, 13, 14] ?_
   refine AC_seq ?_
   refine bool_split (decide (((i : Nat) : Int) < ((a.length : Nat) : Int))) (fun hx2 => ?_) (fun hx2 => ?_)
   ·
    have hx2d := of_decide_eq_true hx2
    refine qT hx2 ?_
    refine AC_skip ?_
    refine AC_seq ?_
    refine AC_block ?_
    refine qreg 2 [0, 1, 5, 12, 13] ?_
    refine qsdraw [(2, .elt 1 (fun q => AV.cell (.int ((a).getD i 0)) q), .none), (6, .elt 1 (fun q => AV.cell (.int ((b).getD i 0)) q), .none), (8, .bool (!decide ((a).getD i 0 = (b).getD i 0)), .none)] [0, 1, 12, 13, 24] 0 ⟨?_, ?_, ?_, trivial⟩ ?_
    · exact qcast (qindex_sl 65 (.tmp 16) (.tmp 17) Tryz.underlying65 1 (a.length) (i) (fun i0 => .int ((a).getD i0 0)) (((i : Nat) : Int)) Tryz.sizeOf3)
    · exact qcast (qindex_sl 65 (.tmp 20) (.tmp 21) Tryz.underlying65 1 (b.length) (i) (fun i0 => .int ((b).getD i0 0)) (((i : Nat) : Int)) Tryz.sizeOf3)
    · exact qbD
    refine bool_split (decide ((a).getD i 0 = (b).getD i 0)) (fun hx3 => ?_) (fun hx3 => ?_)
    ·
     have hx3d := of_decide_eq_true hx3
     refine qF (nt hx3) ?_
     refine AC_skip ?_
     refine AC_list ?_
     refine qw (((i : Nat) : Int) + 1) (((i + 1 : Nat) : Int)) ?_
     refine qrun 1 ?_
     refine qend1 [0, 1, 12, 13] ?_
     exact ⟨_, (by omega : a.length - (i + 1) < a.length - i), i + 1, (by omega), rfl, (fun q hq => (Nat.lt_or_ge q i).elim (fun g => hFi q g) fun g => by have e : q = i := (by omega); subst e; omega), (by kernel_rfl)⟩
    ·
     have hx3d := of_decide_eq_false hx3
     refine qT (nf hx3) ?_
     refine qreg 1 [4] ?_
     refine AC_ret ?_
     exact ⟨.inl rfl, (resOk1 Tryz.results40 (resV_tmp (x := .bool false) (by kernel_rfl) (by kernel_rfl))).cast (congrArg AV.bool (bP_false (fun h => by subst h; omega)).symm)⟩
   ·
    have hx2d := of_decide_eq_false hx2
    refine qF hx2 ?_
    refine AC_exit ?_
    refine qreg 1 [4] ?_
    refine AC_ret ?_
    exact ⟨.inl rfl, (resOk1 Tryz.results40 (resV_tmp (x := .bool true) (by kernel_rfl) (by kernel_rfl))).cast (congrArg AV.bool (bP_true (list_ext0 (by omega) (fun q hq => hFi q (by omega)))).symm)⟩
  ·
   have hx1d := of_decide_eq_false hx1
   refine qT (nf hx1) ?_
   refine qreg 1 [4] ?_
   refine AC_ret ?_
   exact ⟨.inl rfl, (resOk1 Tryz.results40 (resV_tmp (x := .bool false) (by kernel_rfl) (by kernel_rfl))).cast (congrArg AV.bool (bP_false (fun h => by subst h; omega)).symm)⟩
def RowsIn (s : Sg) : Prop := s.x.length ≤ 1000000 ∧ s.y.length ≤ 1000000 ∧ s.z.length ≤ 1000000
theorem sg_ext {s t : Sg} (h1 : s.f = t.f) (h2 : s.t = t.t) (h3 : s.o = t.o) (h4 : s.x = t.x) (h5 : s.y = t.y) (h6 : s.z = t.z) : s = t := by
  cases s; cases t; simp_all
theorem AF_eqSeg (s t : Sg) (hs : RowsIn s) (ht : RowsIn t) : AF Tryz.prog 39 [segA s, segA t] (.bool (bP (s = t))) := by
  refine AF_of ⟨[(0, segA (s)), (1, segA (t))], [], 0, 45⟩ Tryz.func39 rfl 45 Tryz.ntmps39 (by kernel_rfl) (by kernel_rfl) fun B D0 hA0 => ?_
  refine qreg 3 [2, 3] ?_
  refine AC_seq_list ?_
  refine qrun 4 ?_
  refine qb (decide (s.f = t.f)) ?_
  refine qrun 1 ?_
  refine bool_split (decide (s.f = t.f)) (fun hx1 => ?_) (fun hx1 => ?_)
  ·
   have hx1d := of_decide_eq_true hx1
   refine qLknown 10 _ true hx1 ?_
   refine qrun 4 ?_
   refine qbg (decide (s.t = t.t)) ?_
   refine qrun 2 ?_
   refine bool_split (decide (s.t = t.t)) (fun hx2 => ?_) (fun hx2 => ?_)
   ·
    have hx2d := of_decide_eq_true hx2
    refine qLknown 17 _ true hx2 ?_
    refine qrun 4 ?_
    refine qbg (decide (s.o = t.o)) ?_
    refine qrun 2 ?_
    refine bool_split (decide (s.o = t.o)) (fun hx3 => ?_) (fun hx3 => ?_)
    ·
     have hx3d := of_decide_eq_true hx3
     refine qLknown 24 _ true hx3 ?_
     refine qrun 4 ?_
     refine qclg (AF_eqInts s.x t.x hs.1 ht.1) ?_
     refine qrun 2 ?_
     refine bool_split (bP (s.x = t.x)) (fun hx4 => ?_) (fun hx4 => ?_)
     ·
      refine qLknown 31 _ true hx4 ?_
      refine qrun 4 ?_
      refine qclg (AF_eqInts s.y t.y hs.2.1 ht.2.1) ?_
      refine qrun 2 ?_
      refine bool_split (bP (s.y = t.y)) (fun hx5 => ?_) (fun hx5 => ?_)
      ·
       refine qLknown 38 _ true hx5 ?_
       refine qrun 4 ?_
       refine qclg (AF_eqInts s.z t.z hs.2.2 ht.2.2) ?_
       refine qrun 2 ?_
       refine qend [4] ?_
       refine AC_ret ?_
       exact ⟨.inl rfl, (resOk1 Tryz.results39 (resV_tmp (x := .bool (bP (s.z = t.z))) (by kernel_rfl) (by kernel_rfl))).cast (congrArg AV.bool (bP_congr ⟨fun h => sg_ext (by omega) (by omega) (by omega) (bP_of hx4) (bP_of hx5) h, congrArg Sg.z⟩))⟩
      ·
       refine qLknown 38 _ false hx5 ?_
       refine qrun 7 ?_
       refine qend [4] ?_
       refine AC_ret ?_
       exact ⟨.inl rfl, (resOk1 Tryz.results39 (resV_tmp (x := .bool false) (by kernel_rfl) (by kernel_rfl))).cast (congrArg AV.bool (bP_false (fun h => bP_not hx5 (congrArg Sg.y h))).symm)⟩
     ·
      refine qLknown 31 _ false hx4 ?_
      refine qrun 14 ?_
      refine qend [4] ?_
      refine AC_ret ?_
      exact ⟨.inl rfl, (resOk1 Tryz.results39 (resV_tmp (x := .bool false) (by kernel_rfl) (by kernel_rfl))).cast (congrArg AV.bool (bP_false (fun h => bP_not hx4 (congrArg Sg.x h))).symm)⟩
    ·
     have hx3d := of_decide_eq_false hx3
     refine qLknown 24 _ false hx3 ?_
     refine qrun 21 ?_
     refine qend [4] ?_
     refine AC_ret ?_
     exact ⟨.inl rfl, (resOk1 Tryz.results39 (resV_tmp (x := .bool false) (by kernel_rfl) (by kernel_rfl))).cast (congrArg AV.bool (bP_false (fun h => by have e1 := congrArg Sg.f h; have e2 := congrArg Sg.t h; have e3 := congrArg Sg.o h; omega)).symm)⟩
   ·
    have hx2d := of_decide_eq_false hx2
    refine qLknown 17 _ false hx2 ?_
    refine qrun 28 ?_
    refine qend [4] ?_
    refine AC_ret ?_
    exact ⟨.inl rfl, (resOk1 Tryz.results39 (resV_tmp (x := .bool false) (by kernel_rfl) (by kernel_rfl))).cast (congrArg AV.bool (bP_false (fun h => by have e1 := congrArg Sg.f h; have e2 := congrArg Sg.t h; have e3 := congrArg Sg.o h; omega)).symm)⟩
  ·
   have hx1d := of_decide_eq_false hx1
   refine qLknown 10 _ false hx1 ?_
   refine qrun 35 ?_
   refine qend [4] ?_
   refine AC_ret ?_
   exact ⟨.inl rfl, (resOk1 Tryz.results39 (resV_tmp (x := .bool false) (by kernel_rfl) (by kernel_rfl))).cast (congrArg AV.bool (bP_false (fun h => by have e1 := congrArg Sg.f h; have e2 := congrArg Sg.t h; have e3 := congrArg Sg.o h; omega)).symm)⟩
theorem path_ext {a b : List Sg} (h : a.length = b.length) (hq : ∀ q, q < a.length → a.getD q Sg.none = b.getD q Sg.none) : a = b := by
 refine List.ext_getElem h fun i h1 h2 => ?_
 have := hq i h1
 rwa [List.getD_eq_getElem?_getD, List.getD_eq_getElem?_getD, List.getElem?_eq_getElem h1, List.getElem?_eq_getElem h2] at this
def RowsP (l : List Sg) : Prop := l.length ≤ 1000000 ∧ ∀ i, RowsIn (l.getD i Sg.none)
theorem AF_eqFunc (a b : List Sg) (ha : RowsP a) (hb : RowsP b) : AF Tryz.prog 38 [pathA a, pathA b, .fn 39 []] (.bool (bP (a = b))) := by
  have ha1 := ha.1
  have hb1 := hb.1
  refine AF_of ⟨[(0, pathA (a)), (1, pathA (b)), (2, .fn 39 [])], [], 0, 32⟩ Tryz.func38 rfl 32 Tryz.ntmps38 (by kernel_rfl) (by kernel_rfl) fun B D0 hA0 => ?_
  refine qreg 1 [0, 1, 2] ?_
  refine AC_seq ?_
  refine AC_seq_list ?_
  refine qrun 1 ?_
  refine qopn (.int ((((a).length : Nat) : Int))) (qlen (.tmp 10) 41 #[41] Tryz.underlying41 ((a).length) (.inl ⟨6, (fun i0 => segA (((a).getD i0 Sg.none))), by kernel_rfl⟩)) ?_
  refine qrun 1 ?_
  refine qopn (.int ((((b).length : Nat) : Int))) (qlen (.tmp 12) 41 #[41] Tryz.underlying41 ((b).length) (.inl ⟨6, (fun i0 => segA (((b).getD i0 Sg.none))), by kernel_rfl⟩)) ?_
  refine qb (!decide ((((a).length : Nat) : Int) = (((b).length : Nat) : Int))) ?_
  refine qend [0, 1, 2, 14] ?_
  refine bool_split (decide ((((a).length : Nat) : Int) = (((b).length : Nat) : Int))) (fun hx1 => ?_) (fun hx1 => ?_)
  ·
   have hx1d := of_decide_eq_true hx1
   refine qF (nt hx1) ?_
   refine AC_skip ?_
   refine AC_seq ?_
   refine AC_seq_list ?_
   refine qrun 1 ?_
   refine qopn (.int ((((a).length : Nat) : Int))) (qlen (.tmp 15) 41 #[41] Tryz.underlying41 ((a).length) (.inl ⟨6, (fun i0 => segA (((a).getD i0 Sg.none))), by kernel_rfl⟩)) ?_
   refine qrun 1 ?_
   refine qend [1, 2, 15, 16, 17] ?_
   refine AC_block ?_
   refine AC_loop_inv (fun m s => ∃ i, i ≤ a.length ∧ m = a.length - i ∧ (∀ q, q < i → a.getD q Sg.none = b.getD q Sg.none) ∧ s = ⟨[(1, pathA (b)), (2, .fn 39 []), (15, pathA (a)), (16, .int ((((a).length : Nat) : Int))), (17, .int (((i : Nat) : Int)))], [], 0, 32⟩) (a.length) ⟨0, Nat.zero_le _, rfl, (fun q hq => absurd hq (Nat.not_lt_zero q)), (by kernel_rfl)⟩ ?_
   rintro _ _ ⟨i, hin, rfl, hFi, rfl⟩
   refine AC_seq_list ?_
   refine qb (decide (((i : Nat) : Int) < (((a).length : Nat) : Int))) ?_
   refine qend [1, 2, 15, 16, 17, 18] ?_
   refine AC_seq ?_
   refine bool_split (decide (((i : Nat) : Int) < (((a).length : Nat) : Int))) (fun hx2 => ?_) (fun hx2 => ?_)
   ·
    have hx2d := of_decide_eq_true hx2
    refine qT hx2 ?_
    refine AC_skip ?_
    refine AC_seq ?_
    refine AC_block ?_
    refine AC_seq_list ?_
    refine qrun 1 ?_
    refine qopn (.elt 6 (fun q => AV.cell (segA (((a).getD i Sg.none))) q)) (qindex_sl 41 (.tmp 15) (.tmp 17) Tryz.underlying41 6 ((a).length) (i) (fun i0 => segA (((a).getD i0 Sg.none))) (((i : Nat) : Int)) Tryz.sizeOf67) ?_
    refine qrun 4 ?_
    refine qend [1, 2, 7, 8, 15, 16, 17] ?_
    refine AC_seq_list ?_
    refine qrun 2 ?_
    refine qopn (.elt 6 (fun q => AV.cell (segA (((b).getD i Sg.none))) q)) (qindex_sl 41 (.tmp 22) (.tmp 23) Tryz.underlying41 6 ((b).length) (i) (fun i0 => segA (((b).getD i0 Sg.none))) (((i : Nat) : Int)) Tryz.sizeOf67) ?_
    refine qrun 3 ?_
    refine qend [1, 2, 8, 9, 15, 16, 17] ?_
    refine AC_seq_list ?_
    refine qrun 3 ?_
    refine qopn (.bool (bP ((a.getD i Sg.none) = (b.getD i Sg.none)))) (qcallV (.tmp 26) 39 #[(.tmp 27), (.tmp 28)] #[67, 67] [] [segA (((a).getD i Sg.none)), segA (((b).getD i Sg.none))] (.bool (bP ((a.getD i Sg.none) = (b.getD i Sg.none)))) (AF_eqSeg (a.getD i Sg.none) (b.getD i Sg.none) (ha.2 i) (hb.2 i))) ?_
    refine qb (!bP ((a.getD i Sg.none) = (b.getD i Sg.none))) ?_
    refine qend [1, 2, 15, 16, 17, 30] ?_
    refine bool_split (bP ((a.getD i Sg.none) = (b.getD i Sg.none))) (fun hx3 => ?_) (fun hx3 => ?_)
    ·
     refine qF (nt hx3) ?_
     refine AC_skip ?_
     refine qCnorm [1, 2, 15, 16, 17, 30] ⟨[(1, pathA (b)), (2, .fn 39 []), (15, pathA (a)), (16, .int ((((a).length : Nat) : Int))), (17, .int (((i : Nat) : Int))), (30, .bool false)], [(0, .box 67 [.int (((a).getD i Sg.none).f), .int (((a).getD i Sg.none).t), .int (((a).getD i Sg.none).o), coefA (((a).getD i Sg.none).x), coefA (((a).getD i Sg.none).y), coefA (((a).getD i Sg.none).z)]), (1, .box 67 [.int (((b).getD i Sg.none).f), .int (((b).getD i Sg.none).t), .int (((b).getD i Sg.none).o), coefA (((b).getD i Sg.none).x), coefA (((b).getD i Sg.none).y), coefA (((b).getD i Sg.none).z)])], 2, 32⟩ ?_
     refine qCren [] 0 0 hA0 _ (flatH_box (flatH_box flatH_nil)) ?_
     refine AC_list ?_
     refine qw (((i : Nat) : Int) + 1) (((i + 1 : Nat) : Int)) ?_
     refine qrun 1 ?_
     refine qend1 [1, 2, 15, 16, 17] ?_
     exact ⟨_, (by omega : a.length - (i + 1) < a.length - i), i + 1, (by omega), rfl, (fun q hq => (Nat.lt_or_ge q i).elim (fun g => hFi q g) fun g => by have e : q = i := (by omega); subst e; exact bP_of hx3), (by kernel_rfl)⟩
    ·
     refine qT (nf hx3) ?_
     refine qreg 1 [6] ?_
     refine AC_ret ?_
     exact ⟨.inl rfl, (resOk1 Tryz.results38 (resV_tmp (x := .bool false) (by kernel_rfl) (by kernel_rfl))).cast (congrArg AV.bool (bP_false (fun h => bP_not hx3 (by rw [h]))).symm)⟩
   ·
    have hx2d := of_decide_eq_false hx2
    refine qF hx2 ?_
    refine AC_exit ?_
    refine qreg 1 [6] ?_
    refine AC_ret ?_
    exact ⟨.inl rfl, (resOk1 Tryz.results38 (resV_tmp (x := .bool true) (by kernel_rfl) (by kernel_rfl))).cast (congrArg AV.bool (bP_true (path_ext (by omega) (fun q hq => hFi q (by omega)))).symm)⟩
  ·
   have hx1d := of_decide_eq_false hx1
   refine qT (nf hx1) ?_
   refine qreg 1 [6] ?_
   refine AC_ret ?_
   exact ⟨.inl rfl, (resOk1 Tryz.results38 (resV_tmp (x := .bool false) (by kernel_rfl) (by kernel_rfl))).cast (congrArg AV.bool (bP_false (fun h => by subst h; omega)).symm)⟩
theorem AF_equal (a b : List Sg) (ha : RowsP a) (hb : RowsP b) : AF Tryz.prog 17 [pathA a, pathA b] (.bool (bP (a = b))) := by
 refine AF_of ⟨[(0, pathA (a)), (1, pathA (b))], [], 0, 8⟩ Tryz.func17 rfl 8 Tryz.ntmps17 (by kernel_rfl) (by kernel_rfl) fun B D0 hA0 => ?_
 refine qreg 1 [0, 1] ?_
 refine AC_seq_list ?_
 refine qrun 2 ?_
 refine qcl (AF_eqFunc a b ha hb) ?_
 refine qrun 1 ?_
 refine qend [4] ?_
 refine AC_ret ?_
 exact ⟨.inl rfl, (resOk1 Tryz.results17 (resV_tmp (x := .bool (bP (a = b))) (by kernel_rfl) (by kernel_rfl))).cast (by kernel_rfl)⟩
theorem AF_wk {f : FuncId} {args args' : List AV} {r r' : AV} (h : AF Tryz.prog f args r) (hl : args'.length = args.length) (ha : ∀ i, i < args.length → ∀ E v, VR E (args'.getD i .top) v → VR E (args.getD i .top) v) (hr : ∀ E v, VR E r v → VR E r' v) : AF Tryz.prog f args' r' := fun E vs hD hn hv => by
 refine Calls.mono (h E vs hD (by omega) fun i hi => ha i hi _ _ (hv i (by omega))) ?_
 rintro e w' ⟨v, D', h1, h2, h3⟩
 exact ⟨v, D', h1, hr _ _ h2, h3⟩
theorem VR.nil_path {E : Env} {v : Value} (h : VR E (.lit (.slice none 0 0)) v) : VR E (pathA []) v := by
 have := h.lit_inv
 subst this
 exact .sl0 _ _ _ _ _
end Go.Proofs.YtkcnbaeoahoglaaGreat
namespace Go.Proofs.YtkcnbaeoahoglaaGreat
open Go.RowKit
noncomputable def behR (a b : List Sg × Int) : List Sg × Int := if a.2 = 0 ∧ b.2 = 0 then (if a.1.length = 0 then (b.1, 0) else appR a.1 b.1) else ([], max a.2 b.2)
abbrev resP (r : List Sg × Int) : AV := .tup [pathA r.1, .int r.2]
theorem appR_nil {a b : List Sg} (h : (appR a b).2 ≠ 0) : (appR a b).1 = [] := by
 unfold appR at *
 split
 · rfl
 ·
  rename_i h1
  rw [if_neg h1] at h
  split
  · rfl
  ·
   rename_i h2
   rw [if_neg h2] at h
   split
   · rfl
   ·
    rename_i h3
    rw [if_neg h3] at h
    exact absurd rfl h
theorem AF_behind_e (a b : List Sg) (e f : Int) (he : In64 e) (hf : In64 f) (h : ¬ e = 0) : AF Tryz.prog 23 [pathA a, .int e, pathA b, .int f] (.lit (.tuple #[.slice none 0 0, .int .i64 (max e f)])) := by
 refine AF_of ⟨[(0, pathA (a)), (1, .int (e)), (2, pathA (b)), (3, .int (f))], [], 0, 28⟩ Tryz.func23 rfl 28 Tryz.ntmps23 (by kernel_rfl) (by kernel_rfl) fun B D0 hA0 => ?_
 refine qreg 2 [0, 1, 2, 3] ?_
 refine AC_seq ?_
 refine AC_seq_list ?_
 refine qrun 1 ?_
 refine qb (!decide (e = 0)) ?_
 refine qrun 1 ?_
 refine qLknown 12 (!decide (e = 0)) true (by rw [(decide_eq_false h)]; rfl) ?_
 refine qrun 3 ?_
 refine qend [0, 1, 2, 3, 15] ?_
 refine qCtrue ?_
 refine AC_seq_list ?_
 refine qrun 2 ?_
 refine qopn (.int (max (e) (f))) (opS_max (.tmp 16) (.tmp 17) #[32, 32] (by kernel_rfl) (e) (f) (by kernel_rfl) (by kernel_rfl)) ?_
 refine qrun 2 ?_
 refine qend [8, 9] ?_
 refine AC_ret ?_
 exact ⟨.inl rfl, (resOk2 Tryz.results23 (resV_tmp (x := .lit (.slice none 0 0)) (by kernel_rfl) (by kernel_rfl)) (resV_tmp (x := .int (max (e) (f))) (by kernel_rfl) (by kernel_rfl))).cast (by kernel_rfl)⟩
theorem AF_behind_f (a b : List Sg) (e f : Int) (he : In64 e) (hf : In64 f) (h0 : e = 0) (h : ¬ f = 0) : AF Tryz.prog 23 [pathA a, .int e, pathA b, .int f] (.lit (.tuple #[.slice none 0 0, .int .i64 (max e f)])) := by
 refine AF_of ⟨[(0, pathA (a)), (1, .int (e)), (2, pathA (b)), (3, .int (f))], [], 0, 28⟩ Tryz.func23 rfl 28 Tryz.ntmps23 (by kernel_rfl) (by kernel_rfl) fun B D0 hA0 => ?_
 refine qreg 2 [0, 1, 2, 3] ?_
 refine AC_seq ?_
 refine AC_seq_list ?_
 refine qrun 1 ?_
 refine qb (!decide (e = 0)) ?_
 refine qrun 1 ?_
 refine qLknown 12 (!decide (e = 0)) false (by rw [(decide_eq_true h0)]; rfl) ?_
 refine qrun 1 ?_
 refine qbg (!decide (f = 0)) ?_
 refine qrun 1 ?_
 refine qend [0, 1, 2, 3, 15] ?_
 refine qT (b := (!decide (f = 0))) (by rw [(decide_eq_false h)]; rfl) ?_
 refine AC_seq_list ?_
 refine qrun 2 ?_
 refine qopn (.int (max (e) (f))) (opS_max (.tmp 16) (.tmp 17) #[32, 32] (by kernel_rfl) (e) (f) (by kernel_rfl) (by kernel_rfl)) ?_
 refine qrun 2 ?_
 refine qend [8, 9] ?_
 refine AC_ret ?_
 exact ⟨.inl rfl, (resOk2 Tryz.results23 (resV_tmp (x := .lit (.slice none 0 0)) (by kernel_rfl) (by kernel_rfl)) (resV_tmp (x := .int (max (e) (f))) (by kernel_rfl) (by kernel_rfl))).cast (by kernel_rfl)⟩
theorem AF_behind_0 (a b : List Sg) (e f : Int) (he : In64 e) (hf : In64 f) (h0 : e = 0) (h1 : f = 0) (hl : a.length ≤ 1000000) (h : ((a.length : Nat) : Int) = 0) : AF Tryz.prog 23 [pathA a, .int e, pathA b, .int f] (.tup [pathA b, .int 0]) := by
 refine AF_of ⟨[(0, pathA (a)), (1, .int (e)), (2, pathA (b)), (3, .int (f))], [], 0, 28⟩ Tryz.func23 rfl 28 Tryz.ntmps23 (by kernel_rfl) (by kernel_rfl) fun B D0 hA0 => ?_
 refine qreg 2 [0, 1, 2, 3] ?_
 refine AC_seq ?_
 refine AC_seq_list ?_
 refine qrun 1 ?_
 refine qb (!decide (e = 0)) ?_
 refine qrun 1 ?_
 refine qLknown 12 (!decide (e = 0)) false (by rw [(decide_eq_true h0)]; rfl) ?_
 refine qrun 1 ?_
 refine qbg (!decide (f = 0)) ?_
 refine qrun 1 ?_
 refine qend [0, 1, 2, 3, 15] ?_
 refine qF (b := (!decide (f = 0))) (by rw [(decide_eq_true h1)]; rfl) ?_
 refine AC_skip ?_
 refine AC_seq ?_
 refine AC_seq_list ?_
 refine qrun 1 ?_
 refine qopn (.int ((((a).length : Nat) : Int))) (qlen (.tmp 19) 41 #[41] Tryz.underlying41 ((a).length) (.inl ⟨6, (fun i0 => segA (((a).getD i0 Sg.none))), by kernel_rfl⟩)) ?_
 refine qb (decide ((((a).length : Nat) : Int) = 0)) ?_
 refine qend [0, 2, 21] ?_
 refine qT (b := (decide ((((a).length : Nat) : Int) = 0))) (decide_eq_true h) ?_
 refine qreg 3 [8, 9] ?_
 refine AC_ret ?_
 exact ⟨.inl rfl, (resOk2 Tryz.results23 (resV_tmp (x := pathA (b)) (by kernel_rfl) (by kernel_rfl)) (resV_tmp (x := .int (0)) (by kernel_rfl) (by kernel_rfl))).cast (by kernel_rfl)⟩
theorem AF_behind_a (a b : List Sg) (e f : Int) (he : In64 e) (hf : In64 f) (h0 : e = 0) (h1 : f = 0) (hpa : PathIn a) (hpb : PathIn b) (h2 : ¬ ((a.length : Nat) : Int) = 0) (h : (appR a b).2 = 0) : AF Tryz.prog 23 [pathA a, .int e, pathA b, .int f] (.tup [pathA (appR a b).1, .int 0]) := by
 refine AF_of ⟨[(0, pathA (a)), (1, .int (e)), (2, pathA (b)), (3, .int (f))], [], 0, 28⟩ Tryz.func23 rfl 28 Tryz.ntmps23 (by kernel_rfl) (by kernel_rfl) fun B D0 hA0 => ?_
 refine qreg 2 [0, 1, 2, 3] ?_
 refine AC_seq ?_
 refine AC_seq_list ?_
 refine qrun 1 ?_
 refine qb (!decide (e = 0)) ?_
 refine qrun 1 ?_
 refine qLknown 12 (!decide (e = 0)) false (by rw [(decide_eq_true h0)]; rfl) ?_
 refine qrun 1 ?_
 refine qbg (!decide (f = 0)) ?_
 refine qrun 1 ?_
 refine qend [0, 1, 2, 3, 15] ?_
 refine qF (b := (!decide (f = 0))) (by rw [(decide_eq_true h1)]; rfl) ?_
 refine AC_skip ?_
 refine AC_seq ?_
 refine AC_seq_list ?_
 refine qrun 1 ?_
 refine qopn (.int ((((a).length : Nat) : Int))) (qlen (.tmp 19) 41 #[41] Tryz.underlying41 ((a).length) (.inl ⟨6, (fun i0 => segA (((a).getD i0 Sg.none))), by kernel_rfl⟩)) ?_
 refine qb (decide ((((a).length : Nat) : Int) = 0)) ?_
 refine qend [0, 2, 21] ?_
 refine qF (b := (decide ((((a).length : Nat) : Int) = 0))) (decide_eq_false h2) ?_
 refine AC_skip ?_
 refine AC_seq_list ?_
 refine qrun 2 ?_
 refine qcl (AF_append_ok a b hpa hpb h) ?_
 refine qrun 4 ?_
 refine qend [8, 9] ?_
 refine AC_ret ?_
 exact ⟨.inl rfl, (resOk2 Tryz.results23 (resV_tmp (x := pathA ((appR a b).1)) (by kernel_rfl) (by kernel_rfl)) (resV_tmp (x := .int (0)) (by kernel_rfl) (by kernel_rfl))).cast (by kernel_rfl)⟩
theorem AF_behind_b (a b : List Sg) (e f : Int) (he : In64 e) (hf : In64 f) (h0 : e = 0) (h1 : f = 0) (hpa : PathIn a) (hpb : PathIn b) (h2 : ¬ ((a.length : Nat) : Int) = 0) (h : ¬ (appR a b).2 = 0) : AF Tryz.prog 23 [pathA a, .int e, pathA b, .int f] (.lit (.tuple #[.slice none 0 0, .int .i64 (appR a b).2])) := by
 refine AF_of ⟨[(0, pathA (a)), (1, .int (e)), (2, pathA (b)), (3, .int (f))], [], 0, 28⟩ Tryz.func23 rfl 28 Tryz.ntmps23 (by kernel_rfl) (by kernel_rfl) fun B D0 hA0 => ?_
 refine qreg 2 [0, 1, 2, 3] ?_
 refine AC_seq ?_
 refine AC_seq_list ?_
 refine qrun 1 ?_
 refine qb (!decide (e = 0)) ?_
 refine qrun 1 ?_
 refine qLknown 12 (!decide (e = 0)) false (by rw [(decide_eq_true h0)]; rfl) ?_
 refine qrun 1 ?_
 refine qbg (!decide (f = 0)) ?_
 refine qrun 1 ?_
 refine qend [0, 1, 2, 3, 15] ?_
 refine qF (b := (!decide (f = 0))) (by rw [(decide_eq_true h1)]; rfl) ?_
 refine AC_skip ?_
 refine AC_seq ?_
 refine AC_seq_list ?_
 refine qrun 1 ?_
 refine qopn (.int ((((a).length : Nat) : Int))) (qlen (.tmp 19) 41 #[41] Tryz.underlying41 ((a).length) (.inl ⟨6, (fun i0 => segA (((a).getD i0 Sg.none))), by kernel_rfl⟩)) ?_
 refine qb (decide ((((a).length : Nat) : Int) = 0)) ?_
 refine qend [0, 2, 21] ?_
 refine qF (b := (decide ((((a).length : Nat) : Int) = 0))) (decide_eq_false h2) ?_
 refine AC_skip ?_
 refine AC_seq_list ?_
 refine qrun 2 ?_
 refine qcl (AF_append_err a b hpa hpb h) ?_
 refine qopn (.lit (.slice none 0 0)) (qlit (v := .slice none 0 0) (v' := .slice none 0 0) (rfl) _) ?_
 refine qi ((appR a b).2) ?_
 refine qrun 2 ?_
 refine qend [8, 9] ?_
 refine AC_ret ?_
 exact ⟨.inl rfl, (resOk2 Tryz.results23 (resV_tmp (x := .lit (.slice none 0 0)) (by kernel_rfl) (by kernel_rfl)) (resV_tmp (x := .int ((appR a b).2)) (by kernel_rfl) (by kernel_rfl))).cast (by kernel_rfl)⟩
theorem VR.nil_P {E : Env} {v : Value} {e : Int} (h : VR E (.lit (.tuple #[.slice none 0 0, .int .i64 e])) v) : VR E (resP ([], e)) v := by
 have := h.lit_inv
 subst this
 refine .tup _ _ _ rfl fun i hi => ?_
 match i, hi with
 | 0, _ => exact .sl0 _ _ _ _ _
 | 1, _ => exact .lit _ _
theorem AF_behind (a b : List Sg × Int) (ha : PathIn a.1) (hb : PathIn b.1) (he : In64 a.2) (hf : In64 b.2) : AF Tryz.prog 23 [pathA a.1, .int a.2, pathA b.1, .int b.2] (resP (behR a b)) := by
 unfold behR
 by_cases h : a.2 = 0 ∧ b.2 = 0
 ·
  rw [if_pos h]
  by_cases h2 : a.1.length = 0
  ·
   rw [if_pos h2]
   exact AF_behind_0 a.1 b.1 a.2 b.2 he hf h.1 h.2 ha.1 (by omega)
  ·
   rw [if_neg h2]
   by_cases h3 : (appR a.1 b.1).2 = 0
   ·
    have := AF_behind_a a.1 b.1 a.2 b.2 he hf h.1 h.2 ha hb (by omega) h3
    rw [resP, h3]; exact this
   ·
    refine AF_wk (AF_behind_b a.1 b.1 a.2 b.2 he hf h.1 h.2 ha hb (by omega) h3) rfl (fun _ _ _ _ h => h) fun E v hv => ?_
    have := hv.nil_P
    have e : appR a.1 b.1 = ([], (appR a.1 b.1).2) := Prod.ext (appR_nil h3) rfl
    rw [e]; exact this
 ·
  rw [if_neg h]
  refine AF_wk (args := [pathA a.1, .int a.2, pathA b.1, .int b.2]) (r := .lit (.tuple #[.slice none 0 0, .int .i64 (max a.2 b.2)])) ?_ rfl (fun _ _ _ _ h => h) fun E v hv => hv.nil_P
  by_cases h1 : a.2 = 0
  · exact AF_behind_f a.1 b.1 a.2 b.2 he hf h1 (fun g => h ⟨h1, g⟩)
  · exact AF_behind_e a.1 b.1 a.2 b.2 he hf h1
end Go.Proofs.YtkcnbaeoahoglaaGreat
namespace Go.Proofs.YtkcnbaeoahoglaaGreat
open Go.RowKit
theorem AF_end40c (p : Pr) (c : Cs) (hp : PrIn p) (hc : CaseOk p c) : AF Tryz.prog 19 [progA p, .int c.act] (.int (caseEnd p c)) := by
 have h1 := hc.2.1
 have h2 := hc.2.2.1
 have h3 := hc.2.2.2.1
 have h4 := hc.2.2.2.2
 have := AF_end40 p hp (valid_ok hc.1) c.act.toNat (by omega)
 rw [show ((c.act.toNat : Nat) : Int) = c.act by omega] at this
 exact this
theorem flyR_e (a b : V3) (f t k : Int) : In64 (flyR a b f t k).2 := by
 unfold flyR
 split
 · exact in64_0
 · exact ⟨by decide, by decide⟩
theorem appR_e (a b : List Sg) : In64 (appR a b).2 := by
 unfold appR
 split
 · exact ⟨by decide, by decide⟩
 ·
  split
  · exact ⟨by decide, by decide⟩
  ·
   split
   · exact ⟨by decide, by decide⟩
   · exact in64_0
theorem behR_e {a b : List Sg × Int} (ha : In64 a.2) (hb : In64 b.2) : In64 (behR a b).2 := by
 unfold behR
 split
 ·
  split
  · exact in64_0
  · exact appR_e _ _
 · exact ⟨by have := ha.1; have := hb.1; show _ ≤ max a.2 b.2; omega, by have := ha.2; have := hb.2; show max a.2 b.2 ≤ _; omega⟩
theorem behR_in {a b : List Sg × Int} (ha : PathIn a.1) (hb : PathIn b.1) : PathIn (behR a b).1 := by
 unfold behR
 split
 ·
  split
  · exact hb
  · exact PathIn.app ha hb
 · exact PathIn.nil
theorem AF_behindN (b : List Sg × Int) (hb : PathIn b.1) (hf : In64 b.2) : AF Tryz.prog 23 [.lit (.slice none 0 0), .int 0, pathA b.1, .int b.2] (resP (behR ([], 0) b)) :=
 AF_wk (AF_behind ([], 0) b PathIn.nil hb in64_0 hf) rfl (fun i hi E v hv => by
  match i, hi with
  | 0, _ => exact hv.nil_path
  | 1, _ => exact hv
  | 2, _ => exact hv
  | 3, _ => exact hv) fun _ _ h => h
noncomputable def lawT (st : List Sg × Int) (off low : V3) (t dn u : Int) : List Sg × Int :=
  if t + dn < u then behR (behR st (flyR off low t (t + dn) 2)) (flyR low low (t + dn) u 0) else behR st (flyR off low t (t + dn) 2)
noncomputable def lawR (a s : V3) (g ac dn t u : Int) : List Sg × Int :=
  if s.x = 0 ∧ s.y = 0 ∧ s.z = 0 then lawT ([], 0) (offV a s) (lowV a s g) t dn u else lawT (flyR a (offV a s) t (t + ac) 2) (offV a s) (lowV a s g) (t + ac) dn u
theorem AF_lawway_ok (p : Pr) (d : De) (c : Cs) (side : Int) (hp : PrIn p) (hd : DeIn d) (hcs : CsIn c) (hsd : In64 side) (hc : CaseOk p c) (ho : DescOk d) (h : WayPos p d c side) : AF Tryz.prog 16 [progA p, descA d, caseA c, .int side] (.tup [pathA (lawR (casePt p c) (sideV d side) d.ground d.across d.down (caseEnd p c) (horT p d)).1, .bool true, .int (lawR (casePt p c) (sideV d side) d.ground d.across d.down (caseEnd p c) (horT p d)).2]) := by
  have hv := valid_ok hc.1
  have hc1 := hc.2.1
  have hc2 := hc.2.2.1
  have hc3 := hc.2.2.2.1
  have hc4 := hc.2.2.2.2
  have hto := in3 (hv.to (j := c.act.toNat) (i := c.craft.toNat) (by omega) (by omega))
  have hat : (-1048576 ≤ (casePt p c).x ∧ (casePt p c).x ≤ 1048576) ∧ (-1048576 ≤ (casePt p c).y ∧ (casePt p c).y ≤ 1048576) ∧ (-1048576 ≤ (casePt p c).z ∧ (casePt p c).z ≤ 1048576) := hto
  have hce : 0 ≤ caseEnd p c ∧ caseEnd p c ≤ 3600000 := hv.ends (c.act.toNat + 1) (by omega)
  have hmv := hv.mv c.act.toNat (by omega)
  have hd1 := ho.1
  have hs1 := h.2.1
  have hs2 := h.2.2.1
  have hht := h.1
  have hsv := in3 (ho.2 side.toNat (by omega)).1
  have hsz := (ho.2 side.toNat (by omega)).2.1
  refine AF_of ⟨[(0, progA (p)), (1, descA (d)), (2, caseA (c)), (3, .int (side))], [], 0, 152⟩ Tryz.func16 rfl 152 Tryz.ntmps16 (by kernel_rfl) (by kernel_rfl) fun B D0 hA0 => ?_
  refine qreg 6 [3, 4, 5, 6] ?_
  refine qsdraw [(3, .int (caseEnd p c), .none), (8, .elt 3 (fun q => AV.cell (actA ((p.acts.getD ((c.act).toNat) Ac.none))) q), .none), (13, .elt 6 (fun q => AV.cell (mvA (((p.acts.getD ((c.act).toNat) Ac.none).moves.getD ((c.craft).toNat) Mv.none))) q), .none), (18, .int (horT p d), .none)] [3, 5, 11, 12, 13] 4 ⟨?_, ?_, ?_, ?_, trivial⟩ ?_
  · exact qclD (AF_end40c p c hp hc)
  · exact qcast (qindex_sl 24 (.tmp 27) (.tmp 29) Tryz.underlying24 3 (p.acts.length) ((c.act).toNat) (fun i0 => actA ((p.acts.getD i0 Ac.none))) (c.act) Tryz.sizeOf60)
  · exact qcast (qindex_sl 58 (.tmp 32) (.tmp 34) Tryz.underlying58 6 ((p.acts.getD ((c.act).toNat) Ac.none).moves.length) ((c.craft).toNat) (fun i0 => mvA (((p.acts.getD ((c.act).toNat) Ac.none).moves.getD i0 Mv.none))) (c.craft) Tryz.sizeOf57)
  · exact qclD (AF_lawhorizon p d hp hd ⟨hc.1, ho⟩ (by omega))
  refine AC_seq ?_
  refine AC_seq_list ?_
  refine qrun 1 ?_
  refine qb (decide (side < 0)) ?_
  refine qrun 1 ?_
  refine qLknown 43 (decide (side < 0)) false (decide_eq_false (by omega)) ?_
  refine qrun 3 ?_
  refine qopg (.int (((d.sides.length : Nat) : Int))) .none (qlen_slc (.tmp 46) 23 #[23] Tryz.underlying23 3 (d.sides.length) (fun i0 => vecA ((d.sides.getD i0 V3.zero)))) ?_
  refine qbg (decide (((d.sides.length : Nat) : Int) ≤ side)) ?_
  refine qrun 2 ?_
  refine qLknown 50 (decide (((d.sides.length : Nat) : Int) ≤ side)) false (decide_eq_false (by omega)) ?_
  refine qrun 1 ?_
  refine qbg (decide ((3600000 : Int) < horT p d)) ?_
  refine qrun 1 ?_
  refine qend [3, 5, 11, 12, 13, 53] ?_
  refine qF (b := (decide ((3600000 : Int) < horT p d))) (decide_eq_false (by omega)) ?_
  refine AC_skip ?_
  refine qsdraw [(5, .elt 3 (fun q => AV.cell (vecA ((d.sides.getD ((side).toNat) V3.zero))) q), .none), (8, .int (((p.acts.getD ((c.act).toNat) Ac.none).moves.getD ((c.craft).toNat) Mv.none).to.x + (d.sides.getD ((side).toNat) V3.zero).x), .none), (14, .elt 3 (fun q => AV.cell (vecA ((d.sides.getD ((side).toNat) V3.zero))) q), .none), (17, .int (((p.acts.getD ((c.act).toNat) Ac.none).moves.getD ((c.craft).toNat) Mv.none).to.y + (d.sides.getD ((side).toNat) V3.zero).y), .none), (20, .lit (.agg #[.int .i64 (((p.acts.getD ((c.act).toNat) Ac.none).moves.getD ((c.craft).toNat) Mv.none).to.x + (d.sides.getD ((side).toNat) V3.zero).x), .int .i64 (((p.acts.getD ((c.act).toNat) Ac.none).moves.getD ((c.craft).toNat) Mv.none).to.y + (d.sides.getD ((side).toNat) V3.zero).y), .int .i64 (((p.acts.getD ((c.act).toNat) Ac.none).moves.getD ((c.craft).toNat) Mv.none).to.z)]), .none)] [3, 5, 11, 12, 13, 14] 5 ⟨?_, ?_, ?_, ?_, ?_, trivial⟩ ?_
  · exact qcast (OpS.wk (qindex_sl 23 (.tmp 57) (.tmp 58) Tryz.underlying23 3 (d.sides.length) ((side).toNat) (fun i0 => vecA ((d.sides.getD i0 V3.zero))) (side) Tryz.sizeOf55))
  · exact qwD (((p.acts.getD ((c.act).toNat) Ac.none).moves.getD ((c.craft).toNat) Mv.none).to.x + (d.sides.getD ((side).toNat) V3.zero).x)
  · exact qcast (OpS.wk (qindex_sl 23 (.tmp 66) (.tmp 67) Tryz.underlying23 3 (d.sides.length) ((side).toNat) (fun i0 => vecA ((d.sides.getD i0 V3.zero))) (side) Tryz.sizeOf55))
  · exact qwD (((p.acts.getD ((c.act).toNat) Ac.none).moves.getD ((c.craft).toNat) Mv.none).to.y + (d.sides.getD ((side).toNat) V3.zero).y)
  · exact qcast (qbuild_struct 55 #[(0, (.tmp 62)), (1, (.tmp 71)), (2, (.tmp 73))] _ Tryz.zeroValue55 Tryz.underlying55 #[(0, 1), (1, 1), (2, 1)] [.int (((p.acts.getD ((c.act).toNat) Ac.none).moves.getD ((c.craft).toNat) Mv.none).to.x + (d.sides.getD ((side).toNat) V3.zero).x), .int (((p.acts.getD ((c.act).toNat) Ac.none).moves.getD ((c.craft).toNat) Mv.none).to.y + (d.sides.getD ((side).toNat) V3.zero).y), .int (((p.acts.getD ((c.act).toNat) Ac.none).moves.getD ((c.craft).toNat) Mv.none).to.z)])
  refine qreg 3 [3, 5, 11, 12, 13, 14, 15] ?_
  refine qreg 4 [3, 5, 11, 12, 13, 14, 15] ?_
  refine AC_seq ?_
  refine AC_seq_list ?_
  refine qrun 1 ?_
  refine qcl (AF_point (offV (casePt p c) (sideV d side))) ?_
  refine qb (!insideB 1048576 [(offV (casePt p c) (sideV d side)).x, (offV (casePt p c) (sideV d side)).y, (offV (casePt p c) (sideV d side)).z]) ?_
  refine qrun 1 ?_
  refine qLknown 82 (!insideB 1048576 [(offV (casePt p c) (sideV d side)).x, (offV (casePt p c) (sideV d side)).y, (offV (casePt p c) (sideV d side)).z]) false (by rw [h.2.2.2.1]; rfl) ?_
  refine qrun 1 ?_
  refine qclg (AF_point (lowV (casePt p c) (sideV d side) d.ground)) ?_
  refine qbg (!insideB 1048576 [(lowV (casePt p c) (sideV d side) d.ground).x, (lowV (casePt p c) (sideV d side) d.ground).y, (lowV (casePt p c) (sideV d side) d.ground).z]) ?_
  refine qrun 1 ?_
  refine qend [3, 5, 11, 12, 13, 14, 15, 86] ?_
  refine qF (b := (!insideB 1048576 [(lowV (casePt p c) (sideV d side) d.ground).x, (lowV (casePt p c) (sideV d side) d.ground).y, (lowV (casePt p c) (sideV d side) d.ground).z])) (by rw [h.2.2.2.2]; rfl) ?_
  refine AC_skip ?_
  refine qreg 1 [3, 5, 11, 12, 13, 14, 15, 16] ?_
  refine qreg 1 [3, 5, 11, 12, 13, 14, 15, 16, 17] ?_
  refine AC_seq ?_
  refine AC_seq_list ?_
  refine qrun 3 ?_
  refine qopn (.elt 3 (fun q => AV.cell (vecA ((d.sides.getD ((side).toNat) V3.zero))) q)) (OpS.wk (qindex_sl 23 (.tmp 88) (.tmp 89) Tryz.underlying23 3 (d.sides.length) ((side).toNat) (fun i0 => vecA ((d.sides.getD i0 V3.zero))) (side) Tryz.sizeOf55)) ?_
  refine qrun 1 ?_
  refine qopn (.lit (.agg #[.int .i64 (0), .int .i64 (0), .int .i64 (0)])) (qbuild_struct 55 #[] _ Tryz.zeroValue55 Tryz.underlying55 #[(0, 1), (1, 1), (2, 1)] [.int (0), .int (0), .int (0)]) ?_
  refine qopn (.bool (!(decide ((d.sides.getD ((side).toNat) V3.zero).x = 0 ∧ (d.sides.getD ((side).toNat) V3.zero).y = 0 ∧ (d.sides.getD ((side).toNat) V3.zero).z = 0)))) (opS_neq 55 55 (.tmp 91) (.tmp 92) (by kernel_rfl) _ _ (by kernel_rfl) (by kernel_rfl) (by kernel_rfl) (decide ((d.sides.getD ((side).toNat) V3.zero).x = 0 ∧ (d.sides.getD ((side).toNat) V3.zero).y = 0 ∧ (d.sides.getD ((side).toNat) V3.zero).z = 0)) (eqVec3 _ _ _ _ _ _)) ?_
  refine qend [5, 11, 12, 13, 14, 15, 16, 17, 93] ?_
  refine bool_split (decide ((d.sides.getD ((side).toNat) V3.zero).x = 0 ∧ (d.sides.getD ((side).toNat) V3.zero).y = 0 ∧ (d.sides.getD ((side).toNat) V3.zero).z = 0)) (fun hx1 => ?_) (fun hx1 => ?_)
  ·
   have hx1d := of_decide_eq_true hx1
   refine qF (nt hx1) ?_
   refine AC_skip ?_
   refine AC_seq_list ?_
   refine qrun 6 ?_
   refine qv (caseEnd p c + d.down) ?_
   refine qopn (.tup [pathA ((flyR (offV (casePt p c) (sideV d side)) (lowV (casePt p c) (sideV d side) d.ground) (caseEnd p c) (caseEnd p c + d.down) 2).1), .int ((flyR (offV (casePt p c) (sideV d side)) (lowV (casePt p c) (sideV d side) d.ground) (caseEnd p c) (caseEnd p c + d.down) 2).2)]) (qcall 37 #[(.tmp 110), (.tmp 111), (.tmp 112), (.tmp 116)] #[55, 55, 3, 3] [.lit (.agg #[.int .i64 (((p.acts.getD ((c.act).toNat) Ac.none).moves.getD ((c.craft).toNat) Mv.none).to.x + (d.sides.getD ((side).toNat) V3.zero).x), .int .i64 (((p.acts.getD ((c.act).toNat) Ac.none).moves.getD ((c.craft).toNat) Mv.none).to.y + (d.sides.getD ((side).toNat) V3.zero).y), .int .i64 (((p.acts.getD ((c.act).toNat) Ac.none).moves.getD ((c.craft).toNat) Mv.none).to.z)]), .lit (.agg #[.int .i64 (((p.acts.getD ((c.act).toNat) Ac.none).moves.getD ((c.craft).toNat) Mv.none).to.x + (d.sides.getD ((side).toNat) V3.zero).x), .int .i64 (((p.acts.getD ((c.act).toNat) Ac.none).moves.getD ((c.craft).toNat) Mv.none).to.y + (d.sides.getD ((side).toNat) V3.zero).y), .int .i64 (d.ground)]), .int (caseEnd p c), .int (caseEnd p c + d.down)] (.tup [pathA ((flyR (offV (casePt p c) (sideV d side)) (lowV (casePt p c) (sideV d side) d.ground) (caseEnd p c) (caseEnd p c + d.down) 2).1), .int ((flyR (offV (casePt p c) (sideV d side)) (lowV (casePt p c) (sideV d side) d.ground) (caseEnd p c) (caseEnd p c + d.down) 2).2)]) (AF_glideR (offV (casePt p c) (sideV d side)) (lowV (casePt p c) (sideV d side) d.ground) _ _)) ?_
   refine qrun 5 ?_
   refine qend [5, 11, 13, 15, 16, 17, 18, 19] ?_
   refine AC_seq_list ?_
   refine qrun 4 ?_
   refine qopn (.tup [pathA ((behR ([], 0) (flyR (offV (casePt p c) (sideV d side)) (lowV (casePt p c) (sideV d side) d.ground) (caseEnd p c) (caseEnd p c + d.down) 2)).1), .int ((behR ([], 0) (flyR (offV (casePt p c) (sideV d side)) (lowV (casePt p c) (sideV d side) d.ground) (caseEnd p c) (caseEnd p c + d.down) 2)).2)]) (qcall 23 #[(.tmp 121), (.tmp 122), (.tmp 123), (.tmp 124)] #[41, 32, 41, 32] [.lit (.slice none 0 0), .int (0), pathA ((flyR (offV (casePt p c) (sideV d side)) (lowV (casePt p c) (sideV d side) d.ground) (caseEnd p c) (caseEnd p c + d.down) 2).1), .int ((flyR (offV (casePt p c) (sideV d side)) (lowV (casePt p c) (sideV d side) d.ground) (caseEnd p c) (caseEnd p c + d.down) 2).2)] (.tup [pathA ((behR ([], 0) (flyR (offV (casePt p c) (sideV d side)) (lowV (casePt p c) (sideV d side) d.ground) (caseEnd p c) (caseEnd p c + d.down) 2)).1), .int ((behR ([], 0) (flyR (offV (casePt p c) (sideV d side)) (lowV (casePt p c) (sideV d side) d.ground) (caseEnd p c) (caseEnd p c + d.down) 2)).2)]) (AF_behindN (flyR (offV (casePt p c) (sideV d side)) (lowV (casePt p c) (sideV d side) d.ground) (caseEnd p c) (caseEnd p c + d.down) 2) (flyR_in _ _ _ _ _) (flyR_e _ _ _ _ _))) ?_
   refine qrun 5 ?_
   refine qend [5, 11, 13, 15, 16, 17] ?_
   refine AC_seq_list ?_
   refine qrun 3 ?_
   refine qv (caseEnd p c + d.down) ?_
   refine qrun 1 ?_
   refine qend [11, 13, 15, 16, 17] ?_
   refine AC_seq ?_
   refine AC_seq_list ?_
   refine qrun 2 ?_
   refine qb (decide (caseEnd p c + d.down < horT p d)) ?_
   refine qend [11, 13, 15, 16, 17, 134] ?_
   refine bool_split (decide (caseEnd p c + d.down < horT p d)) (fun hx2 => ?_) (fun hx2 => ?_)
   ·
    have hx2d := of_decide_eq_true hx2
    refine qT hx2 ?_
    refine AC_seq_list ?_
    refine qrun 3 ?_
    refine qopn (.tup [pathA ((flyR (lowV (casePt p c) (sideV d side) d.ground) (lowV (casePt p c) (sideV d side) d.ground) (caseEnd p c + d.down) (horT p d) 0).1), .int ((flyR (lowV (casePt p c) (sideV d side) d.ground) (lowV (casePt p c) (sideV d side) d.ground) (caseEnd p c + d.down) (horT p d) 0).2)]) (qcall 22 #[(.tmp 136), (.tmp 137), (.tmp 138)] #[55, 3, 3] [.lit (.agg #[.int .i64 (((p.acts.getD ((c.act).toNat) Ac.none).moves.getD ((c.craft).toNat) Mv.none).to.x + (d.sides.getD ((side).toNat) V3.zero).x), .int .i64 (((p.acts.getD ((c.act).toNat) Ac.none).moves.getD ((c.craft).toNat) Mv.none).to.y + (d.sides.getD ((side).toNat) V3.zero).y), .int .i64 (d.ground)]), .int (caseEnd p c + d.down), .int (horT p d)] (.tup [pathA ((flyR (lowV (casePt p c) (sideV d side) d.ground) (lowV (casePt p c) (sideV d side) d.ground) (caseEnd p c + d.down) (horT p d) 0).1), .int ((flyR (lowV (casePt p c) (sideV d side) d.ground) (lowV (casePt p c) (sideV d side) d.ground) (caseEnd p c + d.down) (horT p d) 0).2)]) (AF_hoverR (lowV (casePt p c) (sideV d side) d.ground) _ _)) ?_
    refine qrun 5 ?_
    refine qend [16, 17, 20, 21] ?_
    refine AC_list ?_
    refine qrun 4 ?_
    refine qopn (.tup [pathA ((behR (behR ([], 0) (flyR (offV (casePt p c) (sideV d side)) (lowV (casePt p c) (sideV d side) d.ground) (caseEnd p c) (caseEnd p c + d.down) 2)) (flyR (lowV (casePt p c) (sideV d side) d.ground) (lowV (casePt p c) (sideV d side) d.ground) (caseEnd p c + d.down) (horT p d) 0)).1), .int ((behR (behR ([], 0) (flyR (offV (casePt p c) (sideV d side)) (lowV (casePt p c) (sideV d side) d.ground) (caseEnd p c) (caseEnd p c + d.down) 2)) (flyR (lowV (casePt p c) (sideV d side) d.ground) (lowV (casePt p c) (sideV d side) d.ground) (caseEnd p c + d.down) (horT p d) 0)).2)]) (qcall 23 #[(.tmp 143), (.tmp 144), (.tmp 145), (.tmp 146)] #[41, 32, 41, 32] [pathA ((behR ([], 0) (flyR (offV (casePt p c) (sideV d side)) (lowV (casePt p c) (sideV d side) d.ground) (caseEnd p c) (caseEnd p c + d.down) 2)).1), .int ((behR ([], 0) (flyR (offV (casePt p c) (sideV d side)) (lowV (casePt p c) (sideV d side) d.ground) (caseEnd p c) (caseEnd p c + d.down) 2)).2), pathA ((flyR (lowV (casePt p c) (sideV d side) d.ground) (lowV (casePt p c) (sideV d side) d.ground) (caseEnd p c + d.down) (horT p d) 0).1), .int ((flyR (lowV (casePt p c) (sideV d side) d.ground) (lowV (casePt p c) (sideV d side) d.ground) (caseEnd p c + d.down) (horT p d) 0).2)] (.tup [pathA ((behR (behR ([], 0) (flyR (offV (casePt p c) (sideV d side)) (lowV (casePt p c) (sideV d side) d.ground) (caseEnd p c) (caseEnd p c + d.down) 2)) (flyR (lowV (casePt p c) (sideV d side) d.ground) (lowV (casePt p c) (sideV d side) d.ground) (caseEnd p c + d.down) (horT p d) 0)).1), .int ((behR (behR ([], 0) (flyR (offV (casePt p c) (sideV d side)) (lowV (casePt p c) (sideV d side) d.ground) (caseEnd p c) (caseEnd p c + d.down) 2)) (flyR (lowV (casePt p c) (sideV d side) d.ground) (lowV (casePt p c) (sideV d side) d.ground) (caseEnd p c + d.down) (horT p d) 0)).2)]) (AF_behind (behR ([], 0) (flyR (offV (casePt p c) (sideV d side)) (lowV (casePt p c) (sideV d side) d.ground) (caseEnd p c) (caseEnd p c + d.down) 2)) (flyR (lowV (casePt p c) (sideV d side) d.ground) (lowV (casePt p c) (sideV d side) d.ground) (caseEnd p c + d.down) (horT p d) 0) (behR_in PathIn.nil (flyR_in _ _ _ _ _)) (flyR_in _ _ _ _ _) (behR_e in64_0 (flyR_e _ _ _ _ _)) (flyR_e _ _ _ _ _))) ?_
    refine qrun 5 ?_
    refine qend1 [16, 17] ?_
    refine qreg 5 [8, 9, 10] ?_
    refine AC_ret ?_
    exact ⟨.inl rfl, (resOk3 Tryz.results16 (resV_tmp (x := pathA ((behR (behR ([], 0) (flyR (offV (casePt p c) (sideV d side)) (lowV (casePt p c) (sideV d side) d.ground) (caseEnd p c) (caseEnd p c + d.down) 2)) (flyR (lowV (casePt p c) (sideV d side) d.ground) (lowV (casePt p c) (sideV d side) d.ground) (caseEnd p c + d.down) (horT p d) 0)).1)) (by kernel_rfl) (by kernel_rfl)) (resV_tmp (x := .bool true) (by kernel_rfl) (by kernel_rfl)) (resV_tmp (x := .int ((behR (behR ([], 0) (flyR (offV (casePt p c) (sideV d side)) (lowV (casePt p c) (sideV d side) d.ground) (caseEnd p c) (caseEnd p c + d.down) 2)) (flyR (lowV (casePt p c) (sideV d side) d.ground) (lowV (casePt p c) (sideV d side) d.ground) (caseEnd p c + d.down) (horT p d) 0)).2)) (by kernel_rfl) (by kernel_rfl))).cast (show (.tup [_, _, _] : AV) = _ by unfold lawR lawT; rw [if_pos hx1d, if_pos hx2d])⟩
   ·
    have hx2d := of_decide_eq_false hx2
    refine qF hx2 ?_
    refine AC_skip ?_
    refine qreg 5 [8, 9, 10] ?_
    refine AC_ret ?_
    exact ⟨.inl rfl, (resOk3 Tryz.results16 (resV_tmp (x := pathA ((behR ([], 0) (flyR (offV (casePt p c) (sideV d side)) (lowV (casePt p c) (sideV d side) d.ground) (caseEnd p c) (caseEnd p c + d.down) 2)).1)) (by kernel_rfl) (by kernel_rfl)) (resV_tmp (x := .bool true) (by kernel_rfl) (by kernel_rfl)) (resV_tmp (x := .int ((behR ([], 0) (flyR (offV (casePt p c) (sideV d side)) (lowV (casePt p c) (sideV d side) d.ground) (caseEnd p c) (caseEnd p c + d.down) 2)).2)) (by kernel_rfl) (by kernel_rfl))).cast (show (.tup [_, _, _] : AV) = _ by unfold lawR lawT; rw [if_pos hx1d, if_neg hx2d])⟩
  ·
   have hx1d := of_decide_eq_false hx1
   refine qT (nf hx1) ?_
   refine AC_seq_list ?_
   refine qrun 6 ?_
   refine qv (caseEnd p c + d.across) ?_
   refine qopn (.tup [pathA ((flyR (casePt p c) (offV (casePt p c) (sideV d side)) (caseEnd p c) (caseEnd p c + d.across) 2).1), .int ((flyR (casePt p c) (offV (casePt p c) (sideV d side)) (caseEnd p c) (caseEnd p c + d.across) 2).2)]) (qcall 37 #[(.tmp 95), (.tmp 96), (.tmp 97), (.tmp 101)] #[55, 55, 3, 3] [.lit (.agg #[.int .i64 (((p.acts.getD ((c.act).toNat) Ac.none).moves.getD ((c.craft).toNat) Mv.none).to.x), .int .i64 (((p.acts.getD ((c.act).toNat) Ac.none).moves.getD ((c.craft).toNat) Mv.none).to.y), .int .i64 (((p.acts.getD ((c.act).toNat) Ac.none).moves.getD ((c.craft).toNat) Mv.none).to.z)]), .lit (.agg #[.int .i64 (((p.acts.getD ((c.act).toNat) Ac.none).moves.getD ((c.craft).toNat) Mv.none).to.x + (d.sides.getD ((side).toNat) V3.zero).x), .int .i64 (((p.acts.getD ((c.act).toNat) Ac.none).moves.getD ((c.craft).toNat) Mv.none).to.y + (d.sides.getD ((side).toNat) V3.zero).y), .int .i64 (((p.acts.getD ((c.act).toNat) Ac.none).moves.getD ((c.craft).toNat) Mv.none).to.z)]), .int (caseEnd p c), .int (caseEnd p c + d.across)] (.tup [pathA ((flyR (casePt p c) (offV (casePt p c) (sideV d side)) (caseEnd p c) (caseEnd p c + d.across) 2).1), .int ((flyR (casePt p c) (offV (casePt p c) (sideV d side)) (caseEnd p c) (caseEnd p c + d.across) 2).2)]) (AF_glideR (casePt p c) (offV (casePt p c) (sideV d side)) _ _)) ?_
   refine qrun 5 ?_
   refine qend [5, 11, 13, 14, 15, 16, 17] ?_
   refine AC_list ?_
   refine qrun 3 ?_
   refine qv (caseEnd p c + d.across) ?_
   refine qrun 1 ?_
   refine qend1 [5, 11, 13, 14, 15, 16, 17] ?_
   refine AC_seq_list ?_
   refine qrun 6 ?_
   refine qv (caseEnd p c + d.across + d.down) ?_
   refine qopn (.tup [pathA ((flyR (offV (casePt p c) (sideV d side)) (lowV (casePt p c) (sideV d side) d.ground) (caseEnd p c + d.across) (caseEnd p c + d.across + d.down) 2).1), .int ((flyR (offV (casePt p c) (sideV d side)) (lowV (casePt p c) (sideV d side) d.ground) (caseEnd p c + d.across) (caseEnd p c + d.across + d.down) 2).2)]) (qcall 37 #[(.tmp 110), (.tmp 111), (.tmp 112), (.tmp 116)] #[55, 55, 3, 3] [.lit (.agg #[.int .i64 (((p.acts.getD ((c.act).toNat) Ac.none).moves.getD ((c.craft).toNat) Mv.none).to.x + (d.sides.getD ((side).toNat) V3.zero).x), .int .i64 (((p.acts.getD ((c.act).toNat) Ac.none).moves.getD ((c.craft).toNat) Mv.none).to.y + (d.sides.getD ((side).toNat) V3.zero).y), .int .i64 (((p.acts.getD ((c.act).toNat) Ac.none).moves.getD ((c.craft).toNat) Mv.none).to.z)]), .lit (.agg #[.int .i64 (((p.acts.getD ((c.act).toNat) Ac.none).moves.getD ((c.craft).toNat) Mv.none).to.x + (d.sides.getD ((side).toNat) V3.zero).x), .int .i64 (((p.acts.getD ((c.act).toNat) Ac.none).moves.getD ((c.craft).toNat) Mv.none).to.y + (d.sides.getD ((side).toNat) V3.zero).y), .int .i64 (d.ground)]), .int (caseEnd p c + d.across), .int (caseEnd p c + d.across + d.down)] (.tup [pathA ((flyR (offV (casePt p c) (sideV d side)) (lowV (casePt p c) (sideV d side) d.ground) (caseEnd p c + d.across) (caseEnd p c + d.across + d.down) 2).1), .int ((flyR (offV (casePt p c) (sideV d side)) (lowV (casePt p c) (sideV d side) d.ground) (caseEnd p c + d.across) (caseEnd p c + d.across + d.down) 2).2)]) (AF_glideR (offV (casePt p c) (sideV d side)) (lowV (casePt p c) (sideV d side) d.ground) _ _)) ?_
   refine qrun 5 ?_
   refine qend [5, 11, 13, 15, 16, 17, 18, 19] ?_
   refine AC_seq_list ?_
   refine qrun 4 ?_
   refine qopn (.tup [pathA ((behR (flyR (casePt p c) (offV (casePt p c) (sideV d side)) (caseEnd p c) (caseEnd p c + d.across) 2) (flyR (offV (casePt p c) (sideV d side)) (lowV (casePt p c) (sideV d side) d.ground) (caseEnd p c + d.across) (caseEnd p c + d.across + d.down) 2)).1), .int ((behR (flyR (casePt p c) (offV (casePt p c) (sideV d side)) (caseEnd p c) (caseEnd p c + d.across) 2) (flyR (offV (casePt p c) (sideV d side)) (lowV (casePt p c) (sideV d side) d.ground) (caseEnd p c + d.across) (caseEnd p c + d.across + d.down) 2)).2)]) (qcall 23 #[(.tmp 121), (.tmp 122), (.tmp 123), (.tmp 124)] #[41, 32, 41, 32] [pathA ((flyR (casePt p c) (offV (casePt p c) (sideV d side)) (caseEnd p c) (caseEnd p c + d.across) 2).1), .int ((flyR (casePt p c) (offV (casePt p c) (sideV d side)) (caseEnd p c) (caseEnd p c + d.across) 2).2), pathA ((flyR (offV (casePt p c) (sideV d side)) (lowV (casePt p c) (sideV d side) d.ground) (caseEnd p c + d.across) (caseEnd p c + d.across + d.down) 2).1), .int ((flyR (offV (casePt p c) (sideV d side)) (lowV (casePt p c) (sideV d side) d.ground) (caseEnd p c + d.across) (caseEnd p c + d.across + d.down) 2).2)] (.tup [pathA ((behR (flyR (casePt p c) (offV (casePt p c) (sideV d side)) (caseEnd p c) (caseEnd p c + d.across) 2) (flyR (offV (casePt p c) (sideV d side)) (lowV (casePt p c) (sideV d side) d.ground) (caseEnd p c + d.across) (caseEnd p c + d.across + d.down) 2)).1), .int ((behR (flyR (casePt p c) (offV (casePt p c) (sideV d side)) (caseEnd p c) (caseEnd p c + d.across) 2) (flyR (offV (casePt p c) (sideV d side)) (lowV (casePt p c) (sideV d side) d.ground) (caseEnd p c + d.across) (caseEnd p c + d.across + d.down) 2)).2)]) (AF_behind (flyR (casePt p c) (offV (casePt p c) (sideV d side)) (caseEnd p c) (caseEnd p c + d.across) 2) (flyR (offV (casePt p c) (sideV d side)) (lowV (casePt p c) (sideV d side) d.ground) (caseEnd p c + d.across) (caseEnd p c + d.across + d.down) 2) (flyR_in _ _ _ _ _) (flyR_in _ _ _ _ _) (flyR_e _ _ _ _ _) (flyR_e _ _ _ _ _))) ?_
   refine qrun 5 ?_
   refine qend [5, 11, 13, 15, 16, 17] ?_
   refine AC_seq_list ?_
   refine qrun 3 ?_
   refine qv (caseEnd p c + d.across + d.down) ?_
   refine qrun 1 ?_
   refine qend [11, 13, 15, 16, 17] ?_
   refine AC_seq ?_
   refine AC_seq_list ?_
   refine qrun 2 ?_
   refine qb (decide (caseEnd p c + d.across + d.down < horT p d)) ?_
   refine qend [11, 13, 15, 16, 17, 134] ?_
   refine bool_split (decide (caseEnd p c + d.across + d.down < horT p d)) (fun hx3 => ?_) (fun hx3 => ?_)
   ·
    have hx3d := of_decide_eq_true hx3
    refine qT hx3 ?_
    refine AC_seq_list ?_
    refine qrun 3 ?_
    refine qopn (.tup [pathA ((flyR (lowV (casePt p c) (sideV d side) d.ground) (lowV (casePt p c) (sideV d side) d.ground) (caseEnd p c + d.across + d.down) (horT p d) 0).1), .int ((flyR (lowV (casePt p c) (sideV d side) d.ground) (lowV (casePt p c) (sideV d side) d.ground) (caseEnd p c + d.across + d.down) (horT p d) 0).2)]) (qcall 22 #[(.tmp 136), (.tmp 137), (.tmp 138)] #[55, 3, 3] [.lit (.agg #[.int .i64 (((p.acts.getD ((c.act).toNat) Ac.none).moves.getD ((c.craft).toNat) Mv.none).to.x + (d.sides.getD ((side).toNat) V3.zero).x), .int .i64 (((p.acts.getD ((c.act).toNat) Ac.none).moves.getD ((c.craft).toNat) Mv.none).to.y + (d.sides.getD ((side).toNat) V3.zero).y), .int .i64 (d.ground)]), .int (caseEnd p c + d.across + d.down), .int (horT p d)] (.tup [pathA ((flyR (lowV (casePt p c) (sideV d side) d.ground) (lowV (casePt p c) (sideV d side) d.ground) (caseEnd p c + d.across + d.down) (horT p d) 0).1), .int ((flyR (lowV (casePt p c) (sideV d side) d.ground) (lowV (casePt p c) (sideV d side) d.ground) (caseEnd p c + d.across + d.down) (horT p d) 0).2)]) (AF_hoverR (lowV (casePt p c) (sideV d side) d.ground) _ _)) ?_
    refine qrun 5 ?_
    refine qend [16, 17, 20, 21] ?_
    refine AC_list ?_
    refine qrun 4 ?_
    refine qopn (.tup [pathA ((behR (behR (flyR (casePt p c) (offV (casePt p c) (sideV d side)) (caseEnd p c) (caseEnd p c + d.across) 2) (flyR (offV (casePt p c) (sideV d side)) (lowV (casePt p c) (sideV d side) d.ground) (caseEnd p c + d.across) (caseEnd p c + d.across + d.down) 2)) (flyR (lowV (casePt p c) (sideV d side) d.ground) (lowV (casePt p c) (sideV d side) d.ground) (caseEnd p c + d.across + d.down) (horT p d) 0)).1), .int ((behR (behR (flyR (casePt p c) (offV (casePt p c) (sideV d side)) (caseEnd p c) (caseEnd p c + d.across) 2) (flyR (offV (casePt p c) (sideV d side)) (lowV (casePt p c) (sideV d side) d.ground) (caseEnd p c + d.across) (caseEnd p c + d.across + d.down) 2)) (flyR (lowV (casePt p c) (sideV d side) d.ground) (lowV (casePt p c) (sideV d side) d.ground) (caseEnd p c + d.across + d.down) (horT p d) 0)).2)]) (qcall 23 #[(.tmp 143), (.tmp 144), (.tmp 145), (.tmp 146)] #[41, 32, 41, 32] [pathA ((behR (flyR (casePt p c) (offV (casePt p c) (sideV d side)) (caseEnd p c) (caseEnd p c + d.across) 2) (flyR (offV (casePt p c) (sideV d side)) (lowV (casePt p c) (sideV d side) d.ground) (caseEnd p c + d.across) (caseEnd p c + d.across + d.down) 2)).1), .int ((behR (flyR (casePt p c) (offV (casePt p c) (sideV d side)) (caseEnd p c) (caseEnd p c + d.across) 2) (flyR (offV (casePt p c) (sideV d side)) (lowV (casePt p c) (sideV d side) d.ground) (caseEnd p c + d.across) (caseEnd p c + d.across + d.down) 2)).2), pathA ((flyR (lowV (casePt p c) (sideV d side) d.ground) (lowV (casePt p c) (sideV d side) d.ground) (caseEnd p c + d.across + d.down) (horT p d) 0).1), .int ((flyR (lowV (casePt p c) (sideV d side) d.ground) (lowV (casePt p c) (sideV d side) d.ground) (caseEnd p c + d.across + d.down) (horT p d) 0).2)] (.tup [pathA ((behR (behR (flyR (casePt p c) (offV (casePt p c) (sideV d side)) (caseEnd p c) (caseEnd p c + d.across) 2) (flyR (offV (casePt p c) (sideV d side)) (lowV (casePt p c) (sideV d side) d.ground) (caseEnd p c + d.across) (caseEnd p c + d.across + d.down) 2)) (flyR (lowV (casePt p c) (sideV d side) d.ground) (lowV (casePt p c) (sideV d side) d.ground) (caseEnd p c + d.across + d.down) (horT p d) 0)).1), .int ((behR (behR (flyR (casePt p c) (offV (casePt p c) (sideV d side)) (caseEnd p c) (caseEnd p c + d.across) 2) (flyR (offV (casePt p c) (sideV d side)) (lowV (casePt p c) (sideV d side) d.ground) (caseEnd p c + d.across) (caseEnd p c + d.across + d.down) 2)) (flyR (lowV (casePt p c) (sideV d side) d.ground) (lowV (casePt p c) (sideV d side) d.ground) (caseEnd p c + d.across + d.down) (horT p d) 0)).2)]) (AF_behind (behR (flyR (casePt p c) (offV (casePt p c) (sideV d side)) (caseEnd p c) (caseEnd p c + d.across) 2) (flyR (offV (casePt p c) (sideV d side)) (lowV (casePt p c) (sideV d side) d.ground) (caseEnd p c + d.across) (caseEnd p c + d.across + d.down) 2)) (flyR (lowV (casePt p c) (sideV d side) d.ground) (lowV (casePt p c) (sideV d side) d.ground) (caseEnd p c + d.across + d.down) (horT p d) 0) (behR_in (flyR_in _ _ _ _ _) (flyR_in _ _ _ _ _)) (flyR_in _ _ _ _ _) (behR_e (flyR_e _ _ _ _ _) (flyR_e _ _ _ _ _)) (flyR_e _ _ _ _ _))) ?_
    refine qrun 5 ?_
    refine qend1 [16, 17] ?_
    refine qreg 5 [8, 9, 10] ?_
    refine AC_ret ?_
    exact ⟨.inl rfl, (resOk3 Tryz.results16 (resV_tmp (x := pathA ((behR (behR (flyR (casePt p c) (offV (casePt p c) (sideV d side)) (caseEnd p c) (caseEnd p c + d.across) 2) (flyR (offV (casePt p c) (sideV d side)) (lowV (casePt p c) (sideV d side) d.ground) (caseEnd p c + d.across) (caseEnd p c + d.across + d.down) 2)) (flyR (lowV (casePt p c) (sideV d side) d.ground) (lowV (casePt p c) (sideV d side) d.ground) (caseEnd p c + d.across + d.down) (horT p d) 0)).1)) (by kernel_rfl) (by kernel_rfl)) (resV_tmp (x := .bool true) (by kernel_rfl) (by kernel_rfl)) (resV_tmp (x := .int ((behR (behR (flyR (casePt p c) (offV (casePt p c) (sideV d side)) (caseEnd p c) (caseEnd p c + d.across) 2) (flyR (offV (casePt p c) (sideV d side)) (lowV (casePt p c) (sideV d side) d.ground) (caseEnd p c + d.across) (caseEnd p c + d.across + d.down) 2)) (flyR (lowV (casePt p c) (sideV d side) d.ground) (lowV (casePt p c) (sideV d side) d.ground) (caseEnd p c + d.across + d.down) (horT p d) 0)).2)) (by kernel_rfl) (by kernel_rfl))).cast (show (.tup [_, _, _] : AV) = _ by unfold lawR lawT; rw [if_neg hx1d, if_pos hx3d])⟩
   ·
    have hx3d := of_decide_eq_false hx3
    refine qF hx3 ?_
    refine AC_skip ?_
    refine qreg 5 [8, 9, 10] ?_
    refine AC_ret ?_
    exact ⟨.inl rfl, (resOk3 Tryz.results16 (resV_tmp (x := pathA ((behR (flyR (casePt p c) (offV (casePt p c) (sideV d side)) (caseEnd p c) (caseEnd p c + d.across) 2) (flyR (offV (casePt p c) (sideV d side)) (lowV (casePt p c) (sideV d side) d.ground) (caseEnd p c + d.across) (caseEnd p c + d.across + d.down) 2)).1)) (by kernel_rfl) (by kernel_rfl)) (resV_tmp (x := .bool true) (by kernel_rfl) (by kernel_rfl)) (resV_tmp (x := .int ((behR (flyR (casePt p c) (offV (casePt p c) (sideV d side)) (caseEnd p c) (caseEnd p c + d.across) 2) (flyR (offV (casePt p c) (sideV d side)) (lowV (casePt p c) (sideV d side) d.ground) (caseEnd p c + d.across) (caseEnd p c + d.across + d.down) 2)).2)) (by kernel_rfl) (by kernel_rfl))).cast (show (.tup [_, _, _] : AV) = _ by unfold lawR lawT; rw [if_neg hx1d, if_neg hx3d])⟩
theorem AF_lawway_no (p : Pr) (d : De) (c : Cs) (side : Int) (hp : PrIn p) (hd : DeIn d) (hcs : CsIn c) (hsd : In64 side) (hc : CaseOk p c) (ho : DescOk d) (h : ¬ WayPos p d c side) : AF Tryz.prog 16 [progA p, descA d, caseA c, .int side] (.lit (.tuple #[.slice none 0 0, .bool false, .int .i64 0])) := by
  have hv := valid_ok hc.1
  have hc1 := hc.2.1
  have hc2 := hc.2.2.1
  have hc3 := hc.2.2.2.1
  have hc4 := hc.2.2.2.2
  have hto := in3 (hv.to (j := c.act.toNat) (i := c.craft.toNat) (by omega) (by omega))
  have hat : (-1048576 ≤ (casePt p c).x ∧ (casePt p c).x ≤ 1048576) ∧ (-1048576 ≤ (casePt p c).y ∧ (casePt p c).y ≤ 1048576) ∧ (-1048576 ≤ (casePt p c).z ∧ (casePt p c).z ≤ 1048576) := hto
  have hce : 0 ≤ caseEnd p c ∧ caseEnd p c ≤ 3600000 := hv.ends (c.act.toNat + 1) (by omega)
  have hmv := hv.mv c.act.toNat (by omega)
  have hd1 := ho.1
  refine AF_of ⟨[(0, progA (p)), (1, descA (d)), (2, caseA (c)), (3, .int (side))], [], 0, 152⟩ Tryz.func16 rfl 152 Tryz.ntmps16 (by kernel_rfl) (by kernel_rfl) fun B D0 hA0 => ?_
  refine qreg 6 [3, 4, 5, 6] ?_
  refine qsdraw [(3, .int (caseEnd p c), .none), (8, .elt 3 (fun q => AV.cell (actA ((p.acts.getD ((c.act).toNat) Ac.none))) q), .none), (13, .elt 6 (fun q => AV.cell (mvA (((p.acts.getD ((c.act).toNat) Ac.none).moves.getD ((c.craft).toNat) Mv.none))) q), .none), (18, .int (horT p d), .none)] [3, 5, 11, 12, 13] 4 ⟨?_, ?_, ?_, ?_, trivial⟩ ?_
  · exact qclD (AF_end40c p c hp hc)
  · exact qcast (qindex_sl 24 (.tmp 27) (.tmp 29) Tryz.underlying24 3 (p.acts.length) ((c.act).toNat) (fun i0 => actA ((p.acts.getD i0 Ac.none))) (c.act) Tryz.sizeOf60)
  · exact qcast (qindex_sl 58 (.tmp 32) (.tmp 34) Tryz.underlying58 6 ((p.acts.getD ((c.act).toNat) Ac.none).moves.length) ((c.craft).toNat) (fun i0 => mvA (((p.acts.getD ((c.act).toNat) Ac.none).moves.getD i0 Mv.none))) (c.craft) Tryz.sizeOf57)
  · exact qclD (AF_lawhorizon p d hp hd ⟨hc.1, ho⟩ (by omega))
  refine AC_seq ?_
  refine AC_seq_list ?_
  refine qrun 1 ?_
  refine qb (decide (side < 0)) ?_
  refine qrun 1 ?_
  refine bool_split (decide (side < 0)) (fun hx1 => ?_) (fun hx1 => ?_)
  ·
   have hx1d := of_decide_eq_true hx1
   refine qLknown 43 _ true hx1 ?_
   refine qrun 10 ?_
   refine qend [3, 5, 11, 12, 13, 53] ?_
   refine qCtrue ?_
   refine qreg 3 [8, 9, 10] ?_
   refine AC_ret ?_
   exact ⟨.inl rfl, (resOk3 Tryz.results16 (resV_tmp (x := .lit (.slice none 0 0)) (by kernel_rfl) (by kernel_rfl)) (resV_tmp (x := .bool false) (by kernel_rfl) (by kernel_rfl)) (resV_tmp (x := .int (0)) (by kernel_rfl) (by kernel_rfl))).cast (by kernel_rfl)⟩
  ·
   have hx1d := of_decide_eq_false hx1
   refine qLknown 43 _ false hx1 ?_
   refine qrun 3 ?_
   refine qopg (.int (((d.sides.length : Nat) : Int))) .none (qlen_slc (.tmp 46) 23 #[23] Tryz.underlying23 3 (d.sides.length) (fun i0 => vecA ((d.sides.getD i0 V3.zero)))) ?_
   refine qbg (decide (((d.sides.length : Nat) : Int) ≤ side)) ?_
   refine qrun 2 ?_
   refine bool_split (decide (((d.sides.length : Nat) : Int) ≤ side)) (fun hx2 => ?_) (fun hx2 => ?_)
   ·
    have hx2d := of_decide_eq_true hx2
    refine qLknown 50 _ true hx2 ?_
    refine qrun 3 ?_
    refine qend [3, 5, 11, 12, 13, 53] ?_
    refine qCtrue ?_
    refine qreg 3 [8, 9, 10] ?_
    refine AC_ret ?_
    exact ⟨.inl rfl, (resOk3 Tryz.results16 (resV_tmp (x := .lit (.slice none 0 0)) (by kernel_rfl) (by kernel_rfl)) (resV_tmp (x := .bool false) (by kernel_rfl) (by kernel_rfl)) (resV_tmp (x := .int (0)) (by kernel_rfl) (by kernel_rfl))).cast (by kernel_rfl)⟩
   ·
    have hx2d := of_decide_eq_false hx2
    refine qLknown 50 _ false hx2 ?_
    refine qrun 1 ?_
    refine qbg (decide ((3600000 : Int) < horT p d)) ?_
    refine qrun 1 ?_
    refine qend [3, 5, 11, 12, 13, 53] ?_
    refine bool_split (decide ((3600000 : Int) < horT p d)) (fun hx3 => ?_) (fun hx3 => ?_)
    ·
     have hx3d := of_decide_eq_true hx3
     refine qT hx3 ?_
     refine qreg 3 [8, 9, 10] ?_
     refine AC_ret ?_
     exact ⟨.inl rfl, (resOk3 Tryz.results16 (resV_tmp (x := .lit (.slice none 0 0)) (by kernel_rfl) (by kernel_rfl)) (resV_tmp (x := .bool false) (by kernel_rfl) (by kernel_rfl)) (resV_tmp (x := .int (0)) (by kernel_rfl) (by kernel_rfl))).cast (by kernel_rfl)⟩
    ·
     have hx3d := of_decide_eq_false hx3
     refine qF hx3 ?_
     refine AC_skip ?_
     have hsv := in3 (ho.2 side.toNat (by omega)).1
     have hsz := (ho.2 side.toNat (by omega)).2.1
     refine qsdraw [(5, .elt 3 (fun q => AV.cell (vecA ((d.sides.getD ((side).toNat) V3.zero))) q), .none), (8, .int (((p.acts.getD ((c.act).toNat) Ac.none).moves.getD ((c.craft).toNat) Mv.none).to.x + (d.sides.getD ((side).toNat) V3.zero).x), .none), (14, .elt 3 (fun q => AV.cell (vecA ((d.sides.getD ((side).toNat) V3.zero))) q), .none), (17, .int (((p.acts.getD ((c.act).toNat) Ac.none).moves.getD ((c.craft).toNat) Mv.none).to.y + (d.sides.getD ((side).toNat) V3.zero).y), .none), (20, .lit (.agg #[.int .i64 (((p.acts.getD ((c.act).toNat) Ac.none).moves.getD ((c.craft).toNat) Mv.none).to.x + (d.sides.getD ((side).toNat) V3.zero).x), .int .i64 (((p.acts.getD ((c.act).toNat) Ac.none).moves.getD ((c.craft).toNat) Mv.none).to.y + (d.sides.getD ((side).toNat) V3.zero).y), .int .i64 (((p.acts.getD ((c.act).toNat) Ac.none).moves.getD ((c.craft).toNat) Mv.none).to.z)]), .none)] [3, 5, 11, 12, 13, 14] 5 ⟨?_, ?_, ?_, ?_, ?_, trivial⟩ ?_
     · exact qcast (OpS.wk (qindex_sl 23 (.tmp 57) (.tmp 58) Tryz.underlying23 3 (d.sides.length) ((side).toNat) (fun i0 => vecA ((d.sides.getD i0 V3.zero))) (side) Tryz.sizeOf55))
     · exact qwD (((p.acts.getD ((c.act).toNat) Ac.none).moves.getD ((c.craft).toNat) Mv.none).to.x + (d.sides.getD ((side).toNat) V3.zero).x)
     · exact qcast (OpS.wk (qindex_sl 23 (.tmp 66) (.tmp 67) Tryz.underlying23 3 (d.sides.length) ((side).toNat) (fun i0 => vecA ((d.sides.getD i0 V3.zero))) (side) Tryz.sizeOf55))
     · exact qwD (((p.acts.getD ((c.act).toNat) Ac.none).moves.getD ((c.craft).toNat) Mv.none).to.y + (d.sides.getD ((side).toNat) V3.zero).y)
     · exact qcast (qbuild_struct 55 #[(0, (.tmp 62)), (1, (.tmp 71)), (2, (.tmp 73))] _ Tryz.zeroValue55 Tryz.underlying55 #[(0, 1), (1, 1), (2, 1)] [.int (((p.acts.getD ((c.act).toNat) Ac.none).moves.getD ((c.craft).toNat) Mv.none).to.x + (d.sides.getD ((side).toNat) V3.zero).x), .int (((p.acts.getD ((c.act).toNat) Ac.none).moves.getD ((c.craft).toNat) Mv.none).to.y + (d.sides.getD ((side).toNat) V3.zero).y), .int (((p.acts.getD ((c.act).toNat) Ac.none).moves.getD ((c.craft).toNat) Mv.none).to.z)])
     refine qreg 3 [3, 5, 11, 12, 13, 14, 15] ?_
     refine qreg 4 [3, 5, 11, 12, 13, 14, 15] ?_
     refine AC_seq ?_
     refine AC_seq_list ?_
     refine qrun 1 ?_
     refine qcl (AF_point (offV (casePt p c) (sideV d side))) ?_
     refine qb (!insideB 1048576 [(offV (casePt p c) (sideV d side)).x, (offV (casePt p c) (sideV d side)).y, (offV (casePt p c) (sideV d side)).z]) ?_
     refine qrun 1 ?_
     refine bool_split (insideB 1048576 [(offV (casePt p c) (sideV d side)).x, (offV (casePt p c) (sideV d side)).y, (offV (casePt p c) (sideV d side)).z]) (fun hx4 => ?_) (fun hx4 => ?_)
     ·
      refine qLknown 82 _ false (nt hx4) ?_
      refine qrun 1 ?_
      refine qclg (AF_point (lowV (casePt p c) (sideV d side) d.ground)) ?_
      refine qbg (!insideB 1048576 [(lowV (casePt p c) (sideV d side) d.ground).x, (lowV (casePt p c) (sideV d side) d.ground).y, (lowV (casePt p c) (sideV d side) d.ground).z]) ?_
      refine qrun 1 ?_
      refine qend [3, 5, 11, 12, 13, 14, 15, 86] ?_
      refine bool_split (insideB 1048576 [(lowV (casePt p c) (sideV d side) d.ground).x, (lowV (casePt p c) (sideV d side) d.ground).y, (lowV (casePt p c) (sideV d side) d.ground).z]) (fun hx5 => ?_) (fun hx5 => ?_)
      ·
       refine qF (nt hx5) ?_
       refine AC_skip ?_
       exact absurd ⟨by omega, by omega, by omega, hx4, hx5⟩ h
      ·
       refine qT (nf hx5) ?_
       refine qreg 3 [8, 9, 10] ?_
       refine AC_ret ?_
       exact ⟨.inl rfl, (resOk3 Tryz.results16 (resV_tmp (x := .lit (.slice none 0 0)) (by kernel_rfl) (by kernel_rfl)) (resV_tmp (x := .bool false) (by kernel_rfl) (by kernel_rfl)) (resV_tmp (x := .int (0)) (by kernel_rfl) (by kernel_rfl))).cast (by kernel_rfl)⟩
     ·
      refine qLknown 82 _ true (nf hx4) ?_
      refine qrun 4 ?_
      refine qend [3, 5, 11, 12, 13, 14, 15, 86] ?_
      refine qCtrue ?_
      refine qreg 3 [8, 9, 10] ?_
      refine AC_ret ?_
      exact ⟨.inl rfl, (resOk3 Tryz.results16 (resV_tmp (x := .lit (.slice none 0 0)) (by kernel_rfl) (by kernel_rfl)) (resV_tmp (x := .bool false) (by kernel_rfl) (by kernel_rfl)) (resV_tmp (x := .int (0)) (by kernel_rfl) (by kernel_rfl))).cast (by kernel_rfl)⟩
end Go.Proofs.YtkcnbaeoahoglaaGreat
namespace Go.Proofs.YtkcnbaeoahoglaaGreat
open Go.RowKit
structure WRel (s : Option (List Sg) × Int) (b : List Sg × Int) : Prop where
 e : s.2 = b.2
 p : b.2 = 0 → s.1.getD [] = b.1
 n : b.2 = 0 → (s.1 = none ↔ b.1.length = 0)
 z : b.2 ≠ 0 → b.1 = []
 g : b.2 = 0 ∨ 2 ≤ b.2
theorem flyR_two (a b : V3) (f t k : Int) : ((flyR a b f t k).2 = 0 ∧ 0 < (flyR a b f t k).1.length) ∨ ((flyR a b f t k).2 = 2 ∧ (flyR a b f t k).1 = []) := by
 unfold flyR
 split
 · exact .inl ⟨rfl, Nat.one_pos⟩
 · exact .inr ⟨rfl, rfl⟩
theorem appR_g (a b : List Sg) : (appR a b).2 = 0 ∨ 2 ≤ (appR a b).2 := by
 unfold appR
 split
 · exact .inr (by decide)
 ·
  split
  · exact .inr (by decide)
  ·
   split
   · exact .inr (by decide)
   · exact .inl rfl
theorem appR_len {a b : List Sg} (h : (appR a b).2 = 0) : (appR a b).1.length = a.length + b.length := by
 unfold appR at *
 split
 · rename_i h1; rw [if_pos h1] at h; cases h
 ·
  rename_i h1
  rw [if_neg h1] at h
  split
  · rename_i h2; rw [if_pos h2] at h; cases h
  ·
   rename_i h2
   rw [if_neg h2] at h
   split
   · rename_i h3; rw [if_pos h3] at h; cases h
   · simp
theorem wrel_step {s : Option (List Sg) × Int} {b g : List Sg × Int} (h : WRel s b) (hg : (g.2 = 0 ∧ 0 < g.1.length) ∨ (g.2 = 2 ∧ g.1 = [])) : WRel (stepL s g) (behR b g) := by
 unfold stepL behR
 by_cases hb : b.2 = 0
 ·
  have hs : s.2 = 0 := h.e.trans hb
  rw [if_pos hs]
  rcases hg with ⟨h1, h2⟩ | ⟨h1, h2⟩
  ·
   rw [if_pos h1, if_pos ⟨hb, h1⟩]
   cases hq : s.1 with
   | none =>
    have := (h.n hb).1 hq
    rw [if_pos this]
    exact ⟨rfl, fun _ => rfl, fun _ => ⟨fun h => by simp at h, fun h => by simp only at h; omega⟩, fun h => absurd rfl h, .inl rfl⟩
   | some q =>
    have hl : ¬ b.1.length = 0 := fun h0 => by have := (h.n hb).2 h0; rw [hq] at this; cases this
    rw [if_neg hl]
    have hbq : q = b.1 := by have := h.p hb; rw [hq] at this; exact this
    subst hbq
    by_cases ha : (appR b.1 g.1).2 = 0
    ·
     simp only [ha, if_true]
     exact ⟨ha.symm, fun _ => rfl, fun _ => ⟨fun h => by simp at h, fun h0 => by rw [appR_len ha] at h0; omega⟩, fun h => absurd ha h, .inl ha⟩
    ·
     simp only [ha, if_false]
     exact ⟨rfl, fun h => absurd h ha, fun h => absurd h ha, fun h => appR_nil h, appR_g _ _⟩
  ·
   rw [if_neg (by omega : ¬ g.2 = 0), if_neg (fun k => by omega)]
   have : max b.2 g.2 = 2 := by omega
   rw [this]
   exact ⟨h1, fun h => absurd h (by decide), fun h => absurd h (by decide), fun _ => rfl, .inr (Int.le_refl _)⟩
 ·
  have hs : ¬ s.2 = 0 := fun k => hb (h.e.symm.trans k)
  rw [if_neg hs, if_neg (fun k => hb k.1)]
  have := h.g
  have : max b.2 g.2 = b.2 := by rcases hg with ⟨h1, _⟩ | ⟨h1, _⟩ <;> omega
  rw [this]
  exact ⟨h.e, fun k => absurd k hb, fun k => absurd k hb, fun _ => rfl, h.g⟩
theorem wrel_nil : WRel (none, 0) ([], 0) := ⟨rfl, fun _ => rfl, fun _ => ⟨fun _ => rfl, fun _ => rfl⟩, fun h => absurd rfl h, .inl rfl⟩
theorem behR_nil {g : List Sg × Int} (hg : (g.2 = 0 ∧ 0 < g.1.length) ∨ (g.2 = 2 ∧ g.1 = [])) : behR ([], 0) g = g := by
 unfold behR
 rcases hg with ⟨h1, h2⟩ | ⟨h1, h2⟩
 · rw [if_pos ⟨rfl, h1⟩, if_pos (show ([] : List Sg).length = 0 from rfl)]; exact Prod.ext rfl h1.symm
 · rw [if_neg (fun k => by have := k.2; omega)]; exact Prod.ext h2.symm (by show max 0 g.2 = g.2; omega)
theorem wrel_T {s : Option (List Sg) × Int} {b : List Sg × Int} (h : WRel s b) (off low : V3) (t dn u : Int) : WRel (wayT s off low t dn u) (lawT b off low t dn u) := by
 unfold wayT lawT
 split
 · exact wrel_step (wrel_step h (flyR_two _ _ _ _ _)) (flyR_two _ _ _ _ _)
 · exact wrel_step h (flyR_two _ _ _ _ _)
theorem wrel_R (a s : V3) (g ac dn t u : Int) (hz : s.z = 0) : WRel (wayR a s g ac dn t u) (lawR a s g ac dn t u) := by
 unfold wayR lawR
 by_cases h : s.x = 0 ∧ s.y = 0 ∧ s.z = 0
 ·
  rw [if_pos h, if_pos (by omega)]
  exact wrel_T wrel_nil _ _ _ _ _
 ·
  rw [if_neg h, if_neg (by omega)]
  have := wrel_step wrel_nil (flyR_two a (offV a s) t (t + ac) 2)
  rw [behR_nil (flyR_two a (offV a s) t (t + ac) 2)] at this
  exact wrel_T this _ _ _ _ _
theorem VR.resW_P {E : Env} {v : Value} {s : Option (List Sg) × Int} {b : List Sg × Int} (hw : WRel s b) (h : VR E (resW s) v) : VR E (resP b) v := by
 unfold resW at h
 rw [hw.e] at h
 split at h
 ·
  rename_i h0
  rw [hw.p h0] at h
  rw [resP, h0]; exact h
 ·
  rename_i h0
  have := h.nil_P
  have e : b = ([], b.2) := Prod.ext (hw.z h0) rfl
  rw [e]; exact this
noncomputable abbrev lawW (p : Pr) (d : De) (c : Cs) (side : Int) : List Sg × Int := lawR (casePt p c) (sideV d side) d.ground d.across d.down (caseEnd p c) (horT p d)
theorem AF_way_P (p : Pr) (d : De) (c : Cs) (side : Int) (hp : PrIn p) (hd : DeIn d) (hcs : CsIn c) (hsd : In64 side) (hc : CaseOk p c) (ho : DescOk d) (h : WayPos p d c side) : AF Tryz.prog 14 [progA p, descA d, caseA c, .int side] (resP (lawW p d c side)) :=
  AF_wk (AF_way_ok p d c side hp hd hcs hsd hc ho h) rfl (fun _ _ _ _ h => h) fun E v hv => hv.resW_P (wrel_R _ _ _ _ _ _ _ (ho.2 side.toNat (by have := h.2.1; have := h.2.2.1; omega)).2.1)
theorem RowsP.nil : RowsP [] := ⟨by decide, fun i => by simp [Sg.none, RowsIn]⟩
theorem RowsP.app {a b : List Sg} (ha : RowsP a) (hb : RowsP b) : RowsP (appR a b).1 := by
 unfold appR
 split
 · exact RowsP.nil
 ·
  split
  · exact RowsP.nil
  ·
   split
   · exact RowsP.nil
   ·
    rename_i h
    refine ⟨by simp; omega, fun i => ?_⟩
    by_cases hi : i < a.length
    ·
     have : (a ++ b).getD i Sg.none = a.getD i Sg.none := by simp [List.getD_eq_getElem?_getD, List.getElem?_append_left hi]
     rw [this]; exact ha.2 i
    ·
     have : (a ++ b).getD i Sg.none = b.getD (i - a.length) Sg.none := by simp [List.getD_eq_getElem?_getD, List.getElem?_append_right (by omega : a.length ≤ i)]
     rw [this]; exact hb.2 _
theorem terms_len (a b k : Int) : (termsL a b (kindRow k)).length ≤ 1000000 := by
 unfold termsL
 rw [List.length_cons]
 split
 · decide
 ·
  rw [List.length_map]
  unfold kindRow
  split
  · decide
  ·
   split
   · decide
   · decide
theorem RowsP.fly (a b : V3) (f t k : Int) : RowsP (flyR a b f t k).1 := by
 unfold flyR
 split
 ·
  refine ⟨by show 1 ≤ 1000000; decide, fun i => ?_⟩
  cases i with
  | zero => exact ⟨terms_len _ _ _, terms_len _ _ _, terms_len _ _ _⟩
  | succ i => exact RowsP.nil.2 i
 · exact RowsP.nil
theorem RowsP.beh {a b : List Sg × Int} (ha : RowsP a.1) (hb : RowsP b.1) : RowsP (behR a b).1 := by
 unfold behR
 split
 ·
  split
  · exact hb
  · exact RowsP.app ha hb
 · exact RowsP.nil
theorem RowsP.law (a s : V3) (g ac dn t u : Int) : RowsP (lawR a s g ac dn t u).1 := by
 have key : ∀ (st : List Sg × Int) (off low : V3) (t dn u : Int), RowsP st.1 → RowsP (lawT st off low t dn u).1 := fun st off low t dn u h => by
  unfold lawT
  split
  · exact RowsP.beh (RowsP.beh h (RowsP.fly _ _ _ _ _)) (RowsP.fly _ _ _ _ _)
  · exact RowsP.beh h (RowsP.fly _ _ _ _ _)
 unfold lawR
 split
 · exact key _ _ _ _ _ _ RowsP.nil
 · exact key _ _ _ _ _ _ (RowsP.fly _ _ _ _ _)
end Go.Proofs.YtkcnbaeoahoglaaGreat
namespace Go.Proofs.YtkcnbaeoahoglaaGreat
open Go.RowKit
theorem AF_equal_self (a : List Sg) (ha : RowsP a) : AF Tryz.prog 17 [pathA a, pathA a] (.bool true) := by
 have := AF_equal a a ha ha
 rwa [bP_true rfl] at this
theorem AF_escapeways (p : Pr) (d : De) (c : Cs) (side : Int) (hl : ∀ a ∈ p.acts, In64 a.len) (hac : In64 d.across) (hdn : In64 d.down) (hgr : In64 d.ground) (hcs : CsIn c) (hsd : In64 side) : AF Tryz.prog 4 [progA p, descA d, caseA c, .int side] (.bool true) := by
  refine AF_of ⟨[(0, progA (p)), (1, descA (d)), (2, caseA (c)), (3, .int (side))], [], 0, 82⟩ Tryz.func4 rfl 82 Tryz.ntmps4 (by kernel_rfl) (by kernel_rfl) fun B D0 hA0 => ?_
  refine qreg 4 [3, 4, 5, 6] ?_
  refine AC_seq ?_
  refine AC_seq_list ?_
  refine qrun 1 ?_
  refine qcl (AF_few40 p 4 5 ⟨by decide, by decide⟩ ⟨by decide, by decide⟩) ?_
  refine qb (!bP (FewP p 4 5)) ?_
  refine qrun 1 ?_
  refine bool_split (bP (FewP p 4 5)) (fun hx1 => ?_) (fun hx1 => ?_)
  ·
   refine qLknown 17 _ false (nt hx1) ?_
   refine qrun 1 ?_
   refine qclg (AF_few42 d) ?_
   refine qbg (!decide (((d.sides.length : Nat) : Int) ≤ 17)) ?_
   refine qrun 1 ?_
   refine qend [3, 4, 5, 6, 21] ?_
   refine bool_split (decide (((d.sides.length : Nat) : Int) ≤ 17)) (fun hx2 => ?_) (fun hx2 => ?_)
   ·
    have hx2d := of_decide_eq_true hx2
    refine qF (nt hx2) ?_
    refine AC_skip ?_
    refine AC_seq_list ?_
    refine qrun 4 ?_
    refine bool_split (bP (CaseOk p c)) (fun hx3 => ?_) (fun hx3 => ?_)
    ·
     refine bool_split (bP (DescOk d)) (fun hx4 => ?_) (fun hx4 => ?_)
     ·
      refine bool_split (bP (WayPos p d c side)) (fun hx5 => ?_) (fun hx5 => ?_)
      ·
       refine qcl (AF_way_P p d c side (few_in (bP_of hx1) (by decide) (by decide) hl) ⟨by omega, hac, hdn, hgr⟩ hcs hsd (bP_of hx3) (bP_of hx4) (bP_of hx5)) ?_
       refine qrun 5 ?_
       refine qend [3, 4, 5, 6, 9, 10] ?_
       refine AC_seq ?_
       refine AC_seq_list ?_
       refine qrun 2 ?_
       refine qcl (AF_valid40 p c (few_in (bP_of hx1) (by decide) (by decide) hl) hcs) ?_
       refine qb (!bP (CaseOk p c)) ?_
       refine qrun 1 ?_
       refine qLknown 35 _ false (nt hx3) ?_
       refine qrun 1 ?_
       refine qclg (AF_lawvalid d ⟨by omega, hac, hdn, hgr⟩) ?_
       refine qbg (!bP (DescOk d)) ?_
       refine qrun 1 ?_
       refine qend [3, 4, 5, 6, 9, 10, 39] ?_
       refine qF (nt hx4) ?_
       refine AC_skip ?_
       refine AC_seq_list ?_
       refine qrun 4 ?_
       refine qcl (AF_lawway_ok p d c side (few_in (bP_of hx1) (by decide) (by decide) hl) ⟨by omega, hac, hdn, hgr⟩ hcs hsd (bP_of hx3) (bP_of hx4) (bP_of hx5)) ?_
       refine qrun 7 ?_
       refine qend [9, 10, 11, 12, 13] ?_
       refine AC_seq ?_
       refine AC_seq_list ?_
       refine qrun 1 ?_
       refine qb false ?_
       refine qend [9, 10, 11, 13, 60] ?_
       refine qCfalse ?_
       refine AC_skip ?_
       refine AC_seq_list ?_
       refine qrun 2 ?_
       refine qb (decide ((lawW p d c side).2 = (lawW p d c side).2)) ?_
       refine qrun 1 ?_
       refine qLknown 74 (decide ((lawW p d c side).2 = (lawW p d c side).2)) true (decide_eq_true rfl) ?_
       refine qrun 2 ?_
       refine qopg (.bool true) .none (qcall 17 #[(.tmp 75), (.tmp 76)] #[41, 41] [pathA ((lawW p d c side).1), pathA ((lawW p d c side).1)] (.bool true) (AF_equal_self _ (RowsP.law _ _ _ _ _ _ _))) ?_
       refine qrun 2 ?_
       refine qclg (AF_known42) ?_
       refine qrun 2 ?_
       refine qend [8] ?_
       refine AC_ret ?_
       exact ⟨.inl rfl, (resOk1 Tryz.results4 (resV_tmp (x := .bool true) (by kernel_rfl) (by kernel_rfl))).cast (by kernel_rfl)⟩
      ·
       refine qcl (AF_way_none p d c side (few_in (bP_of hx1) (by decide) (by decide) hl) ⟨by omega, hac, hdn, hgr⟩ hcs hsd (bP_of hx3) (bP_of hx4) (bP_not hx5)) ?_
       refine qrun 1 ?_
       refine qopn (.lit (.slice none 0 0)) (qlit (v := .slice none 0 0) (v' := .slice none 0 0) (rfl) _) ?_
       refine qi (9) ?_
       refine qrun 2 ?_
       refine qend [3, 4, 5, 6, 9, 10] ?_
       refine AC_seq ?_
       refine AC_seq_list ?_
       refine qrun 2 ?_
       refine qcl (AF_valid40 p c (few_in (bP_of hx1) (by decide) (by decide) hl) hcs) ?_
       refine qb (!bP (CaseOk p c)) ?_
       refine qrun 1 ?_
       refine qLknown 35 _ false (nt hx3) ?_
       refine qrun 1 ?_
       refine qclg (AF_lawvalid d ⟨by omega, hac, hdn, hgr⟩) ?_
       refine qbg (!bP (DescOk d)) ?_
       refine qrun 1 ?_
       refine qend [3, 4, 5, 6, 9, 10, 39] ?_
       refine qF (nt hx4) ?_
       refine AC_skip ?_
       refine AC_seq_list ?_
       refine qrun 4 ?_
       refine qcl (AF_lawway_no p d c side (few_in (bP_of hx1) (by decide) (by decide) hl) ⟨by omega, hac, hdn, hgr⟩ hcs hsd (bP_of hx3) (bP_of hx4) (bP_not hx5)) ?_
       refine qrun 1 ?_
       refine qopn (.lit (.slice none 0 0)) (qlit (v := .slice none 0 0) (v' := .slice none 0 0) (rfl) _) ?_
       refine qb false ?_
       refine qi (0) ?_
       refine qrun 3 ?_
       refine qend [9, 10, 11, 12, 13] ?_
       refine AC_seq ?_
       refine AC_seq_list ?_
       refine qrun 1 ?_
       refine qb true ?_
       refine qend [9, 10, 11, 13, 60] ?_
       refine qCtrue ?_
       refine AC_seq_list ?_
       refine qrun 1 ?_
       refine qi (0) ?_
       refine qb true ?_
       refine qrun 2 ?_
       refine qbg true ?_
       refine qrun 2 ?_
       refine qclg (AF_known42) ?_
       refine qrun 2 ?_
       refine qend [8] ?_
       refine AC_ret ?_
       exact ⟨.inl rfl, (resOk1 Tryz.results4 (resV_tmp (x := .bool true) (by kernel_rfl) (by kernel_rfl))).cast (by kernel_rfl)⟩
     ·
      refine qcl (AF_way_arg p d c side (few_in (bP_of hx1) (by decide) (by decide) hl) ⟨by omega, hac, hdn, hgr⟩ hcs hsd (fun g => bP_not hx4 g.2)) ?_
      refine qrun 1 ?_
      refine qopn (.lit (.slice none 0 0)) (qlit (v := .slice none 0 0) (v' := .slice none 0 0) (rfl) _) ?_
      refine qi (2) ?_
      refine qrun 2 ?_
      refine qend [3, 4, 5, 6, 9, 10] ?_
      refine AC_seq ?_
      refine AC_seq_list ?_
      refine qrun 2 ?_
      refine qcl (AF_valid40 p c (few_in (bP_of hx1) (by decide) (by decide) hl) hcs) ?_
      refine qb (!bP (CaseOk p c)) ?_
      refine qrun 1 ?_
      refine qLknown 35 _ false (nt hx3) ?_
      refine qrun 1 ?_
      refine qclg (AF_lawvalid d ⟨by omega, hac, hdn, hgr⟩) ?_
      refine qbg (!bP (DescOk d)) ?_
      refine qrun 1 ?_
      refine qend [3, 4, 5, 6, 9, 10, 39] ?_
      refine qT (nf hx4) ?_
      refine AC_seq_list ?_
      refine qrun 1 ?_
      refine qi (0) ?_
      refine qb true ?_
      refine qrun 2 ?_
      refine qbg true ?_
      refine qrun 2 ?_
      refine qclg (AF_known42) ?_
      refine qrun 2 ?_
      refine qend [8] ?_
      refine AC_ret ?_
      exact ⟨.inl rfl, (resOk1 Tryz.results4 (resV_tmp (x := .bool true) (by kernel_rfl) (by kernel_rfl))).cast (by kernel_rfl)⟩
    ·
     refine qcl (AF_way_arg p d c side (few_in (bP_of hx1) (by decide) (by decide) hl) ⟨by omega, hac, hdn, hgr⟩ hcs hsd (fun g => bP_not hx3 g.1)) ?_
     refine qrun 1 ?_
     refine qopn (.lit (.slice none 0 0)) (qlit (v := .slice none 0 0) (v' := .slice none 0 0) (rfl) _) ?_
     refine qi (2) ?_
     refine qrun 2 ?_
     refine qend [3, 4, 5, 6, 9, 10] ?_
     refine AC_seq ?_
     refine AC_seq_list ?_
     refine qrun 2 ?_
     refine qcl (AF_valid40 p c (few_in (bP_of hx1) (by decide) (by decide) hl) hcs) ?_
     refine qb (!bP (CaseOk p c)) ?_
     refine qrun 1 ?_
     refine qLknown 35 _ true (nf hx3) ?_
     refine qrun 4 ?_
     refine qend [3, 4, 5, 6, 9, 10, 39] ?_
     refine qCtrue ?_
     refine AC_seq_list ?_
     refine qrun 1 ?_
     refine qi (0) ?_
     refine qb true ?_
     refine qrun 2 ?_
     refine qbg true ?_
     refine qrun 2 ?_
     refine qclg (AF_known42) ?_
     refine qrun 2 ?_
     refine qend [8] ?_
     refine AC_ret ?_
     exact ⟨.inl rfl, (resOk1 Tryz.results4 (resV_tmp (x := .bool true) (by kernel_rfl) (by kernel_rfl))).cast (by kernel_rfl)⟩
   ·
    have hx2d := of_decide_eq_false hx2
    refine qT (nf hx2) ?_
    refine AC_seq_list ?_
    refine qcl (AF_known42) ?_
    refine qrun 1 ?_
    refine qend [8] ?_
    refine AC_ret ?_
    exact ⟨.inl rfl, (resOk1 Tryz.results4 (resV_tmp (x := .bool true) (by kernel_rfl) (by kernel_rfl))).cast (by kernel_rfl)⟩
  ·
   refine qLknown 17 _ true (nf hx1) ?_
   refine qrun 4 ?_
   refine qend [3, 4, 5, 6, 21] ?_
   refine qCtrue ?_
   refine AC_seq_list ?_
   refine qcl (AF_known42) ?_
   refine qrun 1 ?_
   refine qend [8] ?_
   refine AC_ret ?_
   exact ⟨.inl rfl, (resOk1 Tryz.results4 (resV_tmp (x := .bool true) (by kernel_rfl) (by kernel_rfl))).cast (by kernel_rfl)⟩
end Go.Proofs.YtkcnbaeoahoglaaGreat
namespace Go.Proofs.YtkcnbaeoahoglaaGreat.Open
open Go.ChangeShapes Go.WideShapes Go.ChangeAt Go.RowKit Go.Deep
section
variable {H : Type} {enc : TypeId × Value → H} {W : World}
theorem open_case {v : Value} {d : DataW H} {p : List MemPlace} {base : Nat} (hv : Value.okWide Tryz.prog W .any base 39 v) (h : DataW.Trod enc Tryz.prog W 0 (fun _ => true) true 39 v d p) :
  ∃ c : Cs, v = .agg #[.int .i64 c.craft, .int .i64 c.act] ∧ CsIn c := by
 obtain ⟨v0, v1, y0, y1, n, rfl, _, _, h0, h1⟩ := Go.Joins.open_agg2 Tryz.underlying39 (by kernel_rfl) (by kernel_rfl) hv h
 obtain ⟨k0, e0, f0⟩ := open_int h0
 obtain ⟨k1, e1, f1⟩ := open_int h1
 simp at e0 e1
 exact ⟨⟨k0, k1⟩, by simp [e0, e1], ⟨f0, f1⟩⟩
end
end Go.Proofs.YtkcnbaeoahoglaaGreat.Open
namespace Go.Proofs.YtkcnbaeoahoglaaGreat
theorem in64_wf {k : Int} (h : (Lit.int IntKind.i64 k).wf = true) : In64 k := by
 simp [Lit.wf, IntKind.min, IntKind.max, IntKind.signed, IntKind.bits] at h
 exact ⟨by omega, by omega⟩
end Go.Proofs.YtkcnbaeoahoglaaGreat
namespace Go.Proofs.YtkcnbaeoahoglaaGreat.EW
open Go.ChangeShapes Go.WideShapes Go.ChangeAt Go.RowKit Go.Deep
theorem own : ownKnob Tryz.prog.godebug = none := by kernel_rfl
theorem laidOut : laidOutB Tryz.prog = true := by kernel_rfl
theorem lifted (os : Os) (started : os.Started) (H : Type) (enc : TypeId × Value → H) :
  ReturnsInHanded {} Tryz.checked os 4 .any (fun w args => Rows.escapeWaysSpec.pre enc Tryz.prog Tryz.f4 [] false w args ∧ sizedMet enc Tryz.prog Tryz.f4 (OpenSpec.ofChange Rows.escapeWaysSpec) false w args)
   (Rows.escapeWaysSpec.post enc Tryz.prog Tryz.f4 false true false false) := by
 refine returnsInHanded_of_change (C := Tryz.checked) own started (by kernel_rfl) Tryz.func4
  (by
   obtain ⟨w, tape, i, h1, h2, h3, h4, ⟨⟨hp, _⟩, hs⟩, h5⟩ := ChangeSpec.witness_shaped (enc := enc) (C := Tryz.checked) (os := os) (f := 4) (fn := Tryz.f4) (s := Rows.escapeWaysSpec) (conds := []) (apart := false) (X := fun _ _ => True) false (World.doorLaid Tryz.prog 400 os) #[.agg #[.slice none 0 0, .slice none 0 0, .slice none 0 0], .agg #[.slice none 0 0, .int .i64 0, .int .i64 0, .int .i64 0], .agg #[.int .i64 0, .int .i64 0], .int .i64 0] 8 rfl (World.shaped_of_RefB (by kernel_rfl) (by kernel_rfl)) (by kernel_rfl) (by kernel_rfl) (by kernel_rfl) trivial
   exact ⟨w, tape, i, h1, h2, h3, h4, ⟨hp, hs⟩, h5⟩) ?_
 intro W base args ds gs before hval0 hW _ _
 have hval : ∀ (j : Nat) t v, Tryz.f4.params[j]? = some t → args[j]? = some v → Value.okWide Tryz.prog W .any base t v := hval0
 have hW' := hW
 obtain ⟨p, q, hA0, hV, rfl, hfz, hnd⟩ := hW
 have hA : DataW.TrodAll enc Tryz.prog W 0 (fun _ => true) true Tryz.f4.params.toList args.toList ds p := hA0
 rw [Tryz.params4] at hA hval
 obtain ⟨v0, vs0, d0, ds0, p0, q0, hargs, rfl, rfl, h0, r0⟩ := trodAll_cons hA
 obtain ⟨v1, vs1, d1, ds1, p1, q1, rfl, rfl, rfl, h1, r1⟩ := trodAll_cons r0
 obtain ⟨v2, vs2, d2, ds2, p2, q2, rfl, rfl, rfl, h2, r2⟩ := trodAll_cons r1
 obtain ⟨v3, vs3, d3, ds3, p3, q3, rfl, rfl, rfl, h3, r3⟩ := trodAll_cons r2
 obtain ⟨rfl, rfl, rfl⟩ := trodAll_nil r3
 obtain rfl : args = #[v0, v1, v2, v3] := by cases args; simp_all
 obtain ⟨rfl, rfl⟩ := trodVars_none hV
 have k0 := h0
 have k1 := h1
 have k2 := h2
 have lt0 : ∀ x ∈ p0, x.block < W.heap.size := by obtain ⟨m, hm⟩ := k0; exact DataW.trod_lt m _ _ _ hm
 have lt1 : ∀ x ∈ p1, x.block < W.heap.size := by obtain ⟨m, hm⟩ := k1; exact DataW.trod_lt m _ _ _ hm
 have lt2 : ∀ x ∈ p2, x.block < W.heap.size := by obtain ⟨m, hm⟩ := k2; exact DataW.trod_lt m _ _ _ hm
 obtain ⟨vn, vh, va, pr, rfl, hp, hsn, hsa⟩ := Open.open_prog2 (hval 0 26 v0 rfl rfl) h0
 obtain ⟨A, c, de, rfl, hs, hcap, f1, f2, f3⟩ := Open.open_desc (hval 1 28 v1 rfl rfl) h1
 obtain ⟨cs, rfl, hcs⟩ := Open.open_case (hval 2 39 v2 rfl rfl) h2
 obtain ⟨sd, rfl, rfl, rfl, w3⟩ := open_int Tryz.underlying3 (hval 3 3 v3 rfl rfl) h3
 clear hA0 hval0
 refine ((AF_escapeways pr de cs sd (fun a ha => (hsa a ha).2) f1 f2 f3 hcs (in64_wf w3)).call W #[.agg #[vn, vh, va], .agg #[.slice A de.sides.length c, .int .i64 de.across, .int .i64 de.down, .int .i64 de.ground], .agg #[.int .i64 cs.craft, .int .i64 cs.act], .int .i64 sd] rfl (fun E hw hD i hi => ?_)).mono fun e W' ⟨he, bel⟩ => ?_
 ·
  have h4 : i < 4 := hi
  match i, h4 with
  | 0, _ => exact prog_sl hp hw hD
  | 1, _ => exact desc_sl hs hcap hw hD
  | 2, _ => exact .lit _ _
  | 3, _ => exact .lit _ _
 ·
  subst he
  exact ⟨_, rfl, _, _, _, [], _, [], hW', trodAll_mk1 (shut_bool Tryz.underlying4 _), (trodAll_cons_mk (Below.trod laidOut (by kernel_rfl) (of_decide_eq_true (by kernel_rfl)) k0 bel lt0) (trodAll_cons_mk (Below.trod laidOut (by kernel_rfl) (of_decide_eq_true (by kernel_rfl)) k1 bel lt1) (trodAll_cons_mk (Below.trod laidOut (by kernel_rfl) (of_decide_eq_true (by kernel_rfl)) k2 bel lt2) (trodAll_cons_mk (shut_int Tryz.underlying3 w3) trodAll_mk0)))), rfl, bel.frame _, fun h => by cases h⟩
theorem row_holds : Rows.EscapeWaysSaid :=
 OpenClaim.holds_of_wide 4 Tryz.f4 rfl rfl rfl rfl rfl rfl rfl ⟨rfl, rfl, rfl, rfl, rfl⟩ rfl rfl rfl rfl rfl (by kernel_rfl) Tryz.func4 (by kernel_rfl)
  (of_decide_eq_true (by kernel_rfl)) (by unfold Func.isWrapper; first | (rw [if_pos (by decide +kernel)]; kernel_rfl) | (rw [if_neg (by decide +kernel)]; exact ⟨rfl, rfl⟩))
  (fun os started H enc _ => lifted os started H enc)
end Go.Proofs.YtkcnbaeoahoglaaGreat.EW
