/- Part 22 of the proof of EV.row_holds, joined by program: no condition beyond the row's own. -/
import Derived.Test.YtkcnbaeoahoglaaGreatP21
import Derived.Test.YtkcnbaeoahoglaaGreatRows
import Derived.LaidMore
import Derived.OpenShut
import Derived.ShutString
import Derived.ChangeOld
import Derived.Lib.LaidTab
import Derived.Stop.Joined
import Derived.HandedShaped
import Derived.Deep.Fields
namespace Go.Proofs.YtkcnbaeoahoglaaGreat.Open
open Go.ChangeShapes Go.WideShapes Go.ChangeAt Go.RowKit Go.Deep
section
variable {H : Type} {enc : TypeId × Value → H} {W : World} {n : Nat} {y : DataW H × List MemPlace} {cs : List Value}
theorem open_act2 (hl : cs.length = 3) (h : DataW.trod enc Tryz.prog W 0 (fun _ => true) true n 60 cs = some y) : ∃ a : Ac, ActAt W (rg 0 W.heap.size) a cs ∧ (a.name.size ≤ maxLen ∧ In64 a.len) := by
  match cs, hl with
  | [a, b, c], _ =>
    obtain ⟨m0, z0, h0⟩ := open_field (ty := 9) (off := 0) Tryz.underlying60 h 0 (by rfl)
    obtain ⟨m1, z1, h1⟩ := open_field (ty := 3) (off := 1) Tryz.underlying60 h 1 (by rfl)
    obtain ⟨m2, z2, h2⟩ := open_field (ty := 58) (off := 2) Tryz.underlying60 h 2 (by rfl)
    simp only [c_int, c_str, c_moves] at h0 h1 h2
    obtain ⟨s, e0, _, hs⟩ := DataW.trod_string Tryz.underlying9 h0
    obtain ⟨k1, e1, f1⟩ := open_int h1
    obtain ⟨ad, len, cap, e2⟩ := Go.Joins.slice_form Tryz.underlying58 h2
    rw [e2] at h2
    obtain ⟨l, g1, g2, g3, _⟩ := open_rows Tryz.underlying58 c_move (by decide) h2
    obtain ⟨L, L1, L2⟩ := list_of (cells := Mv.cells) l (fun cs hc => by obtain ⟨hl, n, y, ht⟩ := g2 cs hc; exact open_move hl ht)
    simp at e0 e1 e2
    refine ⟨⟨s, k1, L⟩, ⟨.slice ad len cap, by simp [e0, e1, e2], ?_⟩, hs, f1⟩
    show SeesD W _ 6 _ L.length (mvs L)
    have hL : L.length = len := by omega
    rw [hL]
    unfold mvs
    rw [← L2]
    exact g3
theorem acts_of2 : ∀ (l : List (List Value)) (_ : ∀ cs ∈ l, ∃ a : Ac, ActAt W (rg 0 W.heap.size) a cs ∧ (a.name.size ≤ maxLen ∧ In64 a.len)), ∃ L : List Ac, L.length = l.length ∧ Acts W (rg 0 W.heap.size) L l.flatten ∧ ∀ a ∈ L, (a.name.size ≤ maxLen ∧ In64 a.len)
  | [], _ => ⟨[], rfl, rfl, by simp⟩
  | cs :: l, h => by
    obtain ⟨a, ha, hs⟩ := h cs (by simp)
    obtain ⟨L, h1, h2, h3⟩ := acts_of2 l (fun c hc => h c (by simp [hc]))
    refine ⟨a :: L, by simp [h1], ⟨cs, l.flatten, by simp, ha, h2⟩, fun x hx => ?_⟩
    rcases List.mem_cons.1 hx with rfl | hx
    · exact hs
    · exact h3 x hx
set_option maxRecDepth 100000 in
theorem open_prog2 {v : Value} {d : DataW H} {p : List MemPlace} {base : Nat} (hv : Value.okWide Tryz.prog W .any base 26 v) (h : DataW.Trod enc Tryz.prog W 0 (fun _ => true) true 26 v d p) :
    ∃ (vn vh va : Value) (pr : Pr), v = .agg #[vn, vh, va] ∧ ProgAt W W.heap.size vn vh va pr ∧ (∀ s ∈ pr.names, s.size ≤ maxLen) ∧ (∀ a ∈ pr.acts, (a.name.size ≤ maxLen ∧ In64 a.len)) := by
  obtain ⟨v0, v1, v2, y0, y1, y2, n, rfl, _, _, h0, h1, h2⟩ := Go.Joins.open_agg3 Tryz.underlying26 (by kernel_rfl) (by kernel_rfl) hv h
  obtain ⟨a0, l0, c0, e0⟩ := Go.Joins.slice_form Tryz.underlying22 h0
  obtain ⟨a1, l1, c1, e1⟩ := Go.Joins.slice_form Tryz.underlying23 h1
  obtain ⟨a2, l2, c2, e2⟩ := Go.Joins.slice_form Tryz.underlying24 h2
  obtain rfl : v0 = .slice a0 l0 c0 := by simpa using e0
  obtain rfl : v1 = .slice a1 l1 c1 := by simpa using e1
  obtain rfl : v2 = .slice a2 l2 c2 := by simpa using e2
  obtain ⟨N, hN, sN, _, zN⟩ := open_names h0
  obtain ⟨lh, g1, g2, g3, _⟩ := open_rows Tryz.underlying23 c_vec (by decide) h1
  obtain ⟨Hm, H1, H2⟩ := list_of (cells := fun v : V3 => [.int .i64 v.x, .int .i64 v.y, .int .i64 v.z]) lh (fun cs hc => by obtain ⟨hl, n, y, ht⟩ := g2 cs hc; exact open_vec hl ht)
  obtain ⟨la, k1, k2, k3, _⟩ := open_rows Tryz.underlying24 c_act (by decide) h2
  obtain ⟨Ac, A1, A2, A3⟩ := acts_of2 la (fun cs hc => by obtain ⟨hl, n, y, ht⟩ := k2 cs hc; exact open_act2 hl ht)
  refine ⟨_, _, _, ⟨N, Hm, Ac⟩, rfl, ⟨sN, ?_, la.flatten, ?_, A2⟩, zN, A3⟩
  · have hL : Hm.length = l1 := by omega
    show Sees W 0 W.heap.size 3 _ Hm.length (vecs Hm)
    rw [hL]
    unfold vecs
    rw [← H2]
    exact g3
  · have hL : Ac.length = l2 := by omega
    show Sees W 0 W.heap.size 3 _ Ac.length _
    rw [hL]
    exact k3
theorem open_cap {a0 : Option Addr} {len0 cap0 fuel : Nat} {t e : TypeId} (ht : Tryz.prog.underlying t = some (.slice e)) (h : DataW.trod enc Tryz.prog W 0 (fun _ => true) true fuel t [.slice a0 len0 cap0] = some y) : len0 ≤ cap0 := by
  rcases open_slice ht h with ⟨hcs, _⟩ | ⟨x, n, c, m, nn, D, Pl, hcs, _, hl, hm, hmm, _, hi⟩
  · simp at hcs
    obtain ⟨rfl, rfl, rfl⟩ := hcs
    exact Nat.le_refl _
  · simp at hcs
    obtain ⟨rfl, rfl, rfl⟩ := hcs
    have hmm' : m = cap0 := by simpa using hmm
    omega
set_option maxRecDepth 100000 in
theorem open_desc {v : Value} {d : DataW H} {p : List MemPlace} {base : Nat} (hv : Value.okWide Tryz.prog W .any base 28 v) (h : DataW.Trod enc Tryz.prog W 0 (fun _ => true) true 28 v d p) :
    ∃ (A : Option Addr) (c : Nat) (de : De), v = .agg #[.slice A de.sides.length c, .int .i64 de.across, .int .i64 de.down, .int .i64 de.ground] ∧ Sees W 0 W.heap.size 3 (.slice A de.sides.length c) de.sides.length (vecs de.sides) ∧ de.sides.length ≤ c ∧ In64 de.across ∧ In64 de.down ∧ In64 de.ground := by
  obtain ⟨v0, v1, v2, v3, y0, y1, y2, y3, n, rfl, _, _, h0, h1, h2, h3⟩ := Go.Joins.open_agg4 Tryz.underlying28 (by kernel_rfl) (by kernel_rfl) hv h
  obtain ⟨a0, l0, c0, e0⟩ := Go.Joins.slice_form Tryz.underlying23 h0
  obtain rfl : v0 = .slice a0 l0 c0 := by simpa using e0
  obtain ⟨k1, e1, f1⟩ := open_int h1
  obtain ⟨k2, e2, f2⟩ := open_int h2
  obtain ⟨k3, e3, f3⟩ := open_int h3
  have hc := open_cap Tryz.underlying23 h0
  obtain ⟨lh, g1, g2, g3, _⟩ := open_rows Tryz.underlying23 c_vec (by decide) h0
  obtain ⟨Hm, H1, H2⟩ := list_of (cells := fun v : V3 => [.int .i64 v.x, .int .i64 v.y, .int .i64 v.z]) lh (fun cs hc => by obtain ⟨hl, n, y, ht⟩ := g2 cs hc; exact open_vec hl ht)
  have hL : Hm.length = l0 := by omega
  subst hL
  simp at e1 e2 e3
  refine ⟨a0, c0, ⟨Hm, k1, k2, k3⟩, by simp [e1, e2, e3], ?_, hc, f1, f2, f3⟩
  show Sees W 0 W.heap.size 3 _ Hm.length (vecs Hm)
  unfold vecs
  rw [← H2]
  exact g3
end
end Go.Proofs.YtkcnbaeoahoglaaGreat.Open
namespace Go.Proofs.YtkcnbaeoahoglaaGreat
open Go.RowKit
theorem vecs_sl {w : World} {D : Nat → Prop} {l : List V3} {v : Value} (h : SeesD w D 3 v l.length (vecs l)) {E : Env} (hw : E.w = w) (hD : ∀ b, D b → E.D b) : VR E (vecsA l) v :=
  sees_sl h hw hD fun i j hi hj => by
    have := getD_flat (fun v : V3 => [Value.int .i64 v.x, .int .i64 v.y, .int .i64 v.z]) 3 (fun _ => rfl) l i j V3.zero hi hj
    unfold vecs
    rw [this]
    match j, hj with
    | 0, _ => exact .lit _ _
    | 1, _ => exact .lit _ _
    | 2, _ => exact .lit _ _
theorem mvs_sl {w : World} {D : Nat → Prop} {l : List Mv} {v : Value} (h : SeesD w D 6 v l.length (mvs l)) {E : Env} (hw : E.w = w) (hD : ∀ b, D b → E.D b) : VR E (mvsA l) v :=
  sees_sl h hw hD fun i j hi hj => by
    have := getD_flat Mv.cells 6 (fun _ => rfl) l i j Mv.none hi hj
    unfold mvs
    rw [this]
    match j, hj with
    | 0, _ => exact .lit _ _
    | 1, _ => exact .lit _ _
    | 2, _ => exact .lit _ _
    | 3, _ => exact .lit _ _
    | 4, _ => exact .lit _ _
    | 5, _ => exact .lit _ _
theorem names_sl {w : World} {D : Nat → Prop} {l : List ByteArray} {v : Value} (h : SeesD w D 1 v l.length (strs l)) {E : Env} (hw : E.w = w) (hD : ∀ b, D b → E.D b) : VR E (namesA l) v :=
  sees_sl h hw hD fun i j hi hj => by
    obtain rfl : j = 0 := by omega
    have e : (strs l).getD (i * 1 + 0) undef = .string (l.getD i ByteArray.empty) := by simp [strs, List.getD_eq_getElem?_getD, hi]
    rw [e]
    exact .lit _ _
theorem acts_sl {w : World} {D : Nat → Prop} {l : List Ac} {v : Value} {cs : List Value} (h : SeesD w D 3 v l.length cs) (ha : Acts w D l cs) {E : Env} (hw : E.w = w) (hD : ∀ b, D b → E.D b) : VR E (actsA l) v :=
  sees_sl h hw hD fun i j hi hj => by
    obtain ⟨vm, hm, hat⟩ := ha.at_ hi
    have e : l.getD i Ac.none = l[i] := by rw [List.getD_eq_getElem?_getD, List.getElem?_eq_getElem hi]; rfl
    have g : ∀ u, [Value.string l[i].name, .int .i64 l[i].len, vm][j]? = some u → cs.getD (i * 3 + j) undef = u := fun u hu => by
      rw [List.getD_eq_getElem?_getD, hat j u hu]; rfl
    rw [e]
    match j, hj with
    | 0, _ => rw [g _ rfl]; exact .lit _ _
    | 1, _ => rw [g _ rfl]; exact .lit _ _
    | 2, _ => rw [g _ rfl]; exact mvs_sl (E := E.fz) hm hw hD
theorem prog_sl {w : World} {hi : Nat} {vn vh va : Value} {p : Pr} (h : ProgAt w hi vn vh va p) {E : Env} (hw : E.w = w) (hD : ∀ b, b < hi → E.D b) : VR E (progA p) (.agg #[vn, vh, va]) := by
  obtain ⟨cs, k1, k2⟩ := h.acts
  have hD2 : ∀ b, rg 0 hi b → E.D b := fun b hb => hD b hb.2
  refine .agg _ _ _ rfl fun i hi => ?_
  have h3 : i < 3 := hi
  match i, h3 with
  | 0, _ => exact names_sl h.names hw hD2
  | 1, _ => exact vecs_sl h.homes hw hD2
  | 2, _ => exact acts_sl k1 k2 hw hD2
theorem desc_sl {w : World} {A : Option Addr} {c : Nat} {d : De} (h : Sees w 0 w.heap.size 3 (.slice A d.sides.length c) d.sides.length (vecs d.sides)) (hc : d.sides.length ≤ c) {E : Env} (hw : E.w = w) (hD : ∀ b, b < w.heap.size → E.D b) : VR E (descA d) (.agg #[.slice A d.sides.length c, .int .i64 d.across, .int .i64 d.down, .int .i64 d.ground]) := by
  refine .agg _ _ _ rfl fun i hi => ?_
  have h3 : i < 4 := hi
  match i, h3 with
  | 0, _ => exact .slc _ _ _ _ _ _ hc (vecs_sl h hw fun b hb => hD b hb.2)
  | 1, _ => exact .lit _ _
  | 2, _ => exact .lit _ _
  | 3, _ => exact .lit _ _
theorem AF.call {P : Program} {f : FuncId} {args : List AV} {v : Value} (h : AF P f args (.lit v)) (W : World) (vs : Array Value) (hn : vs.size = args.length) (hv : ∀ E : Env, E.w = W → (∀ b, b < W.heap.size → E.D b) → ∀ i, i < args.length → VR E (args.getD i .top) (vs.getD i undef)) : Calls P f vs W fun e w' => e = .returned v ∧ Below W.heap.size W w' := by
  refine (h { π := fun _ => 0, cap := fun _ => 0, A := fun _ => False, D := fun b => b < W.heap.size, w := W } vs (fun b hb => hb) hn fun i hi => hv _ rfl (fun b hb => hb) i hi).mono ?_
  rintro e w' ⟨u, D', rfl, hr, hb, _⟩
  exact ⟨by rw [hr.lit_inv], hb⟩
end Go.Proofs.YtkcnbaeoahoglaaGreat
namespace Go.Proofs.YtkcnbaeoahoglaaGreat.EV
open Go.ChangeShapes Go.WideShapes Go.ChangeAt Go.RowKit Go.Deep
theorem own : ownKnob Tryz.prog.godebug = none := by kernel_rfl
theorem laidOut : laidOutB Tryz.prog = true := by kernel_rfl
set_option maxRecDepth 100000 in
theorem lifted (os : Os) (started : os.Started) (H : Type) (enc : TypeId × Value → H) :
    ReturnsInHanded {} Tryz.checked os 3 .any (fun w args => Rows.escapeValidSpec.pre enc Tryz.prog Tryz.f3 [] false w args ∧ sizedMet enc Tryz.prog Tryz.f3 (OpenSpec.ofChange Rows.escapeValidSpec) false w args)
      (Rows.escapeValidSpec.post enc Tryz.prog Tryz.f3 false true false false) := by
  refine returnsInHanded_of_change (C := Tryz.checked) own started (by kernel_rfl) Tryz.func3
    (by
      obtain ⟨w, tape, i, h1, h2, h3, h4, ⟨⟨hp, _⟩, hs⟩, h5⟩ := ChangeSpec.witness_shaped (enc := enc) (C := Tryz.checked) (os := os) (f := 3) (fn := Tryz.f3) (s := Rows.escapeValidSpec) (conds := []) (apart := false) (X := fun _ _ => True) false (World.doorLaid Tryz.prog 400 os) #[.agg #[.slice none 0 0, .slice none 0 0, .slice none 0 0], .agg #[.slice none 0 0, .int .i64 0, .int .i64 0, .int .i64 0]] 8 rfl (World.shaped_of_RefB (by kernel_rfl) (by kernel_rfl)) (by kernel_rfl) (by kernel_rfl) (by kernel_rfl) trivial
      exact ⟨w, tape, i, h1, h2, h3, h4, ⟨hp, hs⟩, h5⟩) ?_
  intro W base args ds gs before hval0 hW _ _
  have hval : ∀ (j : Nat) t v, Tryz.f3.params[j]? = some t → args[j]? = some v → Value.okWide Tryz.prog W .any base t v := hval0
  have hW' := hW
  obtain ⟨p, q, hA0, hV, rfl, hfz, hnd⟩ := hW
  have hA : DataW.TrodAll enc Tryz.prog W 0 (fun _ => true) true Tryz.f3.params.toList args.toList ds p := hA0
  rw [Tryz.params3] at hA hval
  obtain ⟨v0, vs0, d0, ds0, p0, q0, hargs, rfl, rfl, h0, r0⟩ := trodAll_cons hA
  obtain ⟨v1, vs1, d1, ds1, p1, q1, rfl, rfl, rfl, h1, r1⟩ := trodAll_cons r0
  obtain ⟨rfl, rfl, rfl⟩ := trodAll_nil r1
  obtain rfl : args = #[v0, v1] := by cases args; simp_all
  obtain ⟨rfl, rfl⟩ := trodVars_none hV
  have k0 := h0
  have k1 := h1
  have lt0 : ∀ x ∈ p0, x.block < W.heap.size := by obtain ⟨m, hm⟩ := k0; exact DataW.trod_lt m _ _ _ hm
  have lt1 : ∀ x ∈ p1, x.block < W.heap.size := by obtain ⟨m, hm⟩ := k1; exact DataW.trod_lt m _ _ _ hm
  obtain ⟨vn, vh, va, pr, rfl, hp, hsn, hsa⟩ := Open.open_prog2 (hval 0 26 v0 rfl rfl) h0
  obtain ⟨A, c, de, rfl, hs, hcap, f1, f2, f3⟩ := Open.open_desc (hval 1 28 v1 rfl rfl) h1
  clear hA0 hval0
  refine ((AF_escapevalid pr de (fun a ha => (hsa a ha).2) f1 f2 f3).call W #[.agg #[vn, vh, va], .agg #[.slice A de.sides.length c, .int .i64 de.across, .int .i64 de.down, .int .i64 de.ground]] rfl (fun E hw hD i hi => ?_)).mono fun e W' ⟨he, bel⟩ => ?_
  · have h2 : i < 2 := hi
    match i, h2 with
    | 0, _ => exact prog_sl hp hw hD
    | 1, _ => exact desc_sl hs hcap hw hD
  · subst he
    exact ⟨_, rfl, _, _, _, [], _, [], hW', trodAll_mk1 (shut_bool Tryz.underlying4 _), (trodAll_cons_mk (Below.trod laidOut (by kernel_rfl) (of_decide_eq_true (by kernel_rfl)) k0 bel lt0) (trodAll_cons_mk (Below.trod laidOut (by kernel_rfl) (of_decide_eq_true (by kernel_rfl)) k1 bel lt1) trodAll_mk0)), rfl, bel.frame _, fun h => by cases h⟩
theorem row_holds : Rows.EscapeValidSaid :=
  OpenClaim.holds_of_wide 3 Tryz.f3 rfl rfl rfl rfl rfl rfl rfl ⟨rfl, rfl, rfl, rfl, rfl⟩ rfl rfl rfl rfl rfl (by kernel_rfl) Tryz.func3 (by kernel_rfl)
    (of_decide_eq_true (by kernel_rfl)) (by unfold Func.isWrapper; first | (rw [if_pos (by decide +kernel)]; kernel_rfl) | (rw [if_neg (by decide +kernel)]; exact ⟨rfl, rfl⟩))
    (fun os started H enc _ => lifted os started H enc)
end Go.Proofs.YtkcnbaeoahoglaaGreat.EV
