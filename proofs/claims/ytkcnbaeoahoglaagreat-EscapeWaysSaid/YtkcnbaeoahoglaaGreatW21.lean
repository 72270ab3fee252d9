/- Part 21 of the proof of EW.row_holds, joined by program: no condition beyond the row's own. -/
import Derived.Test.YtkcnbaeoahoglaaGreatW20
set_option maxRecDepth 100000
set_option maxHeartbeats 40000000
namespace Go.Proofs.YtkcnbaeoahoglaaGreat
open Go.RowKit
theorem terms_in {a b : Int} (ha : -1048576 ≤ a ∧ a ≤ 1048576) (hb : -1048576 ≤ b ∧ b ≤ 1048576) {k : Int} (i : Nat) : In64 ((termsL a b (kindRow k)).getD i 0) := by
 have key : ∀ x, x ∈ termsL a b (kindRow k) → In64 x := fun x hx => by
  unfold termsL at hx
  rcases List.mem_cons.1 hx with rfl | hx
  · exact ⟨by omega, by omega⟩
  ·
   split at hx
   · cases hx
   ·
    obtain ⟨y, hy, rfl⟩ := List.mem_map.1 hx
    have hy2 : -100 ≤ y ∧ y ≤ 100 := by
     unfold kindRow at hy
     split at hy
     · cases hy
     ·
      split at hy
      ·
       have : y = 1 := by simpa using hy
       omega
      · simp at hy; omega
    have := mul_small y (b - a) hy2 (by omega)
    exact ⟨by omega, by omega⟩
 rw [List.getD_eq_getElem?_getD]
 cases h : (termsL a b (kindRow k))[i]? with
 | none => exact in64_0
 | some x => exact key x (List.mem_of_getElem? h)
theorem flyR_in (a b : V3) (f t k : Int) : PathIn (flyR a b f t k).1 := by
 unfold flyR
 split
 ·
  rename_i h
  have h2 : glValidB a.x a.y a.z b.x b.y b.z f t = true := h
  unfold glValidB at h2
  simp only [Bool.and_eq_true, decide_eq_true_eq] at h2
  obtain ⟨⟨⟨⟨p1, p2⟩, p3⟩, p4⟩, p5⟩ := h2
  have q1 := (ptB_iff _ _ _).1 p1
  have q2 := (ptB_iff _ _ _).1 p2
  refine ⟨by simp, fun i => ?_⟩
  cases i with
  | zero => exact ⟨⟨by show (_ : Int) ≤ f; omega, by show f ≤ _; omega⟩, ⟨by show (_ : Int) ≤ t; omega, by show t ≤ _; omega⟩, in64_1, fun i => terms_in q1.1 q2.1 i, fun i => terms_in q1.2.1 q2.2.1 i, fun i => terms_in q1.2.2 q2.2.2 i⟩
  | succ i => exact PathIn.nil.2 i
 · exact PathIn.nil
noncomputable def stepL (s : Option (List Sg) × Int) (g : List Sg × Int) : Option (List Sg) × Int :=
  if s.2 = 0 then (if g.2 = 0 then (match s.1 with | none => (some g.1, 0) | some q => if (appR q g.1).2 = 0 then (some (appR q g.1).1, 0) else (none, (appR q g.1).2)) else (s.1, g.2)) else s
def offV (a s : V3) : V3 := ⟨a.x + s.x, a.y + s.y, a.z⟩
def lowV (a s : V3) (g : Int) : V3 := ⟨a.x + s.x, a.y + s.y, g⟩
noncomputable def wayT (st : Option (List Sg) × Int) (off low : V3) (t dn u : Int) : Option (List Sg) × Int :=
  if t + dn < u then stepL (stepL st (flyR off low t (t + dn) 2)) (flyR low low (t + dn) u 0) else stepL st (flyR off low t (t + dn) 2)
noncomputable def wayR (a s : V3) (g ac dn t u : Int) : Option (List Sg) × Int :=
  if a.x + s.x = a.x ∧ a.y + s.y = a.y ∧ a.z = a.z then wayT (none, 0) (offV a s) (lowV a s g) t dn u else wayT (stepL (none, 0) (flyR a (offV a s) t (t + ac) 2)) (offV a s) (lowV a s g) (t + ac) dn u
noncomputable def resW (s : Option (List Sg) × Int) : AV := if s.2 = 0 then .tup [pathA (s.1.getD []), .int 0] else .lit (.tuple #[.slice none 0 0, .int .i64 s.2])
abbrev sideV (d : De) (side : Int) : V3 := d.sides.getD side.toNat V3.zero
def WayPos (p : Pr) (d : De) (c : Cs) (side : Int) : Prop := horT p d ≤ 3600000 ∧ 0 ≤ side ∧ side < (d.sides.length : Int) ∧ insideB 1048576 [(offV (casePt p c) (sideV d side)).x, (offV (casePt p c) (sideV d side)).y, (offV (casePt p c) (sideV d side)).z] = true ∧ insideB 1048576 [(lowV (casePt p c) (sideV d side) d.ground).x, (lowV (casePt p c) (sideV d side) d.ground).y, (lowV (casePt p c) (sideV d side) d.ground).z] = true
abbrev oV (p : Pr) (d : De) (c : Cs) (side : Int) : V3 := offV (casePt p c) (sideV d side)
abbrev lV (p : Pr) (d : De) (c : Cs) (side : Int) : V3 := lowV (casePt p c) (sideV d side) d.ground
abbrev gA (p : Pr) (d : De) (c : Cs) (side : Int) : List Sg × Int := flyR (casePt p c) (oV p d c side) (caseEnd p c) (caseEnd p c + d.across) 2
abbrev gD (p : Pr) (d : De) (c : Cs) (side t : Int) : List Sg × Int := flyR (oV p d c side) (lV p d c side) t (t + d.down) 2
abbrev gH (p : Pr) (d : De) (c : Cs) (side t : Int) : List Sg × Int := flyR (lV p d c side) (lV p d c side) t (horT p d) 0
theorem AF_way_arg (p : Pr) (d : De) (c : Cs) (side : Int) (hp : PrIn p) (hd : DeIn d) (hcs : CsIn c) (hsd : In64 side) (h : ¬ (CaseOk p c ∧ DescOk d)) : AF Tryz.prog 14 [progA p, descA d, caseA c, .int side] (.lit (.tuple #[.slice none 0 0, .int .i64 2])) := by
 by_cases hc : CaseOk p c
 ·
  refine AF_of ⟨[(0, progA (p)), (1, descA (d)), (2, caseA (c)), (3, .int (side))], [], 0, 158⟩ Tryz.func14 rfl 158 Tryz.ntmps14 (by kernel_rfl) (by kernel_rfl) fun B D0 hA0 => ?_
  refine qreg 5 [3, 4, 5, 6] ?_
  refine AC_seq ?_
  refine AC_seq_list ?_
  refine qrun 2 ?_
  refine qcl (AF_validcase p c hp hcs) ?_
  refine qb (!bP (CaseOk p c)) ?_
  refine qrun 1 ?_
  refine qLknown 25 (!bP (CaseOk p c)) false (by rw [(bP_true hc)]; rfl) ?_
  refine qrun 1 ?_
  refine qclg (AF_escvalid d hd) ?_
  refine qbg (!bP (DescOk d)) ?_
  refine qrun 1 ?_
  refine qend [3, 4, 5, 6, 29] ?_
  refine qT (b := (!bP (DescOk d))) (by rw [(bP_false (fun g => h ⟨hc, g⟩))]; rfl) ?_
  refine qreg 2 [8, 9] ?_
  refine AC_ret ?_
  exact ⟨.inl rfl, (resOk2 Tryz.results14 (resV_tmp (x := .lit (.slice none 0 0)) (by kernel_rfl) (by kernel_rfl)) (resV_tmp (x := .int (2)) (by kernel_rfl) (by kernel_rfl))).cast (by kernel_rfl)⟩
 ·
  refine AF_of ⟨[(0, progA (p)), (1, descA (d)), (2, caseA (c)), (3, .int (side))], [], 0, 158⟩ Tryz.func14 rfl 158 Tryz.ntmps14 (by kernel_rfl) (by kernel_rfl) fun B D0 hA0 => ?_
  refine qreg 5 [3, 4, 5, 6] ?_
  refine AC_seq ?_
  refine AC_seq_list ?_
  refine qrun 2 ?_
  refine qcl (AF_validcase p c hp hcs) ?_
  refine qb (!bP (CaseOk p c)) ?_
  refine qrun 1 ?_
  refine qLknown 25 (!bP (CaseOk p c)) true (by rw [(bP_false hc)]; rfl) ?_
  refine qrun 4 ?_
  refine qend [3, 4, 5, 6, 29] ?_
  refine qCtrue ?_
  refine qreg 2 [8, 9] ?_
  refine AC_ret ?_
  exact ⟨.inl rfl, (resOk2 Tryz.results14 (resV_tmp (x := .lit (.slice none 0 0)) (by kernel_rfl) (by kernel_rfl)) (resV_tmp (x := .int (2)) (by kernel_rfl) (by kernel_rfl))).cast (by kernel_rfl)⟩
theorem AF_way_none (p : Pr) (d : De) (c : Cs) (side : Int) (hp : PrIn p) (hd : DeIn d) (hcs : CsIn c) (hsd : In64 side) (hc : CaseOk p c) (ho : DescOk d) (h : ¬ WayPos p d c side) : AF Tryz.prog 14 [progA p, descA d, caseA c, .int side] (.lit (.tuple #[.slice none 0 0, .int .i64 9])) := by
  have hv := valid_ok hc.1
  have hc1 := hc.2.1
  have hc2 := hc.2.2.1
  have hc3 := hc.2.2.2.1
  have hc4 := hc.2.2.2.2
  have hto := in3 (hv.to (j := c.act.toNat) (i := c.craft.toNat) (by omega) (by omega))
  have hat : (-1048576 ≤ (casePt p c).x ∧ (casePt p c).x ≤ 1048576) ∧ (-1048576 ≤ (casePt p c).y ∧ (casePt p c).y ≤ 1048576) ∧ (-1048576 ≤ (casePt p c).z ∧ (casePt p c).z ≤ 1048576) := hto
  have hce : 0 ≤ caseEnd p c ∧ caseEnd p c ≤ 3600000 := hv.ends (c.act.toNat + 1) (by omega)
  have hd1 := ho.1
  refine AF_of ⟨[(0, progA (p)), (1, descA (d)), (2, caseA (c)), (3, .int (side))], [], 0, 158⟩ Tryz.func14 rfl 158 Tryz.ntmps14 (by kernel_rfl) (by kernel_rfl) fun B D0 hA0 => ?_
  refine qreg 5 [3, 4, 5, 6] ?_
  refine AC_seq ?_
  refine AC_seq_list ?_
  refine qrun 2 ?_
  refine qcl (AF_validcase p c hp hcs) ?_
  refine qb (!bP (CaseOk p c)) ?_
  refine qrun 1 ?_
  refine qLknown 25 (!bP (CaseOk p c)) false (by rw [(bP_true hc)]; rfl) ?_
  refine qrun 1 ?_
  refine qclg (AF_escvalid d hd) ?_
  refine qbg (!bP (DescOk d)) ?_
  refine qrun 1 ?_
  refine qend [3, 4, 5, 6, 29] ?_
  refine qF (b := (!bP (DescOk d))) (by rw [(bP_true ho)]; rfl) ?_
  refine AC_skip ?_
  refine AC_seq_list ?_
  refine qrun 2 ?_
  refine bool_split (decide (horT p d ≤ 3600000)) (fun hx1 => ?_) (fun hx1 => ?_)
  ·
   have hx1d := of_decide_eq_true hx1
   refine qcl (AF_horizon_ok p d hp hd ⟨hc.1, ho⟩ (by omega) (of_decide_eq_true hx1)) ?_
   refine qrun 1 ?_
   refine qi (horT p d) ?_
   refine qi (0) ?_
   refine qrun 2 ?_
   refine qend [3, 4, 5, 6, 10, 11] ?_
   refine AC_seq ?_
   refine AC_seq_list ?_
   refine qrun 1 ?_
   refine qb false ?_
   refine qrun 2 ?_
   refine qbg (decide (side < 0)) ?_
   refine qrun 2 ?_
   refine bool_split (decide (side < 0)) (fun hx2 => ?_) (fun hx2 => ?_)
   ·
    have hx2d := of_decide_eq_true hx2
    refine qLknown 42 _ true hx2 ?_
    refine qrun 6 ?_
    refine qend [3, 4, 5, 6, 10, 48] ?_
    refine qCtrue ?_
    refine qreg 2 [8, 9] ?_
    refine AC_ret ?_
    exact ⟨.inl rfl, (resOk2 Tryz.results14 (resV_tmp (x := .lit (.slice none 0 0)) (by kernel_rfl) (by kernel_rfl)) (resV_tmp (x := .int (9)) (by kernel_rfl) (by kernel_rfl))).cast (by kernel_rfl)⟩
   ·
    have hx2d := of_decide_eq_false hx2
    refine qLknown 42 _ false hx2 ?_
    refine qrun 3 ?_
    refine qopg (.int (((d.sides.length : Nat) : Int))) .none (qlen_slc (.tmp 45) 23 #[23] Tryz.underlying23 3 (d.sides.length) (fun i0 => vecA ((d.sides.getD i0 V3.zero)))) ?_
    refine qbg (decide (((d.sides.length : Nat) : Int) ≤ side)) ?_
    refine qrun 1 ?_
    refine qend [3, 4, 5, 6, 10, 48] ?_
    refine bool_split (decide (((d.sides.length : Nat) : Int) ≤ side)) (fun hx3 => ?_) (fun hx3 => ?_)
    ·
     have hx3d := of_decide_eq_true hx3
     refine qT hx3 ?_
     refine qreg 2 [8, 9] ?_
     refine AC_ret ?_
     exact ⟨.inl rfl, (resOk2 Tryz.results14 (resV_tmp (x := .lit (.slice none 0 0)) (by kernel_rfl) (by kernel_rfl)) (resV_tmp (x := .int (9)) (by kernel_rfl) (by kernel_rfl))).cast (by kernel_rfl)⟩
    ·
     have hx3d := of_decide_eq_false hx3
     refine qF hx3 ?_
     refine AC_skip ?_
     refine AC_seq_list ?_
     refine qrun 2 ?_
     refine qcl (AF_caseend p c hp hcs hc) ?_
     refine qrun 1 ?_
     refine qi (caseEnd p c) ?_
     refine qi (0) ?_
     refine qrun 2 ?_
     refine qend [3, 4, 5, 6, 10, 12] ?_
     refine AC_seq_list ?_
     refine qrun 2 ?_
     refine qcl (AF_casept p c hp hcs hc) ?_
     refine qrun 1 ?_
     refine qopn (.lit (.agg #[.int .i64 ((casePt p c).x), .int .i64 ((casePt p c).y), .int .i64 ((casePt p c).z)])) (qlit (v := .agg #[.int .i64 ((casePt p c).x), .int .i64 ((casePt p c).y), .int .i64 ((casePt p c).z)]) (v' := .agg #[.int .i64 ((casePt p c).x), .int .i64 ((casePt p c).y), .int .i64 ((casePt p c).z)]) (rfl) _) ?_
     refine qi (0) ?_
     refine qrun 3 ?_
     refine qend [3, 5, 10, 12, 14] ?_
     have hsv := in3 (ho.2 side.toNat (by omega)).1
     have hsz := (ho.2 side.toNat (by omega)).2.1
     refine qsdraw [(5, .elt 3 (fun q => AV.cell (vecA ((d.sides.getD ((side).toNat) V3.zero))) q), .none), (8, .int ((casePt p c).x + (d.sides.getD ((side).toNat) V3.zero).x), .none), (14, .elt 3 (fun q => AV.cell (vecA ((d.sides.getD ((side).toNat) V3.zero))) q), .none), (17, .int ((casePt p c).y + (d.sides.getD ((side).toNat) V3.zero).y), .none), (20, .lit (.agg #[.int .i64 ((casePt p c).x + (d.sides.getD ((side).toNat) V3.zero).x), .int .i64 ((casePt p c).y + (d.sides.getD ((side).toNat) V3.zero).y), .int .i64 ((casePt p c).z)]), .none)] [5, 10, 12, 14, 16] 5 ⟨?_, ?_, ?_, ?_, ?_, trivial⟩ ?_
     · exact qcast (OpS.wk (qindex_sl 23 (.tmp 64) (.tmp 65) Tryz.underlying23 3 (d.sides.length) ((side).toNat) (fun i0 => vecA ((d.sides.getD i0 V3.zero))) (side) Tryz.sizeOf55))
     · exact qwD ((casePt p c).x + (d.sides.getD ((side).toNat) V3.zero).x)
     · exact qcast (OpS.wk (qindex_sl 23 (.tmp 73) (.tmp 74) Tryz.underlying23 3 (d.sides.length) ((side).toNat) (fun i0 => vecA ((d.sides.getD i0 V3.zero))) (side) Tryz.sizeOf55))
     · exact qwD ((casePt p c).y + (d.sides.getD ((side).toNat) V3.zero).y)
     · exact qcast (qbuild_struct 55 #[(0, (.tmp 69)), (1, (.tmp 78)), (2, (.tmp 80))] _ Tryz.zeroValue55 Tryz.underlying55 #[(0, 1), (1, 1), (2, 1)] [.int ((casePt p c).x + (d.sides.getD ((side).toNat) V3.zero).x), .int ((casePt p c).y + (d.sides.getD ((side).toNat) V3.zero).y), .int ((casePt p c).z)])
     refine AC_seq_list ?_
     refine qrun 6 ?_
     refine qopn (.lit (.agg #[.int .i64 ((casePt p c).x + (d.sides.getD ((side).toNat) V3.zero).x), .int .i64 ((casePt p c).y + (d.sides.getD ((side).toNat) V3.zero).y), .int .i64 (d.ground)])) (qbuild_struct 55 #[(0, (.tmp 83)), (1, (.tmp 85)), (2, (.tmp 87))] _ Tryz.zeroValue55 Tryz.underlying55 #[(0, 1), (1, 1), (2, 1)] [.int ((casePt p c).x + (d.sides.getD ((side).toNat) V3.zero).x), .int ((casePt p c).y + (d.sides.getD ((side).toNat) V3.zero).y), .int (d.ground)]) ?_
     refine qrun 2 ?_
     refine qend [5, 10, 12, 14, 16, 17] ?_
     refine AC_seq ?_
     refine AC_seq_list ?_
     refine qrun 1 ?_
     refine qcl (AF_point (oV p d c side)) ?_
     refine qb (!insideB 1048576 [(oV p d c side).x, (oV p d c side).y, (oV p d c side).z]) ?_
     refine qrun 1 ?_
     refine bool_split (insideB 1048576 [(oV p d c side).x, (oV p d c side).y, (oV p d c side).z]) (fun hx4 => ?_) (fun hx4 => ?_)
     ·
      refine qLknown 92 _ false (nt hx4) ?_
      refine qrun 1 ?_
      refine qclg (AF_point (lV p d c side)) ?_
      refine qbg (!insideB 1048576 [(lV p d c side).x, (lV p d c side).y, (lV p d c side).z]) ?_
      refine qrun 1 ?_
      refine qend [5, 10, 12, 14, 16, 17, 96] ?_
      refine bool_split (insideB 1048576 [(lV p d c side).x, (lV p d c side).y, (lV p d c side).z]) (fun hx5 => ?_) (fun hx5 => ?_)
      ·
       refine qF (nt hx5) ?_
       refine AC_skip ?_
       exact absurd ⟨of_decide_eq_true hx1, by omega, by omega, hx4, hx5⟩ h
      ·
       refine qT (nf hx5) ?_
       refine qreg 2 [8, 9] ?_
       refine AC_ret ?_
       exact ⟨.inl rfl, (resOk2 Tryz.results14 (resV_tmp (x := .lit (.slice none 0 0)) (by kernel_rfl) (by kernel_rfl)) (resV_tmp (x := .int (9)) (by kernel_rfl) (by kernel_rfl))).cast (by kernel_rfl)⟩
     ·
      refine qLknown 92 _ true (nf hx4) ?_
      refine qrun 4 ?_
      refine qend [5, 10, 12, 14, 16, 17, 96] ?_
      refine qCtrue ?_
      refine qreg 2 [8, 9] ?_
      refine AC_ret ?_
      exact ⟨.inl rfl, (resOk2 Tryz.results14 (resV_tmp (x := .lit (.slice none 0 0)) (by kernel_rfl) (by kernel_rfl)) (resV_tmp (x := .int (9)) (by kernel_rfl) (by kernel_rfl))).cast (by kernel_rfl)⟩
  ·
   have hx1d := of_decide_eq_false hx1
   refine qcl (AF_horizon_range p d hp hd ⟨hc.1, ho⟩ (by omega) (by have := of_decide_eq_false hx1; omega)) ?_
   refine qrun 1 ?_
   refine qi (0) ?_
   refine qi (3) ?_
   refine qrun 2 ?_
   refine qend [3, 4, 5, 6, 10, 11] ?_
   refine AC_seq ?_
   refine AC_seq_list ?_
   refine qrun 1 ?_
   refine qb true ?_
   refine qrun 11 ?_
   refine qend [3, 4, 5, 6, 10, 48] ?_
   refine qCtrue ?_
   refine qreg 2 [8, 9] ?_
   refine AC_ret ?_
   exact ⟨.inl rfl, (resOk2 Tryz.results14 (resV_tmp (x := .lit (.slice none 0 0)) (by kernel_rfl) (by kernel_rfl)) (resV_tmp (x := .int (9)) (by kernel_rfl) (by kernel_rfl))).cast (by kernel_rfl)⟩
theorem AF_way_ok (p : Pr) (d : De) (c : Cs) (side : Int) (hp : PrIn p) (hd : DeIn d) (hcs : CsIn c) (hsd : In64 side) (hc : CaseOk p c) (ho : DescOk d) (h : WayPos p d c side) : AF Tryz.prog 14 [progA p, descA d, caseA c, .int side] (resW (wayR (casePt p c) (sideV d side) d.ground d.across d.down (caseEnd p c) (horT p d))) := by
  have hv := valid_ok hc.1
  have hc1 := hc.2.1
  have hc2 := hc.2.2.1
  have hc3 := hc.2.2.2.1
  have hc4 := hc.2.2.2.2
  have hto := in3 (hv.to (j := c.act.toNat) (i := c.craft.toNat) (by omega) (by omega))
  have hat : (-1048576 ≤ (casePt p c).x ∧ (casePt p c).x ≤ 1048576) ∧ (-1048576 ≤ (casePt p c).y ∧ (casePt p c).y ≤ 1048576) ∧ (-1048576 ≤ (casePt p c).z ∧ (casePt p c).z ≤ 1048576) := hto
  have hce : 0 ≤ caseEnd p c ∧ caseEnd p c ≤ 3600000 := hv.ends (c.act.toNat + 1) (by omega)
  have hd1 := ho.1
  have hs1 := h.2.1
  have hs2 := h.2.2.1
  have hht := h.1
  refine AF_of ⟨[(0, progA (p)), (1, descA (d)), (2, caseA (c)), (3, .int (side))], [], 0, 158⟩ Tryz.func14 rfl 158 Tryz.ntmps14 (by kernel_rfl) (by kernel_rfl) fun B D0 hA0 => ?_
  refine qreg 5 [3, 4, 5, 6] ?_
  refine AC_seq ?_
  refine AC_seq_list ?_
  refine qrun 2 ?_
  refine qcl (AF_validcase p c hp hcs) ?_
  refine qb (!bP (CaseOk p c)) ?_
  refine qrun 1 ?_
  refine qLknown 25 (!bP (CaseOk p c)) false (by rw [(bP_true hc)]; rfl) ?_
  refine qrun 1 ?_
  refine qclg (AF_escvalid d hd) ?_
  refine qbg (!bP (DescOk d)) ?_
  refine qrun 1 ?_
  refine qend [3, 4, 5, 6, 29] ?_
  refine qF (b := (!bP (DescOk d))) (by rw [(bP_true ho)]; rfl) ?_
  refine AC_skip ?_
  refine AC_seq_list ?_
  refine qrun 2 ?_
  refine qcl (AF_horizon_ok p d hp hd ⟨hc.1, ho⟩ (by omega) (of_decide_eq_true (decide_eq_true h.1))) ?_
  refine qrun 1 ?_
  refine qi (horT p d) ?_
  refine qi (0) ?_
  refine qrun 2 ?_
  refine qend [3, 4, 5, 6, 10, 11] ?_
  refine AC_seq ?_
  refine AC_seq_list ?_
  refine qrun 1 ?_
  refine qb false ?_
  refine qrun 2 ?_
  refine qopg (.bool false) .none (qlit (v := .bool (decide (side < 0))) (v' := .bool false) (congrArg Value.bool (decide_eq_false (by omega))) _) ?_
  refine qrun 5 ?_
  refine qopg (.int (((d.sides.length : Nat) : Int))) .none (qlen_slc (.tmp 45) 23 #[23] Tryz.underlying23 3 (d.sides.length) (fun i0 => vecA ((d.sides.getD i0 V3.zero)))) ?_
  refine qopg (.bool false) .none (qlit (v := .bool (decide (((d.sides.length : Nat) : Int) ≤ side))) (v' := .bool false) (congrArg Value.bool (decide_eq_false (by omega))) _) ?_
  refine qrun 1 ?_
  refine qend [3, 4, 5, 6, 10, 48] ?_
  refine qCfalse ?_
  refine AC_skip ?_
  refine AC_seq_list ?_
  refine qrun 2 ?_
  refine qcl (AF_caseend p c hp hcs hc) ?_
  refine qrun 1 ?_
  refine qi (caseEnd p c) ?_
  refine qi (0) ?_
  refine qrun 2 ?_
  refine qend [3, 4, 5, 6, 10, 12] ?_
  refine AC_seq_list ?_
  refine qrun 2 ?_
  refine qcl (AF_casept p c hp hcs hc) ?_
  refine qrun 1 ?_
  refine qopn (.lit (.agg #[.int .i64 ((casePt p c).x), .int .i64 ((casePt p c).y), .int .i64 ((casePt p c).z)])) (qlit (v := .agg #[.int .i64 ((casePt p c).x), .int .i64 ((casePt p c).y), .int .i64 ((casePt p c).z)]) (v' := .agg #[.int .i64 ((casePt p c).x), .int .i64 ((casePt p c).y), .int .i64 ((casePt p c).z)]) (rfl) _) ?_
  refine qi (0) ?_
  refine qrun 3 ?_
  refine qend [3, 5, 10, 12, 14] ?_
  have hsv := in3 (ho.2 side.toNat (by omega)).1
  have hsz := (ho.2 side.toNat (by omega)).2.1
  refine qsdraw [(5, .elt 3 (fun q => AV.cell (vecA ((d.sides.getD ((side).toNat) V3.zero))) q), .none), (8, .int ((casePt p c).x + (d.sides.getD ((side).toNat) V3.zero).x), .none), (14, .elt 3 (fun q => AV.cell (vecA ((d.sides.getD ((side).toNat) V3.zero))) q), .none), (17, .int ((casePt p c).y + (d.sides.getD ((side).toNat) V3.zero).y), .none), (20, .lit (.agg #[.int .i64 ((casePt p c).x + (d.sides.getD ((side).toNat) V3.zero).x), .int .i64 ((casePt p c).y + (d.sides.getD ((side).toNat) V3.zero).y), .int .i64 ((casePt p c).z)]), .none)] [5, 10, 12, 14, 16] 5 ⟨?_, ?_, ?_, ?_, ?_, trivial⟩ ?_
  · exact qcast (OpS.wk (qindex_sl 23 (.tmp 64) (.tmp 65) Tryz.underlying23 3 (d.sides.length) ((side).toNat) (fun i0 => vecA ((d.sides.getD i0 V3.zero))) (side) Tryz.sizeOf55))
  · exact qwD ((casePt p c).x + (d.sides.getD ((side).toNat) V3.zero).x)
  · exact qcast (OpS.wk (qindex_sl 23 (.tmp 73) (.tmp 74) Tryz.underlying23 3 (d.sides.length) ((side).toNat) (fun i0 => vecA ((d.sides.getD i0 V3.zero))) (side) Tryz.sizeOf55))
  · exact qwD ((casePt p c).y + (d.sides.getD ((side).toNat) V3.zero).y)
  · exact qcast (qbuild_struct 55 #[(0, (.tmp 69)), (1, (.tmp 78)), (2, (.tmp 80))] _ Tryz.zeroValue55 Tryz.underlying55 #[(0, 1), (1, 1), (2, 1)] [.int ((casePt p c).x + (d.sides.getD ((side).toNat) V3.zero).x), .int ((casePt p c).y + (d.sides.getD ((side).toNat) V3.zero).y), .int ((casePt p c).z)])
  refine AC_seq_list ?_
  refine qrun 6 ?_
  refine qopn (.lit (.agg #[.int .i64 ((casePt p c).x + (d.sides.getD ((side).toNat) V3.zero).x), .int .i64 ((casePt p c).y + (d.sides.getD ((side).toNat) V3.zero).y), .int .i64 (d.ground)])) (qbuild_struct 55 #[(0, (.tmp 83)), (1, (.tmp 85)), (2, (.tmp 87))] _ Tryz.zeroValue55 Tryz.underlying55 #[(0, 1), (1, 1), (2, 1)] [.int ((casePt p c).x + (d.sides.getD ((side).toNat) V3.zero).x), .int ((casePt p c).y + (d.sides.getD ((side).toNat) V3.zero).y), .int (d.ground)]) ?_
  refine qrun 2 ?_
  refine qend [5, 10, 12, 14, 16, 17] ?_
  refine AC_seq ?_
  refine AC_seq_list ?_
  refine qrun 1 ?_
  refine qcl (AF_point (oV p d c side)) ?_
  refine qb (!insideB 1048576 [(oV p d c side).x, (oV p d c side).y, (oV p d c side).z]) ?_
  refine qrun 1 ?_
  refine qLknown 92 (!insideB 1048576 [(oV p d c side).x, (oV p d c side).y, (oV p d c side).z]) false (by rw [h.2.2.2.1]; rfl) ?_
  refine qrun 1 ?_
  refine qclg (AF_point (lV p d c side)) ?_
  refine qbg (!insideB 1048576 [(lV p d c side).x, (lV p d c side).y, (lV p d c side).z]) ?_
  refine qrun 1 ?_
  refine qend [5, 10, 12, 14, 16, 17, 96] ?_
  refine qF (b := (!insideB 1048576 [(lV p d c side).x, (lV p d c side).y, (lV p d c side).z])) (by rw [h.2.2.2.2]; rfl) ?_
  refine AC_skip ?_
  refine AC_seq_list ?_
  refine AL_inline 36 [] 10 rfl (by kernel_rfl) (run_inl 36 #[] #[] (by kernel_rfl) (fun _ _ => by kernel_rfl) _ (by kernel_rfl)) Tryz.func36 rfl Tryz.ntmps36 (by kernel_rfl) fun _ hD1 => ?_
  refine qreg 3 [] ?_
  refine qreg 6 [3, 4] ?_
  refine qsdraw [(0, .fn 56 [.ptr 9 (0), .ptr 8 (0)], .none)] [0, 1, 2] 10 ⟨?_, trivial⟩ ?_
  · exact qcast (qfunc 56 #[(.tmp 4), (.tmp 3)] [.ptr 9 (0), .ptr 8 (0)])
  refine AC_ret ?_
  refine ⟨.inl rfl, .tup [.fn 56 [.ptr 9 (0), .ptr 8 (0)], .ptr 6 (0), .ptr 7 (0)], (resI3 Tryz.results36 (resVI_tmp (x := .fn 56 [.ptr 9 (0), .ptr 8 (0)]) (by kernel_rfl)) (resVI_tmp (x := .ptr 6 (0)) (by kernel_rfl)) (resVI_tmp (x := .ptr 7 (0)) (by kernel_rfl))).castI (by kernel_rfl), ?_⟩
  refine qrun 7 ?_
  refine qend [5, 10, 12, 14, 16, 17, 18, 19, 20] ?_
  refine AC_seq ?_
  refine AC_seq_list ?_
  refine qrun 2 ?_
  refine qopn (.bool (!(decide ((casePt p c).x + (d.sides.getD ((side).toNat) V3.zero).x = (casePt p c).x ∧ (casePt p c).y + (d.sides.getD ((side).toNat) V3.zero).y = (casePt p c).y ∧ (casePt p c).z = (casePt p c).z)))) (opS_neq 55 55 (.tmp 102) (.tmp 103) (by kernel_rfl) _ _ (by kernel_rfl) (by kernel_rfl) (by kernel_rfl) (decide ((casePt p c).x + (d.sides.getD ((side).toNat) V3.zero).x = (casePt p c).x ∧ (casePt p c).y + (d.sides.getD ((side).toNat) V3.zero).y = (casePt p c).y ∧ (casePt p c).z = (casePt p c).z)) (eqVec3 _ _ _ _ _ _)) ?_
  refine qend [5, 10, 12, 14, 16, 17, 18, 19, 20, 104] ?_
  refine bool_split (decide ((casePt p c).x + (d.sides.getD ((side).toNat) V3.zero).x = (casePt p c).x ∧ (casePt p c).y + (d.sides.getD ((side).toNat) V3.zero).y = (casePt p c).y ∧ (casePt p c).z = (casePt p c).z)) (fun hx2 => ?_) (fun hx2 => ?_)
  ·
   have hx2d := of_decide_eq_true hx2
   refine qF (nt hx2) ?_
   refine AC_skip ?_
   refine AC_seq_list ?_
   refine qrun 7 ?_
   refine qv (caseEnd p c + d.down) ?_
   refine qopn (.tup [pathA ((gD p d c side (caseEnd p c)).1), .int ((gD p d c side (caseEnd p c)).2)]) (qcall 37 #[(.tmp 122), (.tmp 123), (.tmp 124), (.tmp 128)] #[55, 55, 3, 3] [.lit (.agg #[.int .i64 ((casePt p c).x + (d.sides.getD ((side).toNat) V3.zero).x), .int .i64 ((casePt p c).y + (d.sides.getD ((side).toNat) V3.zero).y), .int .i64 ((casePt p c).z)]), .lit (.agg #[.int .i64 ((casePt p c).x + (d.sides.getD ((side).toNat) V3.zero).x), .int .i64 ((casePt p c).y + (d.sides.getD ((side).toNat) V3.zero).y), .int .i64 (d.ground)]), .int (caseEnd p c), .int (caseEnd p c + d.down)] (.tup [pathA ((gD p d c side (caseEnd p c)).1), .int ((gD p d c side (caseEnd p c)).2)]) (AF_glideR (oV p d c side) (lV p d c side) _ _)) ?_
   refine qrun 2 ?_
   refine AL_inline 56 [pathA ((gD p d c side (caseEnd p c)).1), .int ((gD p d c side (caseEnd p c)).2), .ptr 9 (0), .ptr 8 (0)] 37 rfl (by kernel_rfl) (run_inlV (.tmp 121) 56 #[(.tmp 130), (.tmp 131)] #[41, 32] (by kernel_rfl) [.ptr 9 (0), .ptr 8 (0)] (by kernel_rfl) (fun _ _ => by kernel_rfl) _ (by kernel_rfl)) Tryz.func56 rfl Tryz.ntmps56 (by kernel_rfl) fun _ hD3 => ?_
   refine AC_block ?_
   refine AC_seq_list ?_
   refine qrun 3 ?_
   refine qb false ?_
   refine qrun 1 ?_
   refine qend [0, 1, 2, 3, 18] ?_
   refine qCfalse ?_
   refine AC_seq_list ?_
   refine qrun 1 ?_
   refine qb (!decide ((gD p d c side (caseEnd p c)).2 = 0)) ?_
   refine qrun 1 ?_
   refine qend [0, 1, 2, 3, 23] ?_
   refine bool_split (decide ((gD p d c side (caseEnd p c)).2 = 0)) (fun hx4 => ?_) (fun hx4 => ?_)
   ·
    have hx4d := of_decide_eq_true hx4
    have hx4l := flyR_pos hx4d
    refine qF (nt hx4) ?_
    refine AC_seq_list ?_
    refine qrun 3 ?_
    refine qopn (.bool true) (qeqnil0 41 41 (.tmp 32) Tryz.underlying41) ?_
    refine qrun 1 ?_
    refine qend [0, 2, 3, 29] ?_
    refine qCtrue ?_
    refine AC_list ?_
    refine qrun 4 ?_
    refine qend1 [] ?_
    refine ⟨.inr rfl, .lit (.tuple #[]), (resI_none Tryz.results56).castI (by kernel_rfl), ?_⟩
    refine qend [5, 10, 12, 17, 18, 19, 20] ?_
    refine AC_seq_list ?_
    refine qrun 3 ?_
    refine qv (caseEnd p c + d.down) ?_
    refine qrun 1 ?_
    refine qend [10, 12, 17, 18, 19, 20] ?_
    refine AC_seq ?_
    refine AC_seq_list ?_
    refine qrun 2 ?_
    refine qb (decide (caseEnd p c + d.down < horT p d)) ?_
    refine qend [10, 12, 17, 18, 19, 20, 139] ?_
    refine bool_split (decide (caseEnd p c + d.down < horT p d)) (fun hx5 => ?_) (fun hx5 => ?_)
    ·
     have hx5d := of_decide_eq_true hx5
     refine qT hx5 ?_
     refine AC_list ?_
     refine qrun 4 ?_
     refine qopn (.tup [pathA ((gH p d c side (caseEnd p c + d.down)).1), .int ((gH p d c side (caseEnd p c + d.down)).2)]) (qcall 22 #[(.tmp 141), (.tmp 142), (.tmp 143)] #[55, 3, 3] [.lit (.agg #[.int .i64 ((casePt p c).x + (d.sides.getD ((side).toNat) V3.zero).x), .int .i64 ((casePt p c).y + (d.sides.getD ((side).toNat) V3.zero).y), .int .i64 (d.ground)]), .int (caseEnd p c + d.down), .int (horT p d)] (.tup [pathA ((gH p d c side (caseEnd p c + d.down)).1), .int ((gH p d c side (caseEnd p c + d.down)).2)]) (AF_hoverR (lV p d c side) _ _)) ?_
     refine qrun 2 ?_
     refine AL_inline 56 [pathA ((gH p d c side (caseEnd p c + d.down)).1), .int ((gH p d c side (caseEnd p c + d.down)).2), .ptr 9 (0), .ptr 8 (0)] 37 rfl (by kernel_rfl) (run_inlV (.tmp 140) 56 #[(.tmp 145), (.tmp 146)] #[41, 32] (by kernel_rfl) [.ptr 9 (0), .ptr 8 (0)] (by kernel_rfl) (fun _ _ => by kernel_rfl) _ (by kernel_rfl)) Tryz.func56 rfl Tryz.ntmps56 (by kernel_rfl) fun _ hD6 => ?_
     refine AC_block ?_
     refine AC_seq_list ?_
     refine qrun 3 ?_
     refine qb false ?_
     refine qrun 1 ?_
     refine qend [0, 1, 2, 3, 18] ?_
     refine qCfalse ?_
     refine AC_seq_list ?_
     refine qrun 1 ?_
     refine qb (!decide ((gH p d c side (caseEnd p c + d.down)).2 = 0)) ?_
     refine qrun 1 ?_
     refine qend [0, 1, 2, 3, 23] ?_
     refine bool_split (decide ((gH p d c side (caseEnd p c + d.down)).2 = 0)) (fun hx7 => ?_) (fun hx7 => ?_)
     ·
      have hx7d := of_decide_eq_true hx7
      have hx7l := flyR_pos hx7d
      refine qF (nt hx7) ?_
      refine AC_seq_list ?_
      refine qrun 3 ?_
      refine qopn (.bool false) (qeqnil 41 41 (.tmp 32) Tryz.underlying41 6 (((gD p d c side (caseEnd p c)).1).length) (fun i0 => segA ((((gD p d c side (caseEnd p c)).1).getD i0 Sg.none)))) ?_
      refine qrun 1 ?_
      refine qend [0, 2, 3, 29] ?_
      refine qCfalse ?_
      refine bool_split (decide ((appR ((gD p d c side (caseEnd p c)).1) ((gH p d c side (caseEnd p c + d.down)).1)).2 = 0)) (fun hx8 => ?_) (fun hx8 => ?_)
      ·
       have hx8d := of_decide_eq_true hx8
       have hx8l := app_pos (by omega) hx8d
       refine qdraw [(6, .tup [pathA ((appR ((gD p d c side (caseEnd p c)).1) ((gH p d c side (caseEnd p c + d.down)).1)).1), .int (0)], .none)] [] 10 ⟨?_, trivial⟩ ?_
       · exact qcast (qcall 45 #[(.tmp 11), (.tmp 12)] #[41, 41] [pathA ((gD p d c side (caseEnd p c)).1), pathA ((gH p d c side (caseEnd p c + d.down)).1)] (.tup [pathA ((appR ((gD p d c side (caseEnd p c)).1) ((gH p d c side (caseEnd p c + d.down)).1)).1), .int (0)]) (AF_append_ok _ _ ((flyR_in _ _ _ _ _)) ((flyR_in _ _ _ _ _)) (of_decide_eq_true hx8)))
       refine ⟨.inr rfl, .lit (.tuple #[]), (resI_none Tryz.results56).castI (by kernel_rfl), ?_⟩
       refine qend1 [19, 20] ?_
       refine AC_seq ?_
       refine AC_seq_list ?_
       refine qrun 3 ?_
       refine qb false ?_
       refine qend [19, 20, 151] ?_
       refine qCfalse ?_
       refine AC_skip ?_
       refine qreg 5 [8, 9] ?_
       refine AC_ret ?_
       exact ⟨.inl rfl, (resOk2 Tryz.results14 (resV_tmp (x := pathA ((appR ((gD p d c side (caseEnd p c)).1) ((gH p d c side (caseEnd p c + d.down)).1)).1)) (by kernel_rfl) (by kernel_rfl)) (resV_tmp (x := .int (0)) (by kernel_rfl) (by kernel_rfl))).cast (show (.tup [_, _] : AV) = _ by unfold wayR; rw [if_pos hx2d]; simp only [wayT, stepL, resW, hx4d, hx5d, hx7d, hx8d, if_true, if_false, Option.getD_some, Option.getD_none, reduceIte])⟩
      ·
       have hx8d := of_decide_eq_false hx8
       refine qdraw [(6, .lit (.tuple #[.slice none 0 0, .int .i64 ((appR ((gD p d c side (caseEnd p c)).1) ((gH p d c side (caseEnd p c + d.down)).1)).2)]), .none), (8, .lit (.slice none 0 0), .none), (9, .int ((appR ((gD p d c side (caseEnd p c)).1) ((gH p d c side (caseEnd p c + d.down)).1)).2), .none)] [] 10 ⟨?_, ?_, ?_, trivial⟩ ?_
       · exact qcast (qcall 45 #[(.tmp 11), (.tmp 12)] #[41, 41] [pathA ((gD p d c side (caseEnd p c)).1), pathA ((gH p d c side (caseEnd p c + d.down)).1)] (.lit (.tuple #[.slice none 0 0, .int .i64 ((appR ((gD p d c side (caseEnd p c)).1) ((gH p d c side (caseEnd p c + d.down)).1)).2)])) (AF_append_err _ _ ((flyR_in _ _ _ _ _)) ((flyR_in _ _ _ _ _)) (of_decide_eq_false hx8)))
       · exact qcast (qlit (v := .slice none 0 0) (v' := .slice none 0 0) (rfl) _)
       · exact qiD
       refine ⟨.inr rfl, .lit (.tuple #[]), (resI_none Tryz.results56).castI (by kernel_rfl), ?_⟩
       refine qend1 [19, 20] ?_
       refine AC_seq ?_
       refine AC_seq_list ?_
       refine qrun 3 ?_
       refine qb (!decide ((appR ((gD p d c side (caseEnd p c)).1) ((gH p d c side (caseEnd p c + d.down)).1)).2 = 0)) ?_
       refine qend [19, 20, 151] ?_
       refine qT (nf hx8) ?_
       refine qsdraw [] [8, 9] 10 trivial ?_
       refine AC_ret ?_
       exact ⟨.inl rfl, (resOk2 Tryz.results14 (resV_tmp (x := .lit (.slice none 0 0)) (by kernel_rfl) (by kernel_rfl)) (resV_tmp (x := .int ((appR ((gD p d c side (caseEnd p c)).1) ((gH p d c side (caseEnd p c + d.down)).1)).2)) (by kernel_rfl) (by kernel_rfl))).cast (show (.lit _ : AV) = _ by unfold wayR; rw [if_pos hx2d]; simp only [wayT, stepL, resW, hx4d, hx5d, hx7d, hx8d, if_true, if_false, Option.getD_some, Option.getD_none, reduceIte])⟩
     ·
      have hx7d := of_decide_eq_false hx7
      refine qT (nf hx7) ?_
      refine AC_list ?_
      refine qrun 4 ?_
      refine qend1 [] ?_
      refine ⟨.inr rfl, .lit (.tuple #[]), (resI_none Tryz.results56).castI (by kernel_rfl), ?_⟩
      refine qend1 [19, 20] ?_
      refine AC_seq ?_
      refine AC_seq_list ?_
      refine qrun 3 ?_
      refine qb (!decide ((gH p d c side (caseEnd p c + d.down)).2 = 0)) ?_
      refine qend [19, 20, 151] ?_
      refine qT (nf hx7) ?_
      refine qsdraw [] [8, 9] 10 trivial ?_
      refine AC_ret ?_
      exact ⟨.inl rfl, (resOk2 Tryz.results14 (resV_tmp (x := .lit (.slice none 0 0)) (by kernel_rfl) (by kernel_rfl)) (resV_tmp (x := .int ((gH p d c side (caseEnd p c + d.down)).2)) (by kernel_rfl) (by kernel_rfl))).cast (show (.lit _ : AV) = _ by unfold wayR; rw [if_pos hx2d]; simp only [wayT, stepL, resW, hx4d, hx5d, hx7d, if_true, if_false, Option.getD_some, Option.getD_none, reduceIte])⟩
    ·
     have hx5d := of_decide_eq_false hx5
     refine qF hx5 ?_
     refine AC_skip ?_
     refine AC_seq ?_
     refine AC_seq_list ?_
     refine qrun 3 ?_
     refine qb false ?_
     refine qend [19, 20, 151] ?_
     refine qCfalse ?_
     refine AC_skip ?_
     refine qreg 5 [8, 9] ?_
     refine AC_ret ?_
     exact ⟨.inl rfl, (resOk2 Tryz.results14 (resV_tmp (x := pathA ((gD p d c side (caseEnd p c)).1)) (by kernel_rfl) (by kernel_rfl)) (resV_tmp (x := .int (0)) (by kernel_rfl) (by kernel_rfl))).cast (show (.tup [_, _] : AV) = _ by unfold wayR; rw [if_pos hx2d]; simp only [wayT, stepL, resW, hx4d, hx5d, if_true, if_false, Option.getD_some, Option.getD_none, reduceIte])⟩
   ·
    have hx4d := of_decide_eq_false hx4
    refine qT (nf hx4) ?_
    refine AC_list ?_
    refine qrun 4 ?_
    refine qend1 [] ?_
    refine ⟨.inr rfl, .lit (.tuple #[]), (resI_none Tryz.results56).castI (by kernel_rfl), ?_⟩
    refine qend [5, 10, 12, 17, 18, 19, 20] ?_
    refine AC_seq_list ?_
    refine qrun 3 ?_
    refine qv (caseEnd p c + d.down) ?_
    refine qrun 1 ?_
    refine qend [10, 12, 17, 18, 19, 20] ?_
    refine AC_seq ?_
    refine AC_seq_list ?_
    refine qrun 2 ?_
    refine qb (decide (caseEnd p c + d.down < horT p d)) ?_
    refine qend [10, 12, 17, 18, 19, 20, 139] ?_
    refine bool_split (decide (caseEnd p c + d.down < horT p d)) (fun hx9 => ?_) (fun hx9 => ?_)
    ·
     have hx9d := of_decide_eq_true hx9
     refine qT hx9 ?_
     refine AC_list ?_
     refine qrun 4 ?_
     refine qopn (.tup [pathA ((gH p d c side (caseEnd p c + d.down)).1), .int ((gH p d c side (caseEnd p c + d.down)).2)]) (qcall 22 #[(.tmp 141), (.tmp 142), (.tmp 143)] #[55, 3, 3] [.lit (.agg #[.int .i64 ((casePt p c).x + (d.sides.getD ((side).toNat) V3.zero).x), .int .i64 ((casePt p c).y + (d.sides.getD ((side).toNat) V3.zero).y), .int .i64 (d.ground)]), .int (caseEnd p c + d.down), .int (horT p d)] (.tup [pathA ((gH p d c side (caseEnd p c + d.down)).1), .int ((gH p d c side (caseEnd p c + d.down)).2)]) (AF_hoverR (lV p d c side) _ _)) ?_
     refine qrun 2 ?_
     refine AL_inline 56 [pathA ((gH p d c side (caseEnd p c + d.down)).1), .int ((gH p d c side (caseEnd p c + d.down)).2), .ptr 9 (0), .ptr 8 (0)] 37 rfl (by kernel_rfl) (run_inlV (.tmp 140) 56 #[(.tmp 145), (.tmp 146)] #[41, 32] (by kernel_rfl) [.ptr 9 (0), .ptr 8 (0)] (by kernel_rfl) (fun _ _ => by kernel_rfl) _ (by kernel_rfl)) Tryz.func56 rfl Tryz.ntmps56 (by kernel_rfl) fun _ hD10 => ?_
     refine AC_block ?_
     refine AC_seq_list ?_
     refine qrun 3 ?_
     refine qb (!decide ((gD p d c side (caseEnd p c)).2 = 0)) ?_
     refine qrun 1 ?_
     refine qend [0, 1, 2, 3, 18] ?_
     refine qT (nf hx4) ?_
     refine AC_skip ?_
     refine ⟨.inr rfl, .lit (.tuple #[]), (resI_none Tryz.results56).castI (by kernel_rfl), ?_⟩
     refine qend1 [19, 20] ?_
     refine AC_seq ?_
     refine AC_seq_list ?_
     refine qrun 3 ?_
     refine qb (!decide ((gD p d c side (caseEnd p c)).2 = 0)) ?_
     refine qend [19, 20, 151] ?_
     refine qT (nf hx4) ?_
     refine qsdraw [] [8, 9] 10 trivial ?_
     refine AC_ret ?_
     exact ⟨.inl rfl, (resOk2 Tryz.results14 (resV_tmp (x := .lit (.slice none 0 0)) (by kernel_rfl) (by kernel_rfl)) (resV_tmp (x := .int ((gD p d c side (caseEnd p c)).2)) (by kernel_rfl) (by kernel_rfl))).cast (show (.lit _ : AV) = _ by unfold wayR; rw [if_pos hx2d]; simp only [wayT, stepL, resW, hx4d, hx9d, if_true, if_false, Option.getD_some, Option.getD_none, reduceIte])⟩
    ·
     have hx9d := of_decide_eq_false hx9
     refine qF hx9 ?_
     refine AC_skip ?_
     refine AC_seq ?_
     refine AC_seq_list ?_
     refine qrun 3 ?_
     refine qb (!decide ((gD p d c side (caseEnd p c)).2 = 0)) ?_
     refine qend [19, 20, 151] ?_
     refine qT (nf hx4) ?_
     refine qsdraw [] [8, 9] 10 trivial ?_
     refine AC_ret ?_
     exact ⟨.inl rfl, (resOk2 Tryz.results14 (resV_tmp (x := .lit (.slice none 0 0)) (by kernel_rfl) (by kernel_rfl)) (resV_tmp (x := .int ((gD p d c side (caseEnd p c)).2)) (by kernel_rfl) (by kernel_rfl))).cast (show (.lit _ : AV) = _ by unfold wayR; rw [if_pos hx2d]; simp only [wayT, stepL, resW, hx4d, hx9d, if_true, if_false, Option.getD_some, Option.getD_none, reduceIte])⟩
  ·
   have hx2d := of_decide_eq_false hx2
   refine qT (nf hx2) ?_
   refine AC_seq_list ?_
   refine qrun 7 ?_
   refine qv (caseEnd p c + d.across) ?_
   refine qopn (.tup [pathA ((gA p d c side).1), .int ((gA p d c side).2)]) (qcall 37 #[(.tmp 106), (.tmp 107), (.tmp 108), (.tmp 112)] #[55, 55, 3, 3] [.lit (.agg #[.int .i64 ((casePt p c).x), .int .i64 ((casePt p c).y), .int .i64 ((casePt p c).z)]), .lit (.agg #[.int .i64 ((casePt p c).x + (d.sides.getD ((side).toNat) V3.zero).x), .int .i64 ((casePt p c).y + (d.sides.getD ((side).toNat) V3.zero).y), .int .i64 ((casePt p c).z)]), .int (caseEnd p c), .int (caseEnd p c + d.across)] (.tup [pathA ((gA p d c side).1), .int ((gA p d c side).2)]) (AF_glideR (casePt p c) (oV p d c side) _ _)) ?_
   refine qrun 2 ?_
   refine AL_inline 56 [pathA ((gA p d c side).1), .int ((gA p d c side).2), .ptr 9 (0), .ptr 8 (0)] 37 rfl (by kernel_rfl) (run_inlV (.tmp 105) 56 #[(.tmp 114), (.tmp 115)] #[41, 32] (by kernel_rfl) [.ptr 9 (0), .ptr 8 (0)] (by kernel_rfl) (fun _ _ => by kernel_rfl) _ (by kernel_rfl)) Tryz.func56 rfl Tryz.ntmps56 (by kernel_rfl) fun _ hD11 => ?_
   refine AC_block ?_
   refine AC_seq_list ?_
   refine qrun 3 ?_
   refine qb false ?_
   refine qrun 1 ?_
   refine qend [0, 1, 2, 3, 18] ?_
   refine qCfalse ?_
   refine AC_seq_list ?_
   refine qrun 1 ?_
   refine qb (!decide ((gA p d c side).2 = 0)) ?_
   refine qrun 1 ?_
   refine qend [0, 1, 2, 3, 23] ?_
   refine bool_split (decide ((gA p d c side).2 = 0)) (fun hx12 => ?_) (fun hx12 => ?_)
   ·
    have hx12d := of_decide_eq_true hx12
    have hx12l := flyR_pos hx12d
    refine qF (nt hx12) ?_
    refine AC_seq_list ?_
    refine qrun 3 ?_
    refine qopn (.bool true) (qeqnil0 41 41 (.tmp 32) Tryz.underlying41) ?_
    refine qrun 1 ?_
    refine qend [0, 2, 3, 29] ?_
    refine qCtrue ?_
    refine AC_list ?_
    refine qrun 4 ?_
    refine qend1 [] ?_
    refine ⟨.inr rfl, .lit (.tuple #[]), (resI_none Tryz.results56).castI (by kernel_rfl), ?_⟩
    refine qend [5, 10, 12, 16, 17, 18, 19, 20] ?_
    refine AC_list ?_
    refine qrun 3 ?_
    refine qv (caseEnd p c + d.across) ?_
    refine qrun 1 ?_
    refine qend1 [5, 10, 12, 16, 17, 18, 19, 20] ?_
    refine AC_seq_list ?_
    refine qrun 7 ?_
    refine qv (caseEnd p c + d.across + d.down) ?_
    refine qopn (.tup [pathA ((gD p d c side (caseEnd p c + d.across)).1), .int ((gD p d c side (caseEnd p c + d.across)).2)]) (qcall 37 #[(.tmp 122), (.tmp 123), (.tmp 124), (.tmp 128)] #[55, 55, 3, 3] [.lit (.agg #[.int .i64 ((casePt p c).x + (d.sides.getD ((side).toNat) V3.zero).x), .int .i64 ((casePt p c).y + (d.sides.getD ((side).toNat) V3.zero).y), .int .i64 ((casePt p c).z)]), .lit (.agg #[.int .i64 ((casePt p c).x + (d.sides.getD ((side).toNat) V3.zero).x), .int .i64 ((casePt p c).y + (d.sides.getD ((side).toNat) V3.zero).y), .int .i64 (d.ground)]), .int (caseEnd p c + d.across), .int (caseEnd p c + d.across + d.down)] (.tup [pathA ((gD p d c side (caseEnd p c + d.across)).1), .int ((gD p d c side (caseEnd p c + d.across)).2)]) (AF_glideR (oV p d c side) (lV p d c side) _ _)) ?_
    refine qrun 2 ?_
    refine AL_inline 56 [pathA ((gD p d c side (caseEnd p c + d.across)).1), .int ((gD p d c side (caseEnd p c + d.across)).2), .ptr 9 (0), .ptr 8 (0)] 37 rfl (by kernel_rfl) (run_inlV (.tmp 121) 56 #[(.tmp 130), (.tmp 131)] #[41, 32] (by kernel_rfl) [.ptr 9 (0), .ptr 8 (0)] (by kernel_rfl) (fun _ _ => by kernel_rfl) _ (by kernel_rfl)) Tryz.func56 rfl Tryz.ntmps56 (by kernel_rfl) fun _ hD13 => ?_
    refine AC_block ?_
    refine AC_seq_list ?_
    refine qrun 3 ?_
    refine qb false ?_
    refine qrun 1 ?_
    refine qend [0, 1, 2, 3, 18] ?_
    refine qCfalse ?_
    refine AC_seq_list ?_
    refine qrun 1 ?_
    refine qb (!decide ((gD p d c side (caseEnd p c + d.across)).2 = 0)) ?_
    refine qrun 1 ?_
    refine qend [0, 1, 2, 3, 23] ?_
    refine bool_split (decide ((gD p d c side (caseEnd p c + d.across)).2 = 0)) (fun hx14 => ?_) (fun hx14 => ?_)
    ·
     have hx14d := of_decide_eq_true hx14
     have hx14l := flyR_pos hx14d
     refine qF (nt hx14) ?_
     refine AC_seq_list ?_
     refine qrun 3 ?_
     refine qopn (.bool false) (qeqnil 41 41 (.tmp 32) Tryz.underlying41 6 (((gA p d c side).1).length) (fun i0 => segA ((((gA p d c side).1).getD i0 Sg.none)))) ?_
     refine qrun 1 ?_
     refine qend [0, 2, 3, 29] ?_
     refine qCfalse ?_
     refine bool_split (decide ((appR ((gA p d c side).1) ((gD p d c side (caseEnd p c + d.across)).1)).2 = 0)) (fun hx15 => ?_) (fun hx15 => ?_)
     ·
      have hx15d := of_decide_eq_true hx15
      have hx15l := app_pos (by omega) hx15d
      refine qdraw [(6, .tup [pathA ((appR ((gA p d c side).1) ((gD p d c side (caseEnd p c + d.across)).1)).1), .int (0)], .none)] [] 10 ⟨?_, trivial⟩ ?_
      · exact qcast (qcall 45 #[(.tmp 11), (.tmp 12)] #[41, 41] [pathA ((gA p d c side).1), pathA ((gD p d c side (caseEnd p c + d.across)).1)] (.tup [pathA ((appR ((gA p d c side).1) ((gD p d c side (caseEnd p c + d.across)).1)).1), .int (0)]) (AF_append_ok _ _ ((flyR_in _ _ _ _ _)) ((flyR_in _ _ _ _ _)) (of_decide_eq_true hx15)))
      refine ⟨.inr rfl, .lit (.tuple #[]), (resI_none Tryz.results56).castI (by kernel_rfl), ?_⟩
      refine qend [5, 10, 12, 17, 18, 19, 20] ?_
      refine AC_seq_list ?_
      refine qrun 3 ?_
      refine qv (caseEnd p c + d.across + d.down) ?_
      refine qrun 1 ?_
      refine qend [10, 12, 17, 18, 19, 20] ?_
      refine AC_seq ?_
      refine AC_seq_list ?_
      refine qrun 2 ?_
      refine qb (decide (caseEnd p c + d.across + d.down < horT p d)) ?_
      refine qend [10, 12, 17, 18, 19, 20, 139] ?_
      refine bool_split (decide (caseEnd p c + d.across + d.down < horT p d)) (fun hx16 => ?_) (fun hx16 => ?_)
      ·
       have hx16d := of_decide_eq_true hx16
       refine qT hx16 ?_
       refine AC_list ?_
       refine qrun 4 ?_
       refine qopn (.tup [pathA ((gH p d c side (caseEnd p c + d.across + d.down)).1), .int ((gH p d c side (caseEnd p c + d.across + d.down)).2)]) (qcall 22 #[(.tmp 141), (.tmp 142), (.tmp 143)] #[55, 3, 3] [.lit (.agg #[.int .i64 ((casePt p c).x + (d.sides.getD ((side).toNat) V3.zero).x), .int .i64 ((casePt p c).y + (d.sides.getD ((side).toNat) V3.zero).y), .int .i64 (d.ground)]), .int (caseEnd p c + d.across + d.down), .int (horT p d)] (.tup [pathA ((gH p d c side (caseEnd p c + d.across + d.down)).1), .int ((gH p d c side (caseEnd p c + d.across + d.down)).2)]) (AF_hoverR (lV p d c side) _ _)) ?_
       refine qrun 2 ?_
       refine AL_inline 56 [pathA ((gH p d c side (caseEnd p c + d.across + d.down)).1), .int ((gH p d c side (caseEnd p c + d.across + d.down)).2), .ptr 9 (0), .ptr 8 (0)] 37 rfl (by kernel_rfl) (run_inlV (.tmp 140) 56 #[(.tmp 145), (.tmp 146)] #[41, 32] (by kernel_rfl) [.ptr 9 (0), .ptr 8 (0)] (by kernel_rfl) (fun _ _ => by kernel_rfl) _ (by kernel_rfl)) Tryz.func56 rfl Tryz.ntmps56 (by kernel_rfl) fun _ hD17 => ?_
       refine AC_block ?_
       refine AC_seq_list ?_
       refine qrun 3 ?_
       refine qb false ?_
       refine qrun 1 ?_
       refine qend [0, 1, 2, 3, 18] ?_
       refine qCfalse ?_
       refine AC_seq_list ?_
       refine qrun 1 ?_
       refine qb (!decide ((gH p d c side (caseEnd p c + d.across + d.down)).2 = 0)) ?_
       refine qrun 1 ?_
       refine qend [0, 1, 2, 3, 23] ?_
       refine bool_split (decide ((gH p d c side (caseEnd p c + d.across + d.down)).2 = 0)) (fun hx18 => ?_) (fun hx18 => ?_)
       ·
        have hx18d := of_decide_eq_true hx18
        have hx18l := flyR_pos hx18d
        refine qF (nt hx18) ?_
        refine AC_seq_list ?_
        refine qrun 3 ?_
        refine qopn (.bool false) (qeqnil 41 41 (.tmp 32) Tryz.underlying41 6 (((appR ((gA p d c side).1) ((gD p d c side (caseEnd p c + d.across)).1)).1).length) (fun i0 => segA ((((appR ((gA p d c side).1) ((gD p d c side (caseEnd p c + d.across)).1)).1).getD i0 Sg.none)))) ?_
        refine qrun 1 ?_
        refine qend [0, 2, 3, 29] ?_
        refine qCfalse ?_
        refine bool_split (decide ((appR ((appR ((gA p d c side).1) ((gD p d c side (caseEnd p c + d.across)).1)).1) ((gH p d c side (caseEnd p c + d.across + d.down)).1)).2 = 0)) (fun hx19 => ?_) (fun hx19 => ?_)
        ·
         have hx19d := of_decide_eq_true hx19
         have hx19l := app_pos (by omega) hx19d
         refine qdraw [(6, .tup [pathA ((appR ((appR ((gA p d c side).1) ((gD p d c side (caseEnd p c + d.across)).1)).1) ((gH p d c side (caseEnd p c + d.across + d.down)).1)).1), .int (0)], .none)] [] 10 ⟨?_, trivial⟩ ?_
         · exact qcast (qcall 45 #[(.tmp 11), (.tmp 12)] #[41, 41] [pathA ((appR ((gA p d c side).1) ((gD p d c side (caseEnd p c + d.across)).1)).1), pathA ((gH p d c side (caseEnd p c + d.across + d.down)).1)] (.tup [pathA ((appR ((appR ((gA p d c side).1) ((gD p d c side (caseEnd p c + d.across)).1)).1) ((gH p d c side (caseEnd p c + d.across + d.down)).1)).1), .int (0)]) (AF_append_ok _ _ (PathIn.app ((flyR_in _ _ _ _ _)) ((flyR_in _ _ _ _ _))) ((flyR_in _ _ _ _ _)) (of_decide_eq_true hx19)))
         refine ⟨.inr rfl, .lit (.tuple #[]), (resI_none Tryz.results56).castI (by kernel_rfl), ?_⟩
         refine qend1 [19, 20] ?_
         refine AC_seq ?_
         refine AC_seq_list ?_
         refine qrun 3 ?_
         refine qb false ?_
         refine qend [19, 20, 151] ?_
         refine qCfalse ?_
         refine AC_skip ?_
         refine qreg 5 [8, 9] ?_
         refine AC_ret ?_
         exact ⟨.inl rfl, (resOk2 Tryz.results14 (resV_tmp (x := pathA ((appR ((appR ((gA p d c side).1) ((gD p d c side (caseEnd p c + d.across)).1)).1) ((gH p d c side (caseEnd p c + d.across + d.down)).1)).1)) (by kernel_rfl) (by kernel_rfl)) (resV_tmp (x := .int (0)) (by kernel_rfl) (by kernel_rfl))).cast (show (.tup [_, _] : AV) = _ by unfold wayR; rw [if_neg hx2d]; simp only [wayT, stepL, resW, hx12d, hx14d, hx15d, hx16d, hx18d, hx19d, if_true, if_false, Option.getD_some, Option.getD_none, reduceIte])⟩
        ·
         have hx19d := of_decide_eq_false hx19
         refine qdraw [(6, .lit (.tuple #[.slice none 0 0, .int .i64 ((appR ((appR ((gA p d c side).1) ((gD p d c side (caseEnd p c + d.across)).1)).1) ((gH p d c side (caseEnd p c + d.across + d.down)).1)).2)]), .none), (8, .lit (.slice none 0 0), .none), (9, .int ((appR ((appR ((gA p d c side).1) ((gD p d c side (caseEnd p c + d.across)).1)).1) ((gH p d c side (caseEnd p c + d.across + d.down)).1)).2), .none)] [] 10 ⟨?_, ?_, ?_, trivial⟩ ?_
         · exact qcast (qcall 45 #[(.tmp 11), (.tmp 12)] #[41, 41] [pathA ((appR ((gA p d c side).1) ((gD p d c side (caseEnd p c + d.across)).1)).1), pathA ((gH p d c side (caseEnd p c + d.across + d.down)).1)] (.lit (.tuple #[.slice none 0 0, .int .i64 ((appR ((appR ((gA p d c side).1) ((gD p d c side (caseEnd p c + d.across)).1)).1) ((gH p d c side (caseEnd p c + d.across + d.down)).1)).2)])) (AF_append_err _ _ (PathIn.app ((flyR_in _ _ _ _ _)) ((flyR_in _ _ _ _ _))) ((flyR_in _ _ _ _ _)) (of_decide_eq_false hx19)))
         · exact qcast (qlit (v := .slice none 0 0) (v' := .slice none 0 0) (rfl) _)
         · exact qiD
         refine ⟨.inr rfl, .lit (.tuple #[]), (resI_none Tryz.results56).castI (by kernel_rfl), ?_⟩
         refine qend1 [19, 20] ?_
         refine AC_seq ?_
         refine AC_seq_list ?_
         refine qrun 3 ?_
         refine qb (!decide ((appR ((appR ((gA p d c side).1) ((gD p d c side (caseEnd p c + d.across)).1)).1) ((gH p d c side (caseEnd p c + d.across + d.down)).1)).2 = 0)) ?_
         refine qend [19, 20, 151] ?_
         refine qT (nf hx19) ?_
         refine qsdraw [] [8, 9] 10 trivial ?_
         refine AC_ret ?_
         exact ⟨.inl rfl, (resOk2 Tryz.results14 (resV_tmp (x := .lit (.slice none 0 0)) (by kernel_rfl) (by kernel_rfl)) (resV_tmp (x := .int ((appR ((appR ((gA p d c side).1) ((gD p d c side (caseEnd p c + d.across)).1)).1) ((gH p d c side (caseEnd p c + d.across + d.down)).1)).2)) (by kernel_rfl) (by kernel_rfl))).cast (show (.lit _ : AV) = _ by unfold wayR; rw [if_neg hx2d]; simp only [wayT, stepL, resW, hx12d, hx14d, hx15d, hx16d, hx18d, hx19d, if_true, if_false, Option.getD_some, Option.getD_none, reduceIte])⟩
       ·
        have hx18d := of_decide_eq_false hx18
        refine qT (nf hx18) ?_
        refine AC_list ?_
        refine qrun 4 ?_
        refine qend1 [] ?_
        refine ⟨.inr rfl, .lit (.tuple #[]), (resI_none Tryz.results56).castI (by kernel_rfl), ?_⟩
        refine qend1 [19, 20] ?_
        refine AC_seq ?_
        refine AC_seq_list ?_
        refine qrun 3 ?_
        refine qb (!decide ((gH p d c side (caseEnd p c + d.across + d.down)).2 = 0)) ?_
        refine qend [19, 20, 151] ?_
        refine qT (nf hx18) ?_
        refine qsdraw [] [8, 9] 10 trivial ?_
        refine AC_ret ?_
        exact ⟨.inl rfl, (resOk2 Tryz.results14 (resV_tmp (x := .lit (.slice none 0 0)) (by kernel_rfl) (by kernel_rfl)) (resV_tmp (x := .int ((gH p d c side (caseEnd p c + d.across + d.down)).2)) (by kernel_rfl) (by kernel_rfl))).cast (show (.lit _ : AV) = _ by unfold wayR; rw [if_neg hx2d]; simp only [wayT, stepL, resW, hx12d, hx14d, hx15d, hx16d, hx18d, if_true, if_false, Option.getD_some, Option.getD_none, reduceIte])⟩
      ·
       have hx16d := of_decide_eq_false hx16
       refine qF hx16 ?_
       refine AC_skip ?_
       refine AC_seq ?_
       refine AC_seq_list ?_
       refine qrun 3 ?_
       refine qb false ?_
       refine qend [19, 20, 151] ?_
       refine qCfalse ?_
       refine AC_skip ?_
       refine qreg 5 [8, 9] ?_
       refine AC_ret ?_
       exact ⟨.inl rfl, (resOk2 Tryz.results14 (resV_tmp (x := pathA ((appR ((gA p d c side).1) ((gD p d c side (caseEnd p c + d.across)).1)).1)) (by kernel_rfl) (by kernel_rfl)) (resV_tmp (x := .int (0)) (by kernel_rfl) (by kernel_rfl))).cast (show (.tup [_, _] : AV) = _ by unfold wayR; rw [if_neg hx2d]; simp only [wayT, stepL, resW, hx12d, hx14d, hx15d, hx16d, if_true, if_false, Option.getD_some, Option.getD_none, reduceIte])⟩
     ·
      have hx15d := of_decide_eq_false hx15
      refine qdraw [(6, .lit (.tuple #[.slice none 0 0, .int .i64 ((appR ((gA p d c side).1) ((gD p d c side (caseEnd p c + d.across)).1)).2)]), .none), (8, .lit (.slice none 0 0), .none), (9, .int ((appR ((gA p d c side).1) ((gD p d c side (caseEnd p c + d.across)).1)).2), .none)] [] 10 ⟨?_, ?_, ?_, trivial⟩ ?_
      · exact qcast (qcall 45 #[(.tmp 11), (.tmp 12)] #[41, 41] [pathA ((gA p d c side).1), pathA ((gD p d c side (caseEnd p c + d.across)).1)] (.lit (.tuple #[.slice none 0 0, .int .i64 ((appR ((gA p d c side).1) ((gD p d c side (caseEnd p c + d.across)).1)).2)])) (AF_append_err _ _ ((flyR_in _ _ _ _ _)) ((flyR_in _ _ _ _ _)) (of_decide_eq_false hx15)))
      · exact qcast (qlit (v := .slice none 0 0) (v' := .slice none 0 0) (rfl) _)
      · exact qiD
      refine ⟨.inr rfl, .lit (.tuple #[]), (resI_none Tryz.results56).castI (by kernel_rfl), ?_⟩
      refine qend [5, 10, 12, 17, 18, 19, 20] ?_
      refine AC_seq_list ?_
      refine qrun 3 ?_
      refine qv (caseEnd p c + d.across + d.down) ?_
      refine qrun 1 ?_
      refine qend [10, 12, 17, 18, 19, 20] ?_
      refine AC_seq ?_
      refine AC_seq_list ?_
      refine qrun 2 ?_
      refine qb (decide (caseEnd p c + d.across + d.down < horT p d)) ?_
      refine qend [10, 12, 17, 18, 19, 20, 139] ?_
      refine bool_split (decide (caseEnd p c + d.across + d.down < horT p d)) (fun hx20 => ?_) (fun hx20 => ?_)
      ·
       have hx20d := of_decide_eq_true hx20
       refine qT hx20 ?_
       refine AC_list ?_
       refine qrun 4 ?_
       refine qopn (.tup [pathA ((gH p d c side (caseEnd p c + d.across + d.down)).1), .int ((gH p d c side (caseEnd p c + d.across + d.down)).2)]) (qcall 22 #[(.tmp 141), (.tmp 142), (.tmp 143)] #[55, 3, 3] [.lit (.agg #[.int .i64 ((casePt p c).x + (d.sides.getD ((side).toNat) V3.zero).x), .int .i64 ((casePt p c).y + (d.sides.getD ((side).toNat) V3.zero).y), .int .i64 (d.ground)]), .int (caseEnd p c + d.across + d.down), .int (horT p d)] (.tup [pathA ((gH p d c side (caseEnd p c + d.across + d.down)).1), .int ((gH p d c side (caseEnd p c + d.across + d.down)).2)]) (AF_hoverR (lV p d c side) _ _)) ?_
       refine qrun 2 ?_
       refine AL_inline 56 [pathA ((gH p d c side (caseEnd p c + d.across + d.down)).1), .int ((gH p d c side (caseEnd p c + d.across + d.down)).2), .ptr 9 (0), .ptr 8 (0)] 37 rfl (by kernel_rfl) (run_inlV (.tmp 140) 56 #[(.tmp 145), (.tmp 146)] #[41, 32] (by kernel_rfl) [.ptr 9 (0), .ptr 8 (0)] (by kernel_rfl) (fun _ _ => by kernel_rfl) _ (by kernel_rfl)) Tryz.func56 rfl Tryz.ntmps56 (by kernel_rfl) fun _ hD21 => ?_
       refine AC_block ?_
       refine AC_seq_list ?_
       refine qrun 3 ?_
       refine qb (!decide ((appR ((gA p d c side).1) ((gD p d c side (caseEnd p c + d.across)).1)).2 = 0)) ?_
       refine qrun 1 ?_
       refine qend [0, 1, 2, 3, 18] ?_
       refine qT (nf hx15) ?_
       refine AC_skip ?_
       refine ⟨.inr rfl, .lit (.tuple #[]), (resI_none Tryz.results56).castI (by kernel_rfl), ?_⟩
       refine qend1 [19, 20] ?_
       refine AC_seq ?_
       refine AC_seq_list ?_
       refine qrun 3 ?_
       refine qb (!decide ((appR ((gA p d c side).1) ((gD p d c side (caseEnd p c + d.across)).1)).2 = 0)) ?_
       refine qend [19, 20, 151] ?_
       refine qT (nf hx15) ?_
       refine qsdraw [] [8, 9] 10 trivial ?_
       refine AC_ret ?_
       exact ⟨.inl rfl, (resOk2 Tryz.results14 (resV_tmp (x := .lit (.slice none 0 0)) (by kernel_rfl) (by kernel_rfl)) (resV_tmp (x := .int ((appR ((gA p d c side).1) ((gD p d c side (caseEnd p c + d.across)).1)).2)) (by kernel_rfl) (by kernel_rfl))).cast (show (.lit _ : AV) = _ by unfold wayR; rw [if_neg hx2d]; simp only [wayT, stepL, resW, hx12d, hx14d, hx15d, hx20d, if_true, if_false, Option.getD_some, Option.getD_none, reduceIte])⟩
      ·
       have hx20d := of_decide_eq_false hx20
       refine qF hx20 ?_
       refine AC_skip ?_
       refine AC_seq ?_
       refine AC_seq_list ?_
       refine qrun 3 ?_
       refine qb (!decide ((appR ((gA p d c side).1) ((gD p d c side (caseEnd p c + d.across)).1)).2 = 0)) ?_
       refine qend [19, 20, 151] ?_
       refine qT (nf hx15) ?_
       refine qsdraw [] [8, 9] 10 trivial ?_
       refine AC_ret ?_
       exact ⟨.inl rfl, (resOk2 Tryz.results14 (resV_tmp (x := .lit (.slice none 0 0)) (by kernel_rfl) (by kernel_rfl)) (resV_tmp (x := .int ((appR ((gA p d c side).1) ((gD p d c side (caseEnd p c + d.across)).1)).2)) (by kernel_rfl) (by kernel_rfl))).cast (show (.lit _ : AV) = _ by unfold wayR; rw [if_neg hx2d]; simp only [wayT, stepL, resW, hx12d, hx14d, hx15d, hx20d, if_true, if_false, Option.getD_some, Option.getD_none, reduceIte])⟩
    ·
     have hx14d := of_decide_eq_false hx14
     refine qT (nf hx14) ?_
     refine AC_list ?_
     refine qrun 4 ?_
     refine qend1 [] ?_
     refine ⟨.inr rfl, .lit (.tuple #[]), (resI_none Tryz.results56).castI (by kernel_rfl), ?_⟩
     refine qend [5, 10, 12, 17, 18, 19, 20] ?_
     refine AC_seq_list ?_
     refine qrun 3 ?_
     refine qv (caseEnd p c + d.across + d.down) ?_
     refine qrun 1 ?_
     refine qend [10, 12, 17, 18, 19, 20] ?_
     refine AC_seq ?_
     refine AC_seq_list ?_
     refine qrun 2 ?_
     refine qb (decide (caseEnd p c + d.across + d.down < horT p d)) ?_
     refine qend [10, 12, 17, 18, 19, 20, 139] ?_
     refine bool_split (decide (caseEnd p c + d.across + d.down < horT p d)) (fun hx22 => ?_) (fun hx22 => ?_)
     ·
      have hx22d := of_decide_eq_true hx22
      refine qT hx22 ?_
      refine AC_list ?_
      refine qrun 4 ?_
      refine qopn (.tup [pathA ((gH p d c side (caseEnd p c + d.across + d.down)).1), .int ((gH p d c side (caseEnd p c + d.across + d.down)).2)]) (qcall 22 #[(.tmp 141), (.tmp 142), (.tmp 143)] #[55, 3, 3] [.lit (.agg #[.int .i64 ((casePt p c).x + (d.sides.getD ((side).toNat) V3.zero).x), .int .i64 ((casePt p c).y + (d.sides.getD ((side).toNat) V3.zero).y), .int .i64 (d.ground)]), .int (caseEnd p c + d.across + d.down), .int (horT p d)] (.tup [pathA ((gH p d c side (caseEnd p c + d.across + d.down)).1), .int ((gH p d c side (caseEnd p c + d.across + d.down)).2)]) (AF_hoverR (lV p d c side) _ _)) ?_
      refine qrun 2 ?_
      refine AL_inline 56 [pathA ((gH p d c side (caseEnd p c + d.across + d.down)).1), .int ((gH p d c side (caseEnd p c + d.across + d.down)).2), .ptr 9 (0), .ptr 8 (0)] 37 rfl (by kernel_rfl) (run_inlV (.tmp 140) 56 #[(.tmp 145), (.tmp 146)] #[41, 32] (by kernel_rfl) [.ptr 9 (0), .ptr 8 (0)] (by kernel_rfl) (fun _ _ => by kernel_rfl) _ (by kernel_rfl)) Tryz.func56 rfl Tryz.ntmps56 (by kernel_rfl) fun _ hD23 => ?_
      refine AC_block ?_
      refine AC_seq_list ?_
      refine qrun 3 ?_
      refine qb (!decide ((gD p d c side (caseEnd p c + d.across)).2 = 0)) ?_
      refine qrun 1 ?_
      refine qend [0, 1, 2, 3, 18] ?_
      refine qT (nf hx14) ?_
      refine AC_skip ?_
      refine ⟨.inr rfl, .lit (.tuple #[]), (resI_none Tryz.results56).castI (by kernel_rfl), ?_⟩
      refine qend1 [19, 20] ?_
      refine AC_seq ?_
      refine AC_seq_list ?_
      refine qrun 3 ?_
      refine qb (!decide ((gD p d c side (caseEnd p c + d.across)).2 = 0)) ?_
      refine qend [19, 20, 151] ?_
      refine qT (nf hx14) ?_
      refine qsdraw [] [8, 9] 10 trivial ?_
      refine AC_ret ?_
      exact ⟨.inl rfl, (resOk2 Tryz.results14 (resV_tmp (x := .lit (.slice none 0 0)) (by kernel_rfl) (by kernel_rfl)) (resV_tmp (x := .int ((gD p d c side (caseEnd p c + d.across)).2)) (by kernel_rfl) (by kernel_rfl))).cast (show (.lit _ : AV) = _ by unfold wayR; rw [if_neg hx2d]; simp only [wayT, stepL, resW, hx12d, hx14d, hx22d, if_true, if_false, Option.getD_some, Option.getD_none, reduceIte])⟩
     ·
      have hx22d := of_decide_eq_false hx22
      refine qF hx22 ?_
      refine AC_skip ?_
      refine AC_seq ?_
      refine AC_seq_list ?_
      refine qrun 3 ?_
      refine qb (!decide ((gD p d c side (caseEnd p c + d.across)).2 = 0)) ?_
      refine qend [19, 20, 151] ?_
      refine qT (nf hx14) ?_
      refine qsdraw [] [8, 9] 10 trivial ?_
      refine AC_ret ?_
      exact ⟨.inl rfl, (resOk2 Tryz.results14 (resV_tmp (x := .lit (.slice none 0 0)) (by kernel_rfl) (by kernel_rfl)) (resV_tmp (x := .int ((gD p d c side (caseEnd p c + d.across)).2)) (by kernel_rfl) (by kernel_rfl))).cast (show (.lit _ : AV) = _ by unfold wayR; rw [if_neg hx2d]; simp only [wayT, stepL, resW, hx12d, hx14d, hx22d, if_true, if_false, Option.getD_some, Option.getD_none, reduceIte])⟩
   ·
    have hx12d := of_decide_eq_false hx12
    refine qT (nf hx12) ?_
    refine AC_list ?_
    refine qrun 4 ?_
    refine qend1 [] ?_
    refine ⟨.inr rfl, .lit (.tuple #[]), (resI_none Tryz.results56).castI (by kernel_rfl), ?_⟩
    refine qend [5, 10, 12, 16, 17, 18, 19, 20] ?_
    refine AC_list ?_
    refine qrun 3 ?_
    refine qv (caseEnd p c + d.across) ?_
    refine qrun 1 ?_
    refine qend1 [5, 10, 12, 16, 17, 18, 19, 20] ?_
    refine AC_seq_list ?_
    refine qrun 7 ?_
    refine qv (caseEnd p c + d.across + d.down) ?_
    refine qopn (.tup [pathA ((gD p d c side (caseEnd p c + d.across)).1), .int ((gD p d c side (caseEnd p c + d.across)).2)]) (qcall 37 #[(.tmp 122), (.tmp 123), (.tmp 124), (.tmp 128)] #[55, 55, 3, 3] [.lit (.agg #[.int .i64 ((casePt p c).x + (d.sides.getD ((side).toNat) V3.zero).x), .int .i64 ((casePt p c).y + (d.sides.getD ((side).toNat) V3.zero).y), .int .i64 ((casePt p c).z)]), .lit (.agg #[.int .i64 ((casePt p c).x + (d.sides.getD ((side).toNat) V3.zero).x), .int .i64 ((casePt p c).y + (d.sides.getD ((side).toNat) V3.zero).y), .int .i64 (d.ground)]), .int (caseEnd p c + d.across), .int (caseEnd p c + d.across + d.down)] (.tup [pathA ((gD p d c side (caseEnd p c + d.across)).1), .int ((gD p d c side (caseEnd p c + d.across)).2)]) (AF_glideR (oV p d c side) (lV p d c side) _ _)) ?_
    refine qrun 2 ?_
    refine AL_inline 56 [pathA ((gD p d c side (caseEnd p c + d.across)).1), .int ((gD p d c side (caseEnd p c + d.across)).2), .ptr 9 (0), .ptr 8 (0)] 37 rfl (by kernel_rfl) (run_inlV (.tmp 121) 56 #[(.tmp 130), (.tmp 131)] #[41, 32] (by kernel_rfl) [.ptr 9 (0), .ptr 8 (0)] (by kernel_rfl) (fun _ _ => by kernel_rfl) _ (by kernel_rfl)) Tryz.func56 rfl Tryz.ntmps56 (by kernel_rfl) fun _ hD24 => ?_
    refine AC_block ?_
    refine AC_seq_list ?_
    refine qrun 3 ?_
    refine qb (!decide ((gA p d c side).2 = 0)) ?_
    refine qrun 1 ?_
    refine qend [0, 1, 2, 3, 18] ?_
    refine qT (nf hx12) ?_
    refine AC_skip ?_
    refine ⟨.inr rfl, .lit (.tuple #[]), (resI_none Tryz.results56).castI (by kernel_rfl), ?_⟩
    refine qend [5, 10, 12, 17, 18, 19, 20] ?_
    refine AC_seq_list ?_
    refine qrun 3 ?_
    refine qv (caseEnd p c + d.across + d.down) ?_
    refine qrun 1 ?_
    refine qend [10, 12, 17, 18, 19, 20] ?_
    refine AC_seq ?_
    refine AC_seq_list ?_
    refine qrun 2 ?_
    refine qb (decide (caseEnd p c + d.across + d.down < horT p d)) ?_
    refine qend [10, 12, 17, 18, 19, 20, 139] ?_
    refine bool_split (decide (caseEnd p c + d.across + d.down < horT p d)) (fun hx25 => ?_) (fun hx25 => ?_)
    ·
     have hx25d := of_decide_eq_true hx25
     refine qT hx25 ?_
     refine AC_list ?_
     refine qrun 4 ?_
     refine qopn (.tup [pathA ((gH p d c side (caseEnd p c + d.across + d.down)).1), .int ((gH p d c side (caseEnd p c + d.across + d.down)).2)]) (qcall 22 #[(.tmp 141), (.tmp 142), (.tmp 143)] #[55, 3, 3] [.lit (.agg #[.int .i64 ((casePt p c).x + (d.sides.getD ((side).toNat) V3.zero).x), .int .i64 ((casePt p c).y + (d.sides.getD ((side).toNat) V3.zero).y), .int .i64 (d.ground)]), .int (caseEnd p c + d.across + d.down), .int (horT p d)] (.tup [pathA ((gH p d c side (caseEnd p c + d.across + d.down)).1), .int ((gH p d c side (caseEnd p c + d.across + d.down)).2)]) (AF_hoverR (lV p d c side) _ _)) ?_
     refine qrun 2 ?_
     refine AL_inline 56 [pathA ((gH p d c side (caseEnd p c + d.across + d.down)).1), .int ((gH p d c side (caseEnd p c + d.across + d.down)).2), .ptr 9 (0), .ptr 8 (0)] 37 rfl (by kernel_rfl) (run_inlV (.tmp 140) 56 #[(.tmp 145), (.tmp 146)] #[41, 32] (by kernel_rfl) [.ptr 9 (0), .ptr 8 (0)] (by kernel_rfl) (fun _ _ => by kernel_rfl) _ (by kernel_rfl)) Tryz.func56 rfl Tryz.ntmps56 (by kernel_rfl) fun _ hD26 => ?_
     refine AC_block ?_
     refine AC_seq_list ?_
     refine qrun 3 ?_
     refine qb (!decide ((gA p d c side).2 = 0)) ?_
     refine qrun 1 ?_
     refine qend [0, 1, 2, 3, 18] ?_
     refine qT (nf hx12) ?_
     refine AC_skip ?_
     refine ⟨.inr rfl, .lit (.tuple #[]), (resI_none Tryz.results56).castI (by kernel_rfl), ?_⟩
     refine qend1 [19, 20] ?_
     refine AC_seq ?_
     refine AC_seq_list ?_
     refine qrun 3 ?_
     refine qb (!decide ((gA p d c side).2 = 0)) ?_
     refine qend [19, 20, 151] ?_
     refine qT (nf hx12) ?_
     refine qsdraw [] [8, 9] 10 trivial ?_
     refine AC_ret ?_
     exact ⟨.inl rfl, (resOk2 Tryz.results14 (resV_tmp (x := .lit (.slice none 0 0)) (by kernel_rfl) (by kernel_rfl)) (resV_tmp (x := .int ((gA p d c side).2)) (by kernel_rfl) (by kernel_rfl))).cast (show (.lit _ : AV) = _ by unfold wayR; rw [if_neg hx2d]; simp only [wayT, stepL, resW, hx12d, hx25d, if_true, if_false, Option.getD_some, Option.getD_none, reduceIte])⟩
    ·
     have hx25d := of_decide_eq_false hx25
     refine qF hx25 ?_
     refine AC_skip ?_
     refine AC_seq ?_
     refine AC_seq_list ?_
     refine qrun 3 ?_
     refine qb (!decide ((gA p d c side).2 = 0)) ?_
     refine qend [19, 20, 151] ?_
     refine qT (nf hx12) ?_
     refine qsdraw [] [8, 9] 10 trivial ?_
     refine AC_ret ?_
     exact ⟨.inl rfl, (resOk2 Tryz.results14 (resV_tmp (x := .lit (.slice none 0 0)) (by kernel_rfl) (by kernel_rfl)) (resV_tmp (x := .int ((gA p d c side).2)) (by kernel_rfl) (by kernel_rfl))).cast (show (.lit _ : AV) = _ by unfold wayR; rw [if_neg hx2d]; simp only [wayT, stepL, resW, hx12d, hx25d, if_true, if_false, Option.getD_some, Option.getD_none, reduceIte])⟩
end Go.Proofs.YtkcnbaeoahoglaaGreat
namespace Go.Proofs.YtkcnbaeoahoglaaGreat
open Go.RowKit
def exM0 : List Mv := [⟨⟨0, 0, 1000⟩, 0, 1000, 0⟩, ⟨⟨1000, 0, 1000⟩, 0, 1000, 0⟩]
def exM1 : List Mv := [⟨⟨0, 0, 1000⟩, 0, 0, 0⟩, ⟨⟨1000, 0, 1000⟩, 0, 0, 0⟩]
def exP : Pr := ⟨[⟨#[97]⟩, ⟨#[98]⟩], [⟨0, 0, 0⟩, ⟨1000, 0, 0⟩], [⟨⟨#[117, 112]⟩, 2000, exM0⟩, ⟨⟨#[115, 116, 97, 121]⟩, 2000, exM1⟩]⟩
def exD : De := ⟨[⟨0, 0, 0⟩, ⟨0, 300, 0⟩], 800, 1500, 0⟩
theorem AF_example : AF Tryz.prog 24 [] (.tup [progA exP, descA exD]) := by
 refine AF_of ⟨[], [], 0, 32⟩ Tryz.func24 rfl 32 Tryz.ntmps24 (by kernel_rfl) (by kernel_rfl) fun B D0 hA0 => ?_
 refine qreg 2 [0, 1] ?_
 refine AC_seq_list ?_
 refine qopn (.lit (.agg #[.int .i64 (0), .int .i64 (0), .int .i64 (0)])) (qbuild_struct 55 #[] _ Tryz.zeroValue55 Tryz.underlying55 #[(0, 1), (1, 1), (2, 1)] [.int (0), .int (0), .int (0)]) ?_
 refine qopn (.lit (.agg #[.int .i64 (1000), .int .i64 (0), .int .i64 (0)])) (qbuild_struct 55 #[(0, (.const (.int .i64 (1000))))] _ Tryz.zeroValue55 Tryz.underlying55 #[(0, 1), (1, 1), (2, 1)] [.int (1000), .int (0), .int (0)]) ?_
 refine qrun 4 ?_
 refine qend [0, 1, 2, 3] ?_
 refine AC_seq_list ?_
 refine qopn (.lit (.agg #[.int .i64 (0), .int .i64 (0), .int .i64 (1000)])) (qbuild_struct 55 #[(2, (.const (.int .i64 (1000))))] _ Tryz.zeroValue55 Tryz.underlying55 #[(0, 1), (1, 1), (2, 1)] [.int (0), .int (0), .int (1000)]) ?_
 refine qopn (.lit (.agg #[.int .i64 (0), .int .i64 (0), .int .i64 (1000), .int .i64 (0), .int .i64 (1000), .int .i64 (0)])) (qbuild_struct 57 #[(0, (.tmp 8)), (2, (.const (.int .i64 (1000))))] _ Tryz.zeroValue57 Tryz.underlying57 #[(0, 3), (3, 1), (4, 1), (5, 1)] [.int (0), .int (0), .int (1000), .int (0), .int (1000), .int (0)]) ?_
 refine qopn (.lit (.agg #[.int .i64 (1000), .int .i64 (0), .int .i64 (1000)])) (qbuild_struct 55 #[(0, (.const (.int .i64 (1000)))), (2, (.const (.int .i64 (1000))))] _ Tryz.zeroValue55 Tryz.underlying55 #[(0, 1), (1, 1), (2, 1)] [.int (1000), .int (0), .int (1000)]) ?_
 refine qopn (.lit (.agg #[.int .i64 (1000), .int .i64 (0), .int .i64 (1000), .int .i64 (0), .int .i64 (1000), .int .i64 (0)])) (qbuild_struct 57 #[(0, (.tmp 10)), (2, (.const (.int .i64 (1000))))] _ Tryz.zeroValue57 Tryz.underlying57 #[(0, 3), (3, 1), (4, 1), (5, 1)] [.int (1000), .int (0), .int (1000), .int (0), .int (1000), .int (0)]) ?_
 refine qop (.osl 4 6 (2)) (.new 4 (.vec 57 6 (2) (fun xi => mvA (exM0.getD xi Mv.none)))) (qbuildSlice 58 2 #[(0, (.tmp 9)), (1, (.tmp 11))] Tryz.underlying58 6 Tryz.sizeOf57 _ Tryz.zeroValue57 4 [.int (0), .int (0), .int (1000), .int (0), .int (1000), .int (0), .int (1000), .int (0), .int (1000), .int (0), .int (1000), .int (0)] (fun xi => mvA (exM0.getD xi Mv.none))) ?_
 refine qrun 1 ?_
 refine qend [0, 1, 2, 3, 4] ?_
 refine AC_freezeS 4 [4] 57 6 (2) (fun xi => mvA (exM0.getD xi Mv.none)) (by kernel_rfl) (by kernel_rfl) (fun i _ j hj => match j, hj with | 0, _ => rfl | 1, _ => rfl | 2, _ => rfl | 3, _ => rfl | 4, _ => rfl | 5, _ => rfl | _ + 6, h => absurd h (by omega)) ?_
 refine AC_seq_list ?_
 refine qop (.osl 5 1 (2)) (.new 5 (.vec 9 1 (2) (fun xi => .lit (.string (exP.names.getD xi ByteArray.empty))))) (qbuildSlice 22 2 #[(0, (.const (.string ⟨#[97]⟩))), (1, (.const (.string ⟨#[98]⟩)))] Tryz.underlying22 1 Tryz.sizeOf9 _ Tryz.zeroValue9 5 [.lit (.string ⟨#[97]⟩), .lit (.string ⟨#[98]⟩)] (fun xi => .lit (.string (exP.names.getD xi ByteArray.empty)))) ?_
 refine qrun 2 ?_
 refine qop (.osl 6 3 (2)) (.new 6 (.vec 55 3 (2) (fun xi => vecA (exP.homes.getD xi V3.zero)))) (qbuildSlice 23 2 #[(0, (.tmp 14)), (1, (.tmp 15))] Tryz.underlying23 3 Tryz.sizeOf55 _ Tryz.zeroValue55 6 [.int (0), .int (0), .int (0), .int (1000), .int (0), .int (0)] (fun xi => vecA (exP.homes.getD xi V3.zero))) ?_
 refine qrun 1 ?_
 refine qopn (.agg [.lit (.string ⟨#[117, 112]⟩), .int (2000), .sl 6 (2) (fun xi => mvA (exM0.getD xi Mv.none))]) (qbuild_struct 60 #[(0, (.const (.string ⟨#[117, 112]⟩))), (1, (.const (.int .i64 (2000)))), (2, (.tmp 17))] _ Tryz.zeroValue60 Tryz.underlying60 #[(0, 1), (1, 1), (2, 1)] [.lit (.string ⟨#[117, 112]⟩), .int (2000), .sl 6 (2) (fun xi => mvA (exM0.getD xi Mv.none))]) ?_
 refine qopn (.lit (.agg #[.int .i64 (0), .int .i64 (0), .int .i64 (1000)])) (qbuild_struct 55 #[(2, (.const (.int .i64 (1000))))] _ Tryz.zeroValue55 Tryz.underlying55 #[(0, 1), (1, 1), (2, 1)] [.int (0), .int (0), .int (1000)]) ?_
 refine qopn (.lit (.agg #[.int .i64 (0), .int .i64 (0), .int .i64 (1000), .int .i64 (0), .int .i64 (0), .int .i64 (0)])) (qbuild_struct 57 #[(0, (.tmp 19))] _ Tryz.zeroValue57 Tryz.underlying57 #[(0, 3), (3, 1), (4, 1), (5, 1)] [.int (0), .int (0), .int (1000), .int (0), .int (0), .int (0)]) ?_
 refine qopn (.lit (.agg #[.int .i64 (1000), .int .i64 (0), .int .i64 (1000)])) (qbuild_struct 55 #[(0, (.const (.int .i64 (1000)))), (2, (.const (.int .i64 (1000))))] _ Tryz.zeroValue55 Tryz.underlying55 #[(0, 1), (1, 1), (2, 1)] [.int (1000), .int (0), .int (1000)]) ?_
 refine qopn (.lit (.agg #[.int .i64 (1000), .int .i64 (0), .int .i64 (1000), .int .i64 (0), .int .i64 (0), .int .i64 (0)])) (qbuild_struct 57 #[(0, (.tmp 21))] _ Tryz.zeroValue57 Tryz.underlying57 #[(0, 3), (3, 1), (4, 1), (5, 1)] [.int (1000), .int (0), .int (1000), .int (0), .int (0), .int (0)]) ?_
 refine qop (.osl 7 6 (2)) (.new 7 (.vec 57 6 (2) (fun xi => mvA (exM1.getD xi Mv.none)))) (qbuildSlice 58 2 #[(0, (.tmp 20)), (1, (.tmp 22))] Tryz.underlying58 6 Tryz.sizeOf57 _ Tryz.zeroValue57 7 [.int (0), .int (0), .int (1000), .int (0), .int (0), .int (0), .int (1000), .int (0), .int (1000), .int (0), .int (0), .int (0)] (fun xi => mvA (exM1.getD xi Mv.none))) ?_
 refine AL_freezeS 7 [23] 57 6 (2) (fun xi => mvA (exM1.getD xi Mv.none)) (by kernel_rfl) (by kernel_rfl) (fun i _ j hj => match j, hj with | 0, _ => rfl | 1, _ => rfl | 2, _ => rfl | 3, _ => rfl | 4, _ => rfl | 5, _ => rfl | _ + 6, h => absurd h (by omega)) ?_
 refine qopn (.agg [.lit (.string ⟨#[115, 116, 97, 121]⟩), .int (2000), .sl 6 (2) (fun xi => mvA (exM1.getD xi Mv.none))]) (qbuild_struct 60 #[(0, (.const (.string ⟨#[115, 116, 97, 121]⟩))), (1, (.const (.int .i64 (2000)))), (2, (.tmp 23))] _ Tryz.zeroValue60 Tryz.underlying60 #[(0, 1), (1, 1), (2, 1)] [.lit (.string ⟨#[115, 116, 97, 121]⟩), .int (2000), .sl 6 (2) (fun xi => mvA (exM1.getD xi Mv.none))]) ?_
 refine qop (.osl 8 3 (2)) (.new 8 (.vec 60 3 (2) (fun xi => actA (exP.acts.getD xi Ac.none)))) (qbuildSlice 24 2 #[(0, (.tmp 18)), (1, (.tmp 24))] Tryz.underlying24 3 Tryz.sizeOf60 _ Tryz.zeroValue60 8 [.lit (.string ⟨#[117, 112]⟩), .int (2000), .sl 6 (2) (fun xi => mvA (exM0.getD xi Mv.none)), .lit (.string ⟨#[115, 116, 97, 121]⟩), .int (2000), .sl 6 (2) (fun xi => mvA (exM1.getD xi Mv.none))] (fun xi => actA (exP.acts.getD xi Ac.none))) ?_
 refine qopn (.agg [.osl 5 1 (2), .osl 6 3 (2), .osl 8 3 (2)]) (qbuild_struct 26 #[(0, (.tmp 13)), (1, (.tmp 16)), (2, (.tmp 25))] _ Tryz.zeroValue26 Tryz.underlying26 #[(0, 1), (1, 1), (2, 1)] [.osl 5 1 (2), .osl 6 3 (2), .osl 8 3 (2)]) ?_
 refine qrun 2 ?_
 refine qend [0, 1, 5] ?_
 refine AC_freezeC 5 9 0 9 1 (2) (fun xi => .lit (.string (exP.names.getD xi ByteArray.empty))) 26 [.osl 5 1 (2), .osl 6 3 (2), .osl 8 3 (2)] [.sl 1 (2) (fun xi => .lit (.string (exP.names.getD xi ByteArray.empty))), .osl 6 3 (2), .osl 8 3 (2)] (by kernel_rfl) (by kernel_rfl) (by kernel_rfl) (by kernel_rfl) (by kernel_rfl) (fun i _ j hj => by obtain rfl : j = 0 := (by omega); rfl) ?_
 refine AC_freezeC 6 9 1 55 3 (2) (fun xi => vecA (exP.homes.getD xi V3.zero)) 26 [.sl 1 (2) (fun xi => .lit (.string (exP.names.getD xi ByteArray.empty))), .osl 6 3 (2), .osl 8 3 (2)] [.sl 1 (2) (fun xi => .lit (.string (exP.names.getD xi ByteArray.empty))), .sl 3 (2) (fun xi => vecA (exP.homes.getD xi V3.zero)), .osl 8 3 (2)] (by kernel_rfl) (by kernel_rfl) (by kernel_rfl) (by kernel_rfl) (by kernel_rfl) (fun i _ j hj => match j, hj with | 0, _ => rfl | 1, _ => rfl | 2, _ => rfl | _ + 3, h => absurd h (by omega)) ?_
 refine AC_freezeC 8 9 2 60 3 (2) (fun xi => actA (exP.acts.getD xi Ac.none)) 26 [.sl 1 (2) (fun xi => .lit (.string (exP.names.getD xi ByteArray.empty))), .sl 3 (2) (fun xi => vecA (exP.homes.getD xi V3.zero)), .osl 8 3 (2)] [.sl 1 (2) (fun xi => .lit (.string (exP.names.getD xi ByteArray.empty))), .sl 3 (2) (fun xi => vecA (exP.homes.getD xi V3.zero)), .sl 3 (2) (fun xi => actA (exP.acts.getD xi Ac.none))] (by kernel_rfl) (by kernel_rfl) (by kernel_rfl) (by kernel_rfl) (by kernel_rfl) (fun i _ j hj => match j, hj with | 0, _ => rfl | 1, _ => rfl | 2, _ => rfl | _ + 3, h => absurd h (by omega)) ?_
 refine AC_seq_list ?_
 refine qrun 1 ?_
 refine qopn (.lit (.agg #[.int .i64 (0), .int .i64 (0), .int .i64 (0)])) (qbuild_struct 55 #[] _ Tryz.zeroValue55 Tryz.underlying55 #[(0, 1), (1, 1), (2, 1)] [.int (0), .int (0), .int (0)]) ?_
 refine qopn (.lit (.agg #[.int .i64 (0), .int .i64 (300), .int .i64 (0)])) (qbuild_struct 55 #[(1, (.const (.int .i64 (300))))] _ Tryz.zeroValue55 Tryz.underlying55 #[(0, 1), (1, 1), (2, 1)] [.int (0), .int (300), .int (0)]) ?_
 refine qop (.osl 10 3 (2)) (.new 10 (.vec 55 3 (2) (fun xi => vecA (exD.sides.getD xi V3.zero)))) (qbuildSlice 23 2 #[(0, (.tmp 28)), (1, (.tmp 29))] Tryz.underlying23 3 Tryz.sizeOf55 _ Tryz.zeroValue55 10 [.int (0), .int (0), .int (0), .int (0), .int (300), .int (0)] (fun xi => vecA (exD.sides.getD xi V3.zero))) ?_
 refine qopn (.agg [.osl 10 3 (2), .int (800), .int (1500), .int (0)]) (qbuild_struct 28 #[(0, (.tmp 30)), (1, (.const (.int .i64 (800)))), (2, (.const (.int .i64 (1500))))] _ Tryz.zeroValue28 Tryz.underlying28 #[(0, 1), (1, 1), (2, 1), (3, 1)] [.osl 10 3 (2), .int (800), .int (1500), .int (0)]) ?_
 refine qrun 2 ?_
 refine qend [0, 1] ?_
 refine AC_freezeCC 10 1 0 55 3 (2) (fun xi => vecA (exD.sides.getD xi V3.zero)) 28 [.osl 10 3 (2), .int (800), .int (1500), .int (0)] [.slc 3 (2) (fun xi => vecA (exD.sides.getD xi V3.zero)), .int (800), .int (1500), .int (0)] (by kernel_rfl) (by kernel_rfl) (by kernel_rfl) (by kernel_rfl) (by kernel_rfl) (fun i _ j hj => match j, hj with | 0, _ => rfl | 1, _ => rfl | 2, _ => rfl | _ + 3, h => absurd h (by omega)) ?_
 refine AC_ret ?_
 exact ⟨.inl rfl, (resOk2 Tryz.results24 (resV_cell (x := .agg [.sl 1 (2) (fun xi => .lit (.string (exP.names.getD xi ByteArray.empty))), .sl 3 (2) (fun xi => vecA (exP.homes.getD xi V3.zero)), .sl 3 (2) (fun xi => actA (exP.acts.getD xi Ac.none))]) 0 Tryz.isAgg26 3 Tryz.sizeOf26 0 [.sl 1 (2) (fun xi => .lit (.string (exP.names.getD xi ByteArray.empty))), .sl 3 (2) (fun xi => vecA (exP.homes.getD xi V3.zero)), .sl 3 (2) (fun xi => actA (exP.acts.getD xi Ac.none))] (by kernel_rfl) 26 (by kernel_rfl) (Nat.le_of_ble_eq_true (by kernel_rfl)) (by kernel_rfl) (by kernel_rfl)) (resV_cell (x := .agg [.slc 3 (2) (fun xi => vecA (exD.sides.getD xi V3.zero)), .int (800), .int (1500), .int (0)]) 1 Tryz.isAgg28 4 Tryz.sizeOf28 0 [.slc 3 (2) (fun xi => vecA (exD.sides.getD xi V3.zero)), .int (800), .int (1500), .int (0)] (by kernel_rfl) 28 (by kernel_rfl) (Nat.le_of_ble_eq_true (by kernel_rfl)) (by kernel_rfl) (by kernel_rfl))).cast (by kernel_rfl)⟩
theorem exP_in : PrIn exP := ⟨by decide, by decide, by decide, by decide, by decide⟩
theorem exD_in : DeIn exD := ⟨by decide, ⟨by decide, by decide⟩, ⟨by decide, by decide⟩, ⟨by decide, by decide⟩⟩
theorem exP_valid : validB exP = true := by kernel_rfl
theorem exD_ok : DescOk exD := ⟨by decide, fun i hi => by
  have : i < 2 := hi
  match i, this with
  | 0, _ => exact ⟨by decide, rfl, fun j hj => absurd hj (Nat.not_lt_zero j)⟩
  | 1, _ => exact ⟨by decide, rfl, fun j hj => by obtain rfl : j = 0 := by omega
                                                  decide⟩⟩
theorem exHor : horP exP exD := ⟨exP_valid, exD_ok⟩
theorem exT : horT exP exD = 6300 := by decide
theorem exCase (k : Int) (h : k = 0 ∨ k = 1) : CaseOk exP ⟨0, k⟩ := ⟨exP_valid, by show (0 : Int) ≤ 0; decide, by show (0 : Int) < 2; decide, by show (0 : Int) ≤ k; omega, by show k < (2 : Int); omega⟩
theorem sg_leg {a b : V3} {f t k : Int} (h : flyB a b f t = true) : SgIn (legS a b f t k) := by
 have := (flyR_in a b f t k).2 0
 unfold flyR at this
 rw [if_pos h] at this
 exact this
theorem fly_yes {a b : V3} {f t k : Int} (h : flyB a b f t = true) : flyR a b f t k = ([legS a b f t k], 0) := by unfold flyR; rw [if_pos h]
abbrev exL1 : Sg := legS ⟨0, 0, 1000⟩ ⟨0, 300, 1000⟩ 2000 2800 2
abbrev exL2 : Sg := legS ⟨0, 300, 1000⟩ ⟨0, 300, 0⟩ 2800 4300 2
abbrev exL3 : Sg := legS ⟨0, 300, 0⟩ ⟨0, 300, 0⟩ 4300 6300 0
abbrev exL4 : Sg := legS ⟨0, 0, 1000⟩ ⟨0, 0, 0⟩ 4000 5500 2
abbrev exL5 : Sg := legS ⟨0, 0, 0⟩ ⟨0, 0, 0⟩ 5500 6300 0
def exA : List Sg := [exL1, exL2, exL3]
def exB : List Sg := [exL4, exL5]
theorem exA_in : PathIn exA := ⟨by decide, fun i => match i with
 | 0 => sg_leg (by decide)
 | 1 => sg_leg (by decide)
 | 2 => sg_leg (by decide)
 | i + 3 => PathIn.nil.2 i⟩
theorem ok1 : PathOk [exL1] := by decide +kernel
theorem ok2 : PathOk [exL2] := by decide +kernel
theorem ok3 : PathOk [exL3] := by decide +kernel
theorem ok4 : PathOk [exL4] := by decide +kernel
theorem ok5 : PathOk [exL5] := by decide +kernel
theorem ok12 : PathOk [exL1, exL2] := by decide +kernel
theorem exA_ok : PathOk exA := by decide +kernel
theorem meet12 : Meets exL1 exL2 := by decide +kernel
theorem meet23 : Meets exL2 exL3 := by decide +kernel
theorem meet45 : Meets exL4 exL5 := by decide +kernel
theorem app12 : appR [exL1] [exL2] = ([exL1, exL2], 0) := app_ok (bP_true ok1) (bP_true ok2) (bP_true meet12) (by decide)
theorem app23 : appR [exL1, exL2] [exL3] = (exA, 0) := app_ok (bP_true ok12) (bP_true ok3) (bP_true meet23) (by decide)
theorem app45 : appR [exL4] [exL5] = (exB, 0) := app_ok (bP_true ok4) (bP_true ok5) (bP_true meet45) (by decide)
theorem exWayA : wayR (casePt exP ⟨0, 0⟩) (sideV exD 1) exD.ground exD.across exD.down (caseEnd exP ⟨0, 0⟩) (horT exP exD) = (some exA, 0) := by
 have e1 : casePt exP ⟨0, 0⟩ = ⟨0, 0, 1000⟩ := rfl
 have e2 : sideV exD 1 = ⟨0, 300, 0⟩ := rfl
 have e3 : caseEnd exP ⟨0, 0⟩ = 2000 := by decide
 rw [e1, e2, e3, exT]
 unfold wayR
 rw [if_neg (by decide)]
 have f1 : flyR ⟨0, 0, 1000⟩ (offV ⟨0, 0, 1000⟩ ⟨0, 300, 0⟩) 2000 (2000 + exD.across) 2 = ([exL1], 0) := fly_yes (a := ⟨0, 0, 1000⟩) (b := ⟨0, 300, 1000⟩) (t := 2800) (by decide)
 have f2 : flyR (offV ⟨0, 0, 1000⟩ ⟨0, 300, 0⟩) (lowV ⟨0, 0, 1000⟩ ⟨0, 300, 0⟩ exD.ground) (2000 + exD.across) (2000 + exD.across + exD.down) 2 = ([exL2], 0) := fly_yes (a := ⟨0, 300, 1000⟩) (b := ⟨0, 300, 0⟩) (f := 2800) (t := 4300) (by decide)
 have f3 : flyR (lowV ⟨0, 0, 1000⟩ ⟨0, 300, 0⟩ exD.ground) (lowV ⟨0, 0, 1000⟩ ⟨0, 300, 0⟩ exD.ground) (2000 + exD.across + exD.down) 6300 0 = ([exL3], 0) := fly_yes (a := ⟨0, 300, 0⟩) (b := ⟨0, 300, 0⟩) (f := 4300) (by decide)
 unfold wayT
 rw [if_pos (by decide), f1, f2, f3]
 simp only [stepL, app12, app23, if_true, reduceIte]
theorem exWayB : wayR (casePt exP ⟨0, 1⟩) (sideV exD 0) exD.ground exD.across exD.down (caseEnd exP ⟨0, 1⟩) (horT exP exD) = (some exB, 0) := by
 have e1 : casePt exP ⟨0, 1⟩ = ⟨0, 0, 1000⟩ := rfl
 have e2 : sideV exD 0 = ⟨0, 0, 0⟩ := rfl
 have e3 : caseEnd exP ⟨0, 1⟩ = 4000 := by decide
 rw [e1, e2, e3, exT]
 unfold wayR
 rw [if_pos (by decide)]
 have f2 : flyR (offV ⟨0, 0, 1000⟩ ⟨0, 0, 0⟩) (lowV ⟨0, 0, 1000⟩ ⟨0, 0, 0⟩ exD.ground) 4000 (4000 + exD.down) 2 = ([exL4], 0) := fly_yes (a := ⟨0, 0, 1000⟩) (b := ⟨0, 0, 0⟩) (t := 5500) (by decide)
 have f3 : flyR (lowV ⟨0, 0, 1000⟩ ⟨0, 0, 0⟩ exD.ground) (lowV ⟨0, 0, 1000⟩ ⟨0, 0, 0⟩ exD.ground) (4000 + exD.down) 6300 0 = ([exL5], 0) := fly_yes (a := ⟨0, 0, 0⟩) (b := ⟨0, 0, 0⟩) (f := 5500) (by decide)
 unfold wayT
 rw [if_pos (by decide), f2, f3]
 simp only [stepL, app45, if_true, reduceIte]
theorem wayA : AF Tryz.prog 14 [progA exP, descA exD, .lit (.agg #[.int .i64 0, .int .i64 0]), .int 1] (.tup [pathA exA, .int 0]) := by
 have h := AF_way_ok exP exD ⟨0, 0⟩ 1 exP_in exD_in ⟨in64_0, in64_0⟩ in64_1 (exCase 0 (.inl rfl)) exD_ok ⟨by rw [exT]; decide, by decide, by decide, by decide, by decide⟩
 rw [exWayA] at h
 exact h
theorem wayB : AF Tryz.prog 14 [progA exP, descA exD, .lit (.agg #[.int .i64 0, .int .i64 1]), .int 0] (.tup [pathA exB, .int 0]) := by
 have h := AF_way_ok exP exD ⟨0, 1⟩ 0 exP_in exD_in ⟨in64_0, in64_1⟩ in64_0 (exCase 1 (.inr rfl)) exD_ok ⟨by rw [exT]; decide, by decide, by decide, by decide, by decide⟩
 rw [exWayB] at h
 exact h
theorem at1 : AF Tryz.prog 25 [pathA exA, .int 2800] (.lit (.tuple #[.agg #[.int .i64 0, .int .i64 300, .int .i64 1000], .int .i64 0])) := by
 have e : rdL (exactL exA 2800 0) = ⟨0, 300, 1000⟩ := by decide +kernel
 have h := AF_at exA exA_in exA_ok 2800 ⟨by decide, by decide⟩ 0 (by decide) (fun j hj => absurd hj (Nat.not_lt_zero j)) (fun j _ hj => by
  have : j < 3 := hj
  match j, this with
  | 0, _ => decide
  | 1, _ => decide
  | 2, _ => decide) (by decide) (by decide +kernel) (by rw [e]; exact ⟨by decide, by decide⟩) (by rw [e]; exact ⟨by decide, by decide⟩) (by rw [e]; exact ⟨by decide, by decide⟩)
 rw [e] at h
 exact h
theorem at2 : AF Tryz.prog 25 [pathA exA, .int 4300] (.lit (.tuple #[.agg #[.int .i64 0, .int .i64 300, .int .i64 0], .int .i64 0])) := by
 have e : rdL (exactL exA 4300 1) = ⟨0, 300, 0⟩ := by decide +kernel
 have h := AF_at exA exA_in exA_ok 4300 ⟨by decide, by decide⟩ 1 (by decide) (fun j hj => by
  obtain rfl : j = 0 := by omega
  decide) (fun j hj1 hj => by
  have : j < 3 := hj
  match j, this with
  | 0, _ => omega
  | 1, _ => decide
  | 2, _ => decide) (by decide) (by decide +kernel) (by rw [e]; exact ⟨by decide, by decide⟩) (by rw [e]; exact ⟨by decide, by decide⟩) (by rw [e]; exact ⟨by decide, by decide⟩)
 rw [e] at h
 exact h
theorem AF_known42 : AF Tryz.prog 8 [] (.bool true) := by
 have hAl : exA.length = 3 := rfl
 have hBl : exB.length = 2 := rfl
 refine AF_of ⟨[], [], 0, 136⟩ Tryz.func8 rfl 136 Tryz.ntmps8 (by kernel_rfl) (by kernel_rfl) fun B D0 hA0 => ?_
 refine qreg 1 [] ?_
 refine AC_seq_list ?_
 refine qcl (AF_example) ?_
 refine qrun 7 ?_
 refine qend [1, 2] ?_
 refine AC_seq_list ?_
 refine qrun 2 ?_
 refine qcl ((by have h := AF_horizon_ok exP exD exP_in exD_in exHor (by decide) (by rw [exT]; decide); rw [exT] at h; exact h)) ?_
 refine qrun 1 ?_
 refine qi (6300) ?_
 refine qi (0) ?_
 refine qrun 2 ?_
 refine qend [1, 2, 3, 4] ?_
 refine AC_seq_list ?_
 refine qrun 2 ?_
 refine qopn (.lit (.agg #[.int .i64 (0), .int .i64 (0)])) (qbuild_struct 39 #[] _ Tryz.zeroValue39 Tryz.underlying39 #[(0, 1), (1, 1)] [.int (0), .int (0)]) ?_
 refine qcl (wayA) ?_
 refine qrun 5 ?_
 refine qend [1, 2, 3, 4, 5, 6] ?_
 refine AC_seq_list ?_
 refine qrun 2 ?_
 refine qopn (.lit (.agg #[.int .i64 (0), .int .i64 (1)])) (qbuild_struct 39 #[(1, (.const (.int .i64 (1))))] _ Tryz.zeroValue39 Tryz.underlying39 #[(0, 1), (1, 1)] [.int (0), .int (1)]) ?_
 refine qcl (wayB) ?_
 refine qrun 5 ?_
 refine qend [3, 4, 5, 6, 7, 8] ?_
 refine AC_seq ?_
 refine AC_seq_list ?_
 refine qrun 1 ?_
 refine qb false ?_
 refine qrun 2 ?_
 refine qbg false ?_
 refine qrun 3 ?_
 refine qbg false ?_
 refine qrun 3 ?_
 refine qbg false ?_
 refine qrun 3 ?_
 refine qopg (.int ((((exA).length : Nat) : Int))) .none (qlen (.tmp 52) 41 #[41] Tryz.underlying41 ((exA).length) (.inl ⟨6, (fun i0 => segA (((exA).getD i0 Sg.none))), by kernel_rfl⟩)) ?_
 refine qopg (.bool false) .none (qlit (v := .bool (!decide ((((exA).length : Nat) : Int) = 3))) (v' := .bool false) (congrArg (fun b => Value.bool (!b)) (decide_eq_true (by decide))) _) ?_
 refine qrun 3 ?_
 refine qopg (.int ((((exB).length : Nat) : Int))) .none (qlen (.tmp 57) 41 #[41] Tryz.underlying41 ((exB).length) (.inl ⟨6, (fun i0 => segA (((exB).getD i0 Sg.none))), by kernel_rfl⟩)) ?_
 refine qopg (.bool false) .none (qlit (v := .bool (!decide ((((exB).length : Nat) : Int) = 2))) (v' := .bool false) (congrArg (fun b => Value.bool (!b)) (decide_eq_true (by decide))) _) ?_
 refine qrun 3 ?_
 refine qopg (.elt 6 (fun q => AV.cell (segA (((exA).getD 0 Sg.none))) q)) .none (qindex_sl 41 (.tmp 62) (.const (.int .i64 (0))) Tryz.underlying41 6 ((exA).length) (0) (fun i0 => segA (((exA).getD i0 Sg.none))) (0) Tryz.sizeOf67) ?_
 refine qrun 2 ?_
 refine qopg (.bool false) .none (qlit (v := .bool (!decide (((exA).getD 0 Sg.none).f = 2000))) (v' := .bool false) (congrArg (fun b => Value.bool (!b)) (decide_eq_true (by decide))) _) ?_
 refine qrun 3 ?_
 refine qopg (.elt 6 (fun q => AV.cell (segA (((exA).getD 0 Sg.none))) q)) .none (qindex_sl 41 (.tmp 69) (.const (.int .i64 (0))) Tryz.underlying41 6 ((exA).length) (0) (fun i0 => segA (((exA).getD i0 Sg.none))) (0) Tryz.sizeOf67) ?_
 refine qrun 2 ?_
 refine qopg (.bool false) .none (qlit (v := .bool (!decide (((exA).getD 0 Sg.none).t = 2800))) (v' := .bool false) (congrArg (fun b => Value.bool (!b)) (decide_eq_true (by decide))) _) ?_
 refine qrun 3 ?_
 refine qopg (.elt 6 (fun q => AV.cell (segA (((exA).getD 1 Sg.none))) q)) .none (qindex_sl 41 (.tmp 76) (.const (.int .i64 (1))) Tryz.underlying41 6 ((exA).length) (1) (fun i0 => segA (((exA).getD i0 Sg.none))) (1) Tryz.sizeOf67) ?_
 refine qrun 2 ?_
 refine qopg (.bool false) .none (qlit (v := .bool (!decide (((exA).getD 1 Sg.none).t = 4300))) (v' := .bool false) (congrArg (fun b => Value.bool (!b)) (decide_eq_true (by decide))) _) ?_
 refine qrun 3 ?_
 refine qopg (.elt 6 (fun q => AV.cell (segA (((exA).getD 2 Sg.none))) q)) .none (qindex_sl 41 (.tmp 83) (.const (.int .i64 (2))) Tryz.underlying41 6 ((exA).length) (2) (fun i0 => segA (((exA).getD i0 Sg.none))) (2) Tryz.sizeOf67) ?_
 refine qrun 2 ?_
 refine qopg (.bool false) .none (qlit (v := .bool (!decide (((exA).getD 2 Sg.none).t = 6300))) (v' := .bool false) (congrArg (fun b => Value.bool (!b)) (decide_eq_true (by decide))) _) ?_
 refine qrun 3 ?_
 refine qopg (.elt 6 (fun q => AV.cell (segA (((exB).getD 0 Sg.none))) q)) .none (qindex_sl 41 (.tmp 90) (.const (.int .i64 (0))) Tryz.underlying41 6 ((exB).length) (0) (fun i0 => segA (((exB).getD i0 Sg.none))) (0) Tryz.sizeOf67) ?_
 refine qrun 2 ?_
 refine qopg (.bool false) .none (qlit (v := .bool (!decide (((exB).getD 0 Sg.none).f = 4000))) (v' := .bool false) (congrArg (fun b => Value.bool (!b)) (decide_eq_true (by decide))) _) ?_
 refine qrun 3 ?_
 refine qopg (.elt 6 (fun q => AV.cell (segA (((exB).getD 0 Sg.none))) q)) .none (qindex_sl 41 (.tmp 97) (.const (.int .i64 (0))) Tryz.underlying41 6 ((exB).length) (0) (fun i0 => segA (((exB).getD i0 Sg.none))) (0) Tryz.sizeOf67) ?_
 refine qrun 2 ?_
 refine qopg (.bool false) .none (qlit (v := .bool (!decide (((exB).getD 0 Sg.none).t = 5500))) (v' := .bool false) (congrArg (fun b => Value.bool (!b)) (decide_eq_true (by decide))) _) ?_
 refine qrun 3 ?_
 refine qopg (.elt 6 (fun q => AV.cell (segA (((exB).getD 1 Sg.none))) q)) .none (qindex_sl 41 (.tmp 104) (.const (.int .i64 (1))) Tryz.underlying41 6 ((exB).length) (1) (fun i0 => segA (((exB).getD i0 Sg.none))) (1) Tryz.sizeOf67) ?_
 refine qrun 2 ?_
 refine qopg (.bool false) .none (qlit (v := .bool (!decide (((exB).getD 1 Sg.none).t = 6300))) (v' := .bool false) (congrArg (fun b => Value.bool (!b)) (decide_eq_true (by decide))) _) ?_
 refine qrun 1 ?_
 refine qend [5, 109] ?_
 refine qCfalse ?_
 refine AC_skip ?_
 refine AC_seq_list ?_
 refine qrun 1 ?_
 refine qcl (at1) ?_
 refine qrun 1 ?_
 refine qopn (.lit (.agg #[.int .i64 (0), .int .i64 (300), .int .i64 (1000)])) (qlit (v := .agg #[.int .i64 (0), .int .i64 (300), .int .i64 (1000)]) (v' := .agg #[.int .i64 (0), .int .i64 (300), .int .i64 (1000)]) (rfl) _) ?_
 refine qi (0) ?_
 refine qrun 3 ?_
 refine qend [5, 9, 10] ?_
 refine AC_seq_list ?_
 refine qrun 1 ?_
 refine qcl (at2) ?_
 refine qrun 1 ?_
 refine qopn (.lit (.agg #[.int .i64 (0), .int .i64 (300), .int .i64 (0)])) (qlit (v := .agg #[.int .i64 (0), .int .i64 (300), .int .i64 (0)]) (v' := .agg #[.int .i64 (0), .int .i64 (300), .int .i64 (0)]) (rfl) _) ?_
 refine qi (0) ?_
 refine qrun 3 ?_
 refine qend [9, 10, 11, 12] ?_
 refine AC_seq_list ?_
 refine qrun 1 ?_
 refine qb true ?_
 refine qrun 2 ?_
 refine qbg true ?_
 refine qrun 3 ?_
 refine qopg (.lit (.agg #[.int .i64 (0), .int .i64 (300), .int .i64 (1000)])) .none (qbuild_struct 55 #[(1, (.const (.int .i64 (300)))), (2, (.const (.int .i64 (1000))))] _ Tryz.zeroValue55 Tryz.underlying55 #[(0, 1), (1, 1), (2, 1)] [.int (0), .int (300), .int (1000)]) ?_
 refine qopg (.bool true) .none (opS_cast_bool (opS_eql 55 55 (.tmp 127) (.tmp 128) (by kernel_rfl) _ _ (by kernel_rfl) (by kernel_rfl) (by kernel_rfl) (decide ((0 : Int) = 0 ∧ (300 : Int) = 300 ∧ (1000 : Int) = 1000)) (eqVec3 _ _ _ _ _ _)) (show (decide ((0 : Int) = 0 ∧ (300 : Int) = 300 ∧ (1000 : Int) = 1000) : Bool) = true from by decide)) ?_
 refine qrun 3 ?_
 refine qopg (.lit (.agg #[.int .i64 (0), .int .i64 (300), .int .i64 (0)])) .none (qbuild_struct 55 #[(1, (.const (.int .i64 (300))))] _ Tryz.zeroValue55 Tryz.underlying55 #[(0, 1), (1, 1), (2, 1)] [.int (0), .int (300), .int (0)]) ?_
 refine qopg (.bool true) .none (opS_cast_bool (opS_eql 55 55 (.tmp 132) (.tmp 133) (by kernel_rfl) _ _ (by kernel_rfl) (by kernel_rfl) (by kernel_rfl) (decide ((0 : Int) = 0 ∧ (300 : Int) = 300 ∧ (0 : Int) = 0)) (eqVec3 _ _ _ _ _ _)) (show (decide ((0 : Int) = 0 ∧ (300 : Int) = 300 ∧ (0 : Int) = 0) : Bool) = true from by decide)) ?_
 refine qrun 2 ?_
 refine qend [0] ?_
 refine AC_ret ?_
 exact ⟨.inl rfl, (resOk1 Tryz.results8 (resV_tmp (x := .bool true) (by kernel_rfl) (by kernel_rfl))).cast (by kernel_rfl)⟩
end Go.Proofs.YtkcnbaeoahoglaaGreat
namespace Go.Proofs.YtkcnbaeoahoglaaGreat
open Go.RowKit
theorem few_in {p : Pr} {a k : Int} (h : FewP p a k) (ha : a ≤ 1000) (hk : k ≤ 1000) (hl : ∀ a ∈ p.acts, In64 a.len) : PrIn p := by
 have hm : (1000000 : Nat) ≤ maxLen := by decide
 refine ⟨fun s hs => ?_, fun x hx => ?_, by have := h.2.2.1; omega, fun x hx => ?_, hl⟩
 ·
  obtain ⟨i, hi, rfl⟩ := List.getElem_of_mem hs
  have := h.2.2.2.1 i hi
  rw [List.getD_eq_getElem?_getD, List.getElem?_eq_getElem hi] at this
  simp at this
  omega
 ·
  obtain ⟨i, hi, rfl⟩ := List.getElem_of_mem hx
  have := (h.2.2.2.2 i hi).1
  rw [List.getD_eq_getElem?_getD, List.getElem?_eq_getElem hi] at this
  simp at this
  omega
 ·
  obtain ⟨i, hi, rfl⟩ := List.getElem_of_mem hx
  have := (h.2.2.2.2 i hi).2
  rw [List.getD_eq_getElem?_getD, List.getElem?_eq_getElem hi] at this
  simp at this
  omega
end Go.Proofs.YtkcnbaeoahoglaaGreat
