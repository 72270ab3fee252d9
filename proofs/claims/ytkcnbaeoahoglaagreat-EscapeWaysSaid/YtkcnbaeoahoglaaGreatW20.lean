/- Part 20 of the proof of EW.row_holds, joined by program: no condition beyond the row's own. -/
import Derived.Test.YtkcnbaeoahoglaaGreatW19
set_option maxRecDepth 100000
set_option maxHeartbeats 40000000
namespace Go.Proofs.YtkcnbaeoahoglaaGreat
open Go.RowKit
def endT (l : List Ac) : Nat → Int
 | 0 => 0
 | k + 1 => endT l k + (l.getD k Ac.none).len
theorem manyAt_all {p : Pr} {k : Nat} {t : Int} {m : List Int} : ∀ {i : Nat} {l : List Int}, manyAt p k t m i = some l → ∀ j, j < i → pathE p k t j = 0
 | 0, _, _, j, hj => absurd hj (Nat.not_lt_zero j)
 | i + 1, l, h, j, hj => by
  rw [manyAt] at h
  cases h1 : manyAt p k t m i with
  | none => rw [h1] at h; cases h
  | some l1 =>
   rw [h1] at h
   simp only at h
   split at h
   ·
    rename_i hc
    rcases Nat.lt_or_ge j i with hji | hji
    · exact manyAt_all h1 j hji
    ·
     have : j = i := by omega
     subst this
     exact hc.1
   · cases h
theorem upTo_all {p : Pr} : ∀ {k : Nat} {t : Int} {m : List Int}, upTo p k = some (t, m) → t = endT p.acts k ∧ 0 ≤ t ∧ t ≤ 3600000 ∧ ∀ j, j < k → (0 ≤ endT p.acts j ∧ endT p.acts j ≤ 3600000) ∧ 1 ≤ (p.acts.getD j Ac.none).len ∧ (p.acts.getD j Ac.none).moves.length = p.names.length ∧ ∀ i, i < p.names.length → pathE p j (endT p.acts j) i = 0
 | 0, t, m, h => by
  simp only [upTo, Option.some.injEq, Prod.mk.injEq] at h
  obtain ⟨rfl, _⟩ := h
  exact ⟨rfl, Int.le_refl _, by decide, fun j hj => absurd hj (Nat.not_lt_zero j)⟩
 | k + 1, t, m, h => by
  rw [upTo] at h
  cases h1 : upTo p k with
  | none => rw [h1] at h; cases h
  | some tm =>
   obtain ⟨t1, m1⟩ := tm
   rw [h1] at h
   simp only at h
   split at h
   ·
    rename_i hc
    cases h2 : manyAt p k t1 m1 p.names.length with
    | none => rw [h2] at h; cases h
    | some m2 =>
     rw [h2] at h
     simp only [Option.some.injEq, Prod.mk.injEq] at h
     obtain ⟨rfl, rfl⟩ := h
     obtain ⟨e1, e2, e3, e4⟩ := upTo_all h1
     refine ⟨by rw [endT, e1], by omega, by omega, fun j hj => ?_⟩
     rcases Nat.lt_or_ge j k with hjk | hjk
     · exact e4 j hjk
     ·
      have : j = k := by omega
      subst this
      rw [← e1]
      exact ⟨⟨e2, e3⟩, hc.2.1, hc.2.2.2, manyAt_all h2⟩
   · cases h
structure PrOk (p : Pr) : Prop where
 n1 : 1 ≤ p.names.length ∧ p.names.length ≤ 64
 homes : p.homes.length = p.names.length
 acts : p.acts.length ≤ 60
 ends : ∀ j, j ≤ p.acts.length → 0 ≤ endT p.acts j ∧ endT p.acts j ≤ 3600000
 len : ∀ j, j < p.acts.length → 1 ≤ (p.acts.getD j Ac.none).len
 mv : ∀ j, j < p.acts.length → (p.acts.getD j Ac.none).moves.length = p.names.length
 pe : ∀ j i, j < p.acts.length → i < p.names.length → pathE p j (endT p.acts j) i = 0
theorem valid_ok {p : Pr} (h : validB p = true) : PrOk p := by
 unfold validB at h
 simp only [Bool.and_eq_true, decide_eq_true_eq] at h
 obtain ⟨⟨h1, h2⟩, h3⟩ := h
 unfold crewB at h1
 simp only [Bool.and_eq_true, decide_eq_true_eq] at h1
 obtain ⟨tm, ht⟩ := Option.isSome_iff_exists.1 h3
 obtain ⟨t, m⟩ := tm
 obtain ⟨e1, e2, e3, e4⟩ := upTo_all ht
 refine ⟨⟨h1.1.1.1, h1.1.1.2⟩, h1.1.2, h2, fun j hj => ?_, fun j hj => (e4 j hj).2.1, fun j hj => (e4 j hj).2.2.1, fun j i hj hi => (e4 j hj).2.2.2 i hi⟩
 rcases Nat.lt_or_ge j p.acts.length with hlt | hge
 · exact (e4 j hlt).1
 ·
  have : j = p.acts.length := by omega
  subst this
  rw [← e1]; exact ⟨e2, e3⟩
theorem PrOk.to {p : Pr} (h : PrOk p) {j i : Nat} (hj : j < p.acts.length) (hi : i < p.names.length) : insideB 1048576 [((p.acts.getD j Ac.none).moves.getD i Mv.none).to.x, ((p.acts.getD j Ac.none).moves.getD i Mv.none).to.y, ((p.acts.getD j Ac.none).moves.getD i Mv.none).to.z] = true := by
 have := h.pe j i hj hi
 unfold pathE tpE at this
 split at this
 ·
  rename_i hb
  unfold tpB mvB at hb
  simp only [Bool.and_eq_true] at hb
  have h2 : ptB ((p.acts.getD j Ac.none).moves.getD i Mv.none).to.x ((p.acts.getD j Ac.none).moves.getD i Mv.none).to.y ((p.acts.getD j Ac.none).moves.getD i Mv.none).to.z = true := by
   revert hb
   simp only [and_imp]
   intros
   assumption
  exact h2
 · cases this
theorem in3 {m x y z : Int} (h : insideB m [x, y, z] = true) : (-m ≤ x ∧ x ≤ m) ∧ (-m ≤ y ∧ y ≤ m) ∧ (-m ≤ z ∧ z ≤ m) := by
 unfold insideB at h
 simpa using h
theorem getD_in {l : List Ac} (h : ∀ a ∈ l, In64 a.len) (i : Nat) : In64 (l.getD i Ac.none).len := by
 rw [List.getD_eq_getElem?_getD]
 cases hi : l[i]? with
 | none => exact ⟨by decide, by decide⟩
 | some a => exact h a (List.mem_of_getElem? hi)
abbrev vOk (v : V3) : Bool := insideB 16777216 [v.x, v.y, v.z]
def DescOk (d : De) : Prop := (1 ≤ d.sides.length ∧ d.sides.length ≤ 16 ∧ 1 ≤ d.across ∧ d.across ≤ 3600000 ∧ 1 ≤ d.down ∧ d.down ≤ 3600000 ∧ -1048576 ≤ d.ground ∧ d.ground ≤ 1048576) ∧ ∀ i, i < d.sides.length → vOk (d.sides.getD i V3.zero) = true ∧ (d.sides.getD i V3.zero).z = 0 ∧ ∀ j, j < i → ¬ ((d.sides.getD j V3.zero).x = (d.sides.getD i V3.zero).x ∧ (d.sides.getD j V3.zero).y = (d.sides.getD i V3.zero).y ∧ (d.sides.getD j V3.zero).z = (d.sides.getD i V3.zero).z)
structure DeIn (d : De) : Prop where
 n : d.sides.length ≤ 1000000
 ac : In64 d.across
 dn : In64 d.down
 gr : In64 d.ground
theorem find_iff (n : Nat) (p : Nat → Bool) : 0 ≤ findV n p ↔ ∃ q, q < n ∧ p q = true := by
 unfold findV
 cases h : (List.range n).find? p with
 | none =>
  have := List.find?_eq_none.1 h
  constructor
  · intro h; exact absurd h (by decide)
  ·
   rintro ⟨q, hq, hp⟩
   exact absurd hp (this q (List.mem_range.2 hq))
 | some i =>
  have h1 := List.find?_some h
  have h2 := List.mem_of_find?_eq_some h
  exact ⟨fun _ => ⟨i, List.mem_range.1 h2, h1⟩, fun _ => Int.natCast_nonneg i⟩
theorem AF_contains (l : List V3) (n : Nat) (v : V3) (hn : n ≤ 1000000) : AF Tryz.prog 28 [.sl 3 n fun i => vecA (l.getD i V3.zero), vecA v] (.bool (bP (∃ q, q < n ∧ (l.getD q V3.zero).x = v.x ∧ (l.getD q V3.zero).y = v.y ∧ (l.getD q V3.zero).z = v.z))) := by
 have HQ : decide ((0 : Int) ≤ findV n fun i => decide ((l.getD i V3.zero).x = v.x ∧ (l.getD i V3.zero).y = v.y ∧ (l.getD i V3.zero).z = v.z)) = bP (∃ q, q < n ∧ (l.getD q V3.zero).x = v.x ∧ (l.getD q V3.zero).y = v.y ∧ (l.getD q V3.zero).z = v.z) := by
  by_cases h : ∃ q, q < n ∧ (l.getD q V3.zero).x = v.x ∧ (l.getD q V3.zero).y = v.y ∧ (l.getD q V3.zero).z = v.z
  ·
   rw [bP_true h, decide_eq_true_eq, find_iff]
   obtain ⟨q, hq, h⟩ := h
   exact ⟨q, hq, by simpa using h⟩
  ·
   rw [bP_false h, decide_eq_false_iff_not, find_iff]
   rintro ⟨q, hq, h2⟩
   exact h ⟨q, hq, by simpa using h2⟩
 refine AF_of ⟨[(0, .sl 3 (n) (fun i0 => vecA ((l.getD i0 V3.zero)))), (1, vecA (v))], [], 0, 9⟩ Tryz.func28 rfl 9 Tryz.ntmps28 (by kernel_rfl) (by kernel_rfl) fun B D0 hA0 => ?_
 refine qreg 2 [0, 3] ?_
 refine AC_seq_list ?_
 refine qrun 2 ?_
 refine qcl (AF_index l n v hn) ?_
 refine qb (decide ((0 : Int) ≤ findV n (fun i => decide ((l.getD i V3.zero).x = v.x ∧ (l.getD i V3.zero).y = v.y ∧ (l.getD i V3.zero).z = v.z)))) ?_
 refine qrun 1 ?_
 refine qend [4] ?_
 refine AC_ret ?_
 exact ⟨.inl rfl, (resOk1 Tryz.results28 (resV_tmp (x := .bool (decide ((0 : Int) ≤ findV n (fun i => decide ((l.getD i V3.zero).x = v.x ∧ (l.getD i V3.zero).y = v.y ∧ (l.getD i V3.zero).z = v.z))))) (by kernel_rfl) (by kernel_rfl))).cast (congrArg AV.bool HQ)⟩
theorem AF_escvalid (d : De) (hd : DeIn d) : AF Tryz.prog 10 [descA d] (.bool (bP (DescOk d))) := by
  have hdn := hd.n
  refine AF_of ⟨[(0, descA (d))], [], 0, 70⟩ Tryz.func10 rfl 70 Tryz.ntmps10 (by kernel_rfl) (by kernel_rfl) fun B D0 hA0 => ?_
  refine qreg 2 [1] ?_
  refine AC_seq ?_
  refine AC_seq_list ?_
  refine qrun 2 ?_
  refine qopn (.int (((d.sides.length : Nat) : Int))) (qlen_slc (.tmp 6) 23 #[23] Tryz.underlying23 3 (d.sides.length) (fun i0 => vecA ((d.sides.getD i0 V3.zero)))) ?_
  refine qb (decide (((d.sides.length : Nat) : Int) < 1)) ?_
  refine qrun 1 ?_
  refine bool_split (decide (((d.sides.length : Nat) : Int) < 1)) (fun hx1 => ?_) (fun hx1 => ?_)
  ·
   have hx1d := of_decide_eq_true hx1
   refine qLknown 9 _ true hx1 ?_
   refine qrun 35 ?_
   refine qend [1, 44] ?_
   refine qCtrue ?_
   refine qreg 1 [2] ?_
   refine AC_ret ?_
   exact ⟨.inl rfl, (resOk1 Tryz.results10 (resV_tmp (x := .bool false) (by kernel_rfl) (by kernel_rfl))).cast (congrArg AV.bool (bP_false (by rintro ⟨⟨g1, g2, g3, g4, g5, g6, g7, g8⟩, g9⟩; first | omega | (have g := (g9 i (by omega)).2.1; omega))).symm)⟩
  ·
   have hx1d := of_decide_eq_false hx1
   refine qLknown 9 _ false hx1 ?_
   refine qrun 2 ?_
   refine qopg (.int (((d.sides.length : Nat) : Int))) .none (qlen_slc (.tmp 11) 23 #[23] Tryz.underlying23 3 (d.sides.length) (fun i0 => vecA ((d.sides.getD i0 V3.zero)))) ?_
   refine qbg (decide ((16 : Int) < ((d.sides.length : Nat) : Int))) ?_
   refine qrun 2 ?_
   refine bool_split (decide ((16 : Int) < ((d.sides.length : Nat) : Int))) (fun hx2 => ?_) (fun hx2 => ?_)
   ·
    have hx2d := of_decide_eq_true hx2
    refine qLknown 15 _ true hx2 ?_
    refine qrun 29 ?_
    refine qend [1, 44] ?_
    refine qCtrue ?_
    refine qreg 1 [2] ?_
    refine AC_ret ?_
    exact ⟨.inl rfl, (resOk1 Tryz.results10 (resV_tmp (x := .bool false) (by kernel_rfl) (by kernel_rfl))).cast (congrArg AV.bool (bP_false (by rintro ⟨⟨g1, g2, g3, g4, g5, g6, g7, g8⟩, g9⟩; first | omega | (have g := (g9 i (by omega)).2.1; omega))).symm)⟩
   ·
    have hx2d := of_decide_eq_false hx2
    refine qLknown 15 _ false hx2 ?_
    refine qrun 2 ?_
    refine qbg (decide (d.across < 1)) ?_
    refine qrun 2 ?_
    refine bool_split (decide (d.across < 1)) (fun hx3 => ?_) (fun hx3 => ?_)
    ·
     have hx3d := of_decide_eq_true hx3
     refine qLknown 20 _ true hx3 ?_
     refine qrun 24 ?_
     refine qend [1, 44] ?_
     refine qCtrue ?_
     refine qreg 1 [2] ?_
     refine AC_ret ?_
     exact ⟨.inl rfl, (resOk1 Tryz.results10 (resV_tmp (x := .bool false) (by kernel_rfl) (by kernel_rfl))).cast (congrArg AV.bool (bP_false (by rintro ⟨⟨g1, g2, g3, g4, g5, g6, g7, g8⟩, g9⟩; first | omega | (have g := (g9 i (by omega)).2.1; omega))).symm)⟩
    ·
     have hx3d := of_decide_eq_false hx3
     refine qLknown 20 _ false hx3 ?_
     refine qrun 2 ?_
     refine qbg (decide ((3600000 : Int) < d.across)) ?_
     refine qrun 2 ?_
     refine bool_split (decide ((3600000 : Int) < d.across)) (fun hx4 => ?_) (fun hx4 => ?_)
     ·
      have hx4d := of_decide_eq_true hx4
      refine qLknown 25 _ true hx4 ?_
      refine qrun 19 ?_
      refine qend [1, 44] ?_
      refine qCtrue ?_
      refine qreg 1 [2] ?_
      refine AC_ret ?_
      exact ⟨.inl rfl, (resOk1 Tryz.results10 (resV_tmp (x := .bool false) (by kernel_rfl) (by kernel_rfl))).cast (congrArg AV.bool (bP_false (by rintro ⟨⟨g1, g2, g3, g4, g5, g6, g7, g8⟩, g9⟩; first | omega | (have g := (g9 i (by omega)).2.1; omega))).symm)⟩
     ·
      have hx4d := of_decide_eq_false hx4
      refine qLknown 25 _ false hx4 ?_
      refine qrun 2 ?_
      refine qbg (decide (d.down < 1)) ?_
      refine qrun 2 ?_
      refine bool_split (decide (d.down < 1)) (fun hx5 => ?_) (fun hx5 => ?_)
      ·
       have hx5d := of_decide_eq_true hx5
       refine qLknown 30 _ true hx5 ?_
       refine qrun 14 ?_
       refine qend [1, 44] ?_
       refine qCtrue ?_
       refine qreg 1 [2] ?_
       refine AC_ret ?_
       exact ⟨.inl rfl, (resOk1 Tryz.results10 (resV_tmp (x := .bool false) (by kernel_rfl) (by kernel_rfl))).cast (congrArg AV.bool (bP_false (by rintro ⟨⟨g1, g2, g3, g4, g5, g6, g7, g8⟩, g9⟩; first | omega | (have g := (g9 i (by omega)).2.1; omega))).symm)⟩
      ·
       have hx5d := of_decide_eq_false hx5
       refine qLknown 30 _ false hx5 ?_
       refine qrun 2 ?_
       refine qbg (decide ((3600000 : Int) < d.down)) ?_
       refine qrun 2 ?_
       refine bool_split (decide ((3600000 : Int) < d.down)) (fun hx6 => ?_) (fun hx6 => ?_)
       ·
        have hx6d := of_decide_eq_true hx6
        refine qLknown 35 _ true hx6 ?_
        refine qrun 9 ?_
        refine qend [1, 44] ?_
        refine qCtrue ?_
        refine qreg 1 [2] ?_
        refine AC_ret ?_
        exact ⟨.inl rfl, (resOk1 Tryz.results10 (resV_tmp (x := .bool false) (by kernel_rfl) (by kernel_rfl))).cast (congrArg AV.bool (bP_false (by rintro ⟨⟨g1, g2, g3, g4, g5, g6, g7, g8⟩, g9⟩; first | omega | (have g := (g9 i (by omega)).2.1; omega))).symm)⟩
       ·
        have hx6d := of_decide_eq_false hx6
        refine qLknown 35 _ false hx6 ?_
        refine qrun 2 ?_
        refine qbg (decide (d.ground < -1048576)) ?_
        refine qrun 2 ?_
        refine bool_split (decide (d.ground < -1048576)) (fun hx7 => ?_) (fun hx7 => ?_)
        ·
         have hx7d := of_decide_eq_true hx7
         refine qLknown 40 _ true hx7 ?_
         refine qrun 4 ?_
         refine qend [1, 44] ?_
         refine qCtrue ?_
         refine qreg 1 [2] ?_
         refine AC_ret ?_
         exact ⟨.inl rfl, (resOk1 Tryz.results10 (resV_tmp (x := .bool false) (by kernel_rfl) (by kernel_rfl))).cast (congrArg AV.bool (bP_false (by rintro ⟨⟨g1, g2, g3, g4, g5, g6, g7, g8⟩, g9⟩; first | omega | (have g := (g9 i (by omega)).2.1; omega))).symm)⟩
        ·
         have hx7d := of_decide_eq_false hx7
         refine qLknown 40 _ false hx7 ?_
         refine qrun 2 ?_
         refine qbg (decide ((1048576 : Int) < d.ground)) ?_
         refine qrun 1 ?_
         refine qend [1, 44] ?_
         refine bool_split (decide ((1048576 : Int) < d.ground)) (fun hx8 => ?_) (fun hx8 => ?_)
         ·
          have hx8d := of_decide_eq_true hx8
          refine qT hx8 ?_
          refine qreg 1 [2] ?_
          refine AC_ret ?_
          exact ⟨.inl rfl, (resOk1 Tryz.results10 (resV_tmp (x := .bool false) (by kernel_rfl) (by kernel_rfl))).cast (congrArg AV.bool (bP_false (by rintro ⟨⟨g1, g2, g3, g4, g5, g6, g7, g8⟩, g9⟩; first | omega | (have g := (g9 i (by omega)).2.1; omega))).symm)⟩
         ·
          have hx8d := of_decide_eq_false hx8
          refine qF hx8 ?_
          refine AC_skip ?_
          refine AC_seq ?_
          refine AC_seq_list ?_
          refine qrun 2 ?_
          refine qopn (.int (((d.sides.length : Nat) : Int))) (qlen_slc (.tmp 46) 23 #[23] Tryz.underlying23 3 (d.sides.length) (fun i0 => vecA ((d.sides.getD i0 V3.zero)))) ?_
          refine qrun 1 ?_
          refine qend [1, 46, 47, 48] ?_
          refine AC_block ?_
          refine AC_loop_inv (fun m s => ∃ i, i ≤ d.sides.length ∧ m = d.sides.length - i ∧ (∀ q, q < i → vOk (d.sides.getD q V3.zero) = true ∧ (d.sides.getD q V3.zero).z = 0 ∧ ∀ j, j < q → ¬ ((d.sides.getD j V3.zero).x = (d.sides.getD q V3.zero).x ∧ (d.sides.getD j V3.zero).y = (d.sides.getD q V3.zero).y ∧ (d.sides.getD j V3.zero).z = (d.sides.getD q V3.zero).z)) ∧ s = ⟨[(1, .ptr 0 (0)), (46, vecsC (d.sides)), (47, .int (((d.sides.length : Nat) : Int))), (48, .int (((i : Nat) : Int)))], [(0, .box 28 [vecsC (d.sides), .int (d.across), .int (d.down), .int (d.ground)])], 1, 70⟩) (d.sides.length) ⟨0, Nat.zero_le _, rfl, (fun q hq => absurd hq (Nat.not_lt_zero q)), (by kernel_rfl)⟩ ?_
          rintro _ _ ⟨i, hin, rfl, hFi, rfl⟩
          refine AC_seq_list ?_
          refine qb (decide (((i : Nat) : Int) < ((d.sides.length : Nat) : Int))) ?_
          refine qend [1, 46, 47, 48, 49] ?_
          refine AC_seq ?_
          refine bool_split (decide (((i : Nat) : Int) < ((d.sides.length : Nat) : Int))) (fun hx9 => ?_) (fun hx9 => ?_)
          ·
           have hx9d := of_decide_eq_true hx9
           refine qT hx9 ?_
           refine AC_skip ?_
           refine AC_seq ?_
           refine AC_block ?_
           refine AC_seq_list ?_
           refine qrun 1 ?_
           refine qopn (.elt 3 (fun q => AV.cell (vecA ((d.sides.getD i V3.zero))) q)) (OpS.wk (qindex_sl 23 (.tmp 46) (.tmp 48) Tryz.underlying23 3 (d.sides.length) (i) (fun i0 => vecA ((d.sides.getD i0 V3.zero))) (((i : Nat) : Int)) Tryz.sizeOf55)) ?_
           refine qrun 4 ?_
           refine qend [1, 3, 4, 46, 47, 48] ?_
           refine bool_split (insideB 16777216 [(d.sides.getD i V3.zero).x, (d.sides.getD i V3.zero).y, (d.sides.getD i V3.zero).z]) (fun hx10 => ?_) (fun hx10 => ?_)
           ·
            refine bool_split (decide ((d.sides.getD i V3.zero).z = 0)) (fun hx11 => ?_) (fun hx11 => ?_)
            ·
             have hx11d := of_decide_eq_true hx11
             refine qsdraw [(1, .bool true, .none), (2, .bool false, .none), (6, .bool false, .none), (12, .sl 3 (i) (fun i0 => vecA ((d.sides.getD i0 V3.zero))), .none), (14, .bool (bP (∃ q, q < i ∧ (d.sides.getD q V3.zero).x = (d.sides.getD i V3.zero).x ∧ (d.sides.getD q V3.zero).y = (d.sides.getD i V3.zero).y ∧ (d.sides.getD q V3.zero).z = (d.sides.getD i V3.zero).z)), .none)] [1, 46, 47, 48, 68] 2 ⟨?_, ?_, ?_, ?_, ?_, trivial⟩ ?_
             · exact OpS.cast (qcall 27 #[(.tmp 53)] #[55] [vecA ((d.sides.getD i V3.zero))] (.bool (insideB 16777216 [(d.sides.getD i V3.zero).x, (d.sides.getD i V3.zero).y, (d.sides.getD i V3.zero).z])) (AF_vvalid (d.sides.getD i V3.zero))) (congrArg AV.bool hx10) (by kernel_rfl)
             · exact qbD
             · exact OpS.cast (qlit (v := .bool (!decide ((d.sides.getD i V3.zero).z = 0))) (v' := .bool (!decide ((d.sides.getD i V3.zero).z = 0))) (rfl) _) (congrArg AV.bool (by rw [hx11]; rfl)) (by kernel_rfl)
             · exact qcast (qslice_hi 23 (.tmp 63) (.tmp 64) Tryz.underlying23 3 (d.sides.length) Tryz.sizeOf55 (fun i0 => vecA ((d.sides.getD i0 V3.zero))) (i) (.inr ⟨(.tmp 64), ((i : Nat) : Int), rfl, by kernel_rfl, by omega⟩))
             · exact qclD (AF_contains d.sides i (d.sides.getD i V3.zero) (by omega))
             refine bool_split (bP (∃ q, q < i ∧ (d.sides.getD q V3.zero).x = (d.sides.getD i V3.zero).x ∧ (d.sides.getD q V3.zero).y = (d.sides.getD i V3.zero).y ∧ (d.sides.getD q V3.zero).z = (d.sides.getD i V3.zero).z)) (fun hx12 => ?_) (fun hx12 => ?_)
             ·
              refine qT hx12 ?_
              refine qreg 1 [2] ?_
              refine AC_ret ?_
              exact ⟨.inl rfl, (resOk1 Tryz.results10 (resV_tmp (x := .bool false) (by kernel_rfl) (by kernel_rfl))).cast (congrArg AV.bool (bP_false (by rintro ⟨⟨g1, g2, g3, g4, g5, g6, g7, g8⟩, g9⟩; first | omega | (have g := (g9 i (by omega)).2.1; omega) | (have g := (g9 i (by omega)).1; unfold vOk at g; rw [hx10] at g; exact Bool.noConfusion g) | (obtain ⟨q, hq, hc⟩ := bP_of hx12; exact (g9 i (by omega)).2.2 q hq hc))).symm)⟩
             ·
              refine qF hx12 ?_
              refine AC_skip ?_
              refine qCnorm [1, 46, 47, 48, 68] ⟨[(1, .ptr 0 (0)), (46, vecsC (d.sides)), (47, .int (((d.sides.length : Nat) : Int))), (48, .int (((i : Nat) : Int))), (68, .bool false)], [(0, .box 28 [vecsC (d.sides), .int (d.across), .int (d.down), .int (d.ground)]), (1, .box 55 [.int ((d.sides.getD i V3.zero).x), .int ((d.sides.getD i V3.zero).y), .int ((d.sides.getD i V3.zero).z)])], 2, 70⟩ ?_
              refine qCren [(0, 0)] 1 0 hA0 _ (flatH_box (flatH_box flatH_nil)) ?_
              refine AC_list ?_
              refine qw (((i : Nat) : Int) + 1) (((i + 1 : Nat) : Int)) ?_
              refine qrun 1 ?_
              refine qend1 [1, 46, 47, 48] ?_
              exact ⟨_, (by omega : d.sides.length - (i + 1) < d.sides.length - i), i + 1, (by omega), rfl, (fun q hq => (Nat.lt_or_ge q i).elim (fun g => hFi q g) fun g => by have e : q = i := (by omega); subst e; exact ⟨hx10, by omega, fun j hj hc => bP_not hx12 ⟨j, hj, hc⟩⟩), (by kernel_rfl)⟩
            ·
             have hx11d := of_decide_eq_false hx11
             refine qsdraw [(1, .bool true, .none), (2, .bool false, .none), (6, .bool true, .none)] [1, 46, 47, 48, 68] 2 ⟨?_, ?_, ?_, trivial⟩ ?_
             · exact OpS.cast (qcall 27 #[(.tmp 53)] #[55] [vecA ((d.sides.getD i V3.zero))] (.bool (insideB 16777216 [(d.sides.getD i V3.zero).x, (d.sides.getD i V3.zero).y, (d.sides.getD i V3.zero).z])) (AF_vvalid (d.sides.getD i V3.zero))) (congrArg AV.bool hx10) (by kernel_rfl)
             · exact qbD
             · exact OpS.cast (qlit (v := .bool (!decide ((d.sides.getD i V3.zero).z = 0))) (v' := .bool (!decide ((d.sides.getD i V3.zero).z = 0))) (rfl) _) (congrArg AV.bool (by rw [hx11]; rfl)) (by kernel_rfl)
             refine qCtrue ?_
             refine qreg 1 [2] ?_
             refine AC_ret ?_
             exact ⟨.inl rfl, (resOk1 Tryz.results10 (resV_tmp (x := .bool false) (by kernel_rfl) (by kernel_rfl))).cast (congrArg AV.bool (bP_false (by rintro ⟨⟨g1, g2, g3, g4, g5, g6, g7, g8⟩, g9⟩; first | omega | (have g := (g9 i (by omega)).2.1; omega) | (have g := (g9 i (by omega)).1; unfold vOk at g; rw [hx10] at g; exact Bool.noConfusion g))).symm)⟩
           ·
            refine qsdraw [(1, .bool false, .none), (2, .bool true, .none)] [1, 46, 47, 48, 68] 2 ⟨?_, ?_, trivial⟩ ?_
            · exact OpS.cast (qcall 27 #[(.tmp 53)] #[55] [vecA ((d.sides.getD i V3.zero))] (.bool (insideB 16777216 [(d.sides.getD i V3.zero).x, (d.sides.getD i V3.zero).y, (d.sides.getD i V3.zero).z])) (AF_vvalid (d.sides.getD i V3.zero))) (congrArg AV.bool hx10) (by kernel_rfl)
            · exact qbD
            refine qCtrue ?_
            refine qreg 1 [2] ?_
            refine AC_ret ?_
            exact ⟨.inl rfl, (resOk1 Tryz.results10 (resV_tmp (x := .bool false) (by kernel_rfl) (by kernel_rfl))).cast (congrArg AV.bool (bP_false (by rintro ⟨⟨g1, g2, g3, g4, g5, g6, g7, g8⟩, g9⟩; first | omega | (have g := (g9 i (by omega)).2.1; omega) | (have g := (g9 i (by omega)).1; unfold vOk at g; rw [hx10] at g; exact Bool.noConfusion g))).symm)⟩
          ·
           have hx9d := of_decide_eq_false hx9
           refine qF hx9 ?_
           refine AC_exit ?_
           refine qreg 1 [2] ?_
           refine AC_ret ?_
           exact ⟨.inl rfl, (resOk1 Tryz.results10 (resV_tmp (x := .bool true) (by kernel_rfl) (by kernel_rfl))).cast (congrArg AV.bool (bP_true (by refine ⟨⟨by omega, by omega, by omega, by omega, by omega, by omega, by omega, by omega⟩, fun q hq => hFi q (by omega)⟩)).symm)⟩
end Go.Proofs.YtkcnbaeoahoglaaGreat
namespace Go.Proofs.YtkcnbaeoahoglaaGreat
open Go.RowKit
theorem AF_lawvalid (d : De) (hd : DeIn d) : AF Tryz.prog 11 [descA d] (.bool (bP (DescOk d))) := by
  have hdn := hd.n
  refine AF_of ⟨[(0, descA (d))], [], 0, 84⟩ Tryz.func11 rfl 84 Tryz.ntmps11 (by kernel_rfl) (by kernel_rfl) fun B D0 hA0 => ?_
  refine qreg 2 [1] ?_
  refine AC_seq ?_
  refine qreg 1 [1, 3] ?_
  refine AC_block ?_
  refine AC_loop_inv (fun m s => ∃ i, i ≤ d.sides.length ∧ m = d.sides.length - i ∧ (∀ q, q < i → vOk (d.sides.getD q V3.zero) = true ∧ (d.sides.getD q V3.zero).z = 0 ∧ ∀ j, j < q → ¬ ((d.sides.getD j V3.zero).x = (d.sides.getD q V3.zero).x ∧ (d.sides.getD j V3.zero).y = (d.sides.getD q V3.zero).y ∧ (d.sides.getD j V3.zero).z = (d.sides.getD q V3.zero).z)) ∧ s = ⟨[(1, .ptr 0 (0)), (3, .int (((i : Nat) : Int)))], [(0, .box 28 [vecsC (d.sides), .int (d.across), .int (d.down), .int (d.ground)])], 1, 84⟩) (d.sides.length) ⟨0, Nat.zero_le _, rfl, (fun q hq => absurd hq (Nat.not_lt_zero q)), (by kernel_rfl)⟩ ?_
  rintro _ _ ⟨i, hin, rfl, hFi, rfl⟩
  refine AC_seq ?_
  refine AC_seq_list ?_
  refine qrun 3 ?_
  refine qopn (.int (((d.sides.length : Nat) : Int))) (qlen_slc (.tmp 7) 23 #[23] Tryz.underlying23 3 (d.sides.length) (fun i0 => vecA ((d.sides.getD i0 V3.zero)))) ?_
  refine qb (decide (((i : Nat) : Int) < ((d.sides.length : Nat) : Int))) ?_
  refine qend [1, 3, 9] ?_
  refine bool_split (decide (((i : Nat) : Int) < ((d.sides.length : Nat) : Int))) (fun hx1 => ?_) (fun hx1 => ?_)
  ·
   have hx1d := of_decide_eq_true hx1
   refine qT hx1 ?_
   refine AC_skip ?_
   refine AC_seq ?_
   refine AC_block ?_
   refine AC_seq ?_
   refine AC_seq_list ?_
   refine qrun 3 ?_
   refine qopn (.elt 3 (fun q => AV.cell (vecA ((d.sides.getD i V3.zero))) q)) (OpS.wk (qindex_sl 23 (.tmp 13) (.tmp 14) Tryz.underlying23 3 (d.sides.length) (i) (fun i0 => vecA ((d.sides.getD i0 V3.zero))) (((i : Nat) : Int)) Tryz.sizeOf55)) ?_
   refine qrun 1 ?_
   refine qcl (AF_vvalid (d.sides.getD i V3.zero)) ?_
   refine qb (!insideB 16777216 [(d.sides.getD i V3.zero).x, (d.sides.getD i V3.zero).y, (d.sides.getD i V3.zero).z]) ?_
   refine qrun 1 ?_
   refine bool_split (insideB 16777216 [(d.sides.getD i V3.zero).x, (d.sides.getD i V3.zero).y, (d.sides.getD i V3.zero).z]) (fun hx2 => ?_) (fun hx2 => ?_)
   ·
    refine qLknown 19 _ false (nt hx2) ?_
    refine qrun 3 ?_
    refine qopg (.elt 3 (fun q => AV.cell (vecA ((d.sides.getD i V3.zero))) q)) .none (OpS.wk (qindex_sl 23 (.tmp 21) (.tmp 22) Tryz.underlying23 3 (d.sides.length) (i) (fun i0 => vecA ((d.sides.getD i0 V3.zero))) (((i : Nat) : Int)) Tryz.sizeOf55)) ?_
    refine qrun 2 ?_
    refine qbg (!decide ((d.sides.getD i V3.zero).z = 0)) ?_
    refine qrun 1 ?_
    refine qend [1, 3, 27] ?_
    refine bool_split (decide ((d.sides.getD i V3.zero).z = 0)) (fun hx3 => ?_) (fun hx3 => ?_)
    ·
     have hx3d := of_decide_eq_true hx3
     refine qF (nt hx3) ?_
     refine AC_skip ?_
     refine qreg 1 [1, 3, 4] ?_
     refine AC_block ?_
     refine AC_loop_inv (fun m s => ∃ j, j ≤ i ∧ m = i - j ∧ (∀ r, r < j → ¬ ((d.sides.getD r V3.zero).x = (d.sides.getD i V3.zero).x ∧ (d.sides.getD r V3.zero).y = (d.sides.getD i V3.zero).y ∧ (d.sides.getD r V3.zero).z = (d.sides.getD i V3.zero).z)) ∧ s = ⟨[(1, .ptr 0 (0)), (3, .int (((i : Nat) : Int))), (4, .int (((j : Nat) : Int)))], [(0, .box 28 [vecsC (d.sides), .int (d.across), .int (d.down), .int (d.ground)])], 1, 84⟩) (i) ⟨0, Nat.zero_le _, rfl, (fun q hq => absurd hq (Nat.not_lt_zero q)), (by kernel_rfl)⟩ ?_
     rintro _ _ ⟨j, hjn, rfl, hFj, rfl⟩
     refine AC_seq ?_
     refine AC_seq_list ?_
     refine qrun 2 ?_
     refine qb (decide (((j : Nat) : Int) < ((i : Nat) : Int))) ?_
     refine qend [1, 3, 4, 30] ?_
     refine bool_split (decide (((j : Nat) : Int) < ((i : Nat) : Int))) (fun hx4 => ?_) (fun hx4 => ?_)
     ·
      have hx4d := of_decide_eq_true hx4
      refine qT hx4 ?_
      refine AC_skip ?_
      refine AC_seq ?_
      refine AC_block ?_
      refine qsdraw [(3, .elt 3 (fun q => AV.cell (vecA ((d.sides.getD j V3.zero))) q), .none), (8, .elt 3 (fun q => AV.cell (vecA ((d.sides.getD i V3.zero))) q), .none), (10, .bool (decide ((d.sides.getD j V3.zero).x = (d.sides.getD i V3.zero).x ∧ (d.sides.getD j V3.zero).y = (d.sides.getD i V3.zero).y ∧ (d.sides.getD j V3.zero).z = (d.sides.getD i V3.zero).z)), .none)] [1, 3, 4, 43] 1 ⟨?_, ?_, ?_, trivial⟩ ?_
      · exact qcast (OpS.wk (qindex_sl 23 (.tmp 34) (.tmp 35) Tryz.underlying23 3 (d.sides.length) (j) (fun i0 => vecA ((d.sides.getD i0 V3.zero))) (((j : Nat) : Int)) Tryz.sizeOf55))
      · exact qcast (OpS.wk (qindex_sl 23 (.tmp 39) (.tmp 40) Tryz.underlying23 3 (d.sides.length) (i) (fun i0 => vecA ((d.sides.getD i0 V3.zero))) (((i : Nat) : Int)) Tryz.sizeOf55))
      · exact qcast (opS_eql 55 55 (.tmp 37) (.tmp 42) (by kernel_rfl) _ _ (by kernel_rfl) (by kernel_rfl) (by kernel_rfl) (decide ((d.sides.getD j V3.zero).x = (d.sides.getD i V3.zero).x ∧ (d.sides.getD j V3.zero).y = (d.sides.getD i V3.zero).y ∧ (d.sides.getD j V3.zero).z = (d.sides.getD i V3.zero).z)) (eqVec3 _ _ _ _ _ _))
      refine bool_split (decide ((d.sides.getD j V3.zero).x = (d.sides.getD i V3.zero).x ∧ (d.sides.getD j V3.zero).y = (d.sides.getD i V3.zero).y ∧ (d.sides.getD j V3.zero).z = (d.sides.getD i V3.zero).z)) (fun hx5 => ?_) (fun hx5 => ?_)
      ·
       have hx5d := of_decide_eq_true hx5
       refine qT hx5 ?_
       refine qreg 1 [2] ?_
       refine AC_ret ?_
       exact ⟨.inl rfl, (resOk1 Tryz.results11 (resV_tmp (x := .bool false) (by kernel_rfl) (by kernel_rfl))).cast (congrArg AV.bool (bP_false (by rintro ⟨⟨g1, g2, g3, g4, g5, g6, g7, g8⟩, g9⟩; first | omega | (have g := (g9 i (by omega)).2.1; omega) | (have g := (g9 i (by omega)).2.2 j (by omega); omega) | (have g := (g9 i (by omega)).1; unfold vOk at g; rw [hx2] at g; exact Bool.noConfusion g))).symm)⟩
      ·
       have hx5d := of_decide_eq_false hx5
       refine qF hx5 ?_
       refine AC_skip ?_
       refine AC_list ?_
       refine qrun 1 ?_
       refine qw (((j : Nat) : Int) + 1) (((j + 1 : Nat) : Int)) ?_
       refine qrun 1 ?_
       refine qend1 [1, 3, 4] ?_
       exact ⟨_, (by omega : i - (j + 1) < i - j), j + 1, (by omega), rfl, (fun r hr => (Nat.lt_or_ge r j).elim (fun g => hFj r g) fun g => by have e : r = j := (by omega); subst e; omega), (by kernel_rfl)⟩
     ·
      have hx4d := of_decide_eq_false hx4
      refine qF hx4 ?_
      refine AC_exit ?_
      refine AC_list ?_
      refine qrun 1 ?_
      refine qw (((i : Nat) : Int) + 1) (((i + 1 : Nat) : Int)) ?_
      refine qrun 1 ?_
      refine qend1 [1, 3] ?_
      exact ⟨_, (by omega : d.sides.length - (i + 1) < d.sides.length - i), i + 1, (by omega), rfl, (fun q hq => (Nat.lt_or_ge q i).elim (fun g => hFi q g) fun g => by have e : q = i := (by omega); subst e; exact ⟨hx2, by omega, fun j2 hj => hFj j2 (by omega)⟩), (by kernel_rfl)⟩
    ·
     have hx3d := of_decide_eq_false hx3
     refine qT (nf hx3) ?_
     refine qreg 1 [2] ?_
     refine AC_ret ?_
     exact ⟨.inl rfl, (resOk1 Tryz.results11 (resV_tmp (x := .bool false) (by kernel_rfl) (by kernel_rfl))).cast (congrArg AV.bool (bP_false (by rintro ⟨⟨g1, g2, g3, g4, g5, g6, g7, g8⟩, g9⟩; first | omega | (have g := (g9 i (by omega)).2.1; omega) | (have g := (g9 i (by omega)).2.2 j (by omega); omega) | (have g := (g9 i (by omega)).1; unfold vOk at g; rw [hx2] at g; exact Bool.noConfusion g))).symm)⟩
   ·
    refine qLknown 19 _ true (nf hx2) ?_
    refine qrun 8 ?_
    refine qend [1, 3, 27] ?_
    refine qCtrue ?_
    refine qreg 1 [2] ?_
    refine AC_ret ?_
    exact ⟨.inl rfl, (resOk1 Tryz.results11 (resV_tmp (x := .bool false) (by kernel_rfl) (by kernel_rfl))).cast (congrArg AV.bool (bP_false (by rintro ⟨⟨g1, g2, g3, g4, g5, g6, g7, g8⟩, g9⟩; first | omega | (have g := (g9 i (by omega)).2.1; omega) | (have g := (g9 i (by omega)).2.2 j (by omega); omega) | (have g := (g9 i (by omega)).1; unfold vOk at g; rw [hx2] at g; exact Bool.noConfusion g))).symm)⟩
  ·
   have hx1d := of_decide_eq_false hx1
   refine qF hx1 ?_
   refine AC_exit ?_
   refine AC_seq_list ?_
   refine qrun 2 ?_
   refine qopn (.int (((d.sides.length : Nat) : Int))) (qlen_slc (.tmp 45) 23 #[23] Tryz.underlying23 3 (d.sides.length) (fun i0 => vecA ((d.sides.getD i0 V3.zero)))) ?_
   refine qb (decide ((1 : Int) ≤ ((d.sides.length : Nat) : Int))) ?_
   refine qrun 1 ?_
   refine bool_split (decide ((1 : Int) ≤ ((d.sides.length : Nat) : Int))) (fun hx6 => ?_) (fun hx6 => ?_)
   ·
    have hx6d := of_decide_eq_true hx6
    refine qLknown 48 _ true hx6 ?_
    refine qrun 2 ?_
    refine qopg (.int (((d.sides.length : Nat) : Int))) .none (qlen_slc (.tmp 50) 23 #[23] Tryz.underlying23 3 (d.sides.length) (fun i0 => vecA ((d.sides.getD i0 V3.zero)))) ?_
    refine qbg (decide (((d.sides.length : Nat) : Int) ≤ 16)) ?_
    refine qrun 2 ?_
    refine bool_split (decide (((d.sides.length : Nat) : Int) ≤ 16)) (fun hx7 => ?_) (fun hx7 => ?_)
    ·
     have hx7d := of_decide_eq_true hx7
     refine qLknown 54 _ true hx7 ?_
     refine qrun 2 ?_
     refine qbg (decide ((1 : Int) ≤ d.across)) ?_
     refine qrun 2 ?_
     refine bool_split (decide ((1 : Int) ≤ d.across)) (fun hx8 => ?_) (fun hx8 => ?_)
     ·
      have hx8d := of_decide_eq_true hx8
      refine qLknown 59 _ true hx8 ?_
      refine qrun 2 ?_
      refine qbg (decide (d.across ≤ 3600000)) ?_
      refine qrun 2 ?_
      refine bool_split (decide (d.across ≤ 3600000)) (fun hx9 => ?_) (fun hx9 => ?_)
      ·
       have hx9d := of_decide_eq_true hx9
       refine qLknown 64 _ true hx9 ?_
       refine qrun 2 ?_
       refine qbg (decide ((1 : Int) ≤ d.down)) ?_
       refine qrun 2 ?_
       refine bool_split (decide ((1 : Int) ≤ d.down)) (fun hx10 => ?_) (fun hx10 => ?_)
       ·
        have hx10d := of_decide_eq_true hx10
        refine qLknown 69 _ true hx10 ?_
        refine qrun 2 ?_
        refine qbg (decide (d.down ≤ 3600000)) ?_
        refine qrun 2 ?_
        refine bool_split (decide (d.down ≤ 3600000)) (fun hx11 => ?_) (fun hx11 => ?_)
        ·
         have hx11d := of_decide_eq_true hx11
         refine qLknown 74 _ true hx11 ?_
         refine qrun 2 ?_
         refine qbg (decide ((-1048576 : Int) ≤ d.ground)) ?_
         refine qrun 2 ?_
         refine bool_split (decide ((-1048576 : Int) ≤ d.ground)) (fun hx12 => ?_) (fun hx12 => ?_)
         ·
          have hx12d := of_decide_eq_true hx12
          refine qLknown 79 _ true hx12 ?_
          refine qrun 2 ?_
          refine qbg (decide (d.ground ≤ 1048576)) ?_
          refine qrun 2 ?_
          refine qend [2] ?_
          refine AC_ret ?_
          exact ⟨.inl rfl, (resOk1 Tryz.results11 (resV_tmp (x := .bool (decide (d.ground ≤ 1048576))) (by kernel_rfl) (by kernel_rfl))).cast (congrArg AV.bool (if hz : d.ground ≤ 1048576 then (decide_eq_true hz).trans (bP_true (by refine ⟨⟨by omega, by omega, by omega, by omega, by omega, by omega, by omega, by omega⟩, fun q hq => hFi q (by omega)⟩)).symm else (decide_eq_false hz).trans (bP_false (by rintro ⟨⟨g1, g2, g3, g4, g5, g6, g7, g8⟩, g9⟩; omega)).symm))⟩
         ·
          have hx12d := of_decide_eq_false hx12
          refine qLknown 79 _ false hx12 ?_
          refine qrun 5 ?_
          refine qend [2] ?_
          refine AC_ret ?_
          exact ⟨.inl rfl, (resOk1 Tryz.results11 (resV_tmp (x := .bool false) (by kernel_rfl) (by kernel_rfl))).cast (congrArg AV.bool (bP_false (by rintro ⟨⟨g1, g2, g3, g4, g5, g6, g7, g8⟩, g9⟩; first | omega | (have g := (g9 i (by omega)).2.1; omega) | (have g := (g9 i (by omega)).2.2 j (by omega); omega))).symm)⟩
        ·
         have hx11d := of_decide_eq_false hx11
         refine qLknown 74 _ false hx11 ?_
         refine qrun 10 ?_
         refine qend [2] ?_
         refine AC_ret ?_
         exact ⟨.inl rfl, (resOk1 Tryz.results11 (resV_tmp (x := .bool false) (by kernel_rfl) (by kernel_rfl))).cast (congrArg AV.bool (bP_false (by rintro ⟨⟨g1, g2, g3, g4, g5, g6, g7, g8⟩, g9⟩; first | omega | (have g := (g9 i (by omega)).2.1; omega) | (have g := (g9 i (by omega)).2.2 j (by omega); omega))).symm)⟩
       ·
        have hx10d := of_decide_eq_false hx10
        refine qLknown 69 _ false hx10 ?_
        refine qrun 15 ?_
        refine qend [2] ?_
        refine AC_ret ?_
        exact ⟨.inl rfl, (resOk1 Tryz.results11 (resV_tmp (x := .bool false) (by kernel_rfl) (by kernel_rfl))).cast (congrArg AV.bool (bP_false (by rintro ⟨⟨g1, g2, g3, g4, g5, g6, g7, g8⟩, g9⟩; first | omega | (have g := (g9 i (by omega)).2.1; omega) | (have g := (g9 i (by omega)).2.2 j (by omega); omega))).symm)⟩
      ·
       have hx9d := of_decide_eq_false hx9
       refine qLknown 64 _ false hx9 ?_
       refine qrun 20 ?_
       refine qend [2] ?_
       refine AC_ret ?_
       exact ⟨.inl rfl, (resOk1 Tryz.results11 (resV_tmp (x := .bool false) (by kernel_rfl) (by kernel_rfl))).cast (congrArg AV.bool (bP_false (by rintro ⟨⟨g1, g2, g3, g4, g5, g6, g7, g8⟩, g9⟩; first | omega | (have g := (g9 i (by omega)).2.1; omega) | (have g := (g9 i (by omega)).2.2 j (by omega); omega))).symm)⟩
     ·
      have hx8d := of_decide_eq_false hx8
      refine qLknown 59 _ false hx8 ?_
      refine qrun 25 ?_
      refine qend [2] ?_
      refine AC_ret ?_
      exact ⟨.inl rfl, (resOk1 Tryz.results11 (resV_tmp (x := .bool false) (by kernel_rfl) (by kernel_rfl))).cast (congrArg AV.bool (bP_false (by rintro ⟨⟨g1, g2, g3, g4, g5, g6, g7, g8⟩, g9⟩; first | omega | (have g := (g9 i (by omega)).2.1; omega) | (have g := (g9 i (by omega)).2.2 j (by omega); omega))).symm)⟩
    ·
     have hx7d := of_decide_eq_false hx7
     refine qLknown 54 _ false hx7 ?_
     refine qrun 30 ?_
     refine qend [2] ?_
     refine AC_ret ?_
     exact ⟨.inl rfl, (resOk1 Tryz.results11 (resV_tmp (x := .bool false) (by kernel_rfl) (by kernel_rfl))).cast (congrArg AV.bool (bP_false (by rintro ⟨⟨g1, g2, g3, g4, g5, g6, g7, g8⟩, g9⟩; first | omega | (have g := (g9 i (by omega)).2.1; omega) | (have g := (g9 i (by omega)).2.2 j (by omega); omega))).symm)⟩
   ·
    have hx6d := of_decide_eq_false hx6
    refine qLknown 48 _ false hx6 ?_
    refine qrun 36 ?_
    refine qend [2] ?_
    refine AC_ret ?_
    exact ⟨.inl rfl, (resOk1 Tryz.results11 (resV_tmp (x := .bool false) (by kernel_rfl) (by kernel_rfl))).cast (congrArg AV.bool (bP_false (by rintro ⟨⟨g1, g2, g3, g4, g5, g6, g7, g8⟩, g9⟩; first | omega | (have g := (g9 i (by omega)).2.1; omega) | (have g := (g9 i (by omega)).2.2 j (by omega); omega))).symm)⟩
theorem AF_end (p : Pr) (hp : PrIn p) (ho : PrOk p) (k : Nat) (hk : k < p.acts.length) : AF Tryz.prog 55 [progA p, .int ((k : Nat) : Int)] (.int (endT p.acts (k + 1))) := by
  have hac := ho.acts
  refine AF_of ⟨[(0, progA (p)), (1, .int (((k : Nat) : Int)))], [], 0, 22⟩ Tryz.func55 rfl 22 Tryz.ntmps55 (by kernel_rfl) (by kernel_rfl) fun B D0 hA0 => ?_
  refine qreg 2 [1, 2] ?_
  refine qreg 1 [1, 2, 5] ?_
  refine AC_seq ?_
  refine AC_seq_list ?_
  refine qrun 1 ?_
  refine qw (((k : Nat) : Int) + 1) (((k + 1 : Nat) : Int)) ?_
  refine qrun 1 ?_
  refine qend [2, 5, 8, 9] ?_
  refine AC_block ?_
  refine AC_loop_inv (fun m s => ∃ i, i ≤ k + 1 ∧ m = k + 1 - i ∧ (True) ∧ s = ⟨[(2, .ptr 0 (0)), (5, .int (endT p.acts (i))), (8, .int (((k + 1 : Nat) : Int))), (9, .int (((i : Nat) : Int)))], [(0, .box 26 [namesA (p.names), vecsA (p.homes), actsA (p.acts)])], 1, 22⟩) (k + 1) ⟨0, Nat.zero_le _, rfl, trivial, (by kernel_rfl)⟩ ?_
  rintro _ _ ⟨i, hin, rfl, hFi, rfl⟩
  refine AC_seq_list ?_
  refine qb (decide (((i : Nat) : Int) < ((k + 1 : Nat) : Int))) ?_
  refine qend [2, 5, 8, 9, 10] ?_
  refine AC_seq ?_
  refine bool_split (decide (((i : Nat) : Int) < ((k + 1 : Nat) : Int))) (fun hx1 => ?_) (fun hx1 => ?_)
  ·
   have hx1d := of_decide_eq_true hx1
   refine qT hx1 ?_
   refine AC_skip ?_
   refine AC_seq ?_
   refine AC_block ?_
   refine qreg 2 [2, 5, 6, 8, 9] ?_
   have he2 := ho.ends i (by omega)
   have hl := getD_in hp.lens i
   refine AC_list ?_
   refine qrun 4 ?_
   refine qopn (.elt 3 (fun q => AV.cell (actA ((p.acts.getD i Ac.none))) q)) (qindex_sl 24 (.tmp 14) (.tmp 15) Tryz.underlying24 3 (p.acts.length) (i) (fun i0 => actA ((p.acts.getD i0 Ac.none))) (((i : Nat) : Int)) Tryz.sizeOf60) ?_
   refine qrun 2 ?_
   refine qopn (.int (endT p.acts (i + 1))) (qlit (v := .int .i64 (IntKind.wrap .i64 (endT p.acts (i) + (p.acts.getD i Ac.none).len))) (v' := .int .i64 (endT p.acts (i + 1))) (congrArg (Value.int .i64) ((IntWalk.i64_in _ (by have he3 := ho.ends (i + 1) (by omega); rw [endT] at he3; omega)).trans rfl)) _) ?_
   refine qrun 1 ?_
   refine qend1 [2, 5, 8, 9] ?_
   refine AC_list ?_
   refine qw (((i : Nat) : Int) + 1) (((i + 1 : Nat) : Int)) ?_
   refine qrun 1 ?_
   refine qend1 [2, 5, 8, 9] ?_
   exact ⟨_, (by omega : k + 1 - (i + 1) < k + 1 - i), i + 1, (by omega), rfl, trivial, (by kernel_rfl)⟩
  ·
   have hx1d := of_decide_eq_false hx1
   refine qF hx1 ?_
   refine AC_exit ?_
   refine qreg 2 [4] ?_
   refine AC_ret ?_
   exact ⟨.inl rfl, (resOk1 Tryz.results55 (resV_tmp (x := .int (endT p.acts (i))) (by kernel_rfl) (by kernel_rfl))).cast (congrArg (fun q => AV.int (endT p.acts q)) (show i = k + 1 by omega))⟩
theorem AF_end40 (p : Pr) (hp : PrIn p) (ho : PrOk p) (k : Nat) (hk : k < p.acts.length) : AF Tryz.prog 19 [progA p, .int ((k : Nat) : Int)] (.int (endT p.acts (k + 1))) := by
  have hac := ho.acts
  refine AF_of ⟨[(0, progA (p)), (1, .int (((k : Nat) : Int)))], [], 0, 21⟩ Tryz.func19 rfl 21 Tryz.ntmps19 (by kernel_rfl) (by kernel_rfl) fun B D0 hA0 => ?_
  refine qreg 2 [1, 2] ?_
  refine qreg 1 [1, 2, 5] ?_
  refine AC_seq ?_
  refine qreg 1 [1, 2, 5, 6] ?_
  refine AC_block ?_
  refine AC_loop_inv (fun m s => ∃ i, i ≤ k + 1 ∧ m = k + 1 - i ∧ (True) ∧ s = ⟨[(1, .int (((k : Nat) : Int))), (2, .ptr 0 (0)), (5, .int (endT p.acts (i))), (6, .int (((i : Nat) : Int)))], [(0, .box 26 [namesA (p.names), vecsA (p.homes), actsA (p.acts)])], 1, 21⟩) (k + 1) ⟨0, Nat.zero_le _, rfl, trivial, (by kernel_rfl)⟩ ?_
  rintro _ _ ⟨i, hin, rfl, hFi, rfl⟩
  have he := ho.ends i
  refine AC_seq ?_
  refine AC_seq_list ?_
  refine qrun 2 ?_
  refine qb (decide (((i : Nat) : Int) ≤ ((k : Nat) : Int))) ?_
  refine qend [1, 2, 5, 6, 9] ?_
  refine bool_split (decide (((i : Nat) : Int) ≤ ((k : Nat) : Int))) (fun hx1 => ?_) (fun hx1 => ?_)
  ·
   have hx1d := of_decide_eq_true hx1
   refine qT hx1 ?_
   refine AC_skip ?_
   refine AC_seq ?_
   refine AC_block ?_
   have he2 := ho.ends i (by omega)
   have hl := getD_in hp.lens i
   refine AC_list ?_
   refine qrun 4 ?_
   refine qopn (.elt 3 (fun q => AV.cell (actA ((p.acts.getD i Ac.none))) q)) (qindex_sl 24 (.tmp 14) (.tmp 15) Tryz.underlying24 3 (p.acts.length) (i) (fun i0 => actA ((p.acts.getD i0 Ac.none))) (((i : Nat) : Int)) Tryz.sizeOf60) ?_
   refine qrun 2 ?_
   refine qopn (.int (endT p.acts (i + 1))) (qlit (v := .int .i64 (IntKind.wrap .i64 (endT p.acts (i) + (p.acts.getD i Ac.none).len))) (v' := .int .i64 (endT p.acts (i + 1))) (congrArg (Value.int .i64) ((IntWalk.i64_in _ (by have he3 := ho.ends (i + 1) (by omega); rw [endT] at he3; omega)).trans rfl)) _) ?_
   refine qrun 1 ?_
   refine qend1 [1, 2, 5, 6] ?_
   refine AC_list ?_
   refine qrun 1 ?_
   refine qw (((i : Nat) : Int) + 1) (((i + 1 : Nat) : Int)) ?_
   refine qrun 1 ?_
   refine qend1 [1, 2, 5, 6] ?_
   exact ⟨_, (by omega : k + 1 - (i + 1) < k + 1 - i), i + 1, (by omega), rfl, trivial, (by kernel_rfl)⟩
  ·
   have hx1d := of_decide_eq_false hx1
   refine qF hx1 ?_
   refine AC_exit ?_
   refine qreg 2 [4] ?_
   refine AC_ret ?_
   exact ⟨.inl rfl, (resOk1 Tryz.results19 (resV_tmp (x := .int (endT p.acts (i))) (by kernel_rfl) (by kernel_rfl))).cast (congrArg (fun q => AV.int (endT p.acts q)) (show i = k + 1 by omega))⟩
def CaseOk (p : Pr) (c : Cs) : Prop := validB p = true ∧ 0 ≤ c.craft ∧ c.craft < (p.names.length : Int) ∧ 0 ≤ c.act ∧ c.act < (p.acts.length : Int)
def caseEnd (p : Pr) (c : Cs) : Int := endT p.acts (c.act.toNat + 1)
def casePt (p : Pr) (c : Cs) : V3 := ((p.acts.getD c.act.toNat Ac.none).moves.getD c.craft.toNat Mv.none).to
structure CsIn (c : Cs) : Prop where
 craft : In64 c.craft
 act : In64 c.act
theorem AF_validcase (p : Pr) (c : Cs) (hp : PrIn p) (hc : CsIn c) : AF Tryz.prog 32 [progA p, caseA c] (.bool (bP (CaseOk p c))) := by
  have hac := hp.acts
  refine AF_of ⟨[(0, progA (p)), (1, caseA (c))], [], 0, 33⟩ Tryz.func32 rfl 33 Tryz.ntmps32 (by kernel_rfl) (by kernel_rfl) fun B D0 hA0 => ?_
  refine qreg 3 [2, 3] ?_
  refine AC_seq_list ?_
  refine qrun 1 ?_
  refine qcl (AF_progvalid p hp) ?_
  refine qrun 1 ?_
  refine bool_split (validB p) (fun hx1 => ?_) (fun hx1 => ?_)
  ·
   refine qLknown 7 _ true hx1 ?_
   refine qrun 2 ?_
   refine qbg (decide ((0 : Int) ≤ c.craft)) ?_
   refine qrun 2 ?_
   refine bool_split (decide ((0 : Int) ≤ c.craft)) (fun hx2 => ?_) (fun hx2 => ?_)
   ·
    have hx2d := of_decide_eq_true hx2
    refine qLknown 12 _ true hx2 ?_
    refine qrun 4 ?_
    refine qopg (.int (((p.names.length : Nat) : Int))) .none (qlen (.tmp 16) 22 #[22] Tryz.underlying22 (p.names.length) (.inl ⟨1, (fun i0 => .lit (.string (p.names.getD i0 ByteArray.empty))), by kernel_rfl⟩)) ?_
    refine qbg (decide (c.craft < ((p.names.length : Nat) : Int))) ?_
    refine qrun 2 ?_
    refine bool_split (decide (c.craft < ((p.names.length : Nat) : Int))) (fun hx3 => ?_) (fun hx3 => ?_)
    ·
     have hx3d := of_decide_eq_true hx3
     refine qLknown 20 _ true hx3 ?_
     refine qrun 2 ?_
     refine qbg (decide ((0 : Int) ≤ c.act)) ?_
     refine qrun 2 ?_
     refine bool_split (decide ((0 : Int) ≤ c.act)) (fun hx4 => ?_) (fun hx4 => ?_)
     ·
      have hx4d := of_decide_eq_true hx4
      refine qLknown 25 _ true hx4 ?_
      refine qrun 4 ?_
      refine qopg (.int (((p.acts.length : Nat) : Int))) .none (qlen (.tmp 29) 24 #[24] Tryz.underlying24 (p.acts.length) (.inl ⟨3, (fun i0 => actA ((p.acts.getD i0 Ac.none))), by kernel_rfl⟩)) ?_
      refine qbg (decide (c.act < ((p.acts.length : Nat) : Int))) ?_
      refine qrun 2 ?_
      refine qend [4] ?_
      refine AC_ret ?_
      exact ⟨.inl rfl, (resOk1 Tryz.results32 (resV_tmp (x := .bool (decide (c.act < ((p.acts.length : Nat) : Int)))) (by kernel_rfl) (by kernel_rfl))).cast (congrArg AV.bool (if hz : c.act < (p.acts.length : Int) then (decide_eq_true hz).trans (bP_true ⟨by assumption, by omega, by omega, by omega, hz⟩).symm else (decide_eq_false hz).trans (bP_false (by rintro ⟨g1, g2, g3, g4, g5⟩; omega)).symm))⟩
     ·
      have hx4d := of_decide_eq_false hx4
      refine qLknown 25 _ false hx4 ?_
      refine qrun 8 ?_
      refine qend [4] ?_
      refine AC_ret ?_
      exact ⟨.inl rfl, (resOk1 Tryz.results32 (resV_tmp (x := .bool false) (by kernel_rfl) (by kernel_rfl))).cast (congrArg AV.bool (bP_false (by rintro ⟨g1, g2, g3, g4, g5⟩; first | omega | (simp_all; done))).symm)⟩
    ·
     have hx3d := of_decide_eq_false hx3
     refine qLknown 20 _ false hx3 ?_
     refine qrun 13 ?_
     refine qend [4] ?_
     refine AC_ret ?_
     exact ⟨.inl rfl, (resOk1 Tryz.results32 (resV_tmp (x := .bool false) (by kernel_rfl) (by kernel_rfl))).cast (congrArg AV.bool (bP_false (by rintro ⟨g1, g2, g3, g4, g5⟩; first | omega | (simp_all; done))).symm)⟩
   ·
    have hx2d := of_decide_eq_false hx2
    refine qLknown 12 _ false hx2 ?_
    refine qrun 21 ?_
    refine qend [4] ?_
    refine AC_ret ?_
    exact ⟨.inl rfl, (resOk1 Tryz.results32 (resV_tmp (x := .bool false) (by kernel_rfl) (by kernel_rfl))).cast (congrArg AV.bool (bP_false (by rintro ⟨g1, g2, g3, g4, g5⟩; first | omega | (simp_all; done))).symm)⟩
  ·
   refine qLknown 7 _ false hx1 ?_
   refine qrun 26 ?_
   refine qend [4] ?_
   refine AC_ret ?_
   exact ⟨.inl rfl, (resOk1 Tryz.results32 (resV_tmp (x := .bool false) (by kernel_rfl) (by kernel_rfl))).cast (congrArg AV.bool (bP_false (by rintro ⟨g1, g2, g3, g4, g5⟩; first | omega | (simp_all; done))).symm)⟩
theorem AF_valid40 (p : Pr) (c : Cs) (hp : PrIn p) (hc : CsIn c) : AF Tryz.prog 15 [progA p, caseA c] (.bool (bP (CaseOk p c))) := by
  have hac := hp.acts
  refine AF_of ⟨[(0, progA (p)), (1, caseA (c))], [], 0, 33⟩ Tryz.func15 rfl 33 Tryz.ntmps15 (by kernel_rfl) (by kernel_rfl) fun B D0 hA0 => ?_
  refine qreg 3 [2, 3] ?_
  refine AC_seq_list ?_
  refine qrun 1 ?_
  refine qcl (AF_progvalid p hp) ?_
  refine qrun 1 ?_
  refine bool_split (validB p) (fun hx1 => ?_) (fun hx1 => ?_)
  ·
   refine qLknown 7 _ true hx1 ?_
   refine qrun 2 ?_
   refine qbg (decide ((0 : Int) ≤ c.craft)) ?_
   refine qrun 2 ?_
   refine bool_split (decide ((0 : Int) ≤ c.craft)) (fun hx2 => ?_) (fun hx2 => ?_)
   ·
    have hx2d := of_decide_eq_true hx2
    refine qLknown 12 _ true hx2 ?_
    refine qrun 4 ?_
    refine qopg (.int (((p.names.length : Nat) : Int))) .none (qlen (.tmp 16) 22 #[22] Tryz.underlying22 (p.names.length) (.inl ⟨1, (fun i0 => .lit (.string (p.names.getD i0 ByteArray.empty))), by kernel_rfl⟩)) ?_
    refine qbg (decide (c.craft < ((p.names.length : Nat) : Int))) ?_
    refine qrun 2 ?_
    refine bool_split (decide (c.craft < ((p.names.length : Nat) : Int))) (fun hx3 => ?_) (fun hx3 => ?_)
    ·
     have hx3d := of_decide_eq_true hx3
     refine qLknown 20 _ true hx3 ?_
     refine qrun 2 ?_
     refine qbg (decide ((0 : Int) ≤ c.act)) ?_
     refine qrun 2 ?_
     refine bool_split (decide ((0 : Int) ≤ c.act)) (fun hx4 => ?_) (fun hx4 => ?_)
     ·
      have hx4d := of_decide_eq_true hx4
      refine qLknown 25 _ true hx4 ?_
      refine qrun 4 ?_
      refine qopg (.int (((p.acts.length : Nat) : Int))) .none (qlen (.tmp 29) 24 #[24] Tryz.underlying24 (p.acts.length) (.inl ⟨3, (fun i0 => actA ((p.acts.getD i0 Ac.none))), by kernel_rfl⟩)) ?_
      refine qbg (decide (c.act < ((p.acts.length : Nat) : Int))) ?_
      refine qrun 2 ?_
      refine qend [4] ?_
      refine AC_ret ?_
      exact ⟨.inl rfl, (resOk1 Tryz.results15 (resV_tmp (x := .bool (decide (c.act < ((p.acts.length : Nat) : Int)))) (by kernel_rfl) (by kernel_rfl))).cast (congrArg AV.bool (if hz : c.act < (p.acts.length : Int) then (decide_eq_true hz).trans (bP_true ⟨by assumption, by omega, by omega, by omega, hz⟩).symm else (decide_eq_false hz).trans (bP_false (by rintro ⟨g1, g2, g3, g4, g5⟩; omega)).symm))⟩
     ·
      have hx4d := of_decide_eq_false hx4
      refine qLknown 25 _ false hx4 ?_
      refine qrun 8 ?_
      refine qend [4] ?_
      refine AC_ret ?_
      exact ⟨.inl rfl, (resOk1 Tryz.results15 (resV_tmp (x := .bool false) (by kernel_rfl) (by kernel_rfl))).cast (congrArg AV.bool (bP_false (by rintro ⟨g1, g2, g3, g4, g5⟩; first | omega | (simp_all; done))).symm)⟩
    ·
     have hx3d := of_decide_eq_false hx3
     refine qLknown 20 _ false hx3 ?_
     refine qrun 13 ?_
     refine qend [4] ?_
     refine AC_ret ?_
     exact ⟨.inl rfl, (resOk1 Tryz.results15 (resV_tmp (x := .bool false) (by kernel_rfl) (by kernel_rfl))).cast (congrArg AV.bool (bP_false (by rintro ⟨g1, g2, g3, g4, g5⟩; first | omega | (simp_all; done))).symm)⟩
   ·
    have hx2d := of_decide_eq_false hx2
    refine qLknown 12 _ false hx2 ?_
    refine qrun 21 ?_
    refine qend [4] ?_
    refine AC_ret ?_
    exact ⟨.inl rfl, (resOk1 Tryz.results15 (resV_tmp (x := .bool false) (by kernel_rfl) (by kernel_rfl))).cast (congrArg AV.bool (bP_false (by rintro ⟨g1, g2, g3, g4, g5⟩; first | omega | (simp_all; done))).symm)⟩
  ·
   refine qLknown 7 _ false hx1 ?_
   refine qrun 26 ?_
   refine qend [4] ?_
   refine AC_ret ?_
   exact ⟨.inl rfl, (resOk1 Tryz.results15 (resV_tmp (x := .bool false) (by kernel_rfl) (by kernel_rfl))).cast (congrArg AV.bool (bP_false (by rintro ⟨g1, g2, g3, g4, g5⟩; first | omega | (simp_all; done))).symm)⟩
theorem AF_caseend (p : Pr) (c : Cs) (hp : PrIn p) (hc : CsIn c) (h : CaseOk p c) : AF Tryz.prog 33 [progA p, caseA c] (.lit (.tuple #[.int .i64 (caseEnd p c), .int .i64 (0)])) := by
 have hv1 := h.2.1
 have hv2 := h.2.2.1
 have hv3 := h.2.2.2.1
 have hv4 := h.2.2.2.2
 have hmv := (valid_ok h.1).mv c.act.toNat (by omega)
 refine AF_of ⟨[(0, progA (p)), (1, caseA (c))], [], 0, 14⟩ Tryz.func33 rfl 14 Tryz.ntmps33 (by kernel_rfl) (by kernel_rfl) fun B D0 hA0 => ?_
 refine qreg 4 [2, 3] ?_
 refine AC_seq ?_
 refine AC_seq_list ?_
 refine qrun 2 ?_
 refine qcl (AF_validcase p c hp hc) ?_
 refine qb (!bP (CaseOk p c)) ?_
 refine qend [2, 3, 9] ?_
 refine qF (b := (!bP (CaseOk p c))) (by rw [(bP_true h)]; rfl) ?_
 refine AC_skip ?_
 refine AC_seq_list ?_
 refine qrun 3 ?_
 refine qcl ((by have := AF_end p hp (valid_ok h.1) c.act.toNat (by have := h.2.2.2.2; omega); rwa [show ((c.act.toNat : Nat) : Int) = c.act by have := h.2.2.2.1; omega] at this)) ?_
 refine qrun 2 ?_
 refine qend [4, 5] ?_
 refine AC_ret ?_
 exact ⟨.inl rfl, (resOk2 Tryz.results33 (resV_tmp (x := .int (caseEnd p c)) (by kernel_rfl) (by kernel_rfl)) (resV_tmp (x := .int (0)) (by kernel_rfl) (by kernel_rfl))).cast (by kernel_rfl)⟩
theorem AF_casept (p : Pr) (c : Cs) (hp : PrIn p) (hc : CsIn c) (h : CaseOk p c) : AF Tryz.prog 34 [progA p, caseA c] (.lit (.tuple #[.agg #[.int .i64 ((casePt p c).x), .int .i64 ((casePt p c).y), .int .i64 ((casePt p c).z)], .int .i64 (0)])) := by
 have hv1 := h.2.1
 have hv2 := h.2.2.1
 have hv3 := h.2.2.2.1
 have hv4 := h.2.2.2.2
 have hmv := (valid_ok h.1).mv c.act.toNat (by omega)
 refine AF_of ⟨[(0, progA (p)), (1, caseA (c))], [], 0, 23⟩ Tryz.func34 rfl 23 Tryz.ntmps34 (by kernel_rfl) (by kernel_rfl) fun B D0 hA0 => ?_
 refine qreg 4 [2, 3, 4] ?_
 refine AC_seq ?_
 refine AC_seq_list ?_
 refine qrun 2 ?_
 refine qcl (AF_validcase p c hp hc) ?_
 refine qb (!bP (CaseOk p c)) ?_
 refine qend [2, 3, 4, 9] ?_
 refine qF (b := (!bP (CaseOk p c))) (by rw [(bP_true h)]; rfl) ?_
 refine AC_skip ?_
 refine qsdraw [(4, .elt 3 (fun q => AV.cell (actA ((p.acts.getD ((c.act).toNat) Ac.none))) q), .none), (9, .elt 6 (fun q => AV.cell (mvA (((p.acts.getD ((c.act).toNat) Ac.none).moves.getD ((c.craft).toNat) Mv.none))) q), .none)] [4, 5] 3 ⟨?_, ?_, trivial⟩ ?_
 · exact qcast (qindex_sl 24 (.tmp 12) (.tmp 14) Tryz.underlying24 3 (p.acts.length) ((c.act).toNat) (fun i0 => actA ((p.acts.getD i0 Ac.none))) (c.act) Tryz.sizeOf60)
 · exact qcast (qindex_sl 58 (.tmp 17) (.tmp 19) Tryz.underlying58 6 ((p.acts.getD ((c.act).toNat) Ac.none).moves.length) ((c.craft).toNat) (fun i0 => mvA (((p.acts.getD ((c.act).toNat) Ac.none).moves.getD i0 Mv.none))) (c.craft) Tryz.sizeOf57)
 refine AC_ret ?_
 exact ⟨.inl rfl, (resOk2 Tryz.results34 (resV_cell (x := .lit (.agg #[.int .i64 (((p.acts.getD ((c.act).toNat) Ac.none).moves.getD ((c.craft).toNat) Mv.none).to.x), .int .i64 (((p.acts.getD ((c.act).toNat) Ac.none).moves.getD ((c.craft).toNat) Mv.none).to.y), .int .i64 (((p.acts.getD ((c.act).toNat) Ac.none).moves.getD ((c.craft).toNat) Mv.none).to.z)])) 2 Tryz.isAgg55 3 Tryz.sizeOf55 0 [.int (((p.acts.getD ((c.act).toNat) Ac.none).moves.getD ((c.craft).toNat) Mv.none).to.x), .int (((p.acts.getD ((c.act).toNat) Ac.none).moves.getD ((c.craft).toNat) Mv.none).to.y), .int (((p.acts.getD ((c.act).toNat) Ac.none).moves.getD ((c.craft).toNat) Mv.none).to.z)] (by kernel_rfl) 55 (by kernel_rfl) (Nat.le_of_ble_eq_true (by kernel_rfl)) (by kernel_rfl) (by kernel_rfl)) (resV_tmp (x := .int (0)) (by kernel_rfl) (by kernel_rfl))).cast (by kernel_rfl)⟩
noncomputable def horP (p : Pr) (d : De) : Prop := validB p = true ∧ DescOk d
def horT (p : Pr) (d : De) : Int := endT p.acts p.acts.length + d.across + d.down
theorem AF_length (p : Pr) (hp : PrIn p) (h : validB p = true) : AF Tryz.prog 26 [progA p] (.lit (.tuple #[.int .i64 (endT p.acts p.acts.length), .int .i64 0])) := by
  have ho := valid_ok h
  have hac := ho.acts
  refine AF_of ⟨[(0, progA (p))], [], 0, 23⟩ Tryz.func26 rfl 23 Tryz.ntmps26 (by kernel_rfl) (by kernel_rfl) fun B D0 hA0 => ?_
  refine qreg 3 [1] ?_
  refine AC_seq ?_
  refine AC_seq_list ?_
  refine qrun 1 ?_
  refine qcl (AF_progvalid p hp) ?_
  refine qb (!validB p) ?_
  refine qend [1, 9] ?_
  refine qF (b := (!validB p)) (by rw [h]; rfl) ?_
  refine AC_skip ?_
  refine qreg 1 [1, 4] ?_
  refine AC_seq ?_
  refine AC_seq_list ?_
  refine qrun 2 ?_
  refine qopn (.int (((p.acts.length : Nat) : Int))) (qlen (.tmp 11) 24 #[24] Tryz.underlying24 (p.acts.length) (.inl ⟨3, (fun i0 => actA ((p.acts.getD i0 Ac.none))), by kernel_rfl⟩)) ?_
  refine qrun 1 ?_
  refine qend [4, 11, 12, 13] ?_
  refine AC_block ?_
  refine AC_loop_inv (fun m s => ∃ i, i ≤ p.acts.length ∧ m = p.acts.length - i ∧ (True) ∧ s = ⟨[(4, .int (endT p.acts (i))), (11, actsA (p.acts)), (12, .int (((p.acts.length : Nat) : Int))), (13, .int (((i : Nat) : Int)))], [(0, .box 26 [namesA (p.names), vecsA (p.homes), actsA (p.acts)])], 1, 23⟩) (p.acts.length) ⟨0, Nat.zero_le _, rfl, trivial, (by kernel_rfl)⟩ ?_
  rintro _ _ ⟨i, hin, rfl, hFi, rfl⟩
  refine AC_seq_list ?_
  refine qb (decide (((i : Nat) : Int) < ((p.acts.length : Nat) : Int))) ?_
  refine qend [4, 11, 12, 13, 14] ?_
  refine AC_seq ?_
  refine bool_split (decide (((i : Nat) : Int) < ((p.acts.length : Nat) : Int))) (fun hx1 => ?_) (fun hx1 => ?_)
  ·
   have hx1d := of_decide_eq_true hx1
   refine qT hx1 ?_
   refine AC_skip ?_
   refine AC_seq ?_
   refine AC_block ?_
   have he2 := ho.ends i (by omega)
   have hl := getD_in hp.lens i
   refine AC_seq_list ?_
   refine qopn (.elt 3 (fun q => AV.cell (actA ((p.acts.getD i Ac.none))) q)) (qindex_sl 24 (.tmp 11) (.tmp 13) Tryz.underlying24 3 (p.acts.length) (i) (fun i0 => actA ((p.acts.getD i0 Ac.none))) (((i : Nat) : Int)) Tryz.sizeOf60) ?_
   refine qrun 3 ?_
   refine qend [4, 6, 11, 12, 13] ?_
   refine AC_list ?_
   refine qrun 3 ?_
   refine qopn (.int (endT p.acts (i + 1))) (qlit (v := .int .i64 (IntKind.wrap .i64 (endT p.acts (i) + (p.acts.getD i Ac.none).len))) (v' := .int .i64 (endT p.acts (i + 1))) (congrArg (Value.int .i64) ((IntWalk.i64_in _ (by have he3 := ho.ends (i + 1) (by omega); rw [endT] at he3; omega)).trans rfl)) _) ?_
   refine qrun 1 ?_
   refine qend1 [4, 11, 12, 13] ?_
   refine qCnorm [4, 11, 12, 13] ⟨[(4, .int (endT p.acts (i + 1))), (11, actsA (p.acts)), (12, .int (((p.acts.length : Nat) : Int))), (13, .int (((i : Nat) : Int)))], [(0, .box 26 [namesA (p.names), vecsA (p.homes), actsA (p.acts)]), (1, .box 60 [.lit (.string ((p.acts.getD i Ac.none).name)), .int ((p.acts.getD i Ac.none).len), mvsA ((p.acts.getD i Ac.none).moves)])], 2, 23⟩ ?_
   refine qCren [(0, 0)] 1 0 hA0 _ (flatH_box (flatH_box flatH_nil)) ?_
   refine AC_list ?_
   refine qw (((i : Nat) : Int) + 1) (((i + 1 : Nat) : Int)) ?_
   refine qrun 1 ?_
   refine qend1 [4, 11, 12, 13] ?_
   exact ⟨_, (by omega : p.acts.length - (i + 1) < p.acts.length - i), i + 1, (by omega), rfl, trivial, (by kernel_rfl)⟩
  ·
   have hx1d := of_decide_eq_false hx1
   refine qF hx1 ?_
   refine AC_exit ?_
   refine qreg 3 [2, 3] ?_
   refine AC_ret ?_
   exact ⟨.inl rfl, (resOk2 Tryz.results26 (resV_tmp (x := .int (endT p.acts (i))) (by kernel_rfl) (by kernel_rfl)) (resV_tmp (x := .int (0)) (by kernel_rfl) (by kernel_rfl))).cast (congrArg (fun q => AV.lit (.tuple #[.int .i64 (endT p.acts q), .int .i64 0])) (show i = p.acts.length by omega))⟩
theorem AF_horizon_range (p : Pr) (d : De) (hp : PrIn p) (hd : DeIn d) (h : horP p d) (h0 : 0 < p.acts.length) (h1 : 3600000 < horT p d) : AF Tryz.prog 9 [progA p, descA d] (.lit (.tuple #[.int .i64 (0), .int .i64 (3)])) := by
 have ho := valid_ok h.1
 have hac := ho.acts
 have hen := ho.ends p.acts.length (Nat.le_refl _)
 have hd1 := h.2.1
 refine AF_of ⟨[(0, progA (p)), (1, descA (d))], [], 0, 40⟩ Tryz.func9 rfl 40 Tryz.ntmps9 (by kernel_rfl) (by kernel_rfl) fun B D0 hA0 => ?_
 refine qreg 4 [2, 3] ?_
 refine AC_seq ?_
 refine AC_block ?_
 refine AC_seq ?_
 refine AC_seq_list ?_
 refine qrun 1 ?_
 refine qcl (AF_progvalid p hp) ?_
 refine qb (!validB p) ?_
 refine qrun 1 ?_
 refine qend [2, 3, 8] ?_
 refine qF (b := (!validB p)) (by rw [h.1]; rfl) ?_
 refine AC_list ?_
 refine qrun 1 ?_
 refine qcl (AF_escvalid d hd) ?_
 refine qb (!bP (DescOk d)) ?_
 refine qrun 1 ?_
 refine qend1 [2, 3, 8] ?_
 refine qF (b := (!bP (DescOk d))) (by rw [(bP_true h.2)]; rfl) ?_
 refine AC_seq_list ?_
 refine qrun 2 ?_
 refine qopn (.int (((p.acts.length : Nat) : Int))) (qlen (.tmp 17) 24 #[24] Tryz.underlying24 (p.acts.length) (.inl ⟨3, (fun i0 => actA ((p.acts.getD i0 Ac.none))), by kernel_rfl⟩)) ?_
 refine qopn (.bool false) (qlit (v := .bool (decide (((p.acts.length : Nat) : Int) = 0))) (v' := .bool false) (congrArg Value.bool (decide_eq_false (by omega))) _) ?_
 refine qrun 1 ?_
 refine qend [2, 3, 15] ?_
 refine qCfalse ?_
 refine AC_skip ?_
 refine AC_seq_list ?_
 refine qrun 1 ?_
 refine qcl (AF_length p hp h.1) ?_
 refine qrun 1 ?_
 refine qi (endT p.acts p.acts.length) ?_
 refine qi (0) ?_
 refine qrun 2 ?_
 refine qend [3, 6] ?_
 refine AC_seq ?_
 refine AC_seq_list ?_
 refine qrun 3 ?_
 refine qv (endT p.acts p.acts.length + d.across) ?_
 refine qrun 2 ?_
 refine qv (endT p.acts p.acts.length + d.across + d.down) ?_
 refine qopn (.bool true) (qlit (v := .bool (decide ((3600000 : Int) < endT p.acts p.acts.length + d.across + d.down))) (v' := .bool true) (congrArg Value.bool (decide_eq_true (by unfold horT at h1; omega))) _) ?_
 refine qend [3, 6, 32] ?_
 refine qCtrue ?_
 refine qreg 2 [4, 5] ?_
 refine AC_ret ?_
 exact ⟨.inl rfl, (resOk2 Tryz.results9 (resV_tmp (x := .int (0)) (by kernel_rfl) (by kernel_rfl)) (resV_tmp (x := .int (3)) (by kernel_rfl) (by kernel_rfl))).cast (by kernel_rfl)⟩
theorem AF_horizon_ok (p : Pr) (d : De) (hp : PrIn p) (hd : DeIn d) (h : horP p d) (h0 : 0 < p.acts.length) (h1 : horT p d ≤ 3600000) : AF Tryz.prog 9 [progA p, descA d] (.lit (.tuple #[.int .i64 (horT p d), .int .i64 (0)])) := by
 have ho := valid_ok h.1
 have hac := ho.acts
 have hen := ho.ends p.acts.length (Nat.le_refl _)
 have hd1 := h.2.1
 refine AF_of ⟨[(0, progA (p)), (1, descA (d))], [], 0, 40⟩ Tryz.func9 rfl 40 Tryz.ntmps9 (by kernel_rfl) (by kernel_rfl) fun B D0 hA0 => ?_
 refine qreg 4 [2, 3] ?_
 refine AC_seq ?_
 refine AC_block ?_
 refine AC_seq ?_
 refine AC_seq_list ?_
 refine qrun 1 ?_
 refine qcl (AF_progvalid p hp) ?_
 refine qb (!validB p) ?_
 refine qrun 1 ?_
 refine qend [2, 3, 8] ?_
 refine qF (b := (!validB p)) (by rw [h.1]; rfl) ?_
 refine AC_list ?_
 refine qrun 1 ?_
 refine qcl (AF_escvalid d hd) ?_
 refine qb (!bP (DescOk d)) ?_
 refine qrun 1 ?_
 refine qend1 [2, 3, 8] ?_
 refine qF (b := (!bP (DescOk d))) (by rw [(bP_true h.2)]; rfl) ?_
 refine AC_seq_list ?_
 refine qrun 2 ?_
 refine qopn (.int (((p.acts.length : Nat) : Int))) (qlen (.tmp 17) 24 #[24] Tryz.underlying24 (p.acts.length) (.inl ⟨3, (fun i0 => actA ((p.acts.getD i0 Ac.none))), by kernel_rfl⟩)) ?_
 refine qopn (.bool false) (qlit (v := .bool (decide (((p.acts.length : Nat) : Int) = 0))) (v' := .bool false) (congrArg Value.bool (decide_eq_false (by omega))) _) ?_
 refine qrun 1 ?_
 refine qend [2, 3, 15] ?_
 refine qCfalse ?_
 refine AC_skip ?_
 refine AC_seq_list ?_
 refine qrun 1 ?_
 refine qcl (AF_length p hp h.1) ?_
 refine qrun 1 ?_
 refine qi (endT p.acts p.acts.length) ?_
 refine qi (0) ?_
 refine qrun 2 ?_
 refine qend [3, 6] ?_
 refine AC_seq ?_
 refine AC_seq_list ?_
 refine qrun 3 ?_
 refine qv (endT p.acts p.acts.length + d.across) ?_
 refine qrun 2 ?_
 refine qv (endT p.acts p.acts.length + d.across + d.down) ?_
 refine qopn (.bool false) (qlit (v := .bool (decide ((3600000 : Int) < endT p.acts p.acts.length + d.across + d.down))) (v' := .bool false) (congrArg Value.bool (decide_eq_false (by unfold horT at h1; omega))) _) ?_
 refine qend [3, 6, 32] ?_
 refine qCfalse ?_
 refine AC_skip ?_
 refine AC_seq_list ?_
 refine qrun 3 ?_
 refine qv (endT p.acts p.acts.length + d.across) ?_
 refine qrun 2 ?_
 refine qv (endT p.acts p.acts.length + d.across + d.down) ?_
 refine qrun 2 ?_
 refine qend [4, 5] ?_
 refine AC_ret ?_
 exact ⟨.inl rfl, (resOk2 Tryz.results9 (resV_tmp (x := .int (endT p.acts p.acts.length + d.across + d.down)) (by kernel_rfl) (by kernel_rfl)) (resV_tmp (x := .int (0)) (by kernel_rfl) (by kernel_rfl))).cast (by kernel_rfl)⟩
theorem AF_lawhorizon (p : Pr) (d : De) (hp : PrIn p) (hd : DeIn d) (h : horP p d) (h0 : 0 < p.acts.length) : AF Tryz.prog 13 [progA p, descA d] (.int (horT p d)) := by
 have ho := valid_ok h.1
 have hac := ho.acts
 have hen := ho.ends p.acts.length (Nat.le_refl _)
 have hd1 := h.2.1
 refine AF_of ⟨[(0, progA (p)), (1, descA (d))], [], 0, 17⟩ Tryz.func13 rfl 17 Tryz.ntmps13 (by kernel_rfl) (by kernel_rfl) fun B D0 hA0 => ?_
 refine qreg 3 [2, 3] ?_
 refine qsdraw [(3, .int (((p.acts.length : Nat) : Int)), .none), (4, .int (((p.acts.length - 1 : Nat) : Int)), .none), (5, .int (endT p.acts p.acts.length), .none), (8, .int (endT p.acts p.acts.length + d.across), .none), (11, .int (endT p.acts p.acts.length + d.across + d.down), .none)] [4] 2 ⟨?_, ?_, ?_, ?_, ?_, trivial⟩ ?_
 · exact qcast (qlen (.tmp 7) 24 #[24] Tryz.underlying24 (p.acts.length) (.inl ⟨3, (fun i0 => actA ((p.acts.getD i0 Ac.none))), by kernel_rfl⟩))
 · exact qwD (((p.acts.length : Nat) : Int) - 1)
 · exact qclD ((by have := AF_end40 p hp ho (p.acts.length - 1) (by omega); rwa [show p.acts.length - 1 + 1 = p.acts.length by omega] at this))
 · exact qwD (endT p.acts p.acts.length + d.across)
 · exact qwD (endT p.acts p.acts.length + d.across + d.down)
 refine AC_ret ?_
 exact ⟨.inl rfl, (resOk1 Tryz.results13 (resV_tmp (x := .int (endT p.acts p.acts.length + d.across + d.down)) (by kernel_rfl) (by kernel_rfl))).cast (by kernel_rfl)⟩
end Go.Proofs.YtkcnbaeoahoglaaGreat
namespace Go.Proofs.YtkcnbaeoahoglaaGreat
open Go.RowKit
theorem plG_ne {s : Sg} {a d : Int} (ho : s.o ≠ 0) (hd : d ≠ 0) : plG s a d ≠ 0 := by
 have h0 : (plO s d).natAbs ≠ 0 := by
  unfold plO
  rw [Int.natAbs_mul, Int.natAbs_pow]
  have h1 : 0 < s.o.natAbs := by omega
  have h2 : 0 < d.natAbs ^ 5 := Nat.pow_pos (by omega)
  exact Nat.ne_of_gt (Nat.mul_pos h1 h2)
 have g : ∀ x y : Int, x.natAbs ≠ 0 → (((Nat.gcd x.natAbs y.natAbs : Nat) : Int)).natAbs ≠ 0 := fun x y hx => by
  rw [Int.natAbs_natCast]
  exact Nat.ne_of_gt (Nat.gcd_pos_of_pos_left _ (by omega))
 have h := g _ (plZ s a d) (g _ (plY s a d) (g _ (plX s a d) h0))
 unfold plG
 omega
theorem AF_placeOk (s : Sg) (a d : Int) (hs : SgIn s) (ho : SegOk s) (ha : In64 a) (hd : In64 d) (h0 : d ≠ 0) : AF Tryz.prog 65 [segA s, .int a, .int d] (placeA (placeL s a d)) :=
  AF_place s a d hs ho.2.1.2.1 ho.2.2.1.2.1 ho.2.2.2.1.2.1 ha hd (plG_ne (by have := ho.1.2.2.2.1; omega) h0)
def Meets (s u : Sg) : Prop := s.t = u.f ∧ placeL s 1 1 = placeL u 0 1
instance (s u : Sg) : Decidable (Meets s u) := by unfold Meets; infer_instance
def PathOk (l : List Sg) : Prop := (∀ i, i < l.length → SegOk (l.getD i Sg.none) ∧ (0 < i → Meets (l.getD (i - 1) Sg.none) (l.getD i Sg.none))) ∧ 1 ≤ l.length ∧ l.length ≤ 256
instance (l : List Sg) : Decidable (PathOk l) := by unfold PathOk; infer_instance
def PathIn (l : List Sg) : Prop := l.length ≤ 1000000 ∧ ∀ i, SgIn (l.getD i Sg.none)
theorem in64_0 : In64 0 := ⟨by decide, by decide⟩
theorem in64_1 : In64 1 := ⟨by decide, by decide⟩
theorem AF_meets (s u : Sg) (hs : SgIn s) (hu : SgIn u) (ho : SegOk s) (hp : SegOk u) : AF Tryz.prog 61 [segA s, segA u] (.bool (bP (Meets s u))) := by
  refine AF_of ⟨[(0, segA (s)), (1, segA (u))], [], 0, 17⟩ Tryz.func61 rfl 17 Tryz.ntmps61 (by kernel_rfl) (by kernel_rfl) fun B D0 hA0 => ?_
  refine qreg 3 [2, 3] ?_
  refine bool_split (decide (s.t = u.f)) (fun hx1 => ?_) (fun hx1 => ?_)
  ·
   have hx1d := of_decide_eq_true hx1
   refine qsdraw [(4, .bool true, .none), (7, .lit (.agg #[.bool (decide ((placeL s 1 1).x < 0)), .string (beB ((placeL s 1 1).x).natAbs), .bool (decide ((placeL s 1 1).y < 0)), .string (beB ((placeL s 1 1).y).natAbs), .bool (decide ((placeL s 1 1).z < 0)), .string (beB ((placeL s 1 1).z).natAbs), .bool (decide ((placeL s 1 1).o < 0)), .string (beB ((placeL s 1 1).o).natAbs)]), .none), (9, .lit (.agg #[.bool (decide ((placeL u 0 1).x < 0)), .string (beB ((placeL u 0 1).x).natAbs), .bool (decide ((placeL u 0 1).y < 0)), .string (beB ((placeL u 0 1).y).natAbs), .bool (decide ((placeL u 0 1).z < 0)), .string (beB ((placeL u 0 1).z).natAbs), .bool (decide ((placeL u 0 1).o < 0)), .string (beB ((placeL u 0 1).o).natAbs)]), .none), (10, .bool (decide (placeL s 1 1 = placeL u 0 1)), .none)] [4] 2 ⟨?_, ?_, ?_, ?_, trivial⟩ ?_
   · exact OpS.cast (qlit (v := .bool (decide (s.t = u.f))) (v' := .bool (decide (s.t = u.f))) (rfl) _) (congrArg AV.bool hx1) (by kernel_rfl)
   · exact qclD (AF_placeOk s 1 1 hs ho in64_1 in64_1 (by decide))
   · exact qclD (AF_placeOk u 0 1 hu hp in64_0 in64_1 (by decide))
   · exact qcast (opS_eql 98 98 (.tmp 12) (.tmp 14) (by kernel_rfl) _ _ (by kernel_rfl) (by kernel_rfl) (by kernel_rfl) (decide (placeL s 1 1 = placeL u 0 1)) (eqPlace (placeL s 1 1) (placeL u 0 1)))
   refine AC_ret ?_
   exact ⟨.inl rfl, (resOk1 Tryz.results61 (resV_tmp (x := .bool (decide (placeL s 1 1 = placeL u 0 1))) (by kernel_rfl) (by kernel_rfl))).cast (congrArg AV.bool (if hz : placeL s 1 1 = placeL u 0 1 then (decide_eq_true hz).trans (bP_true ⟨by assumption, hz⟩).symm else (decide_eq_false hz).trans (bP_false (fun g => hz g.2)).symm))⟩
  ·
   have hx1d := of_decide_eq_false hx1
   refine qsdraw [(4, .bool false, .none)] [4] 2 ⟨?_, trivial⟩ ?_
   · exact OpS.cast (qlit (v := .bool (decide (s.t = u.f))) (v' := .bool (decide (s.t = u.f))) (rfl) _) (congrArg AV.bool hx1) (by kernel_rfl)
   refine AC_ret ?_
   exact ⟨.inl rfl, (resOk1 Tryz.results61 (resV_tmp (x := .bool false) (by kernel_rfl) (by kernel_rfl))).cast (congrArg AV.bool (bP_false (fun g => absurd g.1 (by assumption))).symm)⟩
theorem AF_validpath (l : List Sg) (hl : PathIn l) : AF Tryz.prog 57 [pathA l] (.bool (bP (PathOk l))) := by
  have hln := hl.1
  refine AF_of ⟨[(0, pathA (l))], [], 0, 38⟩ Tryz.func57 rfl 38 Tryz.ntmps57 (by kernel_rfl) (by kernel_rfl) fun B D0 hA0 => ?_
  refine qreg 1 [0] ?_
  refine AC_seq ?_
  refine AC_seq_list ?_
  refine qrun 1 ?_
  refine qopn (.int ((((l).length : Nat) : Int))) (qlen (.tmp 5) 41 #[41] Tryz.underlying41 ((l).length) (.inl ⟨6, (fun i0 => segA (((l).getD i0 Sg.none))), by kernel_rfl⟩)) ?_
  refine qrun 1 ?_
  refine qend [0, 5, 6, 7] ?_
  refine AC_block ?_
  refine AC_loop_inv (fun m s => ∃ i, i ≤ l.length ∧ m = l.length - i ∧ (∀ q, q < i → SegOk (l.getD q Sg.none) ∧ (0 < q → Meets (l.getD (q - 1) Sg.none) (l.getD q Sg.none))) ∧ s = ⟨[(0, pathA (l)), (5, pathA (l)), (6, .int ((((l).length : Nat) : Int))), (7, .int (((i : Nat) : Int)))], [], 0, 38⟩) (l.length) ⟨0, Nat.zero_le _, rfl, (fun q hq => absurd hq (Nat.not_lt_zero q)), (by kernel_rfl)⟩ ?_
  rintro _ _ ⟨i, hin, rfl, hFi, rfl⟩
  refine AC_seq_list ?_
  refine qb (decide (((i : Nat) : Int) < (((l).length : Nat) : Int))) ?_
  refine qend [0, 5, 6, 7, 8] ?_
  refine AC_seq ?_
  refine bool_split (decide (((i : Nat) : Int) < (((l).length : Nat) : Int))) (fun hx1 => ?_) (fun hx1 => ?_)
  ·
   have hx1d := of_decide_eq_true hx1
   refine qT hx1 ?_
   refine AC_skip ?_
   refine AC_seq ?_
   refine AC_block ?_
   refine AC_seq_list ?_
   refine qrun 1 ?_
   refine qopn (.elt 6 (fun q => AV.cell (segA (((l).getD i Sg.none))) q)) (qindex_sl 41 (.tmp 5) (.tmp 7) Tryz.underlying41 6 ((l).length) (i) (fun i0 => segA (((l).getD i0 Sg.none))) (((i : Nat) : Int)) Tryz.sizeOf67) ?_
   refine qrun 4 ?_
   refine qend [0, 3, 4, 5, 6, 7] ?_
   refine bool_split (decide (SegOk (l.getD i Sg.none))) (fun hx2 => ?_) (fun hx2 => ?_)
   ·
    have hx2d := of_decide_eq_true hx2
    refine bool_split (decide ((0 : Int) < ((i : Nat) : Int))) (fun hx3 => ?_) (fun hx3 => ?_)
    ·
     have hx3d := of_decide_eq_true hx3
     refine qsdraw [(1, .bool true, .none), (2, .bool false, .none), (5, .bool true, .none), (9, .int (((i - 1 : Nat) : Int)), .none), (10, .elt 6 (fun q => AV.cell (segA (((l).getD (i - 1) Sg.none))) q), .none), (13, .bool (bP (Meets (l.getD (i - 1) Sg.none) (l.getD i Sg.none))), .none), (14, .bool (!bP (Meets (l.getD (i - 1) Sg.none) (l.getD i Sg.none))), .none)] [0, 5, 6, 7, 28] 1 ⟨?_, ?_, ?_, ?_, ?_, ?_, ?_, trivial⟩ ?_
     · exact OpS.cast (qcall 74 #[(.tmp 12)] #[67] [segA (((l).getD i Sg.none))] (.bool (decide (SegOk (l.getD i Sg.none)))) (AF_segvalid (l.getD i Sg.none) (hl.2 i))) (congrArg AV.bool hx2) (by kernel_rfl)
     · exact qbD
     · exact OpS.cast (qlit (v := .bool (decide ((0 : Int) < ((i : Nat) : Int)))) (v' := .bool (decide ((0 : Int) < ((i : Nat) : Int)))) (rfl) _) (congrArg AV.bool hx3) (by kernel_rfl)
     · exact qwD (((i : Nat) : Int) - 1)
     · exact qcast (qindex_sl 41 (.tmp 19) (.tmp 21) Tryz.underlying41 6 ((l).length) (i - 1) (fun i0 => segA (((l).getD i0 Sg.none))) (((i - 1 : Nat) : Int)) Tryz.sizeOf67)
     · exact qcast (qcall 61 #[(.tmp 23), (.tmp 24)] #[67, 67] [segA (((l).getD (i - 1) Sg.none)), segA (((l).getD i Sg.none))] (.bool (bP (Meets (l.getD (i - 1) Sg.none) (l.getD i Sg.none)))) (AF_meets _ _ (hl.2 (i - 1)) (hl.2 i) (hFi (i - 1) (by omega)).1 (of_decide_eq_true (by assumption))))
     · exact qbD
     refine bool_split (bP (Meets (l.getD (i - 1) Sg.none) (l.getD i Sg.none))) (fun hx4 => ?_) (fun hx4 => ?_)
     ·
      refine qF (nt hx4) ?_
      refine AC_skip ?_
      refine qCnorm [0, 5, 6, 7, 28] ⟨[(0, pathA (l)), (5, pathA (l)), (6, .int ((((l).length : Nat) : Int))), (7, .int (((i : Nat) : Int))), (28, .bool false)], [(0, .box 67 [.int (((l).getD i Sg.none).f), .int (((l).getD i Sg.none).t), .int (((l).getD i Sg.none).o), coefA (((l).getD i Sg.none).x), coefA (((l).getD i Sg.none).y), coefA (((l).getD i Sg.none).z)])], 1, 38⟩ ?_
      refine qCren [] 0 0 hA0 _ (flatH_box flatH_nil) ?_
      refine AC_list ?_
      refine qw (((i : Nat) : Int) + 1) (((i + 1 : Nat) : Int)) ?_
      refine qrun 1 ?_
      refine qend1 [0, 5, 6, 7] ?_
      exact ⟨_, (by omega : l.length - (i + 1) < l.length - i), i + 1, (by omega), rfl, (fun q hq => (Nat.lt_or_ge q i).elim (fun g => hFi q g) fun g => by have e : q = i := (by omega); subst e; exact ⟨of_decide_eq_true hx2, fun _ => bP_of hx4⟩), (by kernel_rfl)⟩
     ·
      refine qT (nf hx4) ?_
      refine qreg 1 [2] ?_
      refine AC_ret ?_
      exact ⟨.inl rfl, (resOk1 Tryz.results57 (resV_tmp (x := .bool false) (by kernel_rfl) (by kernel_rfl))).cast (congrArg AV.bool (bP_false (by rintro ⟨g1, g2, g3⟩; first | omega | exact bP_not hx4 ((g1 i (by omega)).2 (by omega)) | exact absurd (g1 i (by omega)).1 (of_decide_eq_false hx2))).symm)⟩
    ·
     have hx3d := of_decide_eq_false hx3
     refine qsdraw [(1, .bool true, .none), (2, .bool false, .none), (5, .bool false, .none)] [0, 5, 6, 7, 28] 1 ⟨?_, ?_, ?_, trivial⟩ ?_
     · exact OpS.cast (qcall 74 #[(.tmp 12)] #[67] [segA (((l).getD i Sg.none))] (.bool (decide (SegOk (l.getD i Sg.none)))) (AF_segvalid (l.getD i Sg.none) (hl.2 i))) (congrArg AV.bool hx2) (by kernel_rfl)
     · exact qbD
     · exact OpS.cast (qlit (v := .bool (decide ((0 : Int) < ((i : Nat) : Int)))) (v' := .bool (decide ((0 : Int) < ((i : Nat) : Int)))) (rfl) _) (congrArg AV.bool hx3) (by kernel_rfl)
     refine qCfalse ?_
     refine AC_skip ?_
     refine qCnorm [0, 5, 6, 7, 28] ⟨[(0, pathA (l)), (5, pathA (l)), (6, .int ((((l).length : Nat) : Int))), (7, .int (((i : Nat) : Int))), (28, .bool false)], [(0, .box 67 [.int (((l).getD i Sg.none).f), .int (((l).getD i Sg.none).t), .int (((l).getD i Sg.none).o), coefA (((l).getD i Sg.none).x), coefA (((l).getD i Sg.none).y), coefA (((l).getD i Sg.none).z)])], 1, 38⟩ ?_
     refine qCren [] 0 0 hA0 _ (flatH_box flatH_nil) ?_
     refine AC_list ?_
     refine qw (((i : Nat) : Int) + 1) (((i + 1 : Nat) : Int)) ?_
     refine qrun 1 ?_
     refine qend1 [0, 5, 6, 7] ?_
     exact ⟨_, (by omega : l.length - (i + 1) < l.length - i), i + 1, (by omega), rfl, (fun q hq => (Nat.lt_or_ge q i).elim (fun g => hFi q g) fun g => by have e : q = i := (by omega); subst e; exact ⟨of_decide_eq_true hx2, fun hz => absurd hz (by omega)⟩), (by kernel_rfl)⟩
   ·
    have hx2d := of_decide_eq_false hx2
    refine qsdraw [(1, .bool false, .none), (2, .bool true, .none)] [0, 5, 6, 7, 28] 1 ⟨?_, ?_, trivial⟩ ?_
    · exact OpS.cast (qcall 74 #[(.tmp 12)] #[67] [segA (((l).getD i Sg.none))] (.bool (decide (SegOk (l.getD i Sg.none)))) (AF_segvalid (l.getD i Sg.none) (hl.2 i))) (congrArg AV.bool hx2) (by kernel_rfl)
    · exact qbD
    refine qCtrue ?_
    refine qreg 1 [2] ?_
    refine AC_ret ?_
    exact ⟨.inl rfl, (resOk1 Tryz.results57 (resV_tmp (x := .bool false) (by kernel_rfl) (by kernel_rfl))).cast (congrArg AV.bool (bP_false (by rintro ⟨g1, g2, g3⟩; first | omega | exact absurd (g1 i (by omega)).1 (of_decide_eq_false hx2))).symm)⟩
  ·
   have hx1d := of_decide_eq_false hx1
   refine qF hx1 ?_
   refine AC_exit ?_
   refine AC_seq_list ?_
   refine qrun 1 ?_
   refine qopn (.int ((((l).length : Nat) : Int))) (qlen (.tmp 30) 41 #[41] Tryz.underlying41 ((l).length) (.inl ⟨6, (fun i0 => segA (((l).getD i0 Sg.none))), by kernel_rfl⟩)) ?_
   refine qb (decide ((1 : Int) ≤ (((l).length : Nat) : Int))) ?_
   refine qrun 1 ?_
   refine bool_split (decide ((1 : Int) ≤ (((l).length : Nat) : Int))) (fun hx5 => ?_) (fun hx5 => ?_)
   ·
    have hx5d := of_decide_eq_true hx5
    refine qLknown 33 _ true hx5 ?_
    refine qrun 1 ?_
    refine qopg (.int ((((l).length : Nat) : Int))) .none (qlen (.tmp 34) 41 #[41] Tryz.underlying41 ((l).length) (.inl ⟨6, (fun i0 => segA (((l).getD i0 Sg.none))), by kernel_rfl⟩)) ?_
    refine qbg (decide ((((l).length : Nat) : Int) ≤ 256)) ?_
    refine qrun 2 ?_
    refine qend [2] ?_
    refine AC_ret ?_
    exact ⟨.inl rfl, (resOk1 Tryz.results57 (resV_tmp (x := .bool (decide ((((l).length : Nat) : Int) ≤ 256))) (by kernel_rfl) (by kernel_rfl))).cast (congrArg AV.bool (if hz : l.length ≤ 256 then (decide_eq_true (by omega)).trans (bP_true ⟨fun q hq => hFi q (by omega), by omega, by omega⟩).symm else (decide_eq_false (by omega)).trans (bP_false (fun g => hz g.2.2)).symm))⟩
   ·
    have hx5d := of_decide_eq_false hx5
    refine qLknown 33 _ false hx5 ?_
    refine qrun 5 ?_
    refine qend [2] ?_
    refine AC_ret ?_
    exact ⟨.inl rfl, (resOk1 Tryz.results57 (resV_tmp (x := .bool false) (by kernel_rfl) (by kernel_rfl))).cast (congrArg AV.bool (bP_false (by rintro ⟨g1, g2, g3⟩; first | omega)).symm)⟩
theorem cloneInt_any (l : List Int) (v : Value) (w : World) (h : Sees w 0 w.heap.size 1 v l.length (ints l)) (hl : 0 < l.length) (hm : l.length ≤ 1000000) :
  Calls Tryz.prog 83 #[v] w fun e w' => ∃ v', e = .returned v' ∧ Sees w' w.heap.size w'.heap.size 1 v' l.length (ints l) ∧ Below w.heap.size w w' := by
 obtain ⟨i0, hi0, hz0, hz1, hz2⟩ := info_parts int_info
 obtain ⟨b, o, c, rfl, _, hb, hc⟩ := h.pos hl
 have hnil := fun W => Lib.run_eql_slice_nil (P := Tryz.prog) W 65 3 (some ⟨b, o, none⟩) l.length c 0 0 Tryz.underlying65
 clear hc
 go_enter Tryz.func83, Tryz.ntmps83
 have hown := own_new w [] 0 w.heap.size 1 3 rfl rfl (by decide)
 have hs1 := h.up ((Below.refl w.heap.size w).alloc (Nat.le_refl _) (.cells #[] 3))
 go_wp2_with (at_builtin; refine wpList_append_sees rfl (.tmp 5) (.tmp 6) 65 rfl w.heap.size 3 i0 _ 1 8 Tryz.underlying65 hi0 hz0 hz1 hz2 rfl (by decide) _ _ _ rfl hown _ _ _ _ rfl hs1 (ints_one l) ?_ ?_ ?_ ?_)
 · unfold maxLen; omega
 · omega
 · simp
 intro v' w1 hown1 hg1 hat1
 go_wp2
 go_ret
 refine ⟨_, rfl, Sees.own hown1, ((Below.refl _ _).alloc (Nat.le_refl _) _).grown hg1 (by simp) ?_⟩
 rintro j hj
 simp [Value.ownBlock] at hj
 omega
theorem AF_cloneInt (l : List Int) (hl : 0 < l.length) (hm : l.length ≤ 1000000) : AF Tryz.prog 83 [coefA l] (coefA l) := AF_mk fun E us hD hn hv => by
 rw [one_arg hn]
 have h0 := hv 0 (by simp)
 have h1 : SeesD E.w E.D 1 (us.getD 0 undef) l.length (ints l) := sl_coef (E := E.fz) h0
 refine (cloneInt_any l _ E.w (h1.more fun b hb => ⟨Nat.zero_le _, hD b hb⟩) hl hm).mono ?_
 rintro e w' ⟨v', rfl, hs, hb⟩
 exact ⟨_, rfl, hb, fun E' h1 h2 h3 => coef_sl hs h1 fun b hb => h3 b hb.1 hb.2⟩
def CoefsOk (l : List Sg) : Prop := ∀ i, i < l.length → (0 < (l.getD i Sg.none).x.length ∧ (l.getD i Sg.none).x.length ≤ 6) ∧ (0 < (l.getD i Sg.none).y.length ∧ (l.getD i Sg.none).y.length ≤ 6) ∧ (0 < (l.getD i Sg.none).z.length ∧ (l.getD i Sg.none).z.length ≤ 6)
end Go.Proofs.YtkcnbaeoahoglaaGreat
namespace Go.Proofs.YtkcnbaeoahoglaaGreat
open Go.RowKit
theorem AF_copy (l : List Sg) (hn : l.length ≤ 1000000) (hl : 0 < l.length) (hc : CoefsOk l) : AF Tryz.prog 62 [pathA l] (pathA l) := by
  refine AF_of ⟨[(0, pathA (l))], [], 0, 30⟩ Tryz.func62 rfl 30 Tryz.ntmps62 (by kernel_rfl) (by kernel_rfl) fun B D0 hA0 => ?_
  refine qreg 1 [0] ?_
  refine qreg 1 [0, 3] ?_
  refine AC_seq ?_
  refine AC_seq_list ?_
  refine qrun 1 ?_
  refine qopn (.int ((((l).length : Nat) : Int))) (qlen (.tmp 6) 41 #[41] Tryz.underlying41 ((l).length) (.inl ⟨6, (fun i0 => segA (((l).getD i0 Sg.none))), by kernel_rfl⟩)) ?_
  refine qrun 1 ?_
  refine qend [3, 6, 7, 8] ?_
  refine AC_block ?_
  refine AC_loop_inv (fun m s => ∃ i, i ≤ l.length ∧ m = l.length - i ∧ (True) ∧ ((i = 0 ∧ s = ⟨[(3, .lit (.slice none 0 0)), (6, pathA (l)), (7, .int ((((l).length : Nat) : Int))), (8, .int (((0 : Nat) : Int)))], [], 0, 30⟩) ∨ (0 < i ∧ s = ⟨[(3, .osl 9 6 (i)), (6, pathA (l)), (7, .int ((((l).length : Nat) : Int))), (8, .int (((i : Nat) : Int)))], [(9, .vec 67 6 (i) (fun xi => segA (l.getD xi Sg.none)))], 10, 30⟩))) (l.length) ⟨0, Nat.zero_le _, rfl, trivial, .inl ⟨rfl, (by kernel_rfl)⟩⟩ ?_
  rintro _ _ ⟨i, hin, rfl, hFi, (⟨hi0, rfl⟩ | ⟨hi0, rfl⟩)⟩
  ·
   subst hi0
   refine AC_seq_list ?_
   refine qb (decide (((0 : Nat) : Int) < (((l).length : Nat) : Int))) ?_
   refine qend [3, 6, 7, 8, 9] ?_
   refine AC_seq ?_
   refine bool_split (decide (((0 : Nat) : Int) < (((l).length : Nat) : Int))) (fun hx1 => ?_) (fun hx1 => ?_)
   ·
    have hx1d := of_decide_eq_true hx1
    refine qT hx1 ?_
    refine AC_skip ?_
    refine AC_seq ?_
    refine AC_block ?_
    refine AC_seq_list ?_
    refine qopn (.elt 6 (fun q => AV.cell (segA (((l).getD 0 Sg.none))) q)) (qindex_sl 41 (.tmp 6) (.tmp 8) Tryz.underlying41 6 ((l).length) (0) (fun i0 => segA (((l).getD i0 Sg.none))) (((0 : Nat) : Int)) Tryz.sizeOf67) ?_
    refine qrun 3 ?_
    refine qend [3, 5, 6, 7, 8] ?_
    refine qsdraw [(2, coefA (((l).getD 0 Sg.none).x), .none), (5, coefA (((l).getD 0 Sg.none).y), .none), (8, coefA (((l).getD 0 Sg.none).z), .none)] [3, 5, 6, 7, 8] 1 ⟨?_, ?_, ?_, trivial⟩ ?_
    · exact qcast (qcall 83 #[(.tmp 13)] #[65] [coefA (((l).getD 0 Sg.none).x)] (coefA (((l).getD 0 Sg.none).x)) (AF_cloneInt _ (hc 0 (by omega)).1.1 (by have := (hc 0 (by omega)).1.2; omega)))
    · exact qcast (qcall 83 #[(.tmp 16)] #[65] [coefA (((l).getD 0 Sg.none).y)] (coefA (((l).getD 0 Sg.none).y)) (AF_cloneInt _ (hc 0 (by omega)).2.1.1 (by have := (hc 0 (by omega)).2.1.2; omega)))
    · exact qcast (qcall 83 #[(.tmp 19)] #[65] [coefA (((l).getD 0 Sg.none).z)] (coefA (((l).getD 0 Sg.none).z)) (AF_cloneInt _ (hc 0 (by omega)).2.2.1 (by have := (hc 0 (by omega)).2.2.2; omega)))
    refine AC_list ?_
    refine qrun 2 ?_
    refine qop (.osl 1 6 (1)) (.new 1 (.vec 67 6 (1) (fun _ => segA (((l).getD 0 Sg.none))))) (qbuildSlice 41 1 #[(0, (.tmp 25))] Tryz.underlying41 6 Tryz.sizeOf67 _ Tryz.zeroValue67 1 [.int (((l).getD 0 Sg.none).f), .int (((l).getD 0 Sg.none).t), .int (((l).getD 0 Sg.none).o), coefA (((l).getD 0 Sg.none).x), coefA (((l).getD 0 Sg.none).y), coefA (((l).getD 0 Sg.none).z)] (fun _ => segA (((l).getD 0 Sg.none)))) ?_
    refine qop (.osl 2 6 (1)) (.newr 1 2 (.vec 67 6 (1) (fun xi => segA (l.getD xi Sg.none)))) (opS_append_nil_osl (.tmp 24) (.tmp 26) 41 (by kernel_rfl) Tryz.underlying41 6 96 (.agg #[.int .i64 (0), .int .i64 (0), .int .i64 (0), .slice none 0 0, .slice none 0 0, .slice none 0 0]) (by kernel_rfl) (by kernel_rfl) (by decide) (1) (by omega) (fun _ => segA (((l).getD 0 Sg.none))) (fun xi => segA (l.getD xi Sg.none)) 2 (fun i hi => by (obtain rfl : i = 0 := (by omega)); rfl) (fun i hi j hj => match j, hj with | 0, _ => rfl | 1, _ => rfl | 2, _ => rfl | 3, _ => rfl | 4, _ => rfl | 5, _ => rfl | _ + 6, h => absurd h (by omega)) (by unfold maxLen; omega) (by omega) (by kernel_rfl) 1 67 (by kernel_rfl) (by kernel_rfl)) ?_
    refine qrun 1 ?_
    refine qend1 [3, 6, 7, 8] ?_
    refine qCnorm [3, 6, 7, 8] ⟨[(3, .osl 2 6 (1)), (6, pathA (l)), (7, .int ((((l).length : Nat) : Int))), (8, .int (((0 : Nat) : Int)))], [(0, .box 67 [.int (((l).getD 0 Sg.none).f), .int (((l).getD 0 Sg.none).t), .int (((l).getD 0 Sg.none).o), coefA (((l).getD 0 Sg.none).x), coefA (((l).getD 0 Sg.none).y), coefA (((l).getD 0 Sg.none).z)]), (1, .vec 67 6 (1) (fun _ => segA (((l).getD 0 Sg.none)))), (2, .vec 67 6 (1) (fun xi => segA (l.getD xi Sg.none)))], 3, 30⟩ ?_
    refine qCren [(2, 9)] 10 0 hA0 _ (flatH_box (flatH_vec (fun i _ j hj => match j, hj with | 0, _ => rfl | 1, _ => rfl | 2, _ => rfl | 3, _ => rfl | 4, _ => rfl | 5, _ => rfl | _ + 6, h => absurd h (by omega)) (flatH_vec (fun i _ j hj => match j, hj with | 0, _ => rfl | 1, _ => rfl | 2, _ => rfl | 3, _ => rfl | 4, _ => rfl | 5, _ => rfl | _ + 6, h => absurd h (by omega)) flatH_nil))) ?_
    refine AC_list ?_
    refine qw (((0 : Nat) : Int) + 1) (((0 + 1 : Nat) : Int)) ?_
    refine qrun 1 ?_
    refine qend1 [3, 6, 7, 8] ?_
    exact ⟨_, (by omega : l.length - (0 + 1) < l.length - 0), 0 + 1, (by omega), rfl, trivial, .inr ⟨Nat.succ_pos _, (by kernel_rfl)⟩⟩
   ·
    have hx1d := of_decide_eq_false hx1
    refine qF hx1 ?_
    refine AC_exit ?_
    refine qreg 2 [2] ?_
    refine AC_ret ?_
    exact ⟨.inl rfl, (resOk1 Tryz.results62 (resV_tmp (x := .lit (.slice none 0 0)) (by kernel_rfl) (by kernel_rfl))).cast (by exfalso; omega)⟩
  ·
   refine AC_seq_list ?_
   refine qb (decide (((i : Nat) : Int) < (((l).length : Nat) : Int))) ?_
   refine qend [3, 6, 7, 8, 9] ?_
   refine AC_seq ?_
   refine bool_split (decide (((i : Nat) : Int) < (((l).length : Nat) : Int))) (fun hx2 => ?_) (fun hx2 => ?_)
   ·
    have hx2d := of_decide_eq_true hx2
    refine qT hx2 ?_
    refine AC_skip ?_
    refine AC_seq ?_
    refine AC_block ?_
    refine AC_seq_list ?_
    refine qopn (.elt 6 (fun q => AV.cell (segA (((l).getD i Sg.none))) q)) (qindex_sl 41 (.tmp 6) (.tmp 8) Tryz.underlying41 6 ((l).length) (i) (fun i0 => segA (((l).getD i0 Sg.none))) (((i : Nat) : Int)) Tryz.sizeOf67) ?_
    refine qrun 3 ?_
    refine qend [3, 5, 6, 7, 8] ?_
    refine qsdraw [(2, coefA (((l).getD i Sg.none).x), .none), (5, coefA (((l).getD i Sg.none).y), .none), (8, coefA (((l).getD i Sg.none).z), .none)] [3, 5, 6, 7, 8] 11 ⟨?_, ?_, ?_, trivial⟩ ?_
    · exact qcast (qcall 83 #[(.tmp 13)] #[65] [coefA (((l).getD i Sg.none).x)] (coefA (((l).getD i Sg.none).x)) (AF_cloneInt _ (hc i (by omega)).1.1 (by have := (hc i (by omega)).1.2; omega)))
    · exact qcast (qcall 83 #[(.tmp 16)] #[65] [coefA (((l).getD i Sg.none).y)] (coefA (((l).getD i Sg.none).y)) (AF_cloneInt _ (hc i (by omega)).2.1.1 (by have := (hc i (by omega)).2.1.2; omega)))
    · exact qcast (qcall 83 #[(.tmp 19)] #[65] [coefA (((l).getD i Sg.none).z)] (coefA (((l).getD i Sg.none).z)) (AF_cloneInt _ (hc i (by omega)).2.2.1 (by have := (hc i (by omega)).2.2.2; omega)))
    refine AC_list ?_
    refine qrun 2 ?_
    refine qop (.osl 11 6 (1)) (.new 11 (.vec 67 6 (1) (fun _ => segA (((l).getD i Sg.none))))) (qbuildSlice 41 1 #[(0, (.tmp 25))] Tryz.underlying41 6 Tryz.sizeOf67 _ Tryz.zeroValue67 11 [.int (((l).getD i Sg.none).f), .int (((l).getD i Sg.none).t), .int (((l).getD i Sg.none).o), coefA (((l).getD i Sg.none).x), coefA (((l).getD i Sg.none).y), coefA (((l).getD i Sg.none).z)] (fun _ => segA (((l).getD i Sg.none)))) ?_
    refine qop (.osl 12 6 (i + 1)) (.grow2 9 11 12 (.vec 67 6 (i + 1) (fun xi => segA (l.getD xi Sg.none)))) (opS_append_osl (.tmp 24) (.tmp 26) 41 (by kernel_rfl) Tryz.underlying41 6 96 (.agg #[.int .i64 (0), .int .i64 (0), .int .i64 (0), .slice none 0 0, .slice none 0 0, .slice none 0 0]) (by kernel_rfl) (by kernel_rfl) (by decide) (i) (1) (by omega) (fun xi => segA (l.getD xi Sg.none)) (fun _ => segA (((l).getD i Sg.none))) (fun xi => segA (l.getD xi Sg.none)) 12 (by omega) (by unfold maxLen; omega) (fun i hi => rfl) (fun i hi => by (obtain rfl : i = 0 := (by omega)); rfl) (fun i hi j hj => match j, hj with | 0, _ => rfl | 1, _ => rfl | 2, _ => rfl | 3, _ => rfl | 4, _ => rfl | 5, _ => rfl | _ + 6, h => absurd h (by omega)) 9 (by kernel_rfl) (by kernel_rfl) 11 67 (by kernel_rfl) (by kernel_rfl)) ?_
    refine qrun 1 ?_
    refine qend1 [3, 6, 7, 8] ?_
    refine qCnorm [3, 6, 7, 8] ⟨[(3, .osl 12 6 (i + 1)), (6, pathA (l)), (7, .int ((((l).length : Nat) : Int))), (8, .int (((i : Nat) : Int)))], [(10, .box 67 [.int (((l).getD i Sg.none).f), .int (((l).getD i Sg.none).t), .int (((l).getD i Sg.none).o), coefA (((l).getD i Sg.none).x), coefA (((l).getD i Sg.none).y), coefA (((l).getD i Sg.none).z)]), (11, .vec 67 6 (1) (fun _ => segA (((l).getD i Sg.none)))), (12, .vec 67 6 (i + 1) (fun xi => segA (l.getD xi Sg.none)))], 13, 30⟩ ?_
    refine qCren [(12, 9)] 10 0 hA0 _ (flatH_box (flatH_vec (fun i _ j hj => match j, hj with | 0, _ => rfl | 1, _ => rfl | 2, _ => rfl | 3, _ => rfl | 4, _ => rfl | 5, _ => rfl | _ + 6, h => absurd h (by omega)) (flatH_vec (fun i _ j hj => match j, hj with | 0, _ => rfl | 1, _ => rfl | 2, _ => rfl | 3, _ => rfl | 4, _ => rfl | 5, _ => rfl | _ + 6, h => absurd h (by omega)) flatH_nil))) ?_
    refine AC_list ?_
    refine qw (((i : Nat) : Int) + 1) (((i + 1 : Nat) : Int)) ?_
    refine qrun 1 ?_
    refine qend1 [3, 6, 7, 8] ?_
    exact ⟨_, (by omega : l.length - (i + 1) < l.length - i), i + 1, (by omega), rfl, trivial, .inr ⟨Nat.succ_pos _, (by kernel_rfl)⟩⟩
   ·
    have hx2d := of_decide_eq_false hx2
    refine qF hx2 ?_
    refine AC_exit ?_
    refine qreg 2 [2] ?_
    refine AC_freezeS 9 [2] 67 6 (i) (fun xi => segA (l.getD xi Sg.none)) (by kernel_rfl) (by kernel_rfl) (fun i _ j hj => match j, hj with | 0, _ => rfl | 1, _ => rfl | 2, _ => rfl | 3, _ => rfl | 4, _ => rfl | 5, _ => rfl | _ + 6, h => absurd h (by omega)) ?_
    refine AC_ret ?_
    exact ⟨.inl rfl, (resOk1 Tryz.results62 (resV_tmp (x := .sl 6 (i) (fun xi => segA (l.getD xi Sg.none))) (by kernel_rfl) (by kernel_rfl))).cast (congrArg (fun q => AV.sl 6 q fun xi => segA (l.getD xi Sg.none)) (show i = l.length by omega))⟩
theorem pathIn_coefs {l : List Sg} (h : PathOk l) : CoefsOk l := fun i hi => by
 have h1 := (h.1 i hi).1
 exact ⟨⟨h1.2.1.1, h1.2.1.2.1⟩, ⟨h1.2.2.1.1, h1.2.2.1.2.1⟩, ⟨h1.2.2.2.1.1, h1.2.2.2.1.2.1⟩⟩
theorem getD_app {l r : List Sg} (i : Nat) : (l ++ r).getD i Sg.none = if i < l.length then l.getD i Sg.none else r.getD (i - l.length) Sg.none := by
 simp only [List.getD_eq_getElem?_getD, List.getElem?_append]
 split <;> rfl
noncomputable def appR (a b : List Sg) : List Sg × Int :=
  if bP (PathOk a) = false ∨ bP (PathOk b) = false then ([], 2) else if bP (Meets (a.getD (a.length - 1) Sg.none) (b.getD 0 Sg.none)) = false then ([], 10) else if 256 < a.length + b.length then ([], 7) else (a ++ b, 0)
theorem app_arg {a b : List Sg} (h : bP (PathOk a) = false ∨ bP (PathOk b) = false) : appR a b = ([], 2) := by unfold appR; rw [if_pos h]
theorem app_check {a b : List Sg} (h1 : bP (PathOk a) = true) (h2 : bP (PathOk b) = true) (h : bP (Meets (a.getD (a.length - 1) Sg.none) (b.getD 0 Sg.none)) = false) : appR a b = ([], 10) := by unfold appR; rw [if_neg (by simp [h1, h2]), if_pos h]
theorem app_full {a b : List Sg} (h1 : bP (PathOk a) = true) (h2 : bP (PathOk b) = true) (h : bP (Meets (a.getD (a.length - 1) Sg.none) (b.getD 0 Sg.none)) = true) (h3 : 256 < a.length + b.length) : appR a b = ([], 7) := by unfold appR; rw [if_neg (by simp [h1, h2]), if_neg (fun g => by rw [h] at g; cases g), if_pos h3]
theorem app_ok {a b : List Sg} (h1 : bP (PathOk a) = true) (h2 : bP (PathOk b) = true) (h : bP (Meets (a.getD (a.length - 1) Sg.none) (b.getD 0 Sg.none)) = true) (h3 : ¬ 256 < a.length + b.length) : appR a b = (a ++ b, 0) := by unfold appR; rw [if_neg (by simp [h1, h2]), if_neg (fun g => by rw [h] at g; cases g), if_neg h3]
def resA (r : List Sg × Int) : AV := if r.2 = 0 then .tup [pathA r.1, .int 0] else .lit (.tuple #[.slice none 0 0, .int .i64 r.2])
theorem resA_err {r : List Sg × Int} {e : Int} {l : List Sg} (h : r = (l, e)) (he : e ≠ 0) : resA r = .lit (.tuple #[.slice none 0 0, .int .i64 e]) := by
  subst h; unfold resA; rw [if_neg he]
theorem resA_ok {r : List Sg × Int} {l : List Sg} (h : r = (l, 0)) : resA r = .tup [pathA l, .int 0] := by
  subst h; unfold resA; rw [if_pos rfl]
theorem AF_append (a b : List Sg) (ha : PathIn a) (hb : PathIn b) : AF Tryz.prog 45 [pathA a, pathA b] (resA (appR a b)) := by
  have han := ha.1
  have hbn := hb.1
  refine AF_of ⟨[(0, pathA (a)), (1, pathA (b))], [], 0, 39⟩ Tryz.func45 rfl 39 Tryz.ntmps45 (by kernel_rfl) (by kernel_rfl) fun B D0 hA0 => ?_
  refine qreg 2 [0, 1] ?_
  refine AC_seq ?_
  refine AC_block ?_
  refine AC_seq_list ?_
  refine qrun 1 ?_
  refine qcl (AF_validpath a ha) ?_
  refine qb (!bP (PathOk a)) ?_
  refine qrun 1 ?_
  refine bool_split (bP (PathOk a)) (fun hx1 => ?_) (fun hx1 => ?_)
  ·
   have hx1l := (bP_of hx1).2
   have hac := pathIn_coefs (bP_of hx1)
   refine qLknown 10 _ false (nt hx1) ?_
   refine qrun 1 ?_
   refine qclg (AF_validpath b hb) ?_
   refine qbg (!bP (PathOk b)) ?_
   refine qrun 2 ?_
   refine qend [0, 1, 6] ?_
   refine bool_split (bP (PathOk b)) (fun hx2 => ?_) (fun hx2 => ?_)
   ·
    have hx2l := (bP_of hx2).2
    refine qF (nt hx2) ?_
    refine qsdraw [(2, .int ((((a).length : Nat) : Int)), .none), (3, .int ((((a).length - 1 : Nat) : Int)), .none), (4, .elt 6 (fun q => AV.cell (segA (((a).getD ((a).length - 1) Sg.none))) q), .none), (7, .elt 6 (fun q => AV.cell (segA (((b).getD 0 Sg.none))) q), .none), (9, .bool (bP (Meets (a.getD (a.length - 1) Sg.none) (b.getD 0 Sg.none))), .none), (10, .bool (!bP (Meets (a.getD (a.length - 1) Sg.none) (b.getD 0 Sg.none))), .none)] [0, 1, 15] 0 ⟨?_, ?_, ?_, ?_, ?_, ?_, trivial⟩ ?_
    · exact qcast (qlen (.tmp 17) 41 #[41] Tryz.underlying41 ((a).length) (.inl ⟨6, (fun i0 => segA (((a).getD i0 Sg.none))), by kernel_rfl⟩))
    · exact qwD ((((a).length : Nat) : Int) - 1)
    · exact qcast (qindex_sl 41 (.tmp 16) (.tmp 19) Tryz.underlying41 6 ((a).length) ((a).length - 1) (fun i0 => segA (((a).getD i0 Sg.none))) ((((a).length - 1 : Nat) : Int)) Tryz.sizeOf67)
    · exact qcast (qindex_sl 41 (.tmp 22) (.const (.int .i64 (0))) Tryz.underlying41 6 ((b).length) (0) (fun i0 => segA (((b).getD i0 Sg.none))) (0) Tryz.sizeOf67)
    · exact qcast (qcall 61 #[(.tmp 21), (.tmp 24)] #[67, 67] [segA (((a).getD ((a).length - 1) Sg.none)), segA (((b).getD 0 Sg.none))] (.bool (bP (Meets (a.getD (a.length - 1) Sg.none) (b.getD 0 Sg.none)))) (AF_meets _ _ (ha.2 _) (hb.2 _) ((bP_of hx1).1 _ (by omega)).1 ((bP_of hx2).1 0 (by omega)).1))
    · exact qbD
    refine bool_split (bP (Meets (a.getD (a.length - 1) Sg.none) (b.getD 0 Sg.none))) (fun hx3 => ?_) (fun hx3 => ?_)
    ·
     refine qF (nt hx3) ?_
     refine AC_seq_list ?_
     refine qrun 1 ?_
     refine qopn (.int ((((a).length : Nat) : Int))) (qlen (.tmp 28) 41 #[41] Tryz.underlying41 ((a).length) (.inl ⟨6, (fun i0 => segA (((a).getD i0 Sg.none))), by kernel_rfl⟩)) ?_
     refine qrun 1 ?_
     refine qopn (.int ((((b).length : Nat) : Int))) (qlen (.tmp 30) 41 #[41] Tryz.underlying41 ((b).length) (.inl ⟨6, (fun i0 => segA (((b).getD i0 Sg.none))), by kernel_rfl⟩)) ?_
     refine qw ((((a).length : Nat) : Int) + (((b).length : Nat) : Int)) ((((a).length + (b).length : Nat) : Int)) ?_
     refine qb (decide ((256 : Int) < (((a).length + (b).length : Nat) : Int))) ?_
     refine qrun 1 ?_
     refine qend [0, 1, 27] ?_
     refine bool_split (decide ((256 : Int) < (((a).length + (b).length : Nat) : Int))) (fun hx4 => ?_) (fun hx4 => ?_)
     ·
      have hx4d := of_decide_eq_true hx4
      refine qT hx4 ?_
      refine qreg 2 [4, 5] ?_
      refine AC_ret ?_
      exact ⟨.inl rfl, (resOk2 Tryz.results45 (resV_tmp (x := .lit (.slice none 0 0)) (by kernel_rfl) (by kernel_rfl)) (resV_tmp (x := .int (7)) (by kernel_rfl) (by kernel_rfl))).cast (resA_err (app_full hx1 hx2 hx3 (by omega)) (by decide)).symm⟩
     ·
      have hx4d := of_decide_eq_false hx4
      refine qF hx4 ?_
      refine AC_skip ?_
      refine AC_seq_list ?_
      refine qrun 1 ?_
      refine AL_inline 62 [pathA (a)] 30 rfl (by kernel_rfl) (run_inl 62 #[(.tmp 34)] #[41] (by kernel_rfl) (fun _ _ => by kernel_rfl) _ (by kernel_rfl)) Tryz.func62 rfl Tryz.ntmps62 (by kernel_rfl) fun _ hD5 => ?_
      refine qreg 1 [0] ?_
      refine qreg 1 [0, 3] ?_
      refine AC_seq ?_
      refine AC_seq_list ?_
      refine qrun 1 ?_
      refine qopn (.int ((((a).length : Nat) : Int))) (qlen (.tmp 6) 41 #[41] Tryz.underlying41 ((a).length) (.inl ⟨6, (fun i0 => segA (((a).getD i0 Sg.none))), by kernel_rfl⟩)) ?_
      refine qrun 1 ?_
      refine qend [3, 6, 7, 8] ?_
      refine AC_block ?_
      refine AC_loop_inv (fun m s => ∃ i, i ≤ a.length ∧ m = a.length - i ∧ (True) ∧ ((i = 0 ∧ s = ⟨[(3, .lit (.slice none 0 0)), (6, pathA (a)), (7, .int ((((a).length : Nat) : Int))), (8, .int (((0 : Nat) : Int)))], [], 0, 30⟩) ∨ (0 < i ∧ s = ⟨[(3, .osl 9 6 (i)), (6, pathA (a)), (7, .int ((((a).length : Nat) : Int))), (8, .int (((i : Nat) : Int)))], [(9, .vec 67 6 (i) (fun xi => segA (a.getD xi Sg.none)))], 10, 30⟩))) (a.length) ⟨0, Nat.zero_le _, rfl, trivial, .inl ⟨rfl, (by kernel_rfl)⟩⟩ ?_
      rintro _ _ ⟨i, hin, rfl, hFi, (⟨hi0, rfl⟩ | ⟨hi0, rfl⟩)⟩
      ·
       subst hi0
       refine AC_seq_list ?_
       refine qb (decide (((0 : Nat) : Int) < (((a).length : Nat) : Int))) ?_
       refine qend [3, 6, 7, 8, 9] ?_
       refine AC_seq ?_
       refine bool_split (decide (((0 : Nat) : Int) < (((a).length : Nat) : Int))) (fun hx6 => ?_) (fun hx6 => ?_)
       ·
        have hx6d := of_decide_eq_true hx6
        refine qT hx6 ?_
        refine AC_skip ?_
        refine AC_seq ?_
        refine AC_block ?_
        refine AC_seq_list ?_
        refine qopn (.elt 6 (fun q => AV.cell (segA (((a).getD 0 Sg.none))) q)) (qindex_sl 41 (.tmp 6) (.tmp 8) Tryz.underlying41 6 ((a).length) (0) (fun i0 => segA (((a).getD i0 Sg.none))) (((0 : Nat) : Int)) Tryz.sizeOf67) ?_
        refine qrun 3 ?_
        refine qend [3, 5, 6, 7, 8] ?_
        refine qsdraw [(2, coefA (((a).getD 0 Sg.none).x), .none), (5, coefA (((a).getD 0 Sg.none).y), .none), (8, coefA (((a).getD 0 Sg.none).z), .none)] [3, 5, 6, 7, 8] 1 ⟨?_, ?_, ?_, trivial⟩ ?_
        · exact qcast (qcall 83 #[(.tmp 13)] #[65] [coefA (((a).getD 0 Sg.none).x)] (coefA (((a).getD 0 Sg.none).x)) (AF_cloneInt _ (hac 0 (by omega)).1.1 (by have := (hac 0 (by omega)).1.2; omega)))
        · exact qcast (qcall 83 #[(.tmp 16)] #[65] [coefA (((a).getD 0 Sg.none).y)] (coefA (((a).getD 0 Sg.none).y)) (AF_cloneInt _ (hac 0 (by omega)).2.1.1 (by have := (hac 0 (by omega)).2.1.2; omega)))
        · exact qcast (qcall 83 #[(.tmp 19)] #[65] [coefA (((a).getD 0 Sg.none).z)] (coefA (((a).getD 0 Sg.none).z)) (AF_cloneInt _ (hac 0 (by omega)).2.2.1 (by have := (hac 0 (by omega)).2.2.2; omega)))
        refine AC_list ?_
        refine qrun 2 ?_
        refine qop (.osl 1 6 (1)) (.new 1 (.vec 67 6 (1) (fun _ => segA (((a).getD 0 Sg.none))))) (qbuildSlice 41 1 #[(0, (.tmp 25))] Tryz.underlying41 6 Tryz.sizeOf67 _ Tryz.zeroValue67 1 [.int (((a).getD 0 Sg.none).f), .int (((a).getD 0 Sg.none).t), .int (((a).getD 0 Sg.none).o), coefA (((a).getD 0 Sg.none).x), coefA (((a).getD 0 Sg.none).y), coefA (((a).getD 0 Sg.none).z)] (fun _ => segA (((a).getD 0 Sg.none)))) ?_
        refine qop (.osl 2 6 (1)) (.newr 1 2 (.vec 67 6 (1) (fun xi => segA (a.getD xi Sg.none)))) (opS_append_nil_osl (.tmp 24) (.tmp 26) 41 (by kernel_rfl) Tryz.underlying41 6 96 (.agg #[.int .i64 (0), .int .i64 (0), .int .i64 (0), .slice none 0 0, .slice none 0 0, .slice none 0 0]) (by kernel_rfl) (by kernel_rfl) (by decide) (1) (by omega) (fun _ => segA (((a).getD 0 Sg.none))) (fun xi => segA (a.getD xi Sg.none)) 2 (fun i hi => by (obtain rfl : i = 0 := (by omega)); rfl) (fun i hi j hj => match j, hj with | 0, _ => rfl | 1, _ => rfl | 2, _ => rfl | 3, _ => rfl | 4, _ => rfl | 5, _ => rfl | _ + 6, h => absurd h (by omega)) (by unfold maxLen; omega) (by omega) (by kernel_rfl) 1 67 (by kernel_rfl) (by kernel_rfl)) ?_
        refine qrun 1 ?_
        refine qend1 [3, 6, 7, 8] ?_
        refine qCnorm [3, 6, 7, 8] ⟨[(3, .osl 2 6 (1)), (6, pathA (a)), (7, .int ((((a).length : Nat) : Int))), (8, .int (((0 : Nat) : Int)))], [(0, .box 67 [.int (((a).getD 0 Sg.none).f), .int (((a).getD 0 Sg.none).t), .int (((a).getD 0 Sg.none).o), coefA (((a).getD 0 Sg.none).x), coefA (((a).getD 0 Sg.none).y), coefA (((a).getD 0 Sg.none).z)]), (1, .vec 67 6 (1) (fun _ => segA (((a).getD 0 Sg.none)))), (2, .vec 67 6 (1) (fun xi => segA (a.getD xi Sg.none)))], 3, 30⟩ ?_
        refine qCren [(2, 9)] 10 0 hD5 _ (flatH_box (flatH_vec (fun i _ j hj => match j, hj with | 0, _ => rfl | 1, _ => rfl | 2, _ => rfl | 3, _ => rfl | 4, _ => rfl | 5, _ => rfl | _ + 6, h => absurd h (by omega)) (flatH_vec (fun i _ j hj => match j, hj with | 0, _ => rfl | 1, _ => rfl | 2, _ => rfl | 3, _ => rfl | 4, _ => rfl | 5, _ => rfl | _ + 6, h => absurd h (by omega)) flatH_nil))) ?_
        refine AC_list ?_
        refine qw (((0 : Nat) : Int) + 1) (((0 + 1 : Nat) : Int)) ?_
        refine qrun 1 ?_
        refine qend1 [3, 6, 7, 8] ?_
        exact ⟨_, (by omega : a.length - (0 + 1) < a.length - 0), 0 + 1, (by omega), rfl, trivial, .inr ⟨Nat.succ_pos _, (by kernel_rfl)⟩⟩
       ·
        have hx6d := of_decide_eq_false hx6
        refine qF hx6 ?_
        refine AC_exit ?_
        exfalso; omega
      ·
       refine AC_seq_list ?_
       refine qb (decide (((i : Nat) : Int) < (((a).length : Nat) : Int))) ?_
       refine qend [3, 6, 7, 8, 9] ?_
       refine AC_seq ?_
       refine bool_split (decide (((i : Nat) : Int) < (((a).length : Nat) : Int))) (fun hx7 => ?_) (fun hx7 => ?_)
       ·
        have hx7d := of_decide_eq_true hx7
        refine qT hx7 ?_
        refine AC_skip ?_
        refine AC_seq ?_
        refine AC_block ?_
        refine AC_seq_list ?_
        refine qopn (.elt 6 (fun q => AV.cell (segA (((a).getD i Sg.none))) q)) (qindex_sl 41 (.tmp 6) (.tmp 8) Tryz.underlying41 6 ((a).length) (i) (fun i0 => segA (((a).getD i0 Sg.none))) (((i : Nat) : Int)) Tryz.sizeOf67) ?_
        refine qrun 3 ?_
        refine qend [3, 5, 6, 7, 8] ?_
        refine qsdraw [(2, coefA (((a).getD i Sg.none).x), .none), (5, coefA (((a).getD i Sg.none).y), .none), (8, coefA (((a).getD i Sg.none).z), .none)] [3, 5, 6, 7, 8] 11 ⟨?_, ?_, ?_, trivial⟩ ?_
        · exact qcast (qcall 83 #[(.tmp 13)] #[65] [coefA (((a).getD i Sg.none).x)] (coefA (((a).getD i Sg.none).x)) (AF_cloneInt _ (hac i (by omega)).1.1 (by have := (hac i (by omega)).1.2; omega)))
        · exact qcast (qcall 83 #[(.tmp 16)] #[65] [coefA (((a).getD i Sg.none).y)] (coefA (((a).getD i Sg.none).y)) (AF_cloneInt _ (hac i (by omega)).2.1.1 (by have := (hac i (by omega)).2.1.2; omega)))
        · exact qcast (qcall 83 #[(.tmp 19)] #[65] [coefA (((a).getD i Sg.none).z)] (coefA (((a).getD i Sg.none).z)) (AF_cloneInt _ (hac i (by omega)).2.2.1 (by have := (hac i (by omega)).2.2.2; omega)))
        refine AC_list ?_
        refine qrun 2 ?_
        refine qop (.osl 11 6 (1)) (.new 11 (.vec 67 6 (1) (fun _ => segA (((a).getD i Sg.none))))) (qbuildSlice 41 1 #[(0, (.tmp 25))] Tryz.underlying41 6 Tryz.sizeOf67 _ Tryz.zeroValue67 11 [.int (((a).getD i Sg.none).f), .int (((a).getD i Sg.none).t), .int (((a).getD i Sg.none).o), coefA (((a).getD i Sg.none).x), coefA (((a).getD i Sg.none).y), coefA (((a).getD i Sg.none).z)] (fun _ => segA (((a).getD i Sg.none)))) ?_
        refine qop (.osl 12 6 (i + 1)) (.grow2 9 11 12 (.vec 67 6 (i + 1) (fun xi => segA (a.getD xi Sg.none)))) (opS_append_osl (.tmp 24) (.tmp 26) 41 (by kernel_rfl) Tryz.underlying41 6 96 (.agg #[.int .i64 (0), .int .i64 (0), .int .i64 (0), .slice none 0 0, .slice none 0 0, .slice none 0 0]) (by kernel_rfl) (by kernel_rfl) (by decide) (i) (1) (by omega) (fun xi => segA (a.getD xi Sg.none)) (fun _ => segA (((a).getD i Sg.none))) (fun xi => segA (a.getD xi Sg.none)) 12 (by omega) (by unfold maxLen; omega) (fun i hi => rfl) (fun i hi => by (obtain rfl : i = 0 := (by omega)); rfl) (fun i hi j hj => match j, hj with | 0, _ => rfl | 1, _ => rfl | 2, _ => rfl | 3, _ => rfl | 4, _ => rfl | 5, _ => rfl | _ + 6, h => absurd h (by omega)) 9 (by kernel_rfl) (by kernel_rfl) 11 67 (by kernel_rfl) (by kernel_rfl)) ?_
        refine qrun 1 ?_
        refine qend1 [3, 6, 7, 8] ?_
        refine qCnorm [3, 6, 7, 8] ⟨[(3, .osl 12 6 (i + 1)), (6, pathA (a)), (7, .int ((((a).length : Nat) : Int))), (8, .int (((i : Nat) : Int)))], [(10, .box 67 [.int (((a).getD i Sg.none).f), .int (((a).getD i Sg.none).t), .int (((a).getD i Sg.none).o), coefA (((a).getD i Sg.none).x), coefA (((a).getD i Sg.none).y), coefA (((a).getD i Sg.none).z)]), (11, .vec 67 6 (1) (fun _ => segA (((a).getD i Sg.none)))), (12, .vec 67 6 (i + 1) (fun xi => segA (a.getD xi Sg.none)))], 13, 30⟩ ?_
        refine qCren [(12, 9)] 10 0 hD5 _ (flatH_box (flatH_vec (fun i _ j hj => match j, hj with | 0, _ => rfl | 1, _ => rfl | 2, _ => rfl | 3, _ => rfl | 4, _ => rfl | 5, _ => rfl | _ + 6, h => absurd h (by omega)) (flatH_vec (fun i _ j hj => match j, hj with | 0, _ => rfl | 1, _ => rfl | 2, _ => rfl | 3, _ => rfl | 4, _ => rfl | 5, _ => rfl | _ + 6, h => absurd h (by omega)) flatH_nil))) ?_
        refine AC_list ?_
        refine qw (((i : Nat) : Int) + 1) (((i + 1 : Nat) : Int)) ?_
        refine qrun 1 ?_
        refine qend1 [3, 6, 7, 8] ?_
        exact ⟨_, (by omega : a.length - (i + 1) < a.length - i), i + 1, (by omega), rfl, trivial, .inr ⟨Nat.succ_pos _, (by kernel_rfl)⟩⟩
       ·
        have hx7d := of_decide_eq_false hx7
        refine qF hx7 ?_
        refine AC_exit ?_
        have hie : i = a.length := by omega
        subst hie
        refine qreg 2 [2] ?_
        refine AC_ret ?_
        refine ⟨.inl rfl, .osl 9 6 (a.length), (resI1 Tryz.results62 (resVI_tmp (x := .osl 9 6 (a.length)) (by kernel_rfl))).castI (by kernel_rfl), ?_⟩
        refine qrun 1 ?_
        refine qcl (AF_copy b hbn (by omega) (pathIn_coefs (bP_of hx2))) ?_
        refine qop (.osl 10 6 (a.length + (b).length)) (.grow 9 10 (.vec 67 6 (a.length + (b).length) (fun xi => segA ((a ++ b).getD xi Sg.none)))) (opS_append_sl (.tmp 35) (.tmp 37) 41 (by kernel_rfl) Tryz.underlying41 6 96 (.agg #[.int .i64 (0), .int .i64 (0), .int .i64 (0), .slice none 0 0, .slice none 0 0, .slice none 0 0]) (by kernel_rfl) (by kernel_rfl) (by decide) (a.length) ((b).length) (by omega) (fun xi => segA (a.getD xi Sg.none)) (fun i0 => segA (((b).getD i0 Sg.none))) (fun xi => segA ((a ++ b).getD xi Sg.none)) 10 (by omega) (by unfold maxLen; omega) (fun i hi => by show segA _ = segA _; rw [getD_app, if_pos hi]) (fun i hi => by show segA _ = segA _; rw [getD_app, if_neg (by omega), Nat.add_sub_cancel_left]) (fun i hi j hj => match j, hj with | 0, _ => rfl | 1, _ => rfl | 2, _ => rfl | 3, _ => rfl | 4, _ => rfl | 5, _ => rfl | _ + 6, h => absurd h (by omega)) 9 (by kernel_rfl) (by kernel_rfl) (by kernel_rfl)) ?_
        refine qrun 2 ?_
        refine qend [4, 5] ?_
        refine AC_freezeS 10 [4] 67 6 (a.length + (b).length) (fun xi => segA ((a ++ b).getD xi Sg.none)) (by kernel_rfl) (by kernel_rfl) (fun i _ j hj => match j, hj with | 0, _ => rfl | 1, _ => rfl | 2, _ => rfl | 3, _ => rfl | 4, _ => rfl | 5, _ => rfl | _ + 6, h => absurd h (by omega)) ?_
        refine AC_ret ?_
        exact ⟨.inl rfl, (resOk2 Tryz.results45 (resV_tmp (x := .sl 6 (a.length + (b).length) (fun xi => segA ((a ++ b).getD xi Sg.none))) (by kernel_rfl) (by kernel_rfl)) (resV_tmp (x := .int (0)) (by kernel_rfl) (by kernel_rfl))).cast ((resA_ok (app_ok hx1 hx2 hx3 (by omega))).trans (congrArg (fun q => AV.tup [AV.sl 6 q fun xi => segA ((a ++ b).getD xi Sg.none), .int 0]) List.length_append)).symm⟩
    ·
     refine qT (nf hx3) ?_
     refine qreg 2 [4, 5] ?_
     refine AC_ret ?_
     exact ⟨.inl rfl, (resOk2 Tryz.results45 (resV_tmp (x := .lit (.slice none 0 0)) (by kernel_rfl) (by kernel_rfl)) (resV_tmp (x := .int (10)) (by kernel_rfl) (by kernel_rfl))).cast (resA_err (app_check hx1 hx2 hx3) (by decide)).symm⟩
   ·
    refine qT (nf hx2) ?_
    refine qreg 2 [4, 5] ?_
    refine AC_ret ?_
    exact ⟨.inl rfl, (resOk2 Tryz.results45 (resV_tmp (x := .lit (.slice none 0 0)) (by kernel_rfl) (by kernel_rfl)) (resV_tmp (x := .int (2)) (by kernel_rfl) (by kernel_rfl))).cast (resA_err (app_arg (.inr hx2)) (by decide)).symm⟩
  ·
   refine qLknown 10 _ true (nf hx1) ?_
   refine qrun 5 ?_
   refine qend [0, 1, 6] ?_
   refine qCtrue ?_
   refine qreg 2 [4, 5] ?_
   refine AC_ret ?_
   exact ⟨.inl rfl, (resOk2 Tryz.results45 (resV_tmp (x := .lit (.slice none 0 0)) (by kernel_rfl) (by kernel_rfl)) (resV_tmp (x := .int (2)) (by kernel_rfl) (by kernel_rfl))).cast (resA_err (app_arg (.inl hx1)) (by decide)).symm⟩
end Go.Proofs.YtkcnbaeoahoglaaGreat
namespace Go.Proofs.YtkcnbaeoahoglaaGreat
open Go.RowKit
abbrev cellT (t : Int) : AV := .elt 1 fun xi => [AV.int t].getD (0 + xi) .top
abbrev cellP (l : List Sg) : AV := .elt 1 fun xi => [pathA l].getD (0 + xi) .top
theorem AF_exact1 (l : List Sg) (t : Int) (k : Nat) (hk : k < l.length) (hn : l.length ≤ 1000000) : AF Tryz.prog 64 [.int ((k : Nat) : Int), cellT t, cellP l] (.bool (decide (t ≤ (l.getD k Sg.none).t))) := by
 refine AF_of ⟨[(0, .int (((k : Nat) : Int))), (1, .elt 1 (fun xi => [.int (t)].getD (0 + xi) .top)), (2, .elt 1 (fun xi => [pathA (l)].getD (0 + xi) .top))], [], 0, 12⟩ Tryz.func64 rfl 12 Tryz.ntmps64 (by kernel_rfl) (by kernel_rfl) fun B D0 hA0 => ?_
 refine qreg 1 [0, 1, 2] ?_
 refine qsdraw [(3, .elt 6 (fun q => AV.cell (segA (((l).getD k Sg.none))) q), .none), (6, .bool (decide (t ≤ ((l).getD k Sg.none).t)), .none)] [4] 0 ⟨?_, ?_, trivial⟩ ?_
 · exact qcast (qindex_sl 41 (.tmp 6) (.tmp 7) Tryz.underlying41 6 ((l).length) (k) (fun i0 => segA (((l).getD i0 Sg.none))) (((k : Nat) : Int)) Tryz.sizeOf67)
 · exact qbD
 refine AC_ret ?_
 exact ⟨.inl rfl, (resOk1 Tryz.results64 (resV_tmp (x := .bool (decide (t ≤ ((l).getD k Sg.none).t))) (by kernel_rfl) (by kernel_rfl))).cast (by kernel_rfl)⟩
theorem AF_search (l : List Sg) (t : Int) (hn : l.length ≤ 1000000) (i0 : Nat) (hi0 : i0 ≤ l.length) (h1 : ∀ j, j < i0 → (l.getD j Sg.none).t < t) (h2 : ∀ j, i0 ≤ j → j < l.length → t ≤ (l.getD j Sg.none).t) : AF Tryz.prog 63 [.int ((l.length : Nat) : Int), .fn 64 [cellT t, cellP l]] (.int ((i0 : Nat) : Int)) := by
  refine AF_of ⟨[(0, .int (((l.length : Nat) : Int))), (1, .fn 64 [.elt 1 (fun xi => [.int (t)].getD (0 + xi) .top), .elt 1 (fun xi => [pathA (l)].getD (0 + xi) .top)])], [], 0, 26⟩ Tryz.func63 rfl 26 Tryz.ntmps63 (by kernel_rfl) (by kernel_rfl) fun B D0 hA0 => ?_
  refine qreg 1 [0, 1] ?_
  refine qreg 3 [1, 5, 6] ?_
  refine AC_seq ?_
  refine AC_block ?_
  refine AC_loop_inv (fun m s => ∃ i j, m = j - i ∧ (i ≤ i0 ∧ i0 ≤ j ∧ j ≤ l.length) ∧ s = ⟨[(1, .fn 64 [.elt 1 (fun xi => [.int (t)].getD (0 + xi) .top), .elt 1 (fun xi => [pathA (l)].getD (0 + xi) .top)]), (5, .int (((i : Nat) : Int))), (6, .int (((j : Nat) : Int)))], [], 0, 26⟩) ((l.length) - 0) ⟨0, l.length, rfl, ⟨Nat.zero_le _, hi0, Nat.le_refl _⟩, (by kernel_rfl)⟩ ?_
  rintro _ _ ⟨i, j, rfl, hF, rfl⟩
  refine AC_seq ?_
  refine AC_seq_list ?_
  refine qrun 2 ?_
  refine qb (decide (((i : Nat) : Int) < ((j : Nat) : Int))) ?_
  refine qend [1, 5, 6, 11] ?_
  refine bool_split (decide (((i : Nat) : Int) < ((j : Nat) : Int))) (fun hx1 => ?_) (fun hx1 => ?_)
  ·
   have hx1d := of_decide_eq_true hx1
   refine qT hx1 ?_
   refine AC_skip ?_
   refine AC_block ?_
   refine AC_seq_list ?_
   refine qrun 2 ?_
   refine qw (((i : Nat) : Int) + ((j : Nat) : Int)) (((i + j : Nat) : Int)) ?_
   refine qopn (.lit (.int .u64 (((i + j : Nat) : Int)))) (qlit (v := .int .u64 (IntKind.wrap .u64 (((i + j : Nat) : Int)))) (v' := .int .u64 (((i + j : Nat) : Int))) (congrArg (Value.int .u64) (IntWalk.u64_in _ (by omega))) _) ?_
   refine qopn (.lit (.int .u64 ((((i + j) / 2 : Nat) : Int)))) (qlit (v := .int .u64 (Int.fdiv (((i + j : Nat) : Int)) (2 ^ 1))) (v' := .int .u64 ((((i + j) / 2 : Nat) : Int))) (congrArg (Value.int .u64) (by rw [Int.fdiv_eq_ediv_of_nonneg _ (by decide)]; omega)) _) ?_
   refine qopn (.int ((((i + j) / 2 : Nat) : Int))) (qlit (v := .int .i64 (IntKind.wrap .i64 ((((i + j) / 2 : Nat) : Int)))) (v' := .int .i64 ((((i + j) / 2 : Nat) : Int))) (congrArg (Value.int .i64) (IntWalk.i64_in _ (by omega))) _) ?_
   refine qrun 1 ?_
   refine qend [1, 5, 6, 7] ?_
   refine AC_seq_list ?_
   refine qrun 2 ?_
   refine qopn (.bool (decide (t ≤ (l.getD ((i + j) / 2) Sg.none).t))) (qcallV (.tmp 18) 64 #[(.tmp 19)] #[3] [.elt 1 (fun xi => [.int (t)].getD (0 + xi) .top), .elt 1 (fun xi => [pathA (l)].getD (0 + xi) .top)] [.int ((((i + j) / 2 : Nat) : Int)), .elt 1 (fun xi => [.int (t)].getD (0 + xi) .top), .elt 1 (fun xi => [pathA (l)].getD (0 + xi) .top)] (.bool (decide (t ≤ (l.getD ((i + j) / 2) Sg.none).t))) (AF_exact1 l t ((i + j) / 2) (by omega) hn)) ?_
   refine qb (!decide (t ≤ (l.getD ((i + j) / 2) Sg.none).t)) ?_
   refine qend [1, 5, 6, 7, 21] ?_
   refine bool_split (decide (t ≤ (l.getD ((i + j) / 2) Sg.none).t)) (fun hx2 => ?_) (fun hx2 => ?_)
   ·
    have hx2d := of_decide_eq_true hx2
    have hq : i0 ≤ (i + j) / 2 := Nat.le_of_not_lt fun hz => by have g := h1 _ hz; omega
    refine qF (nt hx2) ?_
    refine AC_list ?_
    refine qrun 2 ?_
    refine qend1 [1, 5, 6] ?_
    exact ⟨_, (by omega : ((i + j) / 2) - i < j - i), i, (i + j) / 2, rfl, ⟨by omega, by omega, by omega⟩, (by kernel_rfl)⟩
   ·
    have hx2d := of_decide_eq_false hx2
    have hq : (i + j) / 2 < i0 := Nat.lt_of_not_le fun hz => by have g := h2 _ hz (by omega); omega
    refine qT (nf hx2) ?_
    refine AC_list ?_
    refine qrun 1 ?_
    refine qw ((((i + j) / 2 : Nat) : Int) + 1) ((((i + j) / 2 + 1 : Nat) : Int)) ?_
    refine qrun 1 ?_
    refine qend1 [1, 5, 6] ?_
    exact ⟨_, (by omega : j - ((i + j) / 2 + 1) < j - i), (i + j) / 2 + 1, j, rfl, ⟨by omega, by omega, by omega⟩, (by kernel_rfl)⟩
  ·
   have hx1d := of_decide_eq_false hx1
   refine qF hx1 ?_
   refine AC_exit ?_
   refine qreg 2 [4] ?_
   refine AC_ret ?_
   exact ⟨.inl rfl, (resOk1 Tryz.results63 (resV_tmp (x := .int (((i : Nat) : Int))) (by kernel_rfl) (by kernel_rfl))).cast (congrArg (fun q : Nat => AV.int ((q : Nat) : Int)) (show i = i0 by omega))⟩
theorem AF_span (l : List Sg) (hl : PathIn l) (ho : PathOk l) : AF Tryz.prog 42 [pathA l] (.lit (.tuple #[.int .i64 ((l.getD 0 Sg.none).f), .int .i64 ((l.getD (l.length - 1) Sg.none).t), .int .i64 (0)])) := by
 have hln := hl.1
 have hlo := ho.2
 refine AF_of ⟨[(0, pathA (l))], [], 0, 19⟩ Tryz.func42 rfl 19 Tryz.ntmps42 (by kernel_rfl) (by kernel_rfl) fun B D0 hA0 => ?_
 refine qreg 3 [0] ?_
 refine AC_seq ?_
 refine AC_seq_list ?_
 refine qrun 1 ?_
 refine qcl (AF_validpath l hl) ?_
 refine qb (!bP (PathOk l)) ?_
 refine qend [0, 7] ?_
 refine qF (b := (!bP (PathOk l))) (by rw [(bP_true ho)]; rfl) ?_
 refine AC_skip ?_
 refine qsdraw [(1, .elt 6 (fun q => AV.cell (segA (((l).getD 0 Sg.none))) q), .none), (6, .int ((((l).length : Nat) : Int)), .none), (7, .int ((((l).length - 1 : Nat) : Int)), .none), (8, .elt 6 (fun q => AV.cell (segA (((l).getD ((l).length - 1) Sg.none))) q), .none)] [2, 3, 4] 0 ⟨?_, ?_, ?_, ?_, trivial⟩ ?_
 · exact qcast (qindex_sl 41 (.tmp 8) (.const (.int .i64 (0))) Tryz.underlying41 6 ((l).length) (0) (fun i0 => segA (((l).getD i0 Sg.none))) (0) Tryz.sizeOf67)
 · exact qcast (qlen (.tmp 13) 41 #[41] Tryz.underlying41 ((l).length) (.inl ⟨6, (fun i0 => segA (((l).getD i0 Sg.none))), by kernel_rfl⟩))
 · exact qwD ((((l).length : Nat) : Int) - 1)
 · exact qcast (qindex_sl 41 (.tmp 12) (.tmp 15) Tryz.underlying41 6 ((l).length) ((l).length - 1) (fun i0 => segA (((l).getD i0 Sg.none))) ((((l).length - 1 : Nat) : Int)) Tryz.sizeOf67)
 refine AC_ret ?_
 exact ⟨.inl rfl, (resOk3 Tryz.results42 (resV_tmp (x := .int (((l).getD 0 Sg.none).f)) (by kernel_rfl) (by kernel_rfl)) (resV_tmp (x := .int (((l).getD ((l).length - 1) Sg.none).t)) (by kernel_rfl) (by kernel_rfl)) (resV_tmp (x := .int (0)) (by kernel_rfl) (by kernel_rfl))).cast (by kernel_rfl)⟩
abbrev exactL (l : List Sg) (t : Int) (i0 : Nat) : PL := (placeL (l.getD i0 Sg.none) (t - (l.getD i0 Sg.none).f) ((l.getD i0 Sg.none).t - (l.getD i0 Sg.none).f))
theorem AF_exact (l : List Sg) (hl : PathIn l) (ho : PathOk l) (t : Int) (ht : (l.getD 0 Sg.none).f ≤ t ∧ t ≤ (l.getD (l.length - 1) Sg.none).t) (i0 : Nat) (hi0 : i0 < l.length) (h1 : ∀ j, j < i0 → (l.getD j Sg.none).t < t) (h2 : ∀ j, i0 ≤ j → j < l.length → t ≤ (l.getD j Sg.none).t) (h3 : (l.getD i0 Sg.none).f ≤ t) : AF Tryz.prog 46 [pathA l, .int t] (.lit (.tuple #[.agg #[.bool (decide ((exactL l t i0).x < 0)), .string (beB ((exactL l t i0).x).natAbs), .bool (decide ((exactL l t i0).y < 0)), .string (beB ((exactL l t i0).y).natAbs), .bool (decide ((exactL l t i0).z < 0)), .string (beB ((exactL l t i0).z).natAbs), .bool (decide ((exactL l t i0).o < 0)), .string (beB ((exactL l t i0).o).natAbs)], .int .i64 (0)])) := by
 have hln := hl.1
 have hs := (ho.1 i0 hi0).1
 have hh := hs.1
 unfold HeadOk at hh
 have h4 := h2 i0 (Nat.le_refl _) hi0
 refine AF_of ⟨[(0, pathA (l)), (1, .int (t))], [], 0, 49⟩ Tryz.func46 rfl 49 Tryz.ntmps46 (by kernel_rfl) (by kernel_rfl) fun B D0 hA0 => ?_
 refine qreg 4 [2, 3, 4] ?_
 refine AC_seq_list ?_
 refine qrun 1 ?_
 refine qcl (AF_span l hl ho) ?_
 refine qrun 1 ?_
 refine qi ((l.getD 0 Sg.none).f) ?_
 refine qi ((l.getD (l.length - 1) Sg.none).t) ?_
 refine qi (0) ?_
 refine qrun 3 ?_
 refine qend [2, 3, 4, 6, 7, 8] ?_
 refine AC_seq ?_
 refine AC_block ?_
 refine AC_seq_list ?_
 refine qrun 1 ?_
 refine qb false ?_
 refine qrun 1 ?_
 refine qend [2, 3, 4, 6, 7, 8, 16] ?_
 refine qCfalse ?_
 refine AC_seq_list ?_
 refine qrun 2 ?_
 refine qopn (.bool false) (qlit (v := .bool (decide (t < (l.getD 0 Sg.none).f))) (v' := .bool false) (congrArg Value.bool (decide_eq_false (by omega))) _) ?_
 refine qrun 3 ?_
 refine qopg (.bool false) .none (qlit (v := .bool (decide ((l.getD (l.length - 1) Sg.none).t < t))) (v' := .bool false) (congrArg Value.bool (decide_eq_false (by omega))) _) ?_
 refine qrun 2 ?_
 refine qend [2, 3, 4, 21] ?_
 refine qCfalse ?_
 refine AC_skip ?_
 refine qCfreezeB 0 41 [pathA (l)] _ ?_
 refine qCfreezeB 1 3 [.int (t)] _ ?_
 refine qCnorm [2, 3, 4, 21] ⟨[(2, .elt 1 (fun xi => [pathA (l)].getD (0 + xi) .top)), (3, .elt 1 (fun xi => [.int (t)].getD (0 + xi) .top)), (4, .ptr 2 (0)), (21, .bool false)], [(2, .box 98 [.bool false, .lit (.string ⟨#[]⟩), .bool false, .lit (.string ⟨#[]⟩), .bool false, .lit (.string ⟨#[]⟩), .bool false, .lit (.string ⟨#[]⟩)])], 3, 49⟩ ?_
 refine qsdraw [(2, .int ((((l).length : Nat) : Int)), .none), (3, .fn 64 [.elt 1 (fun xi => [.int (t)].getD (0 + xi) .top), .elt 1 (fun xi => [pathA (l)].getD (0 + xi) .top)], .none), (4, .int (((i0 : Nat) : Int)), .none), (5, .elt 6 (fun q => AV.cell (segA (((l).getD i0 Sg.none))) q), .none)] [3, 4, 9] 4 ⟨?_, ?_, ?_, ?_, trivial⟩ ?_
 · exact qcast (qlen (.tmp 32) 41 #[41] Tryz.underlying41 ((l).length) (.inl ⟨6, (fun i0 => segA (((l).getD i0 Sg.none))), by kernel_rfl⟩))
 · exact qcast (qfunc 64 #[(.tmp 3), (.tmp 2)] [.elt 1 (fun xi => [.int (t)].getD (0 + xi) .top), .elt 1 (fun xi => [pathA (l)].getD (0 + xi) .top)])
 · exact qclD (AF_search l t hln i0 (by omega) h1 h2)
 · exact qcast (qindex_sl 41 (.tmp 31) (.tmp 35) Tryz.underlying41 6 ((l).length) (i0) (fun i0 => segA (((l).getD i0 Sg.none))) (((i0 : Nat) : Int)) Tryz.sizeOf67)
 refine AC_seq_list ?_
 refine qrun 4 ?_
 refine qv (t - ((l).getD i0 Sg.none).f) ?_
 refine qrun 4 ?_
 refine qv (((l).getD i0 Sg.none).t - ((l).getD i0 Sg.none).f) ?_
 refine qopn (.lit (.agg #[.bool (decide ((exactL l t i0).x < 0)), .string (beB ((exactL l t i0).x).natAbs), .bool (decide ((exactL l t i0).y < 0)), .string (beB ((exactL l t i0).y).natAbs), .bool (decide ((exactL l t i0).z < 0)), .string (beB ((exactL l t i0).z).natAbs), .bool (decide ((exactL l t i0).o < 0)), .string (beB ((exactL l t i0).o).natAbs)])) (qcall 65 #[(.tmp 38), (.tmp 42), (.tmp 47)] #[67, 3, 3] [segA (((l).getD i0 Sg.none)), .int (t - ((l).getD i0 Sg.none).f), .int (((l).getD i0 Sg.none).t - ((l).getD i0 Sg.none).f)] (.lit (.agg #[.bool (decide ((exactL l t i0).x < 0)), .string (beB ((exactL l t i0).x).natAbs), .bool (decide ((exactL l t i0).y < 0)), .string (beB ((exactL l t i0).y).natAbs), .bool (decide ((exactL l t i0).z < 0)), .string (beB ((exactL l t i0).z).natAbs), .bool (decide ((exactL l t i0).o < 0)), .string (beB ((exactL l t i0).o).natAbs)])) (AF_placeOk _ _ _ (hl.2 i0) hs ⟨by omega, by omega⟩ ⟨by omega, by omega⟩ (by omega))) ?_
 refine qrun 2 ?_
 refine qend [4, 5] ?_
 refine AC_ret ?_
 exact ⟨.inl rfl, (resOk2 Tryz.results46 (resV_cell (x := .lit (.agg #[.bool (decide ((exactL l t i0).x < 0)), .string (beB ((exactL l t i0).x).natAbs), .bool (decide ((exactL l t i0).y < 0)), .string (beB ((exactL l t i0).y).natAbs), .bool (decide ((exactL l t i0).z < 0)), .string (beB ((exactL l t i0).z).natAbs), .bool (decide ((exactL l t i0).o < 0)), .string (beB ((exactL l t i0).o).natAbs)])) 2 Tryz.isAgg98 8 Tryz.sizeOf98 0 [.bool (decide ((exactL l t i0).x < 0)), .lit (.string (beB ((exactL l t i0).x).natAbs)), .bool (decide ((exactL l t i0).y < 0)), .lit (.string (beB ((exactL l t i0).y).natAbs)), .bool (decide ((exactL l t i0).z < 0)), .lit (.string (beB ((exactL l t i0).z).natAbs)), .bool (decide ((exactL l t i0).o < 0)), .lit (.string (beB ((exactL l t i0).o).natAbs))] (by kernel_rfl) 98 (by kernel_rfl) (Nat.le_of_ble_eq_true (by kernel_rfl)) (by kernel_rfl) (by kernel_rfl)) (resV_tmp (x := .int (0)) (by kernel_rfl) (by kernel_rfl))).cast (by kernel_rfl)⟩
end Go.Proofs.YtkcnbaeoahoglaaGreat
namespace Go.Proofs.YtkcnbaeoahoglaaGreat
open Go.RowKit
theorem place_bd {s : Sg} {a d : Int} (hs : SgIn s) (ho : SegOk s) (ha : In64 a) (hd : In64 d) : Bd 390 (placeL s a d).x ∧ Bd 390 (placeL s a d).y ∧ Bd 390 (placeL s a d).z ∧ Bd 390 (placeL s a d).o :=
  ⟨((plS_bd hs.x ha hd _ ho.2.1.2.1).mono (by have := ho.2.1.2.1; omega)).div _, ((plS_bd hs.y ha hd _ ho.2.2.1.2.1).mono (by have := ho.2.2.1.2.1; omega)).div _, ((plS_bd hs.z ha hd _ ho.2.2.2.1.2.1).mono (by have := ho.2.2.2.1.2.1; omega)).div _, ((plO_bd hs hd).mono (by omega)).div _⟩
abbrev rdL (p : PL) : V3 := ⟨(p.x + p.x + p.o) / (p.o + p.o), (p.y + p.y + p.o) / (p.o + p.o), (p.z + p.z + p.o) / (p.o + p.o)⟩
theorem AF_wint (z : Int) (h : In64 z) : AF Tryz.prog 47 [WA z] (.lit (.tuple #[.int .i64 z, .int .i64 0])) := AF_lit (vs := [_]) fun w => wint_any z w h.1 h.2
theorem AF_at (l : List Sg) (hl : PathIn l) (ho : PathOk l) (t : Int) (ht : (l.getD 0 Sg.none).f ≤ t ∧ t ≤ (l.getD (l.length - 1) Sg.none).t) (i0 : Nat) (hi0 : i0 < l.length) (h1 : ∀ j, j < i0 → (l.getD j Sg.none).t < t) (h2 : ∀ j, i0 ≤ j → j < l.length → t ≤ (l.getD j Sg.none).t) (h3 : (l.getD i0 Sg.none).f ≤ t)
  (hO : (exactL l t i0).o + (exactL l t i0).o ≠ 0) (hx : In64 (rdL (exactL l t i0)).x) (hy : In64 (rdL (exactL l t i0)).y) (hz : In64 (rdL (exactL l t i0)).z) : AF Tryz.prog 25 [pathA l, .int t] (.lit (.tuple #[.agg #[.int .i64 (rdL (exactL l t i0)).x, .int .i64 (rdL (exactL l t i0)).y, .int .i64 (rdL (exactL l t i0)).z], .int .i64 0])) := by
 have hs := (ho.1 i0 hi0).1
 have hh := hs.1
 unfold HeadOk at hh
 have h4 := h2 i0 (Nat.le_refl _) hi0
 obtain ⟨bx, by_, bz, bo⟩ := place_bd (s := l.getD i0 Sg.none) (a := t - (l.getD i0 Sg.none).f) (d := (l.getD i0 Sg.none).t - (l.getD i0 Sg.none).f) (hl.2 i0) hs ⟨by omega, by omega⟩ ⟨by omega, by omega⟩
 refine AF_of ⟨[(0, pathA (l)), (1, .int (t))], [], 0, 58⟩ Tryz.func25 rfl 58 Tryz.ntmps25 (by kernel_rfl) (by kernel_rfl) fun B D0 hA0 => ?_
 refine qreg 2 [0, 1, 4] ?_
 refine AC_seq_list ?_
 refine qrun 2 ?_
 refine qcl (AF_exact l hl ho t ht i0 hi0 h1 h2 h3) ?_
 refine qrun 1 ?_
 refine qopn (.lit (.agg #[.bool (decide ((exactL l t i0).x < 0)), .string (beB ((exactL l t i0).x).natAbs), .bool (decide ((exactL l t i0).y < 0)), .string (beB ((exactL l t i0).y).natAbs), .bool (decide ((exactL l t i0).z < 0)), .string (beB ((exactL l t i0).z).natAbs), .bool (decide ((exactL l t i0).o < 0)), .string (beB ((exactL l t i0).o).natAbs)])) (qlit (v := .agg #[.bool (decide ((exactL l t i0).x < 0)), .string (beB ((exactL l t i0).x).natAbs), .bool (decide ((exactL l t i0).y < 0)), .string (beB ((exactL l t i0).y).natAbs), .bool (decide ((exactL l t i0).z < 0)), .string (beB ((exactL l t i0).z).natAbs), .bool (decide ((exactL l t i0).o < 0)), .string (beB ((exactL l t i0).o).natAbs)]) (v' := .agg #[.bool (decide ((exactL l t i0).x < 0)), .string (beB ((exactL l t i0).x).natAbs), .bool (decide ((exactL l t i0).y < 0)), .string (beB ((exactL l t i0).y).natAbs), .bool (decide ((exactL l t i0).z < 0)), .string (beB ((exactL l t i0).z).natAbs), .bool (decide ((exactL l t i0).o < 0)), .string (beB ((exactL l t i0).o).natAbs)]) (rfl) _) ?_
 refine qi (0) ?_
 refine qrun 3 ?_
 refine qend [4, 6, 7] ?_
 refine AC_seq ?_
 refine AC_seq_list ?_
 refine qrun 1 ?_
 refine qb false ?_
 refine qend [4, 6, 7, 18] ?_
 refine qCfalse ?_
 refine AC_skip ?_
 refine qreg 1 [4, 6, 8] ?_
 refine AC_seq ?_
 refine AC_seq_list ?_
 refine qrun 6 ?_
 refine qopn (.lit (.agg #[.bool (decide ((exactL l t i0).x < 0)), .string (beB ((exactL l t i0).x).natAbs), .bool (decide ((exactL l t i0).y < 0)), .string (beB ((exactL l t i0).y).natAbs), .bool (decide ((exactL l t i0).z < 0)), .string (beB ((exactL l t i0).z).natAbs)])) (qbuild_array 102 #[(0, (.tmp 22)), (1, (.tmp 24)), (2, (.tmp 26))] _ Tryz.zeroValue102 Tryz.underlying102 2 Tryz.sizeOf96 [.bool (decide ((exactL l t i0).x < 0)), .lit (.string (beB ((exactL l t i0).x).natAbs)), .bool (decide ((exactL l t i0).y < 0)), .lit (.string (beB ((exactL l t i0).y).natAbs)), .bool (decide ((exactL l t i0).z < 0)), .lit (.string (beB ((exactL l t i0).z).natAbs))]) ?_
 refine qrun 1 ?_
 refine qend [4, 6, 8, 27, 28] ?_
 refine AC_block ?_
 refine AC_loop 4 ?_
 refine AC_seq_list ?_
 refine qb true ?_
 refine qend [4, 6, 8, 27, 28, 29] ?_
 refine AC_seq ?_
 refine qCtrue ?_
 refine AC_skip ?_
 refine AC_seq ?_
 refine AC_block ?_
 refine AC_seq_list ?_
 refine qrun 1 ?_
 refine qopn (.lit (WideV ((exactL l t i0).x))) (qlit (v := WideV ((exactL l t i0).x)) (v' := WideV ((exactL l t i0).x)) (rfl) _) ?_
 refine qrun 3 ?_
 refine qend [4, 6, 8, 9, 10, 27, 28] ?_
 refine qdraw [(3, .lit (WideV ((exactL l t i0).x + (exactL l t i0).x)), .none), (6, .lit (WideV ((exactL l t i0).x + (exactL l t i0).x + (exactL l t i0).o)), .none), (11, .lit (WideV ((exactL l t i0).o + (exactL l t i0).o)), .none), (12, .lit (WideV ((rdL (exactL l t i0)).x)), .none), (13, .lit (.tuple #[.int .i64 ((rdL (exactL l t i0)).x), .int .i64 (0)]), .none), (15, .int ((rdL (exactL l t i0)).x), .none), (16, .int (0), .none), (17, .ptr 2 (0), .none)] [4, 6, 8, 27, 28] 4 ⟨?_, ?_, ?_, ?_, ?_, ?_, ?_, ?_, trivial⟩ ?_
 · exact qcast (qcall 49 #[(.tmp 34), (.tmp 35)] #[96, 96] [.lit (WideV ((exactL l t i0).x)), .lit (WideV ((exactL l t i0).x))] (.lit (WideV ((exactL l t i0).x + (exactL l t i0).x))) (AF_sadd _ _ (bx.fit (by omega)) (bx.fit (by omega)) ((bx.add bx).fit (by omega))))
 · exact qcast (qcall 49 #[(.tmp 36), (.tmp 38)] #[96, 96] [.lit (WideV ((exactL l t i0).x + (exactL l t i0).x)), .lit (WideV ((exactL l t i0).o))] (.lit (WideV ((exactL l t i0).x + (exactL l t i0).x + (exactL l t i0).o))) (AF_sadd _ _ ((bx.add bx).fit (by omega)) (bo.fit (by omega)) (((bx.add bx).add (bo.mono (by omega))).fit (by omega))))
 · exact qcast (qcall 49 #[(.tmp 41), (.tmp 43)] #[96, 96] [.lit (WideV ((exactL l t i0).o)), .lit (WideV ((exactL l t i0).o))] (.lit (WideV ((exactL l t i0).o + (exactL l t i0).o))) (AF_sadd _ _ (bo.fit (by omega)) (bo.fit (by omega)) ((bo.add bo).fit (by omega))))
 · exact qcast (qcall 48 #[(.tmp 39), (.tmp 44)] #[96, 96] [.lit (WideV ((exactL l t i0).x + (exactL l t i0).x + (exactL l t i0).o)), .lit (WideV ((exactL l t i0).o + (exactL l t i0).o))] (.lit (WideV ((rdL (exactL l t i0)).x))) (AF_squo _ _ (((bx.add bx).add (bo.mono (by omega))).fit (by omega)) ((bo.add bo).fit (by omega)) hO))
 · exact qcast (qcall 47 #[(.tmp 45)] #[96] [.lit (WideV ((rdL (exactL l t i0)).x))] (.lit (.tuple #[.int .i64 ((rdL (exactL l t i0)).x), .int .i64 (0)])) (AF_wint _ hx))
 · exact qiD
 · exact qiD
 · exact qcast (qindex_ptr 101 (.tmp 8) (.tmp 33) Tryz.underlying101 2 0 1 0 (0) Tryz.sizeOf3)
 refine AC_list ?_
 refine qi (1) ?_
 refine qrun 1 ?_
 refine qend1 [4, 6, 8, 27, 28] ?_
 refine AC_seq_list ?_
 refine qb true ?_
 refine qend [4, 6, 8, 27, 28, 29] ?_
 refine AC_seq ?_
 refine qCtrue ?_
 refine AC_skip ?_
 refine AC_seq ?_
 refine AC_block ?_
 refine AC_seq_list ?_
 refine qrun 1 ?_
 refine qopn (.lit (WideV ((exactL l t i0).y))) (qlit (v := WideV ((exactL l t i0).y)) (v' := WideV ((exactL l t i0).y)) (rfl) _) ?_
 refine qrun 3 ?_
 refine qend [4, 6, 8, 9, 10, 27, 28] ?_
 refine qdraw [(3, .lit (WideV ((exactL l t i0).y + (exactL l t i0).y)), .none), (6, .lit (WideV ((exactL l t i0).y + (exactL l t i0).y + (exactL l t i0).o)), .none), (11, .lit (WideV ((exactL l t i0).o + (exactL l t i0).o)), .none), (12, .lit (WideV ((rdL (exactL l t i0)).y)), .none), (13, .lit (.tuple #[.int .i64 ((rdL (exactL l t i0)).y), .int .i64 (0)]), .none), (15, .int ((rdL (exactL l t i0)).y), .none), (16, .int (0), .none), (17, .ptr 2 (1), .none)] [4, 6, 8, 27, 28] 5 ⟨?_, ?_, ?_, ?_, ?_, ?_, ?_, ?_, trivial⟩ ?_
 · exact qcast (qcall 49 #[(.tmp 34), (.tmp 35)] #[96, 96] [.lit (WideV ((exactL l t i0).y)), .lit (WideV ((exactL l t i0).y))] (.lit (WideV ((exactL l t i0).y + (exactL l t i0).y))) (AF_sadd _ _ (by_.fit (by omega)) (by_.fit (by omega)) ((by_.add by_).fit (by omega))))
 · exact qcast (qcall 49 #[(.tmp 36), (.tmp 38)] #[96, 96] [.lit (WideV ((exactL l t i0).y + (exactL l t i0).y)), .lit (WideV ((exactL l t i0).o))] (.lit (WideV ((exactL l t i0).y + (exactL l t i0).y + (exactL l t i0).o))) (AF_sadd _ _ ((by_.add by_).fit (by omega)) (bo.fit (by omega)) (((by_.add by_).add (bo.mono (by omega))).fit (by omega))))
 · exact qcast (qcall 49 #[(.tmp 41), (.tmp 43)] #[96, 96] [.lit (WideV ((exactL l t i0).o)), .lit (WideV ((exactL l t i0).o))] (.lit (WideV ((exactL l t i0).o + (exactL l t i0).o))) (AF_sadd _ _ (bo.fit (by omega)) (bo.fit (by omega)) ((bo.add bo).fit (by omega))))
 · exact qcast (qcall 48 #[(.tmp 39), (.tmp 44)] #[96, 96] [.lit (WideV ((exactL l t i0).y + (exactL l t i0).y + (exactL l t i0).o)), .lit (WideV ((exactL l t i0).o + (exactL l t i0).o))] (.lit (WideV ((rdL (exactL l t i0)).y))) (AF_squo _ _ (((by_.add by_).add (bo.mono (by omega))).fit (by omega)) ((bo.add bo).fit (by omega)) hO))
 · exact qcast (qcall 47 #[(.tmp 45)] #[96] [.lit (WideV ((rdL (exactL l t i0)).y))] (.lit (.tuple #[.int .i64 ((rdL (exactL l t i0)).y), .int .i64 (0)])) (AF_wint _ hy))
 · exact qiD
 · exact qiD
 · exact qcast (qindex_ptr 101 (.tmp 8) (.tmp 33) Tryz.underlying101 2 0 1 1 (1) Tryz.sizeOf3)
 refine AC_list ?_
 refine qi (2) ?_
 refine qrun 1 ?_
 refine qend1 [4, 6, 8, 27, 28] ?_
 refine AC_seq_list ?_
 refine qb true ?_
 refine qend [4, 6, 8, 27, 28, 29] ?_
 refine AC_seq ?_
 refine qCtrue ?_
 refine AC_skip ?_
 refine AC_seq ?_
 refine AC_block ?_
 refine AC_seq_list ?_
 refine qrun 1 ?_
 refine qopn (.lit (WideV ((exactL l t i0).z))) (qlit (v := WideV ((exactL l t i0).z)) (v' := WideV ((exactL l t i0).z)) (rfl) _) ?_
 refine qrun 3 ?_
 refine qend [4, 6, 8, 9, 10, 27, 28] ?_
 refine qdraw [(3, .lit (WideV ((exactL l t i0).z + (exactL l t i0).z)), .none), (6, .lit (WideV ((exactL l t i0).z + (exactL l t i0).z + (exactL l t i0).o)), .none), (11, .lit (WideV ((exactL l t i0).o + (exactL l t i0).o)), .none), (12, .lit (WideV ((rdL (exactL l t i0)).z)), .none), (13, .lit (.tuple #[.int .i64 ((rdL (exactL l t i0)).z), .int .i64 (0)]), .none), (15, .int ((rdL (exactL l t i0)).z), .none), (16, .int (0), .none), (17, .ptr 2 (2), .none)] [4, 6, 8, 27, 28] 6 ⟨?_, ?_, ?_, ?_, ?_, ?_, ?_, ?_, trivial⟩ ?_
 · exact qcast (qcall 49 #[(.tmp 34), (.tmp 35)] #[96, 96] [.lit (WideV ((exactL l t i0).z)), .lit (WideV ((exactL l t i0).z))] (.lit (WideV ((exactL l t i0).z + (exactL l t i0).z))) (AF_sadd _ _ (bz.fit (by omega)) (bz.fit (by omega)) ((bz.add bz).fit (by omega))))
 · exact qcast (qcall 49 #[(.tmp 36), (.tmp 38)] #[96, 96] [.lit (WideV ((exactL l t i0).z + (exactL l t i0).z)), .lit (WideV ((exactL l t i0).o))] (.lit (WideV ((exactL l t i0).z + (exactL l t i0).z + (exactL l t i0).o))) (AF_sadd _ _ ((bz.add bz).fit (by omega)) (bo.fit (by omega)) (((bz.add bz).add (bo.mono (by omega))).fit (by omega))))
 · exact qcast (qcall 49 #[(.tmp 41), (.tmp 43)] #[96, 96] [.lit (WideV ((exactL l t i0).o)), .lit (WideV ((exactL l t i0).o))] (.lit (WideV ((exactL l t i0).o + (exactL l t i0).o))) (AF_sadd _ _ (bo.fit (by omega)) (bo.fit (by omega)) ((bo.add bo).fit (by omega))))
 · exact qcast (qcall 48 #[(.tmp 39), (.tmp 44)] #[96, 96] [.lit (WideV ((exactL l t i0).z + (exactL l t i0).z + (exactL l t i0).o)), .lit (WideV ((exactL l t i0).o + (exactL l t i0).o))] (.lit (WideV ((rdL (exactL l t i0)).z))) (AF_squo _ _ (((bz.add bz).add (bo.mono (by omega))).fit (by omega)) ((bo.add bo).fit (by omega)) hO))
 · exact qcast (qcall 47 #[(.tmp 45)] #[96] [.lit (WideV ((rdL (exactL l t i0)).z))] (.lit (.tuple #[.int .i64 ((rdL (exactL l t i0)).z), .int .i64 (0)])) (AF_wint _ hz))
 · exact qiD
 · exact qiD
 · exact qcast (qindex_ptr 101 (.tmp 8) (.tmp 33) Tryz.underlying101 2 0 1 2 (2) Tryz.sizeOf3)
 refine AC_list ?_
 refine qi (3) ?_
 refine qrun 1 ?_
 refine qend1 [4, 6, 8, 27, 28] ?_
 refine AC_seq_list ?_
 refine qb false ?_
 refine qend [4, 6, 8, 27, 28, 29] ?_
 refine AC_seq ?_
 refine qCfalse ?_
 refine AC_exit ?_
 refine AC_seq_list ?_
 refine qopn (.ptr 2 (0)) (qindex_ptr 101 (.tmp 8) (.const (.int .i64 (0))) Tryz.underlying101 2 0 1 0 (0) Tryz.sizeOf3) ?_
 refine qrun 1 ?_
 refine qopn (.ptr 2 (1)) (qindex_ptr 101 (.tmp 8) (.const (.int .i64 (1))) Tryz.underlying101 2 0 1 1 (1) Tryz.sizeOf3) ?_
 refine qrun 1 ?_
 refine qopn (.ptr 2 (2)) (qindex_ptr 101 (.tmp 8) (.const (.int .i64 (2))) Tryz.underlying101 2 0 1 2 (2) Tryz.sizeOf3) ?_
 refine qrun 1 ?_
 refine qopn (.lit (.agg #[.int .i64 ((rdL (exactL l t i0)).x), .int .i64 ((rdL (exactL l t i0)).y), .int .i64 ((rdL (exactL l t i0)).z)])) (qbuild_struct 55 #[(0, (.tmp 52)), (1, (.tmp 54)), (2, (.tmp 56))] _ Tryz.zeroValue55 Tryz.underlying55 #[(0, 1), (1, 1), (2, 1)] [.int ((rdL (exactL l t i0)).x), .int ((rdL (exactL l t i0)).y), .int ((rdL (exactL l t i0)).z)]) ?_
 refine qrun 2 ?_
 refine qend [4, 5] ?_
 refine AC_ret ?_
 exact ⟨.inl rfl, (resOk2 Tryz.results25 (resV_cell (x := .lit (.agg #[.int .i64 ((rdL (exactL l t i0)).x), .int .i64 ((rdL (exactL l t i0)).y), .int .i64 ((rdL (exactL l t i0)).z)])) 0 Tryz.isAgg55 3 Tryz.sizeOf55 0 [.int ((rdL (exactL l t i0)).x), .int ((rdL (exactL l t i0)).y), .int ((rdL (exactL l t i0)).z)] (by kernel_rfl) 55 (by kernel_rfl) (Nat.le_of_ble_eq_true (by kernel_rfl)) (by kernel_rfl) (by kernel_rfl)) (resV_tmp (x := .int (0)) (by kernel_rfl) (by kernel_rfl))).cast (by kernel_rfl)⟩
def flyR (a b : V3) (f t k : Int) : List Sg × Int := if flyB a b f t = true then ([legS a b f t k], 0) else ([], 2)
theorem flyA_eq (a b : V3) (f t k : Int) : flyA a b f t k = .tup [pathA (flyR a b f t k).1, .int (flyR a b f t k).2] := by unfold flyA flyR; split <;> rfl
theorem flyR_pos {a b : V3} {f t k : Int} (h : (flyR a b f t k).2 = 0) : 0 < (flyR a b f t k).1.length := by
 unfold flyR at *
 split at h
 · rename_i hf; rw [if_pos hf]; exact Nat.one_pos
 · cases h
theorem AF_glideR (a b : V3) (f t : Int) : AF Tryz.prog 37 [vecA a, vecA b, .int f, .int t] (.tup [pathA (flyR a b f t 2).1, .int (flyR a b f t 2).2]) := by rw [← flyA_eq]; exact AF_glide a b f t
theorem AF_hoverR (a : V3) (f t : Int) : AF Tryz.prog 22 [vecA a, .int f, .int t] (.tup [pathA (flyR a a f t 0).1, .int (flyR a a f t 0).2]) := by rw [← flyA_eq]; exact AF_hover a f t
theorem app_pos {a b : List Sg} (ha : 0 < a.length) (h : (appR a b).2 = 0) : 0 < (appR a b).1.length := by
 unfold appR at *
 split at h
 · cases h
 ·
  rename_i h1
  split at h
  · cases h
  ·
   rename_i h2
   split at h
   · cases h
   ·
    rename_i h3
    rw [if_neg h1, if_neg h2, if_neg h3]
    simp; omega
theorem AF_append_ok (a b : List Sg) (ha : PathIn a) (hb : PathIn b) (h : (appR a b).2 = 0) : AF Tryz.prog 45 [pathA a, pathA b] (.tup [pathA (appR a b).1, .int 0]) := by
 have := AF_append a b ha hb
 unfold resA at this
 rwa [if_pos h] at this
theorem AF_append_err (a b : List Sg) (ha : PathIn a) (hb : PathIn b) (h : ¬ (appR a b).2 = 0) : AF Tryz.prog 45 [pathA a, pathA b] (.lit (.tuple #[.slice none 0 0, .int .i64 (appR a b).2])) := by
 have := AF_append a b ha hb
 unfold resA at this
 rwa [if_neg h] at this
theorem PathIn.nil : PathIn [] := ⟨by decide, fun i => by simp [Sg.none]; exact ⟨in64_0, in64_0, in64_0, fun _ => by simpa using in64_0, fun _ => by simpa using in64_0, fun _ => by simpa using in64_0⟩⟩
theorem PathIn.app {a b : List Sg} (ha : PathIn a) (hb : PathIn b) : PathIn (appR a b).1 := by
 unfold appR
 split
 · exact PathIn.nil
 ·
  rename_i h1
  split
  · exact PathIn.nil
  ·
   split
   · exact PathIn.nil
   ·
    rename_i h3
    refine ⟨by simp; omega, fun i => ?_⟩
    show SgIn ((a ++ b).getD i Sg.none)
    rw [getD_app]
    split
    · exact ha.2 i
    · exact hb.2 _
end Go.Proofs.YtkcnbaeoahoglaaGreat
