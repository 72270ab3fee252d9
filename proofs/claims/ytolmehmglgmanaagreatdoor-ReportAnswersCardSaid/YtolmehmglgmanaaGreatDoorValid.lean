/- Which programs are valid. -/
import Derived.Test.YtolmehmglgmanaaGreatDoorPaths
import Derived.Test.YtolmehmglgmanaaGreatDoorCrew
namespace Go.Proofs.YtolmehmglgmanaaGreatDoor
open Go.RowKit
set_option maxRecDepth 100000 in
theorem paths_any (vn vh va : Value) (k start : Int) (w : World) :
    Calls Tryz.prog 19 #[.agg #[vn, vh, va], .int .i64 k, .int .i64 start] w fun e w' => ∃ Bp Ba Bt, e = .returned (.func (.func 34) #[] #[.pointer (some ⟨Bp, 0, none⟩), .pointer (some ⟨Ba, 0, none⟩), .pointer (some ⟨Bt, 0, none⟩)]) ∧ Below w.heap.size w w' ∧ w.heap.size ≤ Bp ∧ w.heap.size ≤ Ba ∧ w.heap.size ≤ Bt ∧ Bp < w'.heap.size ∧ Ba < w'.heap.size ∧ Bt < w'.heap.size ∧
      w'.heap[Bp]? = some (.cells #[vn, vh, va] 26 (0, 0)) ∧ w'.cell? ⟨Ba, 0, none⟩ = some (.int .i64 k) ∧ w'.cell? ⟨Bt, 0, none⟩ = some (.int .i64 start) := by
  go_enter Tryz.func19, Tryz.ntmps19
  go_wp2_with fail
  go_ret
  refine ⟨_, _, _, rfl, ?_, Nat.le_refl _, by omega, by omega, ?_, ?_, ?_, ?_, ?_, ?_⟩
  · exact (((Below.refl _ _).alloc (Nat.le_refl _) _).alloc (by simp) _).alloc (by simp; omega) _
  · simp; omega
  · simp
  · simp
  · rw [Below.heap_alloc _ _ _ (by simp; omega), Below.heap_alloc _ _ _ (by simp)]; exact World.alloc_heap_new _ _
  · rw [World.cell?_alloc_past _ _ _ (by simp), World.cell?_alloc_at _ _ _ _ (by simp)]; rfl
  · rw [World.cell?_alloc_at _ _ _ _ (by simp)]; rfl

/-- How many segments each path has after i aircraft of act k; none if one is wrong or there are too many. -/
def manyAt (p : Pr) (k : Nat) (start : Int) (m : List Int) : Nat → Option (List Int)
  | 0 => some m
  | i + 1 => match manyAt p k start m i with
    | none => none
    | some l => if pathE p k start i = 0 ∧ l.getD i 0 + (pathL p k start i).length ≤ 256 then some (l.set i (l.getD i 0 + (pathL p k start i).length)) else none
/-- The time and the numbers of segments after k acts. -/
def upTo (p : Pr) : Nat → Option (Int × List Int)
  | 0 => some (0, List.replicate p.names.length 0)
  | k + 1 => match upTo p k with
    | none => none
    | some (t, m) =>
      if nameB (p.acts.getD k Ac.none).name = true ∧ 1 ≤ (p.acts.getD k Ac.none).len ∧ (p.acts.getD k Ac.none).len ≤ 3600000 - t ∧ (p.acts.getD k Ac.none).moves.length = p.names.length then
        match manyAt p k t m p.names.length with
        | none => none
        | some m' => some (t + (p.acts.getD k Ac.none).len, m')
      else none
def validB (p : Pr) : Bool := crewB p.names p.homes && decide (p.acts.length ≤ 60) && (upTo p p.acts.length).isSome
theorem pathL_len (p : Pr) (k : Nat) (start : Int) (i : Nat) : (pathL p k start i).length ≤ 5 := by
  unfold pathL tpL
  split
  · exact pathR_len _ _ _ _ _ _ _
  · simp
theorem manyAt_none {p : Pr} {k : Nat} {start : Int} {m : List Int} {i : Nat} (h : manyAt p k start m i = none) : ∀ j, i ≤ j → manyAt p k start m j = none := by
  intro j hj
  induction j with
  | zero => have : i = 0 := by omega
            rw [this] at h; exact h
  | succ j ih =>
    by_cases hij : i = j + 1
    · rw [← hij]; exact h
    · unfold manyAt; rw [ih (by omega)]
theorem manyAt_facts {p : Pr} {k : Nat} {start : Int} {m : List Int} (hm : ∀ x ∈ m, 0 ≤ x ∧ x ≤ 256) : ∀ {i : Nat} {l : List Int}, manyAt p k start m i = some l → l.length = m.length ∧ ∀ x ∈ l, 0 ≤ x ∧ x ≤ 256
  | 0, l, h => by cases h; exact ⟨rfl, hm⟩
  | i + 1, l, h => by
    unfold manyAt at h
    split at h
    · cases h
    · rename_i l' hl'
      obtain ⟨h1, h2⟩ := manyAt_facts hm hl'
      split at h
      · rename_i hc
        cases h
        refine ⟨by simp [h1], fun x hx => ?_⟩
        rcases List.mem_or_eq_of_mem_set hx with hx | rfl
        · exact h2 x hx
        · have : 0 ≤ l'.getD i 0 := by
            by_cases hi : i < l'.length
            · simp only [List.getD_eq_getElem?_getD, List.getElem?_eq_getElem hi, Option.getD_some]; exact (h2 _ (List.getElem_mem hi)).1
            · simp [List.getD_eq_getElem?_getD, List.getElem?_eq_none (Nat.le_of_not_lt hi)]
          omega
      · cases h
theorem upTo_none {p : Pr} {i : Nat} (h : upTo p i = none) : ∀ j, i ≤ j → upTo p j = none := by
  intro j hj
  induction j with
  | zero => have : i = 0 := by omega
            rw [this] at h; exact h
  | succ j ih =>
    by_cases hij : i = j + 1
    · rw [← hij]; exact h
    · unfold upTo; rw [ih (by omega)]
theorem upTo_facts {p : Pr} : ∀ {k : Nat} {t : Int} {m : List Int}, upTo p k = some (t, m) → 0 ≤ t ∧ t ≤ 3600000 ∧ m.length = p.names.length ∧ (∀ x ∈ m, 0 ≤ x ∧ x ≤ 256) ∧ ∀ j, j < k → (p.acts.getD j Ac.none).moves.length = p.names.length
  | 0, t, m, h => by
    unfold upTo at h; cases h
    exact ⟨by omega, by omega, by simp, fun x hx => by rw [List.eq_of_mem_replicate hx]; omega, fun j hj => by omega⟩
  | k + 1, t, m, h => by
    unfold upTo at h
    split at h
    · cases h
    · rename_i t' m' hu
      obtain ⟨h1, h2, h3, h4, h5⟩ := upTo_facts hu
      split at h
      · rename_i hc
        split at h
        · cases h
        · rename_i m2 hm2
          cases h
          obtain ⟨g1, g2⟩ := manyAt_facts h4 hm2
          refine ⟨by omega, by omega, g1.trans h3, g2, fun j hj => ?_⟩
          by_cases hjk : j = k
          · rw [hjk]; exact hc.2.2.2
          · exact h5 j (by omega)
      · cases h
theorem formL_len {p : Pr} {k : Nat} {t : Int} {m : List Int} (hh : p.homes.length = p.names.length) (h : upTo p k = some (t, m)) : (formL p k).length = p.names.length := by
  unfold formL
  split
  · exact hh
  · rw [List.length_map]; exact (upTo_facts h).2.2.2.2 (k - 1) (by omega)
def manyC (m : List Int) : Array Value := (m.map (Value.int .i64)).toArray
theorem manyC_at (m : List Int) (i : Nat) (h : i < m.length) : (manyC m)[i]? = some (.int .i64 (m.getD i 0)) := by simp [manyC, h]
theorem manyC_set (m : List Int) (i : Nat) (x : Int) : (manyC m).setIfInBounds i (.int .i64 x) = manyC (m.set i x) := by simp [manyC, List.map_set]
theorem made_ints (n : Nat) : madeCells (Value.int .i64 0).cells (n * 1) = manyC (List.replicate n 0) := by
  apply Array.ext
  · simp [madeCells, manyC]
  · intro i h1 h2
    simp [madeCells, manyC, Value.cells, Nat.mod_one]
theorem make_ints (n : Nat) (hn : n ≤ 1000000) (w : World) :
    (Instr.makeSlice 63 (.int .i64 (n : Nat)) (.int .i64 (n : Nat))).run Tryz.prog w = .ok (.slice (some ⟨w.heap.size, 0, none⟩) n n) (w.alloc (.cells (manyC (List.replicate n 0)) 3)) := by
  obtain ⟨i0, hi0, hz0, hz1, hz2⟩ := info_parts int_info
  have := run_makeSlice w 63 3 i0 _ Tryz.underlying63 hi0 hz0 .i64 .i64 (n : Nat) (n : Nat) (by omega) (by omega) (by rw [hz1]; simp; omega) (by rw [hz2]; omega) (by omega)
  rw [this, hz1]
  simp only [Int.toNat_natCast, made_ints]
structure VLoop (p : Pr) (W0 : World) (n0 Bm : Nat) (rs : List Nat) (k : Nat) (t : Int) (m : List Int) (wr : World) : Prop where
  up : upTo p k = some (t, m)
  le : k ≤ p.acts.length
  keep : KeepP (fun b => b = n0 + 1 ∨ b = Bm) W0 wr
  many : wr.heap[Bm]? = some (.cells (manyC m) 3 (0, 0))
  res : ∃ v : Bool, wr.heap[n0 + 1]? = some (.cells #[.bool v] 4 (0, 0))
  nodup : rs.Nodup
  marks : ∀ r ∈ rs, W0.heap.size ≤ r ∧ wr.heap[r]? = some (.deferred (some []))
theorem valid_end {w Wx : World} {rs : List Nat} {tmps : Array Value} {b : Bool} (h2 : tmps[2]? = some (.pointer (some ⟨w.heap.size + 1, 0, none⟩))) (hc : Wx.cell? ⟨w.heap.size + 1, 0, none⟩ = some (.bool b)) (hsz : w.heap.size + 1 < Wx.heap.size)
    (hb : Below w.heap.size w Wx) (hn : rs.Nodup) (hr : ∀ r ∈ rs, w.heap.size + 2 ≤ r ∧ Wx.heap[r]? = some (.deferred (some []))) :
    bodyPostM Fence.wide 0 Tryz.prog Tryz.f7 (fun e w' => e = .returned (.bool b) ∧ Below w.heap.size w w') .ret ⟨tmps, rs.map markOf⟩ Wx := by
  refine marks_ret rs rfl hn (fun r h => (hr r h).2) fun W' hk hz => ⟨.bool b, ?_, rfl, ?_⟩
  · have h := hk.cell (b := w.heap.size + 1) (o := 0) hsz (fun h => by have := (hr _ h).1; omega)
    rw [hc] at h
    simp [results, Tryz.results7, go_sem, h, h2]
  · refine ⟨hk.os.trans hb.os, hk.tape.trans hb.tape, hk.output.trans hb.output, ?_, fun i hi => ?_⟩
    · rw [hz]; exact hb.size
    · have := hb.size
      exact (hk.block i (by omega) (fun h => by have := (hr _ h).1; omega)).trans (hb.block i hi)
theorem valid_ret {w Wx : World} {rs : List Nat} {tmps : Array Value} {b : Bool} {rv : Value} (h2 : tmps[2]? = some (.pointer (some ⟨w.heap.size + 1, 0, none⟩))) (hc : Wx.heap[w.heap.size + 1]? = some (.cells #[rv] 4 (0, 0)))
    (hb : Below w.heap.size w Wx) (hn : rs.Nodup) (hr : ∀ r ∈ rs, w.heap.size + 2 ≤ r ∧ Wx.heap[r]? = some (.deferred (some []))) :
    bodyPostM Fence.wide 0 Tryz.prog Tryz.f7 (fun e w' => e = .returned (.bool b) ∧ Below w.heap.size w w') .ret ⟨tmps, rs.map markOf⟩ (Wx.setCell ⟨w.heap.size + 1, 0, none⟩ (.bool b)) := by
  have hk := KeepP.setCell (Pv := fun b => b = w.heap.size + 1) Wx ⟨w.heap.size + 1, 0, none⟩ (.bool b) rfl
  have hs := (Array.getElem?_eq_some_iff.1 hc).1
  refine valid_end h2 ?_ (Nat.lt_of_lt_of_le hs hk.size) ⟨hk.os.trans hb.os, hk.tape.trans hb.tape, hk.output.trans hb.output, Nat.le_trans hb.size hk.size, fun i hi => ?_⟩ hn fun r hr' => ⟨(hr r hr').1, ?_⟩
  · have := heap_setCell_same Wx _ 0 _ _ _ (.bool b) hc
    simp [World.cell?, this]
  · exact (hk.block i (Nat.lt_of_lt_of_le hi hb.size) (by omega)).trans (hb.block i hi)
  · have := (hr r hr').1
    exact (hk.block r (Array.getElem?_eq_some_iff.1 (hr r hr').2).1 (by omega)).trans (hr r hr').2
theorem valid_no {p : Pr} {j : Nat} (h : upTo p j = none) (hj : j ≤ p.acts.length) : validB p = false := by
  unfold validB; rw [upTo_none h _ hj]; simp
theorem upTo_bad {p : Pr} {k : Nat} {t : Int} {m : List Int} (h : upTo p k = some (t, m))
    (hn : ¬ (nameB (p.acts.getD k Ac.none).name = true ∧ 1 ≤ (p.acts.getD k Ac.none).len ∧ (p.acts.getD k Ac.none).len ≤ 3600000 - t ∧ (p.acts.getD k Ac.none).moves.length = p.names.length)) : upTo p (k + 1) = none := by
  unfold upTo; rw [h]; simp only; rw [if_neg hn]
theorem upTo_many {p : Pr} {k : Nat} {t : Int} {m : List Int} (h : upTo p k = some (t, m)) (hn : manyAt p k t m p.names.length = none) : upTo p (k + 1) = none := by
  unfold upTo; rw [h]; simp only; rw [hn]; split <;> rfl
theorem upTo_good {p : Pr} {k : Nat} {t : Int} {m m' : List Int} (h : upTo p k = some (t, m))
    (hg : nameB (p.acts.getD k Ac.none).name = true ∧ 1 ≤ (p.acts.getD k Ac.none).len ∧ (p.acts.getD k Ac.none).len ≤ 3600000 - t ∧ (p.acts.getD k Ac.none).moves.length = p.names.length)
    (hn : manyAt p k t m p.names.length = some m') : upTo p (k + 1) = some (t + (p.acts.getD k Ac.none).len, m') := by
  unfold upTo; rw [h]; simp only; rw [if_pos hg, hn]
theorem manyAt_bad {p : Pr} {k : Nat} {t : Int} {m l : List Int} {i : Nat} (h : manyAt p k t m i = some l) (hn : ¬ (pathE p k t i = 0 ∧ l.getD i 0 + (pathL p k t i).length ≤ 256)) : manyAt p k t m (i + 1) = none := by
  unfold manyAt; rw [h]; simp only; rw [if_neg hn]
theorem manyAt_good {p : Pr} {k : Nat} {t : Int} {m l : List Int} {i : Nat} (h : manyAt p k t m i = some l) (hn : pathE p k t i = 0 ∧ l.getD i 0 + (pathL p k t i).length ≤ 256) : manyAt p k t m (i + 1) = some (l.set i (l.getD i 0 + (pathL p k t i).length)) := by
  unfold manyAt; rw [h]; simp only; rw [if_pos hn]
structure VIn (p : Pr) (k : Nat) (t : Int) (m : List Int) (wP : World) (B2 Bm B7 : Nat) (s : List Int) (i : Nat) (A : World) : Prop where
  eq : manyAt p k t m i = some s
  keep : KeepP (fun b => b = B2 ∨ b = Bm ∨ b = B7) wP A
  many : A.heap[Bm]? = some (.cells (manyC s) 3 (0, 0))
  cnt : A.heap[B7]? = some (.cells #[.int .i64 (i : Nat)] 3 (0, 0))
  res : ∃ v : Bool, A.heap[B2]? = some (.cells #[.bool v] 4 (0, 0))
theorem VIn.own {p : Pr} {k : Nat} {t : Int} {m : List Int} {wP : World} {B2 Bm B7 : Nat} {s : List Int} {i : Nat} (h2 : B2 < wP.heap.size) (hm : Bm < wP.heap.size) (h7 : B7 < wP.heap.size) : OwnFrom wP.heap.size (fun (_ : Unit) A => VIn p k t m wP B2 Bm B7 s i A) := by
  intro _ A B row h hg hr
  have hr' : ∀ r, row = some r → wP.heap.size ≤ r := fun r e => (hr r e).1
  obtain ⟨v, hv⟩ := h.res
  exact ⟨h.eq, grown_keep h.keep hg hr', grown_heap h.many hg hm hr', grown_heap h.cnt hg h7 hr', v, grown_heap hv hg h2 hr'⟩
structure VOut (wP : World) (B2 Bm B7 : Nat) (A : World) : Prop where
  keep : KeepP (fun b => b = B2 ∨ b = Bm ∨ b = B7) wP A
  res : A.heap[B2]? = some (.cells #[.bool false] 4 (0, 0))
theorem VOut.own {wP : World} {B2 Bm B7 : Nat} {c : Code} {C : Prop} (h2 : B2 < wP.heap.size) : OwnFrom wP.heap.size (fun (_ : Unit) A => c = .ret ∧ C ∧ VOut wP B2 Bm B7 A) := by
  intro _ A B row ⟨hc, hC, h⟩ hg hr
  have hr' : ∀ r, row = some r → wP.heap.size ≤ r := fun r e => (hr r e).1
  exact ⟨hc, hC, grown_keep h.keep hg hr', grown_heap h.res hg h2 hr'⟩
end Go.Proofs.YtolmehmglgmanaaGreatDoor
