/- A variable that holds a path of the call's own, and append onto it; no condition. -/
import Derived.Test.YtolmehmglgmanaaGreatDoorPath
namespace Go.Proofs.YtolmehmglgmanaaGreatDoor
open Go.RowKit

theorem seg_info : (Tryz.prog.info? 166).map (fun i => (i.zero, i.size, i.bytes)) = some (some (.agg #[.int .i64 0, .int .i64 0, .int .i64 0, .slice none 0 0, .slice none 0 0, .slice none 0 0]), 6, 96) := by kernel_rfl

/-- Block B is a variable of type path whose value owns the segments ss; all of it lies from base on. -/
structure PathOwn (W : World) (B base : Nat) (sv : Value) (ss : List Sg) : Prop where
  box : W.heap[B]? = some (.cells #[sv] 85 (0, 0))
  row : ∃ cs, W.ownsRow base 166 6 sv ss.length cs ∧ Segs W (fun b => base ≤ b ∧ b < W.heap.size ∧ sv.ownBlock ≠ some b) ss cs
theorem PathOwn.cell {W : World} {B base : Nat} {sv : Value} {ss : List Sg} (h : PathOwn W B base sv ss) : W.cell? ⟨B, 0, none⟩ = some sv := by simp [World.cell?, h.box]
theorem PathOwn.frozen {W : World} {B base : Nat} {sv : Value} {ss : List Sg} (h : PathOwn W B base sv ss) (o : Nat) : W.frozen? ⟨B, o, none⟩ = false := by simp [World.frozen?, h.box]
theorem PathOwn.slice {W : World} {B base : Nat} {sv : Value} {ss : List Sg} (h : PathOwn W B base sv ss) : ∃ A c, sv = .slice A ss.length c := by
  obtain ⟨cs, hr, _⟩ := h.row
  rcases hr.2 with ⟨rfl, e⟩ | ⟨g, cap, cur, rfl, _⟩
  · exact ⟨none, 0, by rw [e]⟩
  · exact ⟨_, cap, rfl⟩
/-- A variable that has just come, holding nil. -/
theorem PathOwn.new (W : World) (B base : Nat) (hB : W.heap.size = B) : PathOwn (W.alloc (.cells #[.slice none 0 0] 85)) B base (.slice none 0 0) [] :=
  ⟨heap_new _ _ _ hB, [], ⟨rfl, .inl ⟨rfl, rfl⟩⟩, rfl⟩
/-- Whatever only makes new memory keeps it. -/
theorem PathOwn.up {W W' : World} {B base : Nat} {sv : Value} {ss : List Sg} (h : PathOwn W B base sv ss) (hb : Below W.heap.size W W') : PathOwn W' B base sv ss := by
  have hBl : B < W.heap.size := (Array.getElem?_eq_some_iff.1 h.box).1
  obtain ⟨cs, hr, hs⟩ := h.row
  refine ⟨(hb.block B hBl).trans h.box, cs, ?_, ?_⟩
  · refine hr.kept (row := none) ⟨hb.os, hb.tape, hb.output, hb.size, fun k hk _ => hb.block k hk⟩ ?_
    cases sv.ownBlock with
    | none => exact .inl rfl
    | some k => exact .inr (by simp)
  · have hz := hb.size
    exact (hs.keep fun b o hd => hb.cell (p := ⟨b, o, none⟩) hd.2.1).more fun b hd => ⟨hd.1, by omega, hd.2.2⟩
/-- append(p, q...) stored back into p. -/
theorem PathOwn.appendedD {W w1 : World} {B base : Nat} {sv v' : Value} {ss ss' : List Sg} {cs news : List Value} (hbox : W.heap[B]? = some (.cells #[sv] 85 (0, 0))) (hB : B < base) (hbl : base ≤ W.heap.size)
    (hr : W.ownsRow base 166 6 sv ss.length cs) (hs : Segs W (fun b => base ≤ b ∧ b < W.heap.size ∧ sv.ownBlock ≠ some b) ss cs)
    (hn2 : Segs W (fun b => base ≤ b ∧ b < W.heap.size ∧ sv.ownBlock ≠ some b) ss' news)
    (hown : w1.ownsRow base 166 6 v' (ss.length + ss'.length) (cs ++ news)) (hg : W.grownBy w1 sv.ownBlock) (hat : v'.ownBlock = sv.ownBlock ∨ v'.ownBlock = some W.heap.size) :
    w1.heap[B]? = some (.cells #[sv] 85 (0, 0)) ∧ PathOwn (w1.setCell ⟨B, 0, none⟩ v') B base v' (ss ++ ss') ∧ Below B W (w1.setCell ⟨B, 0, none⟩ v') := by
  have hBlt : B < W.heap.size := (Array.getElem?_eq_some_iff.1 hbox).1
  have hBne : some B ≠ sv.ownBlock := fun e => by have := (hr.lt B e.symm).1; omega
  have hb1 : w1.heap[B]? = some (.cells #[sv] 85 (0, 0)) := (hg.block B hBlt hBne).trans hbox
  have hz := hg.size
  have hbne : ∀ b, base ≤ b → B ≠ b := fun b hb => by omega
  refine ⟨hb1, ⟨?_, cs ++ news, ?_, ?_⟩, ?_⟩
  · simp [World.setCell, Array.getElem?_modify, hb1]
  · have := ownsRow_setCell_below hown (a := ⟨B, 0, none⟩) hB v'
    rwa [List.length_append]
  · have hcell : ∀ b o, base ≤ b → b < W.heap.size → sv.ownBlock ≠ some b → (w1.setCell ⟨B, 0, none⟩ v').cell? ⟨b, o, none⟩ = W.cell? ⟨b, o, none⟩ := fun b o h1 h2 h3 =>
      (World.cell?_setCell_other w1 ⟨B, 0, none⟩ ⟨b, o, none⟩ v' (fun e => by injection e with e; omega)).trans (World.cell?_of_block (hg.block b h2 (fun e => h3 e.symm)))
    have hD : ∀ b, base ≤ b ∧ b < W.heap.size ∧ sv.ownBlock ≠ some b → base ≤ b ∧ b < (w1.setCell ⟨B, 0, none⟩ v').heap.size ∧ v'.ownBlock ≠ some b := fun b hd => by
      refine ⟨hd.1, ?_, ?_⟩
      · have : (w1.setCell ⟨B, 0, none⟩ v').heap.size = w1.heap.size := by simp [World.setCell]
        omega
      · rcases hat with e | e
        · rw [e]; exact hd.2.2
        · rw [e]; intro h; injection h with h; omega
    refine Segs.append ((hs.keep fun b o hd => hcell b o hd.1 hd.2.1 hd.2.2).more hD) ?_
    exact (hn2.keep fun b o hd => hcell b o hd.1 hd.2.1 hd.2.2).more hD
  · refine ((Below.refl B W).grown hg (by omega) (fun k hk => by have := (hr.lt k hk).1; omega)).setCell (Nat.le_refl _) v'
theorem PathOwn.appended {W w1 : World} {B base lo : Nat} {sv v' : Value} {ss ss' : List Sg} {cs news : List Value} (hbox : W.heap[B]? = some (.cells #[sv] 85 (0, 0))) (hB : B < base) (hbl : base ≤ W.heap.size)
    (hr : W.ownsRow base 166 6 sv ss.length cs) (hs : Segs W (fun b => base ≤ b ∧ b < W.heap.size ∧ sv.ownBlock ≠ some b) ss cs)
    (hn : Segs W (rg lo W.heap.size) ss' news) (hlo : base ≤ lo) (hrow : ∀ g, sv.ownBlock = some g → g < lo)
    (hown : w1.ownsRow base 166 6 v' (ss.length + ss'.length) (cs ++ news)) (hg : W.grownBy w1 sv.ownBlock) (hat : v'.ownBlock = sv.ownBlock ∨ v'.ownBlock = some W.heap.size) :
    w1.heap[B]? = some (.cells #[sv] 85 (0, 0)) ∧ PathOwn (w1.setCell ⟨B, 0, none⟩ v') B base v' (ss ++ ss') ∧ Below B W (w1.setCell ⟨B, 0, none⟩ v') :=
  PathOwn.appendedD hbox hB hbl hr hs (hn.more fun b hd => ⟨Nat.le_trans hlo hd.1, hd.2, fun e => by have := hrow b e; have := hd.1; omega⟩) hown hg hat
end Go.Proofs.YtolmehmglgmanaaGreatDoor
