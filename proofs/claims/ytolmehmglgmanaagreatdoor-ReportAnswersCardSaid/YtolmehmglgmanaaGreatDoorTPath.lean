/- The path of a move without a rise: the walk of transit's path. -/
import Derived.Test.YtolmehmglgmanaaGreatDoorStay
namespace Go.Proofs.YtolmehmglgmanaaGreatDoor
open Go.RowKit

def pathS (a b : V3) (wait flight start len : Int) : List Sg :=
  if flight = 0 then flyL a a start (start + len) 0
  else flyL a a start (start + wait) 0 ++ flyL a b (start + wait) (start + wait + flight) 2 ++ flyL b b (start + wait + flight) (start + len) 0
/-- A path of the call's own, told as a path. -/
theorem PathOwn.at_ {W : World} {B base : Nat} {sv : Value} {ss : List Sg} (h : PathOwn W B base sv ss) : PathAt W base W.heap.size sv ss := by
  obtain ⟨cs, hr, hs⟩ := h.row
  exact ⟨cs, Sees.own hr, hs.more fun b hd => ⟨hd.1, hd.2.1⟩⟩
theorem path_end {w wa : World} {B base : Nat} {sv : Value} {ss : List Sg} (h : PathAt wa base wa.heap.size sv ss) (hB : B < base) (hw : w.heap.size ≤ B) (hb : Below w.heap.size w wa) {u : Value} :
    ∃ v, Ending.returned sv = .returned v ∧ PathAt (wa.setCell ⟨B, 0, none⟩ u) w.heap.size (wa.setCell ⟨B, 0, none⟩ u).heap.size v ss ∧ Below w.heap.size w (wa.setCell ⟨B, 0, none⟩ u) := by
  have hg : wa.grownBy (wa.setCell ⟨B, 0, none⟩ u) (some B) := grown_set ⟨rfl, rfl, rfl, Nat.le_refl _, fun _ _ _ => rfl⟩ 0 u
  exact ⟨sv, rfl, (h.keepG hg (Nat.le_refl _) (by rintro b ⟨rfl⟩; exact .inl hB)).more (by omega) hg.size, hb.setCell hw u⟩
set_option maxRecDepth 100000 in
set_option maxHeartbeats 1000000 in
theorem path_hover (x y z x' y' z' wait flight rise start len : Int) (w : World) (hf : flight = 0) (hs : 0 ≤ start ∧ start ≤ 3600000) (hl : 0 ≤ len ∧ len ≤ 3600000) (hw : 0 ≤ wait ∧ wait ≤ 3600000) :
    Calls Tryz.prog 47 #[.agg #[.int .i64 x, .int .i64 y, .int .i64 z], .agg #[.int .i64 x', .int .i64 y', .int .i64 z', .int .i64 wait, .int .i64 flight, .int .i64 rise], .int .i64 start, .int .i64 len] w fun e w' => ∃ v, e = .returned v ∧ PathAt w' w.heap.size w'.heap.size v (pathS ⟨x, y, z⟩ ⟨x', y', z'⟩ wait flight start len) ∧ Below w.heap.size w w' := by
  have HS : Hid (pathS ⟨x, y, z⟩ ⟨x', y', z'⟩ wait flight start len = flyL ⟨x, y, z⟩ ⟨x, y, z⟩ start (start + len) 0) := by unfold Hid pathS; rw [if_pos hf]
  have hfb : (flight == 0) = true := by simp [hf]
  obtain ⟨s1, s2⟩ := hs
  obtain ⟨l1, l2⟩ := hl
  obtain ⟨w1, w2⟩ := hw
  have f1 : 0 ≤ flight := by omega
  have f2 : flight ≤ 0 := by omega
  clear hf
  go_enter Tryz.func47, Tryz.ntmps47
  go_wp2_with fail
  refine (stay_any _ _ _ _ _ _ (w.heap.size + 1 + 1 + 1) _ [] _ (PathOwn.new _ _ _ (by simp)) (by omega) (by simp) (by simp)).mono ?_
  rintro e wa ⟨sv, rfl, hP, hb⟩
  obtain ⟨A, c, hsv⟩ := hP.slice
  subst hsv
  have hcell := hP.cell
  have hfro := hP.frozen 0
  have hz := hb.size
  have hB : Below w.heap.size w wa := ((((Below.refl _ _).alloc (Nat.le_refl _) _).alloc (by simp) _).alloc (by simp; omega) _).trans (hb.mono (by omega))
  go_wp2
  refine bodyPost_ret (v := .slice A ([] ++ flyL ⟨x, y, z⟩ ⟨x, y, z⟩ start (start + len) 0).length c) (by simp [results, Tryz.results47, go_sem, hcell]) rfl ?_
  rw [HS.out]
  exact path_end hP.at_ (by omega) (by omega) hB
set_option maxRecDepth 100000 in
set_option maxHeartbeats 2000000 in
theorem path_move (x y z x' y' z' wait flight rise start len : Int) (w : World) (hf : 0 < flight ∧ flight ≤ 3600000) (hr : rise ≤ 0) (hs : 0 ≤ start ∧ start ≤ 3600000) (hl : 0 ≤ len ∧ len ≤ 3600000) (hw : 0 ≤ wait ∧ wait ≤ 3600000) :
    Calls Tryz.prog 47 #[.agg #[.int .i64 x, .int .i64 y, .int .i64 z], .agg #[.int .i64 x', .int .i64 y', .int .i64 z', .int .i64 wait, .int .i64 flight, .int .i64 rise], .int .i64 start, .int .i64 len] w fun e w' => ∃ v, e = .returned v ∧ PathAt w' w.heap.size w'.heap.size v (pathS ⟨x, y, z⟩ ⟨x', y', z'⟩ wait flight start len) ∧ Below w.heap.size w w' := by
  have HS : Hid (pathS ⟨x, y, z⟩ ⟨x', y', z'⟩ wait flight start len = flyL ⟨x, y, z⟩ ⟨x, y, z⟩ start (start + wait) 0 ++ flyL ⟨x, y, z⟩ ⟨x', y', z'⟩ (start + wait) (start + wait + flight) 2 ++ flyL ⟨x', y', z'⟩ ⟨x', y', z'⟩ (start + wait + flight) (start + len) 0) := by unfold Hid pathS; rw [if_neg (by omega)]
  obtain ⟨i0, hi0, hz0, hz1, hz2⟩ := info_parts seg_info
  obtain ⟨f1, f2⟩ := hf
  have hfb : (flight == 0) = false := beq_eq_false_iff_ne.2 (by omega)
  obtain ⟨s1, s2⟩ := hs
  obtain ⟨l1, l2⟩ := hl
  obtain ⟨w1, w2⟩ := hw
  go_enter Tryz.func47, Tryz.ntmps47
  go_wp2_with fail
  refine (stay_any _ _ _ _ _ _ (w.heap.size + 1 + 1 + 1) _ [] _ (PathOwn.new _ _ _ (by simp)) (by omega) (by simp) (by simp)).mono ?_
  rintro e wa ⟨sv, rfl, hP, hb⟩
  obtain ⟨A, c, hsv⟩ := hP.slice
  subst hsv
  have hz := hb.size
  have hB : Below w.heap.size w wa := ((((Below.refl _ _).alloc (Nat.le_refl _) _).alloc (by simp) _).alloc (by simp; omega) _).trans (hb.mono (by omega))
  obtain ⟨hc, hfz⟩ := bcell hb
  simp only [World.size_alloc] at hz
  go_wp2_with fail
  refine (glide_any _ _ _ _ _ _ _ _ _).mono ?_
  intro e wb h
  obtain ⟨A1, c1, q, rfl, hp, hb1, hq⟩ := h.both
  clear h hq
  have hPb := hP.up hb1
  have hBb := hB.trans (hb1.mono hB.size)
  have hc1 : ∀ b o, b < w.heap.size + 1 + 1 → wb.cell? ⟨b, o, none⟩ = _ := fun b o h => (hb1.cell (p := ⟨b, o, none⟩) (show b < _ by omega)).trans (hc b o h)
  have hcell := hPb.cell
  have hfro := hPb.frozen 0
  obtain ⟨cs, hrow, hsegs⟩ := hPb.row
  obtain ⟨news, hsn, hgn⟩ := hp
  have hl1 := flyL_len ⟨x, y, z⟩ ⟨x, y, z⟩ start (start + wait) 0
  have hl2 := flyL_len ⟨x, y, z⟩ ⟨x', y', z'⟩ (start + wait) (start + wait + flight) 2
  have hrl : ∀ g, (Value.slice A ([] ++ flyL ⟨x, y, z⟩ ⟨x, y, z⟩ start (start + wait) 0).length c).ownBlock = some g → g < wa.heap.size := by
    intro g hg
    obtain ⟨_, hr0, _⟩ := hP.row
    exact (hr0.lt g hg).2
  have hzb := hb1.size
  generalize hF1 : flyL ⟨x, y, z⟩ ⟨x, y, z⟩ start (start + wait) 0 = L1 at *
  generalize hF2 : flyL ⟨x, y, z⟩ ⟨x', y', z'⟩ (start + wait) (start + wait + flight) 2 = L2 at *


  clear hF1 hF2 hc hfz
  simp only [List.nil_append] at *
  go_wp2_with (at_builtin; refine wpList_append_sees rfl (.tmp 62) (.tmp 63) 85 rfl (w.heap.size + 1 + 1 + 1) 166 i0 _ 6 96 Tryz.underlying85 hi0 hz0 hz1 hz2 rfl (by decide) _ _ _ rfl hrow _ _ _ _ rfl hsn hgn.oneCell ?_ ?_ ?_ ?_)
  · unfold maxLen; omega
  · omega
  · omega
  intro v' wc hown hg hat
  obtain ⟨hbc, hPc, hBe⟩ := PathOwn.appended hPb.box (by omega) (by omega) hrow hsegs hgn (by omega) hrl hown hg hat
  obtain ⟨A2, c2, hv2⟩ := hPc.slice
  rw [List.length_append] at hv2
  subst hv2
  have hcc : wc.cell? ⟨w.heap.size + 1 + 1, 0, none⟩ = some (.slice A L1.length c) := by simp [World.cell?, hbc]
  have hfc : wc.frozen? ⟨w.heap.size + 1 + 1, 0, none⟩ = false := by simp [World.frozen?, hbc]
  have hcs : ∀ b o, b < w.heap.size + 1 + 1 → (wc.setCell ⟨w.heap.size + 1 + 1, 0, none⟩ (.slice A2 (L1.length + L2.length) c2)).cell? ⟨b, o, none⟩ = _ := fun b o h => (hBe.cell (p := ⟨b, o, none⟩) (show b < _ by omega)).trans (hc1 b o h)
  have hBc := hBb.trans (hBe.mono (by omega))
  have hzc := hBe.size
  clear hcell hfro hown hg hat hbc hc1
  go_wp2_with fail
  refine (stay_any _ _ _ _ _ _ (w.heap.size + 1 + 1 + 1) _ (L1 ++ L2) _ hPc (by omega) (by omega) (by simp; omega)).mono ?_
  rintro e wd ⟨sv, rfl, hPd, hbd⟩
  obtain ⟨A3, c3, hsv⟩ := hPd.slice
  subst hsv
  have hcell := hPd.cell
  have hfro := hPd.frozen 0
  have hBd := hBc.trans (hbd.mono (by omega))
  clear hcs hcc hfc
  go_wp2
  refine bodyPost_ret (v := .slice A3 (L1 ++ L2 ++ flyL ⟨x', y', z'⟩ ⟨x', y', z'⟩ (start + wait + flight) (start + len) 0).length c3) (by simp [results, Tryz.results47, go_sem, hcell]) rfl ?_
  rw [HS.out]
  exact path_end hPd.at_ (by omega) (by omega) hBd
end Go.Proofs.YtolmehmglgmanaaGreatDoor
