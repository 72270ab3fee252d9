/- The path of a move with a rise: the walk of transit's path. -/
import Derived.Test.YtolmehmglgmanaaGreatDoorArc
namespace Go.Proofs.YtolmehmglgmanaaGreatDoor
open Go.RowKit

/-- The path of a move. -/
def pathR (a b : V3) (wait flight rise start len : Int) : List Sg :=
  if flight = 0 then flyL a a start (start + len) 0
  else flyL a a start (start + wait) 0 ++ (if 0 < rise then arcL a b rise (start + wait) (start + wait + flight) else flyL a b (start + wait) (start + wait + flight) 2) ++ flyL b b (start + wait + flight) (start + len) 0
theorem pathR_flat {a b : V3} {wait flight rise start len : Int} (h : flight = 0 ∨ rise ≤ 0) : pathR a b wait flight rise start len = pathS a b wait flight start len := by
  unfold pathR pathS
  split
  · rfl
  · rw [if_neg (by omega)]
theorem pathR_len (a b : V3) (wait flight rise start len : Int) : (pathR a b wait flight rise start len).length ≤ 5 := by
  unfold pathR
  split
  · exact Nat.le_trans (flyL_len _ _ _ _ _) (by omega)
  · have h1 := flyL_len a a start (start + wait) 0
    have h2 := flyL_len a b (start + wait) (start + wait + flight) 2
    have h3 := flyL_len b b (start + wait + flight) (start + len) 0
    have h4 := arcL_len a b rise (start + wait) (start + wait + flight)
    simp only [List.length_append]
    split <;> omega
set_option maxRecDepth 100000 in
set_option maxHeartbeats 2000000 in
theorem path_rise (x y z x' y' z' wait flight rise start len : Int) (w : World) (hf : 0 < flight ∧ flight ≤ 3600000) (hr : 0 < rise ∧ rise ≤ 2097152) (hq : flight % 4 = 0) (ha : ptB x y z = true) (hb' : ptB x' y' z' = true) (h1 : ptB x y (z + rise) = true) (h2 : ptB x' y' (z' + rise) = true) (hend : start + wait + flight ≤ 3600000) (hs : 0 ≤ start ∧ start ≤ 3600000) (hl : 0 ≤ len ∧ len ≤ 3600000) (hw : 0 ≤ wait ∧ wait ≤ 3600000) :
    Calls Tryz.prog 47 #[.agg #[.int .i64 x, .int .i64 y, .int .i64 z], .agg #[.int .i64 x', .int .i64 y', .int .i64 z', .int .i64 wait, .int .i64 flight, .int .i64 rise], .int .i64 start, .int .i64 len] w fun e w' => ∃ v, e = .returned v ∧ PathAt w' w.heap.size w'.heap.size v (pathR ⟨x, y, z⟩ ⟨x', y', z'⟩ wait flight rise start len) ∧ Below w.heap.size w w' := by
  obtain ⟨r1, r2⟩ := hr
  have HS : Hid (pathR ⟨x, y, z⟩ ⟨x', y', z'⟩ wait flight rise start len = flyL ⟨x, y, z⟩ ⟨x, y, z⟩ start (start + wait) 0 ++ arcL ⟨x, y, z⟩ ⟨x', y', z'⟩ rise (start + wait) (start + wait + flight) ++ flyL ⟨x', y', z'⟩ ⟨x', y', z'⟩ (start + wait + flight) (start + len) 0) := by unfold Hid pathR; rw [if_neg (by omega), if_pos r1]
  have HV : Hid (flyB ⟨x, y, z⟩ ⟨x', y', z'⟩ (start + wait) (start + wait + flight) = true) := by
    unfold Hid flyB glValidB
    simp only [Bool.and_eq_true, decide_eq_true_eq]
    exact ⟨⟨⟨⟨ha, hb'⟩, by omega⟩, by omega⟩, hend⟩
  have HQ : Hid ((start + wait + flight - (start + wait)) % 4 = 0) := by unfold Hid; omega
  have H1 := Lib.hid h1
  have H2 := Lib.hid h2
  clear h1 h2 ha hb' hq
  obtain ⟨i0, hi0, hz0, hz1, hz2⟩ := info_parts seg_info
  obtain ⟨f1, f2⟩ := hf
  have hfb : (flight == 0) = false := beq_eq_false_iff_ne.2 (by omega)
  obtain ⟨s1, s2⟩ := hs
  obtain ⟨l1, l2⟩ := hl
  obtain ⟨w1, w2⟩ := hw
  go_enter Tryz.func47, Tryz.ntmps47
  go_wp2_with fail
  refine (stay_any _ _ _ _ _ _ (w.heap.size + 1 + 1 + 1) _ [] _ (PathOwn.new _ _ _ (by simp)) (by omega) (by simp) (by simp)).mono ?_
  rintro e wa ⟨sv, rfl, hP, hb⟩
  obtain ⟨A, c, hsv⟩ := hP.slice
  subst hsv
  have hz := hb.size
  have hB : Below w.heap.size w wa := ((((Below.refl _ _).alloc (Nat.le_refl _) _).alloc (by simp) _).alloc (by simp; omega) _).trans (hb.mono (by omega))
  obtain ⟨hc, hfz⟩ := bcell hb
  simp only [World.size_alloc] at hz
  go_wp2_with fail
  refine (glide_any _ _ _ _ _ _ _ _ _).mono ?_
  intro e wg h
  obtain ⟨Ag, cg, q, rfl, hpg, hbg, hqg⟩ := h.both
  have hBg := hB.trans (hbg.mono hB.size)
  have hPg := hP.up hbg
  have hcg : ∀ b o, b < w.heap.size + 1 + 1 → wg.cell? ⟨b, o, none⟩ = _ := fun b o h => (hbg.cell (p := ⟨b, o, none⟩) (show b < _ by omega)).trans (hc b o h)
  have hzg := hbg.size
  have hrl : ∀ g, (Value.slice A ([] ++ flyL ⟨x, y, z⟩ ⟨x, y, z⟩ start (start + wait) 0).length c).ownBlock = some g → g < wg.heap.size := by
    intro g hg
    obtain ⟨_, hr0, _⟩ := hP.row
    have := (hr0.lt g hg).2
    omega
  clear h hqg hpg hc hfz hP hB hbg
  have HRL := Lib.hid hrl
  clear hrl
  go_wp2_with fail
  refine (arc_any _ _ _ _ _ _ _ _ _ _ HV.out HQ.out ⟨by omega, r2⟩ H1.out H2.out).mono ?_
  rintro e wb ⟨A1, c1, rfl, hp, hb1⟩
  have hP := hPg
  have hB := hBg
  have hc := hcg
  clear hPg hBg hcg
  have hPb := hP.up hb1
  have hBb := hB.trans (hb1.mono hB.size)
  have hc1 : ∀ b o, b < w.heap.size + 1 + 1 → wb.cell? ⟨b, o, none⟩ = _ := fun b o h => (hb1.cell (p := ⟨b, o, none⟩) (show b < _ by omega)).trans (hc b o h)
  have hcell := hPb.cell
  have hfro := hPb.frozen 0
  obtain ⟨cs, hrow, hsegs⟩ := hPb.row
  obtain ⟨news, hsn, hgn⟩ := hp
  have hl1 := flyL_len ⟨x, y, z⟩ ⟨x, y, z⟩ start (start + wait) 0
  have hl2 : (arcL ⟨x, y, z⟩ ⟨x', y', z'⟩ rise (start + wait) (start + wait + flight)).length ≤ 3 := by rw [arcL_len]; omega
  have hrl := HRL.out
  have hzb := hb1.size
  generalize hF1 : flyL ⟨x, y, z⟩ ⟨x, y, z⟩ start (start + wait) 0 = L1 at *
  generalize hF2 : arcL ⟨x, y, z⟩ ⟨x', y', z'⟩ rise (start + wait) (start + wait + flight) = L2 at *


  clear hF1 hF2 hc
  simp only [List.nil_append] at *
  go_wp2_with (at_builtin; refine wpList_append_sees rfl (.tmp 62) (.tmp 63) 85 rfl (w.heap.size + 1 + 1 + 1) 166 i0 _ 6 96 Tryz.underlying85 hi0 hz0 hz1 hz2 rfl (by decide) _ _ _ rfl hrow _ _ _ _ rfl hsn hgn.oneCell ?_ ?_ ?_ ?_)
  · unfold maxLen; omega
  · omega
  · omega
  intro v' wc hown hg hat
  obtain ⟨hbc, hPc, hBe⟩ := PathOwn.appended hPb.box (by omega) (by omega) hrow hsegs hgn (by omega) hrl hown hg hat
  obtain ⟨A2, c2, hv2⟩ := hPc.slice
  rw [List.length_append] at hv2
  subst hv2
  have hcc : wc.cell? ⟨w.heap.size + 1 + 1, 0, none⟩ = some (.slice A L1.length c) := by simp [World.cell?, hbc]
  have hfc : wc.frozen? ⟨w.heap.size + 1 + 1, 0, none⟩ = false := by simp [World.frozen?, hbc]
  have hcs : ∀ b o, b < w.heap.size + 1 + 1 → (wc.setCell ⟨w.heap.size + 1 + 1, 0, none⟩ (.slice A2 (L1.length + L2.length) c2)).cell? ⟨b, o, none⟩ = _ := fun b o h => (hBe.cell (p := ⟨b, o, none⟩) (show b < _ by omega)).trans (hc1 b o h)
  have hBc := hBb.trans (hBe.mono (by omega))
  have hzc := hBe.size
  clear hcell hfro hown hg hat hbc hc1
  go_wp2_with fail
  refine (stay_any _ _ _ _ _ _ (w.heap.size + 1 + 1 + 1) _ (L1 ++ L2) _ hPc (by omega) (by omega) (by simp; omega)).mono ?_
  rintro e wd ⟨sv, rfl, hPd, hbd⟩
  obtain ⟨A3, c3, hsv⟩ := hPd.slice
  subst hsv
  have hcell := hPd.cell
  have hfro := hPd.frozen 0
  have hBd := hBc.trans (hbd.mono (by omega))
  clear hcs hcc hfc
  go_wp2
  refine bodyPost_ret (v := .slice A3 (L1 ++ L2 ++ flyL ⟨x', y', z'⟩ ⟨x', y', z'⟩ (start + wait + flight) (start + len) 0).length c3) (by simp [results, Tryz.results47, go_sem, hcell]) rfl ?_
  rw [HS.out]
  exact path_end hPd.at_ (by omega) (by omega) hBd
end Go.Proofs.YtolmehmglgmanaaGreatDoor
