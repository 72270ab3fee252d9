/- What transit's path gives: the walk of its closure and of path itself. -/
import Derived.Test.YtolmehmglgmanaaGreatDoorTransit
import Derived.Test.YtolmehmglgmanaaGreatDoorOwn
namespace Go.Proofs.YtolmehmglgmanaaGreatDoor
open Go.RowKit

def flyL (a b : V3) (f t k : Int) : List Sg := if flyB a b f t = true then [legS a b f t k] else []
theorem flyL_len (a b : V3) (f t k : Int) : (flyL a b f t k).length ≤ 1 := by unfold flyL; split <;> simp
/-- What fly gives, in one form. -/
theorem FlyPost.both {w : World} {a b : V3} {f t k : Int} {e : Ending} {w' : World} (h : FlyPost w a b f t k e w') :
    ∃ A c q, e = .returned (.tuple #[.slice A (flyL a b f t k).length c, .int .i64 q]) ∧ PathAt w' w.heap.size w'.heap.size (.slice A (flyL a b f t k).length c) (flyL a b f t k) ∧ Below w.heap.size w w' ∧ (q = if flyB a b f t = true then 0 else 2) := by
  unfold FlyPost at h
  unfold flyL
  split at h
  · rename_i hf
    obtain ⟨v, he, hp, hb⟩ := h
    obtain ⟨A, c, rfl⟩ := hp.slice
    simp only [hf, if_true]
    exact ⟨A, c, 0, he, hp, hb, rfl⟩
  · rename_i hf
    simp only [hf, if_false]
    exact ⟨none, 0, 2, h.1, PathAt.nil _ _, h.2, rfl⟩
set_option maxRecDepth 100000 in
set_option maxHeartbeats 1000000 in
theorem stay_any (x y z f t : Int) (B base : Nat) (sv : Value) (ss : List Sg) (w : World) (hP : PathOwn w B base sv ss) (hB : B < base) (hbl : base ≤ w.heap.size) (hlen : ss.length ≤ 1000000) :
    Calls Tryz.prog 54 #[.agg #[.int .i64 x, .int .i64 y, .int .i64 z], .int .i64 f, .int .i64 t, .pointer (some ⟨B, 0, none⟩)] w fun e w' => ∃ sv', e = .returned (.tuple #[]) ∧ PathOwn w' B base sv' (ss ++ flyL ⟨x, y, z⟩ ⟨x, y, z⟩ f t 0) ∧ Below B w w' := by
  obtain ⟨i0, hi0, hz0, hz1, hz2⟩ := info_parts seg_info
  obtain ⟨A0, c0, hsv⟩ := hP.slice
  subst hsv
  have hBlt : B < w.heap.size := by omega
  go_enter Tryz.func54, Tryz.ntmps54
  go_wp2_with fail
  refine (hover_any _ _ _ _ _ _).mono ?_
  intro e w1 h
  obtain ⟨A, c, q, rfl, hp, hb, hq⟩ := h.both
  clear h hq
  have hal : Below w.heap.size w (w.alloc (.cells #[.int .i64 x, .int .i64 y, .int .i64 z] 95)) := (Below.refl _ _).alloc (Nat.le_refl _) _
  have hP1 := (hP.up hal).up hb
  have hb1 : Below w.heap.size w w1 := hal.trans (hb.mono (by simp))
  have hcell := hP1.cell
  have hfro := hP1.frozen 0
  have hl1 := flyL_len ⟨x, y, z⟩ ⟨x, y, z⟩ f t 0
  obtain ⟨cs, hrow, hsegs⟩ := hP1.row
  obtain ⟨news, hsn, hgn⟩ := hp
  rw [World.size_alloc] at hgn hsn
  have hz := hb.size
  simp only [World.size_alloc] at hz
  have hrl : ∀ g, (Value.slice A0 ss.length c0).ownBlock = some g → g < w.heap.size := by
    intro g hg
    obtain ⟨_, hr0, _⟩ := hP.row
    exact (hr0.lt g hg).2
  generalize hF : flyL ⟨x, y, z⟩ ⟨x, y, z⟩ f t 0 = F at *
  have HF := Lib.hid hF
  clear hF
  go_wp2_with (at_builtin; refine wpList_append_sees rfl (.tmp 16) (.tmp 17) 85 rfl base 166 i0 _ 6 96 Tryz.underlying85 hi0 hz0 hz1 hz2 rfl (by decide) _ _ _ rfl hrow _ _ _ _ rfl hsn hgn.oneCell ?_ ?_ ?_ ?_)
  · unfold maxLen; omega
  · omega
  · omega
  intro v' w2 hown hg hat
  obtain ⟨hb2, hP2, hBe⟩ := PathOwn.appended hP1.box hB (by omega) hrow hsegs hgn (lo := w.heap.size + 1) (by omega) (fun g hg => by have := hrl g hg; omega) hown hg hat
  obtain ⟨A2, c2, hv2⟩ := hP2.slice
  rw [List.length_append] at hv2
  subst hv2
  have hc2 : w2.cell? ⟨B, 0, none⟩ = some (.slice A0 ss.length c0) := by simp [World.cell?, hb2]
  have hf2 : w2.frozen? ⟨B, 0, none⟩ = false := by simp [World.frozen?, hb2]
  clear hcell hfro hg hat hb2 hown
  go_wp2
  go_end0
  rw [HF.out]
  exact ⟨_, rfl, hP2, (hb1.mono (by omega)).trans hBe⟩
end Go.Proofs.YtolmehmglgmanaaGreatDoor
