/- The chapter's examples: the walk of known. -/
import Derived.Test.YtolmehmglgmanaaGreatDoorExam
namespace Go.Proofs.YtolmehmglgmanaaGreatDoor
open Go.RowKit

def exA1 : An := ⟨0, 0, 0, true, 0, 0, 0⟩
def exA2 : An := ⟨0, 1, 0, false, 0, 0, 0⟩
theorem valid_ex : validB exP = true := by decide +kernel
theorem okA_ex : okA exP [exA1, exA2] = true := by decide +kernel
theorem dec_lt (n : Nat) (h : n < 10) : Lib.decDigits n = [dig n] := by rw [Lib.decDigits, dif_pos h]; rfl
theorem dec_step (n : Nat) (h : 10 ≤ n) : Lib.decDigits n = Lib.decDigits (n / 10) ++ [dig (n % 10)] := by rw [Lib.decDigits, dif_neg (by omega)]; rfl
theorem ita_nat (n : Nat) : ita (n : Int) = ⟨(Lib.decDigits n).toArray⟩ := by rw [ita, Lib.itoa_nonneg]
theorem ita0 : ita 0 = ⟨#[48]⟩ := by have := ita_nat 0; rw [dec_lt 0 (by omega)] at this; exact this
theorem ita1 : ita 1 = ⟨#[49]⟩ := by have := ita_nat 1; rw [dec_lt 1 (by omega)] at this; exact this
theorem ita4 : ita 4 = ⟨#[52]⟩ := by have := ita_nat 4; rw [dec_lt 4 (by omega)] at this; exact this
theorem ita1400 : ita 1400 = ⟨#[49, 52, 48, 48]⟩ := by have := ita_nat 1400; rw [dec_step 1400 (by omega), dec_step (1400 / 10) (by omega), dec_step (1400 / 10 / 10) (by omega), dec_lt _ (by omega)] at this; exact this
theorem ita2500 : ita 2500 = ⟨#[50, 53, 48, 48]⟩ := by have := ita_nat 2500; rw [dec_step 2500 (by omega), dec_step (2500 / 10) (by omega), dec_step (2500 / 10 / 10) (by omega), dec_lt _ (by omega)] at this; exact this
def exL1 : ByteArray := ⟨#[99, 97, 115, 101, 32, 97, 32, 48, 32, 115, 105, 100, 101, 32, 48, 32, 114, 101, 108, 105, 101, 102, 32, 48, 32, 48, 32, 48]⟩
def exL2 : ByteArray := ⟨#[99, 97, 115, 101, 32, 97, 32, 49, 32, 115, 105, 100, 101, 32, 48, 32, 97, 108, 111, 110, 101]⟩
def exL3 : ByteArray := ⟨#[103, 97, 112, 32, 49, 32, 97, 116, 32, 49, 52, 48, 48, 32, 114, 101, 99, 111, 114, 100, 32, 52]⟩
def exL4 : ByteArray := ⟨#[48, 32, 104, 111, 108, 100]⟩
def exL5 : ByteArray := ⟨#[50, 53, 48, 48, 32, 103, 111]⟩
theorem line1 : lineA exP exA1 = exL1 := by
  show lineN ⟨#[97]⟩ exA1 = exL1
  simp only [lineN, headA, exA1, wordsS, ita0, if_true]; rfl
theorem line2 : lineA exP exA2 = exL2 := by
  show lineN ⟨#[97]⟩ exA2 = exL2
  simp only [lineN, headA, exA2, wordsS, ita0, ita1]; rfl
theorem line3 : lineF ⟨3, 0, 4, 1400⟩ = exL3 := by
  simp only [lineF, wordsS, Int.zero_add, ita1, ita4, ita1400]; rfl
theorem line4 : tabTo 2500 [1, 0] 2 = [exL4, exL5] := by
  show [lineT 2500 0 1, lineT 2500 1 0] = _
  simp only [lineT, show ((0 : Nat) : Int) * 2500 = 0 from rfl, show ((1 : Nat) : Int) * 2500 = 2500 from rfl, ita0, ita2500]; rfl
theorem ok_ex : PrOk exP := by
  refine ⟨?_, ?_, by decide, ?_⟩
  · intro s hs; simp only [exP, List.mem_singleton] at hs; subst hs; decide
  · intro a ha; simp only [exP, exActs, List.mem_map] at ha; obtain ⟨k, _, rfl⟩ := ha; show (2 : Nat) ≤ maxLen; decide
  · intro a ha; simp only [exP, exActs, List.mem_map] at ha; obtain ⟨k, _, rfl⟩ := ha; show (1 : Nat) ≤ 1000000; decide
theorem fit_ex : ∀ a ∈ [exA1, exA2], fitA a := by
  intro a ha
  simp only [List.mem_cons, List.mem_nil_iff, or_false] at ha
  rcases ha with rfl | rfl <;> simp [fitA, fits, exA1, exA2]
theorem fit_exF : ∀ f ∈ [(⟨3, 0, 4, 1400⟩ : Fd)], fitF f := by
  intro a ha
  simp only [List.mem_cons, List.mem_nil_iff, or_false] at ha
  subst ha; simp [fitF, fits]
theorem map_ex : [exA1, exA2].map (lineA exP) = [exL1, exL2] := by simp only [List.map_cons, List.map_nil, line1, line2]
theorem map_exF : [(⟨3, 0, 4, 1400⟩ : Fd)].map lineF = [exL3] := by simp only [List.map_cons, List.map_nil, line3]
theorem below_drawn {B : Nat} {a w : World} (h : Below B a w) (n : Nat) : Below B a (w.drewN n) := ⟨h.os, h.tape, h.output, h.size, h.block⟩
theorem same_refl (a : List ByteArray) : sameB a a = true := by simp [sameB]
set_option maxRecDepth 100000 in
set_option maxHeartbeats 4000000 in
theorem known_any (w : World) (ht : Tab w) : Calls Tryz.prog 6 #[] w fun e w' => e = .returned (.bool true) ∧ Below w.heap.size w w' := by
  go_enter Tryz.func6, Tryz.ntmps6
  go_wp2_with fail
  refine (example_any _).mono ?_
  rintro e w1 ⟨hb1, vn, vh, va, b, b1, b2, b3, b4, rfl, hp⟩
  obtain ⟨A1, cn, rfl⟩ := hp.names.slice
  obtain ⟨Ah, ch, rfl⟩ := hp.homes.slice
  obtain ⟨csA, ha, hacts⟩ := hp.acts
  obtain ⟨Aa, ca, rfl⟩ := ha.slice
  clear ha hacts
  unfold exS exB
  go_wp2_with fail
  obtain ⟨W, hW⟩ : ∃ W, W = (((w1.alloc (.cells #[.slice A1 exP.names.length cn, .slice Ah exP.homes.length ch, .slice Aa exP.acts.length ca] 26)).alloc (.cells (exS b) 62)).alloc (.cells (exB b1 b2 b3 b4) 69)).alloc (.cells #[.int .i64 0, .int .i64 0, .int .i64 0, .bool true, .int .i64 0, .int .i64 0, .int .i64 0, .int .i64 0, .int .i64 1, .int .i64 0, .bool false, .int .i64 0, .int .i64 0, .int .i64 0] 38) := ⟨_, rfl⟩
  unfold exS exB at hW
  rw [← hW]
  have hbW : Below w1.heap.size w1 W := by rw [hW]; exact ((((Below.refl _ _).alloc (Nat.le_refl _) _).alloc (by simp) _).alloc (by simp <;> omega) _).alloc (by simp <;> omega) _
  have hA : W.heap[w1.heap.size + 1 + 1 + 1]? = some (.cells #[.int .i64 0, .int .i64 0, .int .i64 0, .bool true, .int .i64 0, .int .i64 0, .int .i64 0, .int .i64 0, .int .i64 1, .int .i64 0, .bool false, .int .i64 0, .int .i64 0, .int .i64 0] 38 (0, 0)) := by rw [hW]; exact heap_new _ _ _ (by simp)
  have hsA := (Array.getElem?_eq_some_iff.1 hA).1
  clear hW
  have hBW : Below w.heap.size w W := hb1.trans (hbW.mono hb1.size)
  have hSA : Sees W 0 W.heap.size 7 (.slice (some ⟨w1.heap.size + 1 + 1 + 1, 0, none⟩) 2 2) 2 (ans [exA1, exA2]) := ⟨rfl, .inr ⟨_, _, _, rfl, ⟨Nat.zero_le _, hsA⟩, fun j u hu => by rw [Nat.zero_add, World.cell?, hA]; simpa [ans, An.cells, exA1, exA2] using hu⟩⟩
  refine (answers_any exP _ _ _ [exA1, exA2] _ 0 W.heap.size W (hp.up hbW) ok_ex hSA (Nat.le_refl _) (ht.up hBW) (by decide) fit_ex).mono ?_
  rintro e w2 ⟨hb2, h2⟩
  rw [if_pos okA_ex, map_ex] at h2
  obtain ⟨v2, rfl, hs2⟩ := h2
  obtain ⟨A2, c2, rfl⟩ := hs2.slice
  have hB2 : Below w.heap.size w w2 := hBW.trans (hb2.mono hBW.size)
  have hS2 : Hid (Sees w2 0 w2.heap.size 1 (.slice A2 2 c2) 2 (strs [exL1, exL2])) := hs2.more (Nat.zero_le _) (Nat.le_refl _)
  clear hs2 hSA hA hsA hp hb2 hb1 hbW hBW
  go_wp2_with fail
  refine (findings_any [⟨3, 0, 4, 1400⟩] _ w2.heap.size (w2.heap.size + 1) _ (Sees.new1 w2 (fds [⟨3, 0, 4, 1400⟩]) 1 _ _ _ 4 _ rfl rfl (Nat.le_refl _) (by omega)) (by simp) (ht.up (hB2.alloc hB2.size _)) (by decide) fit_exF).mono ?_
  rintro e w3 ⟨hb3, h3⟩
  rw [if_pos (by decide), map_exF] at h3
  obtain ⟨v3, rfl, hs3⟩ := h3
  obtain ⟨A3, c3, rfl⟩ := hs3.slice
  have hb3' : Below w2.heap.size w2 w3 := ((Below.refl _ _).alloc (Nat.le_refl _) _).trans (hb3.mono (by simp))
  have hB3 : Below w.heap.size w w3 := hB2.trans (hb3'.mono hB2.size)
  have hS2' : Hid (Sees w3 0 w3.heap.size 1 (.slice A2 2 c2) 2 (strs [exL1, exL2])) := hS2.out.up hb3'
  have hS3 : Hid (Sees w3 0 w3.heap.size 1 (.slice A3 1 c3) 1 (strs [exL3])) := hs3.more (Nat.zero_le _) (Nat.le_refl _)
  clear hs3 hS2 hb3 hb3' hB2
  go_wp2_with fail
  refine (table_any [1, 0] 2500 _ w3.heap.size (w3.heap.size + 1) _ (Sees.new1 w3 (ints [1, 0]) 2 _ _ _ 1 _ rfl rfl (Nat.le_refl _) (by omega)) (by simp) (ht.up (hB3.alloc hB3.size _)) (by decide)).mono ?_
  rintro e w4 ⟨hb4, h4⟩
  rw [if_pos (by decide)] at h4
  obtain ⟨v4, rfl, hs4⟩ := h4
  rw [show ([1, 0] : List Int).length = 2 from rfl, line4] at hs4
  obtain ⟨A4, c4, rfl⟩ := hs4.slice
  have hb4' : Below w3.heap.size w3 w4 := ((Below.refl _ _).alloc (Nat.le_refl _) _).trans (hb4.mono (by simp))
  have hB4 : Below w.heap.size w w4 := hB3.trans (hb4'.mono hB3.size)
  have hT2 : Hid (Sees w4 0 w4.heap.size 1 (.slice A2 2 c2) 2 (strs [exL1, exL2])) := hS2'.out.up hb4'
  have hT3 : Hid (Sees w4 0 w4.heap.size 1 (.slice A3 1 c3) 1 (strs [exL3])) := hS3.out.up hb4'
  have hT4 : Hid (Sees w4 0 w4.heap.size 1 (.slice A4 2 c4) 2 (strs [exL4, exL5])) := hs4.more (Nat.zero_le _) (Nat.le_refl _)
  clear hs4 hS2' hS3 hb4 hb4' hB3
  go_wp2_with fail
  refine (same_any [exL1, exL2] [exL1, exL2] _ _ 0 w4.heap.size w4.heap.size (w4.heap.size + 1) _ (hT2.out.new (Nat.le_refl _) _) (Sees.new1 w4 (strs [exL1, exL2]) 2 _ _ _ 1 _ rfl rfl (Nat.le_refl _) (by omega)) (by decide) (by decide)).mono ?_
  rintro e w5 ⟨he, n5, hw⟩
  rw [same_refl] at he
  subst he
  have hb5 : Below w4.heap.size w4 w5 := by rw [hw]; exact below_drawn ((Below.refl _ _).alloc (Nat.le_refl _) _) _
  clear hw
  have hB5 : Below w.heap.size w w5 := hB4.trans (hb5.mono hB4.size)
  have hU3 : Hid (Sees w5 0 w5.heap.size 1 (.slice A3 1 c3) 1 (strs [exL3])) := hT3.out.up hb5
  have hU4 : Hid (Sees w5 0 w5.heap.size 1 (.slice A4 2 c4) 2 (strs [exL4, exL5])) := hT4.out.up hb5
  clear hT2 hT3 hT4 hb5 hB4
  go_wp2_with fail
  refine (same_any [exL3] [exL3] _ _ 0 w5.heap.size w5.heap.size (w5.heap.size + 1) _ (hU3.out.new (Nat.le_refl _) _) (Sees.new1 w5 (strs [exL3]) 1 _ _ _ 1 _ rfl rfl (Nat.le_refl _) (by omega)) (by decide) (by decide)).mono ?_
  rintro e w6 ⟨he, n6, hw⟩
  rw [same_refl] at he
  subst he
  have hb6 : Below w5.heap.size w5 w6 := by rw [hw]; exact below_drawn ((Below.refl _ _).alloc (Nat.le_refl _) _) _
  clear hw
  have hB6 : Below w.heap.size w w6 := hB5.trans (hb6.mono hB5.size)
  have hV4 : Hid (Sees w6 0 w6.heap.size 1 (.slice A4 2 c4) 2 (strs [exL4, exL5])) := hU4.out.up hb6
  clear hU3 hU4 hb6 hB5
  go_wp2_with fail
  refine (same_any [exL4, exL5] [exL4, exL5] _ _ 0 w6.heap.size w6.heap.size (w6.heap.size + 1) _ (hV4.out.new (Nat.le_refl _) _) (Sees.new1 w6 (strs [exL4, exL5]) 2 _ _ _ 1 _ rfl rfl (Nat.le_refl _) (by omega)) (by decide) (by decide)).mono ?_
  rintro e w7 ⟨he, n7, hw⟩
  rw [same_refl] at he
  subst he
  have hb7 : Below w6.heap.size w6 w7 := by rw [hw]; exact below_drawn ((Below.refl _ _).alloc (Nat.le_refl _) _) _
  clear hw
  have hB7 : Below w.heap.size w w7 := hB6.trans (hb7.mono hB6.size)
  clear hV4 hb7 hB6
  go_wp2_with fail
  go_ret
  exact ⟨rfl, hB7⟩
end Go.Proofs.YtolmehmglgmanaaGreatDoor
