/- The small functions of the law on reports: kind, small, few, found, finding. -/
import Derived.Test.YtckagpelhjgnpaaDoorFound
namespace Go.Proofs.YtckagpelhjgnpaaDoor
open Go.RowKit

set_option maxRecDepth 100000 in
theorem kind_any (k : Int) (w : World) : Calls Tryd.prog 18 #[.int .i64 k] w fun e w' => e = .returned (.string (kindS k)) ∧ w = w' := by
  by_cases h1 : k = 1
  · subst h1; go_enter Tryd.func18, Tryd.ntmps18; go_wp2_with fail; go_ret; exact ⟨rfl, rfl⟩
  by_cases h2 : k = 2
  · subst h2; go_enter Tryd.func18, Tryd.ntmps18; go_wp2_with fail; go_ret; exact ⟨rfl, rfl⟩
  by_cases h3 : k = 3
  · subst h3; go_enter Tryd.func18, Tryd.ntmps18; go_wp2_with fail; go_ret; exact ⟨rfl, rfl⟩
  by_cases h4 : k = 4
  · subst h4; go_enter Tryd.func18, Tryd.ntmps18; go_wp2_with fail; go_ret; exact ⟨rfl, rfl⟩
  by_cases h5 : k = 5
  · subst h5; go_enter Tryd.func18, Tryd.ntmps18; go_wp2_with fail; go_ret; exact ⟨rfl, rfl⟩
  have HK : Hid (kindS k = ByteArray.empty) := by unfold Hid; simp [kindS, h1, h2, h3, h4, h5]
  have e1 : (k == 1) = false := by simpa using h1
  have e2 : (k == 2) = false := by simpa using h2
  have e3 : (k == 3) = false := by simpa using h3
  have e4 : (k == 4) = false := by simpa using h4
  have e5 : (k == 5) = false := by simpa using h5
  clear h1 h2 h3 h4 h5
  go_enter Tryd.func18, Tryd.ntmps18
  go_wp2_with fail
  go_ret
  rw [HK.out]
  exact ⟨rfl, rfl⟩
theorem kindS_ne {k : Int} : (kindS k ≠ ByteArray.empty) ↔ (1 ≤ k ∧ k ≤ 5) := by
  unfold kindS
  constructor
  · intro h
    by_cases h1 : 1 ≤ k ∧ k ≤ 5
    · exact h1
    · exfalso
      apply h
      rw [if_neg (by omega), if_neg (by omega), if_neg (by omega), if_neg (by omega), if_neg (by omega)]
  · intro h
    have : k = 1 ∨ k = 2 ∨ k = 3 ∨ k = 4 ∨ k = 5 := by omega
    rcases this with rfl | rfl | rfl | rfl | rfl <;> simp [kS1, kS2, kS3, kS4, kS5] <;> decide
def smallB (n : Int) : Bool := decide (-4611686018427387904 < n) && decide (n < 4611686018427387904)
set_option maxRecDepth 100000 in
theorem small_any (n : Int) (w : World) : Calls Tryd.prog 10 #[.int .i64 n] w fun e w' => e = .returned (.bool (smallB n)) ∧ w = w' := by
  by_cases h1 : -4611686018427387904 < n
  · have HS : Hid (smallB n = decide (n < 4611686018427387904)) := by unfold Hid; simp [smallB, h1]
    go_enter Tryd.func10, Tryd.ntmps10
    go_wp2_with fail
    go_ret
    rw [HS.out]
    exact ⟨rfl, rfl⟩
  · have HS : Hid (smallB n = false) := by unfold Hid; simp [smallB, h1]
    have h2 : decide (-4611686018427387904 < n) = false := decide_eq_false h1
    go_enter Tryd.func10, Tryd.ntmps10
    go_wp2_with fail
    go_ret
    rw [HS.out]
    exact ⟨rfl, rfl⟩
set_option maxRecDepth 100000 in
set_option maxHeartbeats 1000000 in
theorem lfound_any (k a r t : Int) (w : World) :
    Calls Tryd.prog 11 #[.agg #[.int .i64 k, .int .i64 a, .int .i64 r, .int .i64 t]] w fun e w' => e = .returned (.bool (foundB ⟨k, a, r, t⟩)) ∧ Below w.heap.size w w' := by
  have HE : Hid (∀ b : Bool, Hid (foundB ⟨k, a, r, t⟩ = b) → (Ending.returned (.bool b) = .returned (.bool (foundB ⟨k, a, r, t⟩)) ∧ Below w.heap.size w (w.alloc (.cells #[.int .i64 k, .int .i64 a, .int .i64 r, .int .i64 t] 37)))) := fun b h =>
    ⟨ret_bool h.out.symm, (Below.refl _ _).alloc (Nat.le_refl _) _⟩
  by_cases h1 : 1 ≤ k ∧ k ≤ 5
  case neg =>
    have HF : Hid (foundB ⟨k, a, r, t⟩ = false) := by unfold Hid foundB; simp only [Bool.and_eq_false_iff, decide_eq_false_iff_not]; omega
    have hk : kindS k = ByteArray.empty := Classical.byContradiction fun h => h1 (kindS_ne.1 h)
    have HK := Lib.hid hk
    clear hk
    go_enter Tryd.func11, Tryd.ntmps11
    go_wp2_with fail
    refine (kind_any k _).mono ?_
    rintro e w1 ⟨rfl, rfl⟩
    rw [HK.out]
    go_wp2_with fail
    go_ret
    exact HE.out false HF
  obtain ⟨h1, h2⟩ := h1
  have hne : kindS k ≠ ByteArray.empty := kindS_ne.2 ⟨h1, h2⟩
  have he : (kindS k).toList.isEmpty = false := by
    cases hl : (kindS k).toList with
    | nil => exact absurd (toList_inj (y := ByteArray.empty) (by rw [hl, ByteArray.toList_eq]; rfl)) hne
    | cons _ _ => rfl
  have HG : Hid (foundB ⟨k, a, r, t⟩ = (decide (0 ≤ a) && decide (a < 64) && decide (0 ≤ r))) := by unfold Hid; simp [foundB, h1, h2]
  clear hne h1 h2
  by_cases h3 : 0 ≤ a
  case neg =>
    have HF : Hid (foundB ⟨k, a, r, t⟩ = false) := by unfold Hid; rw [HG.out]; simp [h3]
    go_enter Tryd.func11, Tryd.ntmps11
    go_wp2_with fail
    refine (kind_any k _).mono ?_
    rintro e w1 ⟨rfl, rfl⟩
    generalize kindS k = s at *
    go_wp2_with fail
    go_ret
    exact HE.out false HF
  by_cases h4 : a < 64
  case neg =>
    have HF : Hid (foundB ⟨k, a, r, t⟩ = false) := by unfold Hid; rw [HG.out]; simp [h4]
    have h4' : decide (a ≤ 63) = false := decide_eq_false (by omega)
    go_enter Tryd.func11, Tryd.ntmps11
    go_wp2_with fail
    refine (kind_any k _).mono ?_
    rintro e w1 ⟨rfl, rfl⟩
    generalize kindS k = s at *
    go_wp2_with fail
    go_ret
    exact HE.out false HF
  have HF : Hid (foundB ⟨k, a, r, t⟩ = decide (0 ≤ r)) := by unfold Hid; rw [HG.out]; simp [h3, h4]
  have h4' : a ≤ 63 := by omega
  go_enter Tryd.func11, Tryd.ntmps11
  go_wp2_with fail
  refine (kind_any k _).mono ?_
  rintro e w1 ⟨rfl, rfl⟩
  generalize kindS k = s at *
  go_wp2_with fail
  go_ret
  exact HE.out _ HF
/-- At most eight lines of at most 200 bytes. -/
def fewB (l : List ByteArray) : Bool := decide (l.length ≤ 8) && l.all fun s => decide (s.size ≤ 200)
set_option maxRecDepth 100000 in
set_option maxHeartbeats 1000000 in
theorem few_any (l : List ByteArray) (vl : Value) (lo hi : Nat) (w : World) (hl : Sees w lo hi 1 vl l.length (strs l)) (hm : l.length ≤ maxLen) (hs : ∀ s ∈ l, s.size ≤ maxLen) :
    Calls Tryd.prog 9 #[vl] w fun e w' => e = .returned (.bool (fewB l)) ∧ w = w' := by
  unfold maxLen at hm hs
  obtain ⟨A, c, rfl⟩ := hl.slice
  have HL := Lib.hid hl
  have HS := Lib.hid hs
  clear hl hs
  go_enter Tryd.func9, Tryd.ntmps9
  go_wp2_with fail
  go_loop [3] (fun i => ∃ k : Nat, k ≤ l.length ∧ k ≤ 9 ∧ i = .int .i64 k ∧ ∀ j, j < k → (l.getD j ByteArray.empty).size ≤ 200) (fun i => l.length - (intOf i).toNat)
  case atStart => exact ⟨0, Nat.zero_le _, by omega, rfl, fun j hj => by omega⟩
  case round =>
    obtain ⟨k, hk, hk9, rfl, hj⟩ := hrel
    have HJ := Lib.hid hj
    clear hj
    by_cases hlt : k < l.length
    · by_cases h9 : k < 9
      · obtain ⟨ba, oa, ca', ea, _, _, hca⟩ := HL.out.pos (by omega)
        cases ea
        have g1 : w.cell? ⟨ba, oa + k, none⟩ = some (.string (l.getD k ByteArray.empty)) := hca k _ (strs_getD l k hlt)
        have hsz : (l.getD k ByteArray.empty).size ≤ 9223372036854775807 := HS.out _ (by simp [hlt])
        have HN : Hid (¬ (l.getD k ByteArray.empty).size ≤ 200 → fewB l = false) := fun h => by
          unfold fewB
          have : (l.all fun s => decide (s.size ≤ 200)) = false := by
            rw [List.all_eq_false]
            exact ⟨_, List.getElem_mem hlt, by simpa [hlt] using h⟩
          rw [this]; simp
        clear hca
        generalize hx : l.getD k ByteArray.empty = x at *
        have HX := Lib.hid hx
        clear hx
        by_cases h200 : x.size ≤ 200
        · go_wp2_with fail
          go_round
          case rel => 
            refine ⟨k + 1, by omega, by omega, by go_num, fun j hj => ?_⟩
            by_cases hjk : j = k
            · rw [hjk, HX.out]; exact h200
            · exact HJ.out j (by omega)
          case measure => simp [intOf]; omega
        · have HB := Lib.hid (HN.out h200)
          have h2 : 200 < x.size := by omega
          clear h200
          go_wp2_with fail
          go_ret
          rw [HB.out]
          exact ⟨rfl, rfl⟩
      · have HB : Hid (fewB l = decide ((l.length : Int) ≤ 8)) := by
          unfold Hid fewB
          rw [decide_eq_false (show ¬ l.length ≤ 8 by omega), decide_eq_false (show ¬ (l.length : Int) ≤ 8 by omega)]; rfl
        go_wp2_with fail
        go_ret
        rw [HB.out]
        exact ⟨rfl, rfl⟩
    · have HB : Hid (fewB l = decide ((l.length : Int) ≤ 8)) := by
        unfold Hid fewB
        have : (l.all fun s => decide (s.size ≤ 200)) = true := by
          rw [List.all_eq_true]
          intro s hs
          obtain ⟨j, hj, rfl⟩ := List.getElem_of_mem hs
          have := HJ.out j (by omega)
          simpa [hj] using this
        rw [this, Bool.and_true]
        by_cases h : l.length ≤ 8
        · rw [decide_eq_true h, decide_eq_true (by omega)]
        · rw [decide_eq_false h, decide_eq_false (by omega)]
      go_wp2_with fail
      go_ret
      rw [HB.out]
      exact ⟨rfl, rfl⟩
def at2S : ByteArray := ⟨#[32, 97, 116, 32]⟩
def rec2S : ByteArray := ⟨#[32, 114, 101, 99, 111, 114, 100, 32]⟩
theorem lineF_eq (f : Fd) : lineF f = kindS f.kind ++ spS ++ ita (f.ac + 1) ++ at2S ++ ita f.time ++ rec2S ++ ita f.rec_ := by
  have h1 : at2S = atS ++ spS := rfl
  have h2 : rec2S = recS ++ spS := rfl
  rw [h1, h2]
  unfold lineF wordsS wordsS
  simp only [ByteArray.append_assoc]
theorem decimal_ok (W : World) (n : Int) (h0 : -9223372036854775807 ≤ n) (h1 : n ≤ 9223372036854775807) : ∀ wa, Below W.heap.size W wa → Calls Tryd.prog 7 #[.int .i64 n] wa fun e w' => ∃ v, e = .returned v ∧ Below W.heap.size W w' ∧ Below wa.heap.size wa w' ∧ is (.string (ita n)) v w' := fun wa hC =>
  (decimal_any n wa h0 h1).mono fun e w' ⟨he, hb'⟩ => ⟨_, he, hC.trans (hb'.mono hC.size), hb', rfl⟩
set_option maxRecDepth 100000 in
set_option maxHeartbeats 1000000 in
theorem finding_any (k a r t : Int) (w : World) (ha : 0 ≤ a) (ha2 : a < 64) (hr : 0 ≤ r) (hr2 : r ≤ 9223372036854775807) (ht : -9223372036854775807 ≤ t) (ht2 : t ≤ 9223372036854775807) :
    Calls Tryd.prog 12 #[.agg #[.int .i64 k, .int .i64 a, .int .i64 r, .int .i64 t]] w fun e w' => e = .returned (.string (lineF ⟨k, a, r, t⟩)) ∧ Below w.heap.size w w' := by
  have HL := Lib.hid (lineF_eq ⟨k, a, r, t⟩)
  simp only at HL
  have z0 := kindS_size k
  have z1 := ita_size (a + 1) (by omega) (by omega)
  have z2 := ita_size t (by omega) ht2
  have z3 := ita_size r (by omega) hr2
  have z4 : spS.size = 1 := rfl
  have z5 : at2S.size = 4 := rfl
  have z6 : rec2S.size = 8 := rfl
  have hsum : Hid (IntKind.i64.wrap (a + 1) = a + 1) := IntWalk.i64_in _ (by omega)
  have c1 := decimal_ok (w.alloc (.cells #[.int .i64 k, .int .i64 a, .int .i64 r, .int .i64 t] 37)) (a + 1) (by omega) (by omega)
  have c2 := decimal_ok (w.alloc (.cells #[.int .i64 k, .int .i64 a, .int .i64 r, .int .i64 t] 37)) t ht ht2
  have c3 := decimal_ok (w.alloc (.cells #[.int .i64 k, .int .i64 a, .int .i64 r, .int .i64 t] 37)) r (by omega) hr2
  have CELL : Hid (∀ wa, Below (w.alloc (.cells #[.int .i64 k, .int .i64 a, .int .i64 r, .int .i64 t] 37)).heap.size (w.alloc (.cells #[.int .i64 k, .int .i64 a, .int .i64 r, .int .i64 t] 37)) wa → ∀ j u, [Value.int .i64 k, .int .i64 a, .int .i64 r, .int .i64 t][j]? = some u → wa.cell? ⟨w.heap.size, j, none⟩ = some u) := fun wa hC j u hu => by
    rw [hC.cell (p := ⟨w.heap.size, j, none⟩) (by simp)]
    simpa using hu
  have hbW : Below w.heap.size w (w.alloc (.cells #[.int .i64 k, .int .i64 a, .int .i64 r, .int .i64 t] 37)) := (Below.refl _ _).alloc (Nat.le_refl _) _
  have C1 := Lib.hid c1
  have C2 := Lib.hid c2
  have C3 := Lib.hid c3
  have Z := Lib.hid (And.intro z0 (And.intro z1 (And.intro z2 (And.intro z3 (And.intro z4 (And.intro z5 z6))))))
  have HB := Lib.hid hbW
  clear c1 c2 c3 z0 z1 z2 z3 z4 z5 z6 hbW
  go_enter Tryd.func12, Tryd.ntmps12
  go_wp2_with fail
  generalize w.alloc (.cells #[.int .i64 k, .int .i64 a, .int .i64 r, .int .i64 t] 37) = W at *
  refine region_list 19 22 (fun w' => Below W.heap.size W w') [is (.pointer (some ⟨w.heap.size, 0, none⟩)), is (.int .i64 k), is (.string (kindS k)), is (.string (kindS k ++ spS)), is (.pointer (some ⟨w.heap.size, 1, none⟩)), is (.int .i64 a), is (.int .i64 (a + 1)), is (.string (ita (a + 1))), is (.string (kindS k ++ spS ++ ita (a + 1))), is (.string (kindS k ++ spS ++ ita (a + 1) ++ at2S)), is (.pointer (some ⟨w.heap.size, 3, none⟩)), is (.int .i64 t), is (.string (ita t)), is (.string (kindS k ++ spS ++ ita (a + 1) ++ at2S ++ ita t)), is (.string (kindS k ++ spS ++ ita (a + 1) ++ at2S ++ ita t ++ rec2S)), is (.pointer (some ⟨w.heap.size, 2, none⟩)), is (.int .i64 r), is (.string (ita r)), is (.string (kindS k ++ spS ++ ita (a + 1) ++ at2S ++ ita t ++ rec2S ++ ita r))] (by kernel_rfl) (by kernel_rfl) rfl (by decide) ?hst ?h0 ?hop ?htail
  case hst =>
    simp only [List.mem_cons, List.mem_nil_iff, or_false, forall_eq_or_imp, forall_eq]
    exact ⟨is_stable _, is_stable _, is_stable _, is_stable _, is_stable _, is_stable _, is_stable _, is_stable _, is_stable _, is_stable _, is_stable _, is_stable _, is_stable _, is_stable _, is_stable _, is_stable _, is_stable _, is_stable _, is_stable _⟩
  case h0 => exact (Below.refl _ _).drew
  case hop =>
    refine ⟨?_, ?_, ?_, ?_, ?_, ?_, ?_, ?_, ?_, ?_, ?_, ?_, ?_, ?_, ?_, ?_, ?_, ?_, ?_, trivial⟩
    · exact ok_field 37 (.tmp 1) 0 (.pointer (some ⟨w.heap.size, 0, none⟩)) (.pointer (some ⟨w.heap.size, 0, none⟩)) rfl (by kernel_rfl) (fun w => by kernel_rfl) rfl
    · exact ok_load 35 (.tmp 3) (.pointer (some ⟨w.heap.size, 0, none⟩)) (.int .i64 k) rfl (by kernel_rfl) (fun wa hC => run_load1 wa (by kernel_rfl) (CELL.out wa hC 0 _ rfl)) rfl
    · exact ok_callF 18 [.tmp 4] _ [.int .i64 k] rfl (fun _ _ => by kernel_rfl) ⟨by kernel_rfl, trivial⟩ (fun wa hC => (kind_any k wa).mono fun e w2 ⟨he, hw⟩ => ⟨_, he, hw ▸ hC, hw ▸ Below.refl _ _, rfl⟩)
    · exact ok_tc 5 (.string spS) (.string (kindS k)) (.string (kindS k ++ spS)) rfl (by kernel_rfl) (fun a wa _ e1 => by have := Z.out; go_simp; first | omega | (rw [if_neg (by omega)]; rfl)) rfl
    · exact ok_field 37 (.tmp 1) 1 (.pointer (some ⟨w.heap.size, 0, none⟩)) (.pointer (some ⟨w.heap.size, 1, none⟩)) rfl (by kernel_rfl) (fun w => by kernel_rfl) rfl
    · exact ok_load 3 (.tmp 7) (.pointer (some ⟨w.heap.size, 1, none⟩)) (.int .i64 a) rfl (by kernel_rfl) (fun wa hC => run_load1 wa (by kernel_rfl) (CELL.out wa hC 1 _ rfl)) rfl
    · exact ok_tc 8 (.int .i64 1) (.int .i64 a) (.int .i64 (a + 1)) rfl (by kernel_rfl) (fun a wa _ e1 => by go_simp; exact hsum.out) rfl
    · exact ok_callF 7 [.tmp 9] _ [.int .i64 (a + 1)] rfl (fun _ _ => by kernel_rfl) ⟨by kernel_rfl, trivial⟩ (C1.out)
    · exact ok_t2 6 10 (.string (kindS k ++ spS)) (.string (ita (a + 1))) (.string (kindS k ++ spS ++ ita (a + 1))) rfl (by kernel_rfl) (by kernel_rfl) (fun a wa _ e1 e2 => by have := Z.out; go_simp; first | omega | (rw [if_neg (by omega)]; rfl)) rfl
    · exact ok_tc 11 (.string at2S) (.string (kindS k ++ spS ++ ita (a + 1))) (.string (kindS k ++ spS ++ ita (a + 1) ++ at2S)) rfl (by kernel_rfl) (fun a wa _ e1 => by have := Z.out; go_simp; first | omega | (rw [if_neg (by omega)]; rfl)) rfl
    · exact ok_field 37 (.tmp 1) 3 (.pointer (some ⟨w.heap.size, 0, none⟩)) (.pointer (some ⟨w.heap.size, 3, none⟩)) rfl (by kernel_rfl) (fun w => by kernel_rfl) rfl
    · exact ok_load 3 (.tmp 13) (.pointer (some ⟨w.heap.size, 3, none⟩)) (.int .i64 t) rfl (by kernel_rfl) (fun wa hC => run_load1 wa (by kernel_rfl) (CELL.out wa hC 3 _ rfl)) rfl
    · exact ok_callF 7 [.tmp 14] _ [.int .i64 t] rfl (fun _ _ => by kernel_rfl) ⟨by kernel_rfl, trivial⟩ (C2.out)
    · exact ok_t2 12 15 (.string (kindS k ++ spS ++ ita (a + 1) ++ at2S)) (.string (ita t)) (.string (kindS k ++ spS ++ ita (a + 1) ++ at2S ++ ita t)) rfl (by kernel_rfl) (by kernel_rfl) (fun a wa _ e1 e2 => by have := Z.out; go_simp; first | omega | (rw [if_neg (by omega)]; rfl)) rfl
    · exact ok_tc 16 (.string rec2S) (.string (kindS k ++ spS ++ ita (a + 1) ++ at2S ++ ita t)) (.string (kindS k ++ spS ++ ita (a + 1) ++ at2S ++ ita t ++ rec2S)) rfl (by kernel_rfl) (fun a wa _ e1 => by have := Z.out; go_simp; first | omega | (rw [if_neg (by omega)]; rfl)) rfl
    · exact ok_field 37 (.tmp 1) 2 (.pointer (some ⟨w.heap.size, 0, none⟩)) (.pointer (some ⟨w.heap.size, 2, none⟩)) rfl (by kernel_rfl) (fun w => by kernel_rfl) rfl
    · exact ok_load 3 (.tmp 18) (.pointer (some ⟨w.heap.size, 2, none⟩)) (.int .i64 r) rfl (by kernel_rfl) (fun wa hC => run_load1 wa (by kernel_rfl) (CELL.out wa hC 2 _ rfl)) rfl
    · exact ok_callF 7 [.tmp 19] _ [.int .i64 r] rfl (fun _ _ => by kernel_rfl) ⟨by kernel_rfl, trivial⟩ (C3.out)
    · exact ok_t2 17 20 (.string (kindS k ++ spS ++ ita (a + 1) ++ at2S ++ ita t ++ rec2S)) (.string (ita r)) (.string (kindS k ++ spS ++ ita (a + 1) ++ at2S ++ ita t ++ rec2S ++ ita r)) rfl (by kernel_rfl) (by kernel_rfl) (fun a wa _ e1 e2 => by have := Z.out; go_simp; first | omega | (rw [if_neg (by omega)]; rfl)) rfl
  case htail =>
    intro τ w2 hC hR
    have r18 : τ 18 = .string (kindS k ++ spS ++ ita (a + 1) ++ at2S ++ ita t ++ rec2S ++ ita r) := hR 18 (by decide)
    simp only [putAll, List.getElem?_toArray, List.getElem?_cons_succ, List.getElem?_cons_zero, Option.bind_some, Act.put, List.setIfInBounds_toArray, List.set_cons_succ, List.set_cons_zero, List.drop_succ_cons, List.drop_zero, r18]
    clear r18 hR
    have hB2 : Below w.heap.size w w2 := HB.out.trans (hC.mono HB.out.size)
    rw [← HL.out]
    obtain ⟨y, hy⟩ : ∃ y, y = lineF ⟨k, a, r, t⟩ := ⟨_, rfl⟩
    rw [← hy]
    have HY := Lib.hid hy
    clear hy
    go_wp2_with fail
    go_ret
    exact ⟨ret_str HY.out, hB2⟩
end Go.Proofs.YtckagpelhjgnpaaDoor
