/- The small functions of the laws on failures: Few and Valid; and on reports: written, line. -/
import Derived.Test.YtolmehmglgmanaaGreatDoorAnswer
import Derived.Test.YtolmehmglgmanaaGreatDoorLawB
import Derived.Test.YtolmehmglgmanaaGreatDoorParseB
namespace Go.Proofs.YtolmehmglgmanaaGreatDoor
open Go.RowKit

/-- A program of at most m aircraft and k acts, with short names. -/
def few40B (p : Pr) (m k : Nat) : Bool := decide (p.names.length ≤ m) && decide (p.homes.length ≤ m) && decide (p.acts.length ≤ k) && (p.names.all fun s => decide (s.size ≤ 60)) && p.acts.all fun a => decide (a.name.size ≤ 60) && decide (a.moves.length ≤ m)
theorem few40_names {p : Pr} {m k i : Nat} (hi : i < p.names.length) (h : 60 < p.names[i].size) : few40B p m k = false := by
  unfold few40B
  have : (p.names.all fun s => decide (s.size ≤ 60)) = false := by rw [List.all_eq_false]; exact ⟨_, List.getElem_mem hi, by simpa using h⟩
  rw [this]; simp
theorem few40_acts {p : Pr} {m k i : Nat} (hi : i < p.acts.length) (h : 60 < p.acts[i].name.size ∨ m < p.acts[i].moves.length) : few40B p m k = false := by
  unfold few40B
  have : (p.acts.all fun a => decide (a.name.size ≤ 60) && decide (a.moves.length ≤ m)) = false := by
    rw [List.all_eq_false]
    refine ⟨_, List.getElem_mem hi, ?_⟩
    simp only [Bool.and_eq_true, decide_eq_true_eq, not_and]
    omega
  rw [this]; simp
theorem few40_yes {p : Pr} {m k : Nat} (h1 : p.names.length ≤ m) (h2 : p.homes.length ≤ m) (h3 : p.acts.length ≤ k) (h4 : ∀ i (hi : i < p.names.length), p.names[i].size ≤ 60) (h5 : ∀ i (hi : i < p.acts.length), p.acts[i].name.size ≤ 60 ∧ p.acts[i].moves.length ≤ m) : few40B p m k = true := by
  unfold few40B
  simp only [Bool.and_eq_true, decide_eq_true_eq, List.all_eq_true]
  refine ⟨⟨⟨⟨h1, h2⟩, h3⟩, fun s hs => ?_⟩, fun a ha => ?_⟩
  · obtain ⟨i, hi, rfl⟩ := List.getElem_of_mem hs; exact h4 i hi
  · obtain ⟨i, hi, rfl⟩ := List.getElem_of_mem ha; exact h5 i hi
theorem few40_ok {p : Pr} {m k : Nat} (h : few40B p m k = true) (hm : m ≤ 1000) (hk : k ≤ 1000) : PrOk p := by
  unfold few40B at h
  simp only [Bool.and_eq_true, decide_eq_true_eq, List.all_eq_true] at h
  obtain ⟨⟨⟨⟨h1, h2⟩, h3⟩, h4⟩, h5⟩ := h
  exact ⟨fun s hs => Nat.le_trans (h4 s hs) (by decide), fun a ha => Nat.le_trans (h5 a ha).1 (by decide), by omega, fun a ha => by have := (h5 a ha).2; omega⟩
set_option maxRecDepth 100000 in
set_option maxHeartbeats 2000000 in
theorem few40_any (p : Pr) (m k : Nat) (vn vh va : Value) (w : World) (hp : ProgAt w w.heap.size vn vh va p) (hm : m ≤ 1000) (hk : k ≤ 1000) (hs : ∀ s ∈ p.names, s.size ≤ maxLen) (hsa : ∀ a ∈ p.acts, a.name.size ≤ maxLen) :
    Calls Tryz.prog 4 #[.agg #[vn, vh, va], .int .i64 (m : Nat), .int .i64 (k : Nat)] w fun e w' => e = .returned (.bool (few40B p m k)) ∧ Below w.heap.size w w' := by
  obtain ⟨An, cn, rfl⟩ := hp.names.slice
  obtain ⟨Ah, ch, rfl⟩ := hp.homes.slice
  obtain ⟨csA, ha, hacts⟩ := hp.acts
  obtain ⟨Aa, ca, rfl⟩ := ha.slice
  have hb1 : Below w.heap.size w (w.alloc (.cells #[.slice An p.names.length cn, .slice Ah p.homes.length ch, .slice Aa p.acts.length ca] 26)) := (Below.refl _ _).alloc (Nat.le_refl _) _
  have hp1 := hp.up hb1
  obtain ⟨csA1, ha1, hacts1⟩ := hp1.acts
  have HN := Lib.hid hp1.names
  have HA := Lib.hid ha1
  have HAC := Lib.hid hacts1
  have HS := Lib.hid hs
  have HSA := Lib.hid hsa
  have HB : Hid (∀ b : Bool, few40B p m k = b → (Ending.returned (.bool b) = .returned (.bool (few40B p m k)) ∧ Below w.heap.size w (w.alloc (.cells #[.slice An p.names.length cn, .slice Ah p.homes.length ch, .slice Aa p.acts.length ca] 26)))) := fun b h => ⟨ret_bool h.symm, hb1⟩
  clear ha hacts hp hp1 ha1 hacts1 hb1 hs hsa
  by_cases h1 : p.names.length ≤ m
  case neg =>
    have HF : Hid (few40B p m k = false) := by unfold Hid few40B; rw [decide_eq_false h1]; simp
    have g1 : (m : Int) < (p.names.length : Int) := by omega
    clear h1
    go_enter Tryz.func4, Tryz.ntmps4
    go_wp2_with fail
    go_ret
    exact HB.out _ HF.out
  by_cases h2 : p.homes.length ≤ m
  case neg =>
    have HF : Hid (few40B p m k = false) := by unfold Hid few40B; rw [decide_eq_false h2]; simp
    have g1 : ¬ (m : Int) < (p.names.length : Int) := by omega
    have g2 : (m : Int) < (p.homes.length : Int) := by omega
    clear h1 h2
    go_enter Tryz.func4, Tryz.ntmps4
    go_wp2_with fail
    go_ret
    exact HB.out _ HF.out
  by_cases h3 : p.acts.length ≤ k
  case neg =>
    have HF : Hid (few40B p m k = false) := by unfold Hid few40B; rw [decide_eq_false h3]; simp
    have g1 : ¬ (m : Int) < (p.names.length : Int) := by omega
    have g2 : ¬ (m : Int) < (p.homes.length : Int) := by omega
    have g3 : (k : Int) < (p.acts.length : Int) := by omega
    clear h1 h2 h3
    go_enter Tryz.func4, Tryz.ntmps4
    go_wp2_with fail
    go_ret
    exact HB.out _ HF.out
  go_enter Tryz.func4, Tryz.ntmps4
  go_wp2_with fail
  go_loop [7] (fun i => ∃ j : Nat, j ≤ p.names.length ∧ i = .int .i64 j ∧ ∀ q (hq : q < p.names.length), q < j → p.names[q].size ≤ 60) (fun i => p.names.length - (intOf i).toNat)
  case atStart => exact ⟨0, Nat.zero_le _, rfl, fun q hq hj => by omega⟩
  case round =>
    obtain ⟨j, hj, rfl, hsm⟩ := hrel
    have HSM := Lib.hid hsm
    clear hsm
    by_cases hlt : j < p.names.length
    · obtain ⟨bn, on, cn', en, _, hbn, hcn⟩ := HN.out.pos (by omega)
      cases en
      have g0 := hcn j (.string p.names[j]) (by simp [strs, hlt])
      have hz := HS.out _ (List.getElem_mem hlt)
      have HNO : Hid (60 < p.names[j].size → few40B p m k = false) := fun h => few40_names hlt h
      have HYE : Hid (¬ 60 < p.names[j].size → ∀ q (hq : q < p.names.length), q < j + 1 → p.names[q].size ≤ 60) := fun h q hq hj => by
        by_cases e : q = j
        · subst e; omega
        · exact HSM.out q hq (by omega)
      clear hcn
      unfold maxLen at hz
      generalize p.names[j] = s at *
      by_cases h60 : (60 : Int) < (s.size : Int)
      · go_wp2_with fail
        go_ret
        exact HB.out _ (HNO.out (by omega))
      · go_wp2_with fail
        go_round
        case rel => exact ⟨j + 1, by omega, by go_num, HYE.out (by omega)⟩
        case measure => simp [intOf]; omega
    · have HALL : Hid (∀ q (hq : q < p.names.length), p.names[q].size ≤ 60) := fun q hq => HSM.out q hq (by omega)
      clear HSM
      go_wp2_with fail
      go_loop [8] (fun i => ∃ j : Nat, j ≤ p.acts.length ∧ i = .int .i64 j ∧ ∀ q (hq : q < p.acts.length), q < j → p.acts[q].name.size ≤ 60 ∧ p.acts[q].moves.length ≤ m) (fun i => p.acts.length - (intOf i).toNat)
      case atStart => exact ⟨0, Nat.zero_le _, rfl, fun q hq hj => by omega⟩
      case round =>
        obtain ⟨i, hi, rfl, hsm⟩ := hrel
        have HSM := Lib.hid hsm
        clear hsm
        by_cases hlt2 : i < p.acts.length
        · obtain ⟨ba, oa, ca', ea, _, hba, hca⟩ := HA.out.pos (by omega)
          cases ea
          obtain ⟨vm, hvm, hcm⟩ := HAC.out.at_ hlt2
          obtain ⟨Am, cm, rfl⟩ := hvm.slice
          have a0 := hca _ _ (hcm 0 _ rfl)
          have a2 := hca _ _ (hcm 2 _ rfl)
          rw [← Nat.add_assoc] at a2
          simp only [Nat.add_zero] at a0
          have hz := HSA.out _ (List.getElem_mem hlt2)
          have HNO : Hid (60 < p.acts[i].name.size ∨ m < p.acts[i].moves.length → few40B p m k = false) := fun h => few40_acts hlt2 h
          have HYE : Hid (¬ 60 < p.acts[i].name.size → ¬ m < p.acts[i].moves.length → ∀ q (hq : q < p.acts.length), q < i + 1 → p.acts[q].name.size ≤ 60 ∧ p.acts[q].moves.length ≤ m) := fun h h' q hq hj => by
            by_cases e : q = i
            · subst e; omega
            · exact HSM.out q hq (by omega)
          clear hca hcm hvm
          unfold maxLen at hz
          generalize p.acts[i] = ac at *
          by_cases h60 : (60 : Int) < (ac.name.size : Int)
          · go_wp2_with fail
            go_ret
            exact HB.out _ (HNO.out (by omega))
          by_cases hmv : (m : Int) < (ac.moves.length : Int)
          · go_wp2_with fail
            go_ret
            exact HB.out _ (HNO.out (by omega))
          go_wp2_with fail
          go_round
          case rel => exact ⟨i + 1, by omega, by go_num, HYE.out (by omega) (by omega)⟩
          case measure => simp [intOf]; omega
        · go_wp2_with fail
          go_ret
          exact HB.out _ (few40_yes h1 h2 h3 HALL.out fun q hq => HSM.out q hq (by omega))
set_option maxRecDepth 100000 in
set_option maxHeartbeats 1000000 in
theorem valid40_any (p : Pr) (vn vh va : Value) (a k : Int) (w : World) (hp : ProgAt w w.heap.size vn vh va p) (ho : PrOk p) :
    Calls Tryz.prog 20 #[.agg #[vn, vh, va], .agg #[.int .i64 a, .int .i64 k]] w fun e w' => e = .returned (.bool (caseB p a k)) ∧ Below w.heap.size w w' := by
  obtain ⟨An, cn, rfl⟩ := hp.names.slice
  obtain ⟨Ah, ch, rfl⟩ := hp.homes.slice
  obtain ⟨csA, ha, hacts⟩ := hp.acts
  obtain ⟨Aa, ca, rfl⟩ := ha.slice
  clear ha hacts
  go_enter Tryz.func20, Tryz.ntmps20
  go_wp2_with fail
  refine (valid_ok p _ _ _ _ (hp.up (((Below.refl _ _).alloc (Nat.le_refl _) _).alloc (by simp) _)) ho).mono ?_
  rintro e w1 ⟨rfl, hb1⟩
  have hB : Below w.heap.size w w1 := (((Below.refl _ _).alloc (Nat.le_refl _) _).alloc (by simp) _).trans (hb1.mono (by simp; omega))
  obtain ⟨hc, hf⟩ := bcell hb1
  clear hp
  have HE : Hid (∀ b : Bool, caseB p a k = b → (Ending.returned (.bool b) = .returned (.bool (caseB p a k)) ∧ Below w.heap.size w w1)) := fun b h => ⟨ret_bool h.symm, hB⟩
  cases hv : validB p with
  | false =>
    have HF : Hid (caseB p a k = false) := by unfold Hid; simp [caseB, hv]
    clear hv
    go_wp2_with fail
    go_ret
    exact HE.out _ HF.out
  | true =>
    have hn := names_le hv
    have hm := ho.many
    have HF : Hid (caseB p a k = (decide (0 ≤ a) && decide (a < (p.names.length : Int)) && decide (0 ≤ k) && decide (k < (p.acts.length : Int)))) := by unfold Hid; simp [caseB, hv]
    clear hv
    by_cases h1 : 0 ≤ a
    case neg =>
      have HG : Hid (caseB p a k = false) := by unfold Hid; rw [HF.out]; simp [h1]
      have hd : decide (0 ≤ a) = false := decide_eq_false h1
      go_wp2_with fail
      go_ret
      exact HE.out _ HG.out
    by_cases h2 : a < (p.names.length : Int)
    case neg =>
      have HG : Hid (caseB p a k = false) := by unfold Hid; rw [HF.out]; simp [h2]
      have hd : decide (a < (p.names.length : Int)) = false := decide_eq_false h2
      go_wp2_with fail
      go_ret
      exact HE.out _ HG.out
    by_cases h3 : 0 ≤ k
    case neg =>
      have HG : Hid (caseB p a k = false) := by unfold Hid; rw [HF.out]; simp [h3]
      have hd : decide (0 ≤ k) = false := decide_eq_false h3
      go_wp2_with fail
      go_ret
      exact HE.out _ HG.out
    have HG : Hid (caseB p a k = decide (k < (p.acts.length : Int))) := by unfold Hid; rw [HF.out]; simp [h1, h2, h3]
    go_wp2_with fail
    go_ret
    exact HE.out _ HG.out
set_option maxRecDepth 100000 in
set_option maxHeartbeats 1000000 in
theorem lwritten_any (p : Pr) (vn vh va : Value) (a : An) (w : World) (hp : ProgAt w w.heap.size vn vh va p) (ho : PrOk p) :
    Calls Tryz.prog 9 #[.agg #[vn, vh, va], a.val] w fun e w' => e = .returned (.bool (writtenB p a)) ∧ Below w.heap.size w w' := by
  obtain ⟨A1, cn, rfl⟩ := hp.names.slice
  obtain ⟨Ah, ch, rfl⟩ := hp.homes.slice
  obtain ⟨csA, ha, hacts⟩ := hp.acts
  obtain ⟨Aa, ca, rfl⟩ := ha.slice
  clear ha hacts
  obtain ⟨ac, act, side, rel, sp, wt, rs⟩ := a
  simp only [An.val]
  go_enter Tryz.func9, Tryz.ntmps9
  go_wp2_with fail
  refine (valid40_any p _ _ _ ac act _ (hp.up (((Below.refl _ _).alloc (Nat.le_refl _) _).alloc (by simp) _)) ho).mono ?_
  rintro e w1 ⟨rfl, hb1⟩
  have hB : Below w.heap.size w w1 := (((Below.refl _ _).alloc (Nat.le_refl _) _).alloc (by simp) _).trans (hb1.mono (by simp; omega))
  obtain ⟨hc, hf⟩ := bcell hb1
  clear hp
  have HE : Hid (∀ b : Bool, writtenB p ⟨ac, act, side, rel, sp, wt, rs⟩ = b → (Ending.returned (.bool b) = .returned (.bool (writtenB p ⟨ac, act, side, rel, sp, wt, rs⟩)) ∧ Below w.heap.size w w1)) := fun b h => ⟨ret_bool h.symm, hB⟩
  cases hv : caseB p ac act with
  | false =>
    have HF : Hid (writtenB p ⟨ac, act, side, rel, sp, wt, rs⟩ = false) := by unfold Hid; simp [writtenB, hv]
    clear hv
    go_wp2_with fail
    go_ret
    exact HE.out _ HF.out
  | true =>
    have HF : Hid (writtenB p ⟨ac, act, side, rel, sp, wt, rs⟩ = (rel || (decide (sp = 0) && decide (wt = 0) && decide (rs = 0)))) := by unfold Hid; simp [writtenB, hv]
    clear hv
    cases rel with
    | true =>
      go_wp2_with fail
      go_ret
      exact HE.out _ (by rw [HF.out]; simp)
    | false =>
      go_wp2_with fail
      all_goals
        go_ret
        exact HE.out _ (by rw [HF.out]; simp [*])
def side2S : ByteArray := ⟨#[32, 115, 105, 100, 101, 32]⟩
def rel2S : ByteArray := ⟨#[32, 114, 101, 108, 105, 101, 102, 32]⟩
def headN (s : ByteArray) (act side : Int) : ByteArray := caseS ++ s ++ spS ++ ita act ++ side2S ++ ita side
theorem lineN_eq (s : ByteArray) (a : An) : lineN s a = if a.rel = true then headN s a.act a.side ++ rel2S ++ ita a.spare ++ spS ++ ita a.wait ++ spS ++ ita a.rise else headN s a.act a.side ++ aloneS := by
  have h1 : side2S = sideS ++ spS := rfl
  have h2 : rel2S = reliefS ++ spS := rfl
  have e : headA s a = headN s a.act a.side := by
    unfold headA headN wordsS wordsS
    rw [h1]
    simp only [ByteArray.append_assoc]
  unfold lineN
  rw [e, h2]
  split
  · unfold wordsS wordsS wordsS wordsS
    simp only [ByteArray.append_assoc]
  · rfl
set_option maxRecDepth 100000 in
set_option maxHeartbeats 2000000 in
theorem lline_any (p : Pr) (vn vh va : Value) (a : An) (w : World) (hp : ProgAt w w.heap.size vn vh va p) (h0 : 0 ≤ a.ac) (h1 : a.ac < (p.names.length : Int)) (hs : (p.names.getD a.ac.toNat ByteArray.empty).size ≤ 1000) (hn : p.names.length ≤ 1000000)
    (f1 : -9223372036854775807 ≤ a.act ∧ a.act ≤ 9223372036854775807) (f2 : -9223372036854775807 ≤ a.side ∧ a.side ≤ 9223372036854775807) (f3 : -9223372036854775807 ≤ a.spare ∧ a.spare ≤ 9223372036854775807) (f4 : -9223372036854775807 ≤ a.wait ∧ a.wait ≤ 9223372036854775807) (f5 : -9223372036854775807 ≤ a.rise ∧ a.rise ≤ 9223372036854775807) :
    Calls Tryz.prog 10 #[.agg #[vn, vh, va], a.val] w fun e w' => e = .returned (.string (lineA p a)) ∧ Below w.heap.size w w' := by
  obtain ⟨csA, ha, hacts⟩ := hp.acts
  obtain ⟨Aa, ca, rfl⟩ := ha.slice
  obtain ⟨Ah, ch, rfl⟩ := hp.homes.slice
  clear ha hacts
  obtain ⟨bn, on, cn, rfl, _, hbn, hcn⟩ := hp.names.pos (by omega)
  clear hp
  obtain ⟨ac, act, side, rel, sp, wt, rs⟩ := a
  simp only at h0 h1 hs f1 f2 f3 f4 f5
  obtain ⟨n, rfl⟩ : ∃ n : Nat, ac = (n : Int) := ⟨ac.toNat, by omega⟩
  have hlt : n < p.names.length := by omega
  have hname : w.cell? ⟨bn, on + n * 1, none⟩ = some (.string (p.names.getD n ByteArray.empty)) := by rw [Nat.mul_one]; exact hcn n _ (strs_getD _ _ hlt)
  simp only [Int.toNat_natCast] at hs
  have HL : Hid (lineA p ⟨n, act, side, rel, sp, wt, rs⟩ = lineN (p.names.getD n ByteArray.empty) ⟨n, act, side, rel, sp, wt, rs⟩) := rfl
  clear hcn
  generalize p.names.getD n ByteArray.empty = s at *
  generalize p.names.length = nl at *
  obtain ⟨g1, g2⟩ := f1
  obtain ⟨g3, g4⟩ := f2
  obtain ⟨g5, g6⟩ := f3
  obtain ⟨g7, g8⟩ := f4
  obtain ⟨g9, g10⟩ := f5
  have z1 := ita_size act (by omega) (by omega)
  have z2 := ita_size side (by omega) (by omega)
  have z3 := ita_size sp (by omega) (by omega)
  have z4 := ita_size wt (by omega) (by omega)
  have z5 := ita_size rs (by omega) (by omega)
  have z6 : spS.size = 1 := rfl
  have z7 : side2S.size = 6 := rfl
  have z8 : rel2S.size = 8 := rfl
  have z9 : caseS.size = 5 := rfl
  have z10 : (headN s act side).size ≤ 5 + s.size + 1 + 21 + 6 + 21 := by unfold headN; simp only [ByteArray.size_append]; omega
  have Z := Lib.hid (And.intro z1 (And.intro z2 (And.intro z3 (And.intro z4 (And.intro z5 (And.intro z6 (And.intro z7 (And.intro z8 (And.intro z9 z10)))))))))
  clear z1 z2 z3 z4 z5 z6 z7 z8 z9 z10
  simp only [An.val]
  go_enter Tryz.func10, Tryz.ntmps10
  go_wp2_with fail
  obtain ⟨W, hW⟩ : ∃ W, W = (w.alloc (.cells #[.slice (some ⟨bn, on, none⟩) nl cn, .slice Ah p.homes.length ch, .slice Aa p.acts.length ca] 26)).alloc (.cells #[.int .i64 (n : Int), .int .i64 act, .int .i64 side, .bool rel, .int .i64 sp, .int .i64 wt, .int .i64 rs] 38) := ⟨_, rfl⟩
  rw [← hW]
  have hzW : W.heap.size = w.heap.size + 2 := by rw [hW]; simp
  have hbW : Below w.heap.size w W := by rw [hW]; exact ((Below.refl _ _).alloc (Nat.le_refl _) _).alloc (by simp) _
  have hB1 : W.heap[w.heap.size]? = some (.cells #[.slice (some ⟨bn, on, none⟩) nl cn, .slice Ah p.homes.length ch, .slice Aa p.acts.length ca] 26 (0, 0)) := by rw [hW, Below.heap_alloc _ _ _ (by simp)]; exact World.alloc_heap_new _ _
  have hB2 : W.heap[w.heap.size + 1]? = some (.cells #[.int .i64 (n : Int), .int .i64 act, .int .i64 side, .bool rel, .int .i64 sp, .int .i64 wt, .int .i64 rs] 38 (0, 0)) := by rw [hW]; exact heap_new _ _ _ (by simp)
  have hnW : W.cell? ⟨bn, on + n * 1, none⟩ = some (.string s) := (hbW.cell (p := ⟨bn, on + n * 1, none⟩) hbn).trans hname
  have CP : Hid (∀ wa, Below W.heap.size W wa → ∀ j u, [Value.slice (some ⟨bn, on, none⟩) nl cn, .slice Ah p.homes.length ch, .slice Aa p.acts.length ca][j]? = some u → wa.cell? ⟨w.heap.size, j, none⟩ = some u) := fun wa hC j u hu => by
    rw [hC.cell (p := ⟨w.heap.size, j, none⟩) (Array.getElem?_eq_some_iff.1 hB1).1, World.cell?, hB1]
    simpa using hu
  have CA : Hid (∀ wa, Below W.heap.size W wa → ∀ j u, [Value.int .i64 (n : Int), .int .i64 act, .int .i64 side, .bool rel, .int .i64 sp, .int .i64 wt, .int .i64 rs][j]? = some u → wa.cell? ⟨w.heap.size + 1, j, none⟩ = some u) := fun wa hC j u hu => by
    rw [hC.cell (p := ⟨w.heap.size + 1, j, none⟩) (Array.getElem?_eq_some_iff.1 hB2).1, World.cell?, hB2]
    simpa using hu
  have CN : Hid (∀ wa, Below W.heap.size W wa → wa.cell? ⟨bn, on + n * 1, none⟩ = some (.string s)) := fun wa hC => (hC.cell (p := ⟨bn, on + n * 1, none⟩) (show bn < _ by omega)).trans hnW
  have C1 := Lib.hid (decimal_ok W act (by omega) (by omega))
  have C2 := Lib.hid (decimal_ok W side (by omega) (by omega))
  clear hW hB1 hB2 hnW hname
  refine region_list 20 49 (fun w' => Below W.heap.size W w') [is (.pointer (some ⟨w.heap.size, 0, none⟩)), is (.slice (some ⟨bn, on, none⟩) nl cn), is (.pointer (some ⟨w.heap.size + 1, 0, none⟩)), is (.pointer (some ⟨w.heap.size + 1, 0, none⟩)), is (.int .i64 (n : Int)), is (.pointer (some ⟨bn, on + n * 1, none⟩)), is (.string s), is (.string (caseS ++ s)), is (.string (caseS ++ s ++ spS)), is (.pointer (some ⟨w.heap.size + 1, 0, none⟩)), is (.pointer (some ⟨w.heap.size + 1, 1, none⟩)), is (.int .i64 act), is (.string (ita act)), is (.string (caseS ++ s ++ spS ++ ita act)), is (.string (caseS ++ s ++ spS ++ ita act ++ side2S)), is (.pointer (some ⟨w.heap.size + 1, 2, none⟩)), is (.int .i64 side), is (.string (ita side)), is (.string (caseS ++ s ++ spS ++ ita act ++ side2S ++ ita side)), is (.string (caseS ++ s ++ spS ++ ita act ++ side2S ++ ita side))] (by kernel_rfl) (by kernel_rfl) rfl (by decide) ?hst ?h0 ?hop ?htail
  case hst =>
    simp only [List.mem_cons, List.mem_nil_iff, or_false, forall_eq_or_imp, forall_eq]
    exact ⟨is_stable _, is_stable _, is_stable _, is_stable _, is_stable _, is_stable _, is_stable _, is_stable _, is_stable _, is_stable _, is_stable _, is_stable _, is_stable _, is_stable _, is_stable _, is_stable _, is_stable _, is_stable _, is_stable _, is_stable _⟩
  case h0 => exact (Below.refl _ _).drew
  case hop =>
    refine ⟨?_, ?_, ?_, ?_, ?_, ?_, ?_, ?_, ?_, ?_, ?_, ?_, ?_, ?_, ?_, ?_, ?_, ?_, ?_, ?_, trivial⟩
    · exact ok_field 26 (.tmp 2) 0 (.pointer (some ⟨w.heap.size, 0, none⟩)) (.pointer (some ⟨w.heap.size, 0, none⟩)) rfl (by kernel_rfl) (fun w => by kernel_rfl) rfl
    · exact ok_load 22 (.tmp 6) (.pointer (some ⟨w.heap.size, 0, none⟩)) (.slice (some ⟨bn, on, none⟩) nl cn) rfl (by kernel_rfl) (fun wa hC => run_load1 wa (by kernel_rfl) (CP.out wa hC 0 _ rfl)) rfl
    · exact ok_field 38 (.tmp 3) 0 (.pointer (some ⟨w.heap.size + 1, 0, none⟩)) (.pointer (some ⟨w.heap.size + 1, 0, none⟩)) rfl (by kernel_rfl) (fun w => by kernel_rfl) rfl
    · exact ok_field 34 (.tmp 8) 0 (.pointer (some ⟨w.heap.size + 1, 0, none⟩)) (.pointer (some ⟨w.heap.size + 1, 0, none⟩)) rfl (by kernel_rfl) (fun w => by kernel_rfl) rfl
    · exact ok_load 3 (.tmp 9) (.pointer (some ⟨w.heap.size + 1, 0, none⟩)) (.int .i64 (n : Int)) rfl (by kernel_rfl) (fun wa hC => run_load1 wa (by kernel_rfl) (CA.out wa hC 0 _ rfl)) rfl
    · exact ok_index 22 9 7 10 (bn) (on) (nl) (cn) 1 ((n : Int)) (n) rfl (by kernel_rfl) (by kernel_rfl) Tryz.underlying22 str_size (rfl) (by omega) rfl
    · exact ok_load 9 (.tmp 11) (.pointer (some ⟨bn, on + n * 1, none⟩)) (.string s) rfl (by kernel_rfl) (fun wa hC => run_load1 wa (by kernel_rfl) (CN.out wa hC)) rfl
    · exact ok_ct 12 (.string caseS) (.string s) (.string (caseS ++ s)) rfl (by kernel_rfl) (fun a wa _ e1 => by have := Z.out; go_simp; first | omega | (rw [if_neg (by omega)]; rfl)) rfl
    · exact ok_tc 13 (.string spS) (.string (caseS ++ s)) (.string (caseS ++ s ++ spS)) rfl (by kernel_rfl) (fun a wa _ e1 => by have := Z.out; go_simp; first | omega | (rw [if_neg (by omega)]; rfl)) rfl
    · exact ok_field 38 (.tmp 3) 0 (.pointer (some ⟨w.heap.size + 1, 0, none⟩)) (.pointer (some ⟨w.heap.size + 1, 0, none⟩)) rfl (by kernel_rfl) (fun w => by kernel_rfl) rfl
    · exact ok_field 34 (.tmp 15) 1 (.pointer (some ⟨w.heap.size + 1, 0, none⟩)) (.pointer (some ⟨w.heap.size + 1, 1, none⟩)) rfl (by kernel_rfl) (fun w => by kernel_rfl) rfl
    · exact ok_load 3 (.tmp 16) (.pointer (some ⟨w.heap.size + 1, 1, none⟩)) (.int .i64 act) rfl (by kernel_rfl) (fun wa hC => run_load1 wa (by kernel_rfl) (CA.out wa hC 1 _ rfl)) rfl
    · exact ok_callF 21 [.tmp 17] _ [.int .i64 act] rfl (fun _ _ => by kernel_rfl) ⟨by kernel_rfl, trivial⟩ (C1.out)
    · exact ok_t2 14 18 (.string (caseS ++ s ++ spS)) (.string (ita act)) (.string (caseS ++ s ++ spS ++ ita act)) rfl (by kernel_rfl) (by kernel_rfl) (fun a wa _ e1 e2 => by have := Z.out; go_simp; first | omega | (rw [if_neg (by omega)]; rfl)) rfl
    · exact ok_tc 19 (.string side2S) (.string (caseS ++ s ++ spS ++ ita act)) (.string (caseS ++ s ++ spS ++ ita act ++ side2S)) rfl (by kernel_rfl) (fun a wa _ e1 => by have := Z.out; go_simp; first | omega | (rw [if_neg (by omega)]; rfl)) rfl
    · exact ok_field 38 (.tmp 3) 1 (.pointer (some ⟨w.heap.size + 1, 0, none⟩)) (.pointer (some ⟨w.heap.size + 1, 2, none⟩)) rfl (by kernel_rfl) (fun w => by kernel_rfl) rfl
    · exact ok_load 3 (.tmp 21) (.pointer (some ⟨w.heap.size + 1, 2, none⟩)) (.int .i64 side) rfl (by kernel_rfl) (fun wa hC => run_load1 wa (by kernel_rfl) (CA.out wa hC 2 _ rfl)) rfl
    · exact ok_callF 21 [.tmp 22] _ [.int .i64 side] rfl (fun _ _ => by kernel_rfl) ⟨by kernel_rfl, trivial⟩ (C2.out)
    · exact ok_t2 20 23 (.string (caseS ++ s ++ spS ++ ita act ++ side2S)) (.string (ita side)) (.string (caseS ++ s ++ spS ++ ita act ++ side2S ++ ita side)) rfl (by kernel_rfl) (by kernel_rfl) (fun a wa _ e1 e2 => by have := Z.out; go_simp; first | omega | (rw [if_neg (by omega)]; rfl)) rfl
    · exact ok_assign (.tmp 24) (is (.string (caseS ++ s ++ spS ++ ita act ++ side2S ++ ita side))) rfl (by kernel_rfl) (fun _ _ _ h => h)
  case htail =>
  intro τ w2 hC hR
  have r19 : τ 19 = .string (headN s act side) := hR 19 (by decide)
  simp only [putAll, List.getElem?_toArray, List.getElem?_cons_succ, List.getElem?_cons_zero, Option.bind_some, Act.put, List.setIfInBounds_toArray, List.set_cons_succ, List.set_cons_zero, List.drop_succ_cons, List.drop_zero, r19]
  clear r19 hR
  have hB2 : Below w.heap.size w w2 := hbW.trans (hC.mono hbW.size)
  have HL2 : Hid (lineA p ⟨n, act, side, rel, sp, wt, rs⟩ = if rel = true then headN s act side ++ rel2S ++ ita sp ++ spS ++ ita wt ++ spS ++ ita rs else headN s act side ++ aloneS) := by
    unfold Hid; rw [HL.out]; exact lineN_eq s ⟨n, act, side, rel, sp, wt, rs⟩
  have q3 := CA.out w2 hC 3 _ rfl
  have hzh : (headN s act side).size ≤ 1100 := by have := Z.out; omega
  generalize headN s act side = y at *
  cases rel with
  | false =>
    go_wp2_with fail
    go_ret
    rw [HL2.out]
    exact ⟨rfl, hB2⟩
  | true =>
  have hz2 := hC.size
  have C3 := Lib.hid (decimal_ok w2 sp (by omega) (by omega))
  have C4 := Lib.hid (decimal_ok w2 wt (by omega) (by omega))
  have C5 := Lib.hid (decimal_ok w2 rs (by omega) (by omega))
  have CA2 : Hid (∀ wa, Below w2.heap.size w2 wa → ∀ j u, [Value.int .i64 (n : Int), .int .i64 act, .int .i64 side, .bool true, .int .i64 sp, .int .i64 wt, .int .i64 rs][j]? = some u → wa.cell? ⟨w.heap.size + 1, j, none⟩ = some u) := fun wa h => CA.out wa (hC.trans (h.mono hz2))
  go_wp2_with fail
  refine region_list 20 49 (fun w' => Below w2.heap.size w2 w') [is (.string y), is (.string (y ++ rel2S)), is (.pointer (some ⟨w.heap.size + 1, 4, none⟩)), is (.pointer (some ⟨w.heap.size + 1, 4, none⟩)), is (.int .i64 sp), is (.string (ita sp)), is (.string (y ++ rel2S ++ ita sp)), is (.string (y ++ rel2S ++ ita sp ++ spS)), is (.pointer (some ⟨w.heap.size + 1, 4, none⟩)), is (.pointer (some ⟨w.heap.size + 1, 5, none⟩)), is (.int .i64 wt), is (.string (ita wt)), is (.string (y ++ rel2S ++ ita sp ++ spS ++ ita wt)), is (.string (y ++ rel2S ++ ita sp ++ spS ++ ita wt ++ spS)), is (.pointer (some ⟨w.heap.size + 1, 4, none⟩)), is (.pointer (some ⟨w.heap.size + 1, 6, none⟩)), is (.int .i64 rs), is (.string (ita rs)), is (.string (y ++ rel2S ++ ita sp ++ spS ++ ita wt ++ spS ++ ita rs)), is (.string (y ++ rel2S ++ ita sp ++ spS ++ ita wt ++ spS ++ ita rs))] (by kernel_rfl) (by kernel_rfl) rfl (by decide) ?hst ?h0 ?hop ?htail
  case hst =>
    simp only [List.mem_cons, List.mem_nil_iff, or_false, forall_eq_or_imp, forall_eq]
    exact ⟨is_stable _, is_stable _, is_stable _, is_stable _, is_stable _, is_stable _, is_stable _, is_stable _, is_stable _, is_stable _, is_stable _, is_stable _, is_stable _, is_stable _, is_stable _, is_stable _, is_stable _, is_stable _, is_stable _, is_stable _⟩
  case h0 => exact (Below.refl _ _).drew
  case hop =>
    refine ⟨?_, ?_, ?_, ?_, ?_, ?_, ?_, ?_, ?_, ?_, ?_, ?_, ?_, ?_, ?_, ?_, ?_, ?_, ?_, ?_, trivial⟩
    · exact ok_move (.tmp 5) (is (.string y)) rfl (by kernel_rfl) (fun _ _ _ h => h)
    · exact ok_tc 30 (.string rel2S) (.string (y)) (.string (y ++ rel2S)) rfl (by kernel_rfl) (fun a wa _ e1 => by have := Z.out; go_simp; first | omega | (rw [if_neg (by omega)]; rfl)) rfl
    · exact ok_field 38 (.tmp 3) 3 (.pointer (some ⟨w.heap.size + 1, 0, none⟩)) (.pointer (some ⟨w.heap.size + 1, 4, none⟩)) rfl (by kernel_rfl) (fun w => by kernel_rfl) rfl
    · exact ok_field 36 (.tmp 32) 0 (.pointer (some ⟨w.heap.size + 1, 4, none⟩)) (.pointer (some ⟨w.heap.size + 1, 4, none⟩)) rfl (by kernel_rfl) (fun w => by kernel_rfl) rfl
    · exact ok_load 3 (.tmp 33) (.pointer (some ⟨w.heap.size + 1, 4, none⟩)) (.int .i64 sp) rfl (by kernel_rfl) (fun wa hC => run_load1 wa (by kernel_rfl) (CA2.out wa hC 4 _ rfl)) rfl
    · exact ok_callF 21 [.tmp 34] _ [.int .i64 sp] rfl (fun _ _ => by kernel_rfl) ⟨by kernel_rfl, trivial⟩ (C3.out)
    · exact ok_t2 31 35 (.string (y ++ rel2S)) (.string (ita sp)) (.string (y ++ rel2S ++ ita sp)) rfl (by kernel_rfl) (by kernel_rfl) (fun a wa _ e1 e2 => by have := Z.out; go_simp; first | omega | (rw [if_neg (by omega)]; rfl)) rfl
    · exact ok_tc 36 (.string spS) (.string (y ++ rel2S ++ ita sp)) (.string (y ++ rel2S ++ ita sp ++ spS)) rfl (by kernel_rfl) (fun a wa _ e1 => by have := Z.out; go_simp; first | omega | (rw [if_neg (by omega)]; rfl)) rfl
    · exact ok_field 38 (.tmp 3) 3 (.pointer (some ⟨w.heap.size + 1, 0, none⟩)) (.pointer (some ⟨w.heap.size + 1, 4, none⟩)) rfl (by kernel_rfl) (fun w => by kernel_rfl) rfl
    · exact ok_field 36 (.tmp 38) 1 (.pointer (some ⟨w.heap.size + 1, 4, none⟩)) (.pointer (some ⟨w.heap.size + 1, 5, none⟩)) rfl (by kernel_rfl) (fun w => by kernel_rfl) rfl
    · exact ok_load 3 (.tmp 39) (.pointer (some ⟨w.heap.size + 1, 5, none⟩)) (.int .i64 wt) rfl (by kernel_rfl) (fun wa hC => run_load1 wa (by kernel_rfl) (CA2.out wa hC 5 _ rfl)) rfl
    · exact ok_callF 21 [.tmp 40] _ [.int .i64 wt] rfl (fun _ _ => by kernel_rfl) ⟨by kernel_rfl, trivial⟩ (C4.out)
    · exact ok_t2 37 41 (.string (y ++ rel2S ++ ita sp ++ spS)) (.string (ita wt)) (.string (y ++ rel2S ++ ita sp ++ spS ++ ita wt)) rfl (by kernel_rfl) (by kernel_rfl) (fun a wa _ e1 e2 => by have := Z.out; go_simp; first | omega | (rw [if_neg (by omega)]; rfl)) rfl
    · exact ok_tc 42 (.string spS) (.string (y ++ rel2S ++ ita sp ++ spS ++ ita wt)) (.string (y ++ rel2S ++ ita sp ++ spS ++ ita wt ++ spS)) rfl (by kernel_rfl) (fun a wa _ e1 => by have := Z.out; go_simp; first | omega | (rw [if_neg (by omega)]; rfl)) rfl
    · exact ok_field 38 (.tmp 3) 3 (.pointer (some ⟨w.heap.size + 1, 0, none⟩)) (.pointer (some ⟨w.heap.size + 1, 4, none⟩)) rfl (by kernel_rfl) (fun w => by kernel_rfl) rfl
    · exact ok_field 36 (.tmp 44) 2 (.pointer (some ⟨w.heap.size + 1, 4, none⟩)) (.pointer (some ⟨w.heap.size + 1, 6, none⟩)) rfl (by kernel_rfl) (fun w => by kernel_rfl) rfl
    · exact ok_load 3 (.tmp 45) (.pointer (some ⟨w.heap.size + 1, 6, none⟩)) (.int .i64 rs) rfl (by kernel_rfl) (fun wa hC => run_load1 wa (by kernel_rfl) (CA2.out wa hC 6 _ rfl)) rfl
    · exact ok_callF 21 [.tmp 46] _ [.int .i64 rs] rfl (fun _ _ => by kernel_rfl) ⟨by kernel_rfl, trivial⟩ (C5.out)
    · exact ok_t2 43 47 (.string (y ++ rel2S ++ ita sp ++ spS ++ ita wt ++ spS)) (.string (ita rs)) (.string (y ++ rel2S ++ ita sp ++ spS ++ ita wt ++ spS ++ ita rs)) rfl (by kernel_rfl) (by kernel_rfl) (fun a wa _ e1 e2 => by have := Z.out; go_simp; first | omega | (rw [if_neg (by omega)]; rfl)) rfl
    · exact ok_assign (.tmp 48) (is (.string (y ++ rel2S ++ ita sp ++ spS ++ ita wt ++ spS ++ ita rs))) rfl (by kernel_rfl) (fun _ _ _ h => h)
  case htail =>
  intro τ w3 hC3 hR
  have r19 : τ 19 = .string (y ++ rel2S ++ ita sp ++ spS ++ ita wt ++ spS ++ ita rs) := hR 19 (by decide)
  simp only [putAll, List.getElem?_toArray, List.getElem?_cons_succ, List.getElem?_cons_zero, Option.bind_some, Act.put, List.setIfInBounds_toArray, List.set_cons_succ, List.set_cons_zero, List.drop_succ_cons, List.drop_zero, r19]
  clear r19 hR
  have hB3 : Below w.heap.size w w3 := hB2.trans (hC3.mono hB2.size)
  obtain ⟨y2, hy⟩ : ∃ y2, y2 = lineA p ⟨n, act, side, true, sp, wt, rs⟩ := ⟨_, rfl⟩
  have hy2 : y2 = y ++ rel2S ++ ita sp ++ spS ++ ita wt ++ spS ++ ita rs := by rw [hy, HL2.out]; simp
  rw [← hy2]
  have HY := Lib.hid hy
  clear hy hy2
  go_wp2_with fail
  go_ret
  exact ⟨ret_str HY.out, hB3⟩
end Go.Proofs.YtolmehmglgmanaaGreatDoor
