/- The lines of answers: the walks of answer and Answers. -/
import Derived.Test.YtolmehmglgmanaaGreatDoorCase
import Derived.Test.YtolmehmglgmanaaGreatDoorFound
namespace Go.Proofs.YtolmehmglgmanaaGreatDoor
open Go.RowKit

def caseS : ByteArray := ⟨#[99, 97, 115, 101, 32]⟩
def sideS : ByteArray := ⟨#[32, 115, 105, 100, 101]⟩
def reliefS : ByteArray := ⟨#[32, 114, 101, 108, 105, 101, 102]⟩
def aloneS : ByteArray := ⟨#[32, 97, 108, 111, 110, 101]⟩
def headA (s : ByteArray) (a : An) : ByteArray := wordsS (caseS ++ s) [a.act] ++ wordsS sideS [a.side]
def lineN (s : ByteArray) (a : An) : ByteArray := if a.rel = true then headA s a ++ wordsS reliefS [a.spare, a.wait, a.rise] else headA s a ++ aloneS
def lineA (p : Pr) (a : An) : ByteArray := lineN (p.names.getD a.ac.toNat ByteArray.empty) a
def fitA (a : An) : Prop := fits a.ac ∧ fits a.act ∧ fits a.side ∧ fits a.spare ∧ fits a.wait ∧ fits a.rise
theorem str_size (w : World) : (sizeOf 9).run Tryz.prog w = .ok 1 w := by kernel_rfl
set_option maxRecDepth 100000 in
set_option maxHeartbeats 2000000 in
theorem answer_any (p : Pr) (vn vh va : Value) (a : An) (w : World) (hp : ProgAt w w.heap.size vn vh va p) (ht : Tab w) (h0 : 0 ≤ a.ac) (h1 : a.ac < (p.names.length : Int)) (hs : (p.names.getD a.ac.toNat ByteArray.empty).size ≤ 1000) (hn : p.names.length ≤ 1000000) (hfit : fitA a) :
    Calls Tryz.prog 23 #[.agg #[vn, vh, va], a.val] w fun e w' => e = .returned (.string (lineA p a)) ∧ Below w.heap.size w w' := by
  obtain ⟨csA, ha, hacts⟩ := hp.acts
  obtain ⟨Aa, ca, rfl⟩ := ha.slice
  obtain ⟨Ah, ch, rfl⟩ := hp.homes.slice
  clear ha hacts
  obtain ⟨bn, on, cn, rfl, _, hbn, hcn⟩ := hp.names.pos (by omega)
  clear hp
  obtain ⟨ac, act, side, rel, sp, wt, rs⟩ := a
  simp only at h0 h1 hs
  obtain ⟨n, rfl⟩ : ∃ n : Nat, ac = (n : Int) := ⟨ac.toNat, by omega⟩
  have hlt : n < p.names.length := by omega
  have hname : w.cell? ⟨bn, on + n * 1, none⟩ = some (.string (p.names.getD n ByteArray.empty)) := by rw [Nat.mul_one]; exact hcn n _ (strs_getD _ _ hlt)
  simp only [Int.toNat_natCast] at hs
  have HL : Hid (lineA p ⟨n, act, side, rel, sp, wt, rs⟩ = lineN (p.names.getD n ByteArray.empty) ⟨n, act, side, rel, sp, wt, rs⟩) := rfl
  clear hcn
  obtain ⟨⟨f1, f2⟩, ⟨f3, f4⟩, ⟨f5, f6⟩, ⟨f7, f8⟩, ⟨f9, f10⟩, ⟨f11, f12⟩⟩ := hfit
  simp only at f1 f2 f3 f4 f5 f6 f7 f8 f9 f10 f11 f12
  generalize p.names.getD n ByteArray.empty = s at *
  generalize p.names.length = nl at *
  have z1 := wordsS_size (caseS ++ s) [act] (by simp [fits]; omega)
  have z2 := wordsS_size sideS [side] (by simp [fits]; omega)
  have z3 := wordsS_size reliefS [sp, wt, rs] (by simp [fits]; omega)
  have z4 : (caseS ++ s).size = 5 + s.size := by simp [ByteArray.size_append]; rfl
  have z5 : sideS.size = 5 := rfl
  have z6 : reliefS.size = 7 := rfl
  have z7 : caseS.size = 5 := rfl
  simp only [List.length_cons, List.length_nil] at z1 z2 z3
  have Z := Lib.hid (And.intro z1 (And.intro z2 (And.intro z3 (And.intro z4 (And.intro z5 (And.intro z6 z7))))))
  clear z1 z2 z3 z4 z5 z6 z7
  simp only [An.val]
  go_enter Tryz.func23, Tryz.ntmps23
  go_wp2_with fail
  obtain ⟨W, hW⟩ : ∃ W, W = (w.alloc (.cells #[.slice (some ⟨bn, on, none⟩) nl cn, .slice Ah p.homes.length ch, .slice Aa p.acts.length ca] 26)).alloc (.cells #[.int .i64 (n : Int), .int .i64 act, .int .i64 side, .bool rel, .int .i64 sp, .int .i64 wt, .int .i64 rs] 38) := ⟨_, rfl⟩
  rw [← hW]
  have hzW : W.heap.size = w.heap.size + 2 := by rw [hW]; simp
  have hbW : Below w.heap.size w W := by rw [hW]; exact ((Below.refl _ _).alloc (Nat.le_refl _) _).alloc (by simp) _
  have hB1 : W.heap[w.heap.size]? = some (.cells #[.slice (some ⟨bn, on, none⟩) nl cn, .slice Ah p.homes.length ch, .slice Aa p.acts.length ca] 26 (0, 0)) := by rw [hW, Below.heap_alloc _ _ _ (by simp)]; exact World.alloc_heap_new _ _
  have hB2 : W.heap[w.heap.size + 1]? = some (.cells #[.int .i64 (n : Int), .int .i64 act, .int .i64 side, .bool rel, .int .i64 sp, .int .i64 wt, .int .i64 rs] 38 (0, 0)) := by rw [hW]; exact heap_new _ _ _ (by simp)
  have hnW : W.cell? ⟨bn, on + n * 1, none⟩ = some (.string s) := (hbW.cell (p := ⟨bn, on + n * 1, none⟩) hbn).trans hname
  have CP : Hid (∀ wa, Below W.heap.size W wa → ∀ j u, [Value.slice (some ⟨bn, on, none⟩) nl cn, .slice Ah p.homes.length ch, .slice Aa p.acts.length ca][j]? = some u → wa.cell? ⟨w.heap.size, j, none⟩ = some u) := fun wa hC j u hu => by
    rw [hC.cell (p := ⟨w.heap.size, j, none⟩) (Array.getElem?_eq_some_iff.1 hB1).1, World.cell?, hB1]
    simpa using hu
  have CA : Hid (∀ wa, Below W.heap.size W wa → ∀ j u, [Value.int .i64 (n : Int), .int .i64 act, .int .i64 side, .bool rel, .int .i64 sp, .int .i64 wt, .int .i64 rs][j]? = some u → wa.cell? ⟨w.heap.size + 1, j, none⟩ = some u) := fun wa hC j u hu => by
    rw [hC.cell (p := ⟨w.heap.size + 1, j, none⟩) (Array.getElem?_eq_some_iff.1 hB2).1, World.cell?, hB2]
    simpa using hu
  have CN : Hid (∀ wa, Below W.heap.size W wa → wa.cell? ⟨bn, on + n * 1, none⟩ = some (.string s)) := fun wa hC => (hC.cell (p := ⟨bn, on + n * 1, none⟩) (show bn < _ by omega)).trans hnW
  have htr := ht.up hbW
  clear hW hB1 hB2 hnW hname
  refine region_list 18 41 (fun w' => Below W.heap.size W w') [is (.pointer (some ⟨w.heap.size, 0, none⟩)), is (.slice (some ⟨bn, on, none⟩) nl cn), is (.pointer (some ⟨w.heap.size + 1, 0, none⟩)), is (.pointer (some ⟨w.heap.size + 1, 0, none⟩)), is (.int .i64 (n : Int)), is (.pointer (some ⟨bn, on + n * 1, none⟩)), is (.string s), is (.string (caseS ++ s)), is (.pointer (some ⟨w.heap.size + 1, 0, none⟩)), is (.pointer (some ⟨w.heap.size + 1, 1, none⟩)), is (.int .i64 act), RowW W.heap.size 3 (ints [act]), is (.string (wordsS (caseS ++ s) [act])), is (.pointer (some ⟨w.heap.size + 1, 2, none⟩)), is (.int .i64 side), RowW W.heap.size 3 (ints [side]), is (.string (wordsS sideS [side])), is (.string (wordsS (caseS ++ s) [act] ++ wordsS sideS [side]))] (by kernel_rfl) (by kernel_rfl) rfl (by decide) ?hst ?h0 ?hop ?htail
  case hst =>
    simp only [List.mem_cons, List.mem_nil_iff, or_false, forall_eq_or_imp, forall_eq]
    exact ⟨is_stable _, is_stable _, is_stable _, is_stable _, is_stable _, is_stable _, is_stable _, is_stable _, is_stable _, is_stable _, is_stable _, rowW_stable _ _ _, is_stable _, is_stable _, is_stable _, rowW_stable _ _ _, is_stable _, is_stable _⟩
  case h0 => exact (Below.refl _ _).drew
  case hop =>
    refine ⟨?_, ?_, ?_, ?_, ?_, ?_, ?_, ?_, ?_, ?_, ?_, ?_, ?_, ?_, ?_, ?_, ?_, ?_, trivial⟩
    · exact ok_field 26 (.tmp 2) 0 (.pointer (some ⟨w.heap.size, 0, none⟩)) (.pointer (some ⟨w.heap.size, 0, none⟩)) rfl (by kernel_rfl) (fun w => by kernel_rfl) rfl
    · exact ok_load 22 (.tmp 6) (.pointer (some ⟨w.heap.size, 0, none⟩)) (.slice (some ⟨bn, on, none⟩) nl cn) rfl (by kernel_rfl) (fun wa hC => run_load1 wa (Tryz.isAgg22 wa) (CP.out wa hC 0 _ rfl)) rfl
    · exact ok_field 38 (.tmp 3) 0 (.pointer (some ⟨w.heap.size + 1, 0, none⟩)) (.pointer (some ⟨w.heap.size + 1, 0, none⟩)) rfl (by kernel_rfl) (fun w => by kernel_rfl) rfl
    · exact ok_field 34 (.tmp 8) 0 (.pointer (some ⟨w.heap.size + 1, 0, none⟩)) (.pointer (some ⟨w.heap.size + 1, 0, none⟩)) rfl (by kernel_rfl) (fun w => by kernel_rfl) rfl
    · exact ok_load 3 (.tmp 9) (.pointer (some ⟨w.heap.size + 1, 0, none⟩)) (.int .i64 (n : Int)) rfl (by kernel_rfl) (fun wa hC => run_load1 wa (Tryz.isAgg3 wa) (CA.out wa hC 0 _ rfl)) rfl
    · exact ok_index 22 9 7 10 bn on nl cn 1 (n : Int) n rfl (by kernel_rfl) (by kernel_rfl) Tryz.underlying22 str_size rfl (by omega) rfl
    · exact ok_load 9 (.tmp 11) (.pointer (some ⟨bn, on + n * 1, none⟩)) (.string s) rfl (by kernel_rfl) (fun wa hC => run_load1 wa (Tryz.isAgg9 wa) (CN.out wa hC)) rfl
    · exact ok_ct 12 (.string caseS) (.string s) (.string (caseS ++ s)) rfl (by kernel_rfl) (fun a wa _ h1 => by have := Z.out; go_simp; rw [if_neg (by omega)]; rfl) rfl
    · exact ok_field 38 (.tmp 3) 0 (.pointer (some ⟨w.heap.size + 1, 0, none⟩)) (.pointer (some ⟨w.heap.size + 1, 0, none⟩)) rfl (by kernel_rfl) (fun w => by kernel_rfl) rfl
    · exact ok_field 34 (.tmp 14) 1 (.pointer (some ⟨w.heap.size + 1, 0, none⟩)) (.pointer (some ⟨w.heap.size + 1, 1, none⟩)) rfl (by kernel_rfl) (fun w => by kernel_rfl) rfl
    · exact ok_load 3 (.tmp 15) (.pointer (some ⟨w.heap.size + 1, 1, none⟩)) (.int .i64 act) rfl (by kernel_rfl) (fun wa hC => run_load1 wa (Tryz.isAgg3 wa) (CA.out wa hC 1 _ rfl)) rfl
    · exact ok_row1 3 16 (.int .i64 act) rfl (by kernel_rfl) (fun a wa h1 => by go_simp) rfl
    · exact ok_call2 30 (.tmp 13) (.tmp 17) _ (is (.string (caseS ++ s))) (RowW W.heap.size 3 (ints [act])) rfl (fun _ _ => by kernel_rfl) (by kernel_rfl) (by kernel_rfl) (words_ok W htr _ _ (by have := Z.out; omega) (by simp) (by simp [fits]; omega))
    · exact ok_field 38 (.tmp 3) 1 (.pointer (some ⟨w.heap.size + 1, 0, none⟩)) (.pointer (some ⟨w.heap.size + 1, 2, none⟩)) rfl (by kernel_rfl) (fun w => by kernel_rfl) rfl
    · exact ok_load 3 (.tmp 19) (.pointer (some ⟨w.heap.size + 1, 2, none⟩)) (.int .i64 side) rfl (by kernel_rfl) (fun wa hC => run_load1 wa (Tryz.isAgg3 wa) (CA.out wa hC 2 _ rfl)) rfl
    · exact ok_row1 3 20 (.int .i64 side) rfl (by kernel_rfl) (fun a wa h1 => by go_simp) rfl
    · exact ok_call2 30 (.const (.string sideS)) (.tmp 21) _ (is (.string sideS)) (RowW W.heap.size 3 (ints [side])) rfl (fun _ _ => by kernel_rfl) (by kernel_rfl) (by kernel_rfl) (words_ok W htr _ _ (by decide) (by simp) (by simp [fits]; omega))
    · exact ok_t2 18 22 (.string (wordsS (caseS ++ s) [act])) (.string (wordsS sideS [side])) (.string (wordsS (caseS ++ s) [act] ++ wordsS sideS [side])) rfl (by kernel_rfl) (by kernel_rfl) (fun a wa _ e1 e2 => by have := Z.out; go_simp; omega) rfl
  case htail =>
    intro τ w2 hC hR
    have r17 : τ 17 = .string (wordsS (caseS ++ s) [act] ++ wordsS sideS [side]) := hR 17 (by decide)
    simp only [putAll, List.getElem?_toArray, List.getElem?_cons_succ, List.getElem?_cons_zero, Option.bind_some, Act.put, List.setIfInBounds_toArray, List.set_cons_succ, List.set_cons_zero, List.drop_succ_cons, List.drop_zero, r17]
    clear r17 hR
    have hB2 : Below w.heap.size w w2 := hbW.trans (hC.mono hbW.size)
    have q0 := CA.out w2 hC 3 _ rfl
    have q1 := CA.out w2 hC 4 _ rfl
    have q2 := CA.out w2 hC 5 _ rfl
    have q3 := CA.out w2 hC 6 _ rfl
    have hzz : (wordsS (caseS ++ s) [act] ++ wordsS sideS [side]).size ≤ 1100 := by
      have := Z.out
      rw [ByteArray.size_append]; omega
    have HL2 : Hid (lineA p ⟨n, act, side, rel, sp, wt, rs⟩ = if rel = true then (wordsS (caseS ++ s) [act] ++ wordsS sideS [side]) ++ wordsS reliefS [sp, wt, rs] else (wordsS (caseS ++ s) [act] ++ wordsS sideS [side]) ++ aloneS) := HL.out
    generalize wordsS (caseS ++ s) [act] ++ wordsS sideS [side] = y at *
    cases rel with
    | false =>
      go_wp2_with fail
      go_ret
      rw [HL2.out]
      exact ⟨rfl, hB2⟩
    | true =>
      go_wp2_with fail
      refine (words_any reliefS [sp, wt, rs] _ w2.heap.size (w2.heap.size + 1) _ (Sees.new1 w2 _ 3 _ _ _ 1 _ rfl rfl (Nat.le_refl _) (by omega)) (by simp) (htr.up hC |>.up ((Below.refl _ _).alloc (Nat.le_refl _) _)) (by decide) (by simp) (by simp [fits]; omega)).mono ?_
      rintro e w3 ⟨rfl, hb3⟩
      have z3 := Z.out.2.2.1
      have z6 := Z.out.2.2.2.2.2.1
      have hB3 : Below w.heap.size w w3 := hB2.trans (((Below.refl _ _).alloc (Nat.le_refl _) _).trans (hb3.mono (by simp)) |>.mono hB2.size)
      generalize wordsS reliefS [sp, wt, rs] = y2 at *
      have z7 : y2.size ≤ 73 := by omega
      clear z3 z6
      go_wp2_with fail
      go_ret
      rw [HL2.out]
      exact ⟨rfl, hB3⟩
def An.cells (a : An) : List Value := [.int .i64 a.ac, .int .i64 a.act, .int .i64 a.side, .bool a.rel, .int .i64 a.spare, .int .i64 a.wait, .int .i64 a.rise]
def ans (l : List An) : List Value := l.flatMap An.cells
theorem ans_at : ∀ (l : List An) (k : Nat) (h : k < l.length) (j : Nat) (u : Value), (l[k].cells)[j]? = some u → (ans l)[k * 7 + j]? = some u
  | v :: l, 0, _, j, u, hu => by
    show (v.cells ++ ans l)[0 * 7 + j]? = some u
    rw [Nat.zero_mul, Nat.zero_add, List.getElem?_append_left]
    · exact hu
    · exact (List.getElem?_eq_some_iff.1 hu).1
  | v :: l, k + 1, h, j, u, hu => by
    have := ans_at l k (by simpa using h) j u hu
    show (v.cells ++ ans l)[(k + 1) * 7 + j]? = some u
    rw [List.getElem?_append_right (by simp [An.cells]; omega), ← this]
    congr 1
    simp [An.cells]
    omega
def okA (p : Pr) (l : List An) : Bool := validB p && l.all (writtenB p)
def AnsPost (w : World) (p : Pr) (l : List An) (e : Ending) (w' : World) : Prop :=
  Below w.heap.size w w' ∧ if okA p l = true then ∃ v, e = .returned (.tuple #[v, .int .i64 0]) ∧ Sees w' w.heap.size w'.heap.size 1 v l.length (strs (l.map (lineA p)))
    else e = .returned (.tuple #[.slice none 0 0, .int .i64 2])
theorem AnsPost.no {w w' : World} {p : Pr} {l : List An} (h : okA p l = false) (hb : Below w.heap.size w w') : AnsPost w p l (.returned (.tuple #[.slice none 0 0, .int .i64 2])) w' := by
  unfold AnsPost; rw [h]; exact ⟨hb, rfl⟩
theorem okA_at {p : Pr} {l : List An} {k : Nat} (hk : k < l.length) (h : writtenB p l[k] = false) : okA p l = false := by
  have : l.all (writtenB p) = false := by rw [List.all_eq_false]; exact ⟨_, List.getElem_mem hk, by simp [h]⟩
  unfold okA; rw [this]; simp
theorem name_small {p : Pr} {a : An} (h : writtenB p a = true) : 0 ≤ a.ac ∧ a.ac < (p.names.length : Int) ∧ (p.names.getD a.ac.toNat ByteArray.empty).size ≤ 1000 ∧ p.names.length ≤ 64 := by
  unfold writtenB caseB at h
  simp only [Bool.and_eq_true, decide_eq_true_eq] at h
  obtain ⟨⟨⟨⟨⟨hv, h1⟩, h2⟩, _⟩, _⟩, _⟩ := h
  refine ⟨h1, h2, ?_, names_le hv⟩
  unfold validB crewB at hv
  simp only [Bool.and_eq_true, decide_eq_true_eq] at hv
  have hc := List.all_eq_true.1 hv.1.1.2 a.ac.toNat (List.mem_range.2 (by omega))
  unfold crewAt nameB at hc
  simp only [Bool.and_eq_true, decide_eq_true_eq] at hc
  omega
set_option maxRecDepth 100000 in
set_option maxHeartbeats 2000000 in
theorem answers_any (p : Pr) (vn vh va : Value) (l : List An) (vl : Value) (lo hi : Nat) (w : World) (hp : ProgAt w w.heap.size vn vh va p) (ho : PrOk p) (hl : Sees w lo hi 7 vl l.length (ans l)) (hhi : hi ≤ w.heap.size) (ht : Tab w) (hlen : l.length ≤ 1000000) (hfit : ∀ a ∈ l, fitA a) :
    Calls Tryz.prog 11 #[.agg #[vn, vh, va], vl] w (AnsPost w p l) := by
  obtain ⟨A, c, rfl⟩ := hl.slice
  obtain ⟨i0, hi0, hz0, hz1, hz2⟩ := info_parts str_info
  obtain ⟨A1, cn, rfl⟩ := hp.names.slice
  obtain ⟨Ah, ch, rfl⟩ := hp.homes.slice
  obtain ⟨csA, ha, hacts⟩ := hp.acts
  obtain ⟨Aa, ca, rfl⟩ := ha.slice
  clear ha hacts
  have HL := Lib.hid hl
  have HF := Lib.hid hfit
  clear hl hfit
  go_enter Tryz.func11, Tryz.ntmps11
  go_wp2_with fail
  refine (valid_ok p _ _ _ _ (hp.up ((Below.refl _ _).alloc (Nat.le_refl _) _)) ho).mono ?_
  rintro e w1 ⟨rfl, hb1⟩
  have hB : Below w.heap.size w w1 := ((Below.refl _ _).alloc (Nat.le_refl _) _).trans (hb1.mono (by simp))
  have hBlk : w1.heap[w.heap.size]? = some (.cells #[.slice A1 p.names.length cn, .slice Ah p.homes.length ch, .slice Aa p.acts.length ca] 26 (0, 0)) := (hb1.block _ (by simp)).trans (heap_alloc_new _ _)
  cases hv : validB p with
  | false =>
    have HN := Lib.hid (AnsPost.no (w := w) (w' := w1) (p := p) (l := l) (by unfold okA; rw [hv]; rfl) hB)
    clear hv hBlk
    go_wp2_with fail
    go_ret2
    exact HN.out
  | true =>
  have HV := Lib.hid hv
  have HBLK := Lib.hid hBlk
  clear hv hBlk
  have hbs := hB.size
  have hlt1 : w.heap.size + 1 ≤ w1.heap.size := by have := hb1.size; simpa using this
  go_wp2_with fail
  go_loopw [6, 14] (fun v i wr => ∃ k : Nat, k ≤ l.length ∧ i = .int .i64 k ∧ wr.ownsRow (w.heap.size + 1) 9 1 v k (strs ((l.take k).map (lineA p))) ∧ Below (w.heap.size + 1) w1 wr ∧ (l.take k).all (writtenB p) = true) (fun _ i _ => l.length - (intOf i).toNat)
  case atStart => exact ⟨0, Nat.zero_le _, rfl, ⟨rfl, .inl ⟨rfl, rfl⟩⟩, Below.refl _ _, rfl⟩
  case round =>
    obtain ⟨k, hk, rfl, hown, hb, hj⟩ := hrel
    have HJ := Lib.hid hj
    have HO := Lib.hid hown
    clear hj hown
    have hbw : Below w.heap.size w wr := hB.trans (hb.mono (by omega))
    have hblk : wr.heap[w.heap.size]? = some (.cells #[.slice A1 p.names.length cn, .slice Ah p.homes.length ch, .slice Aa p.acts.length ca] 26 (0, 0)) := (hb.block _ (by omega)).trans HBLK.out
    have c0 : wr.cell? ⟨w.heap.size, 0, none⟩ = some (.slice A1 p.names.length cn) := by rw [World.cell?, hblk]; rfl
    have c1 : wr.cell? ⟨w.heap.size, 1, none⟩ = some (.slice Ah p.homes.length ch) := by rw [World.cell?, hblk]; rfl
    have c2 : wr.cell? ⟨w.heap.size, 2, none⟩ = some (.slice Aa p.acts.length ca) := by rw [World.cell?, hblk]; rfl
    have hwr : w.heap.size < wr.heap.size := (Array.getElem?_eq_some_iff.1 hblk).1
    have HBK := Lib.hid hblk
    clear hblk
    by_cases hlt : k < l.length
    · obtain ⟨ba, oa, ca', ea, _, hb2, hca⟩ := HL.out.pos (by omega)
      cases ea
      have hat := ans_at l k hlt
      have hfk := HF.out _ (List.getElem_mem hlt)
      have hcell : ∀ j u, (l[k].cells)[j]? = some u → wr.cell? ⟨ba, oa + k * 7 + j, none⟩ = some u := fun j u hu => by
        have := hca _ u (hat j u hu)
        rw [← Nat.add_assoc] at this
        exact (hbw.cell (p := ⟨ba, oa + k * 7 + j, none⟩) (show ba < _ by omega)).trans this
      have HNO := Lib.hid (fun (h : writtenB p l[k] = false) (w' : World) (hb' : Below w.heap.size w w') => AnsPost.no (w := w) (okA_at hlt h) hb')
      have HS := Lib.hid (show (l.take (k + 1)).map (lineA p) = (l.take k).map (lineA p) ++ [lineA p l[k]] by rw [List.take_succ_eq_append_getElem hlt, List.map_append]; rfl)
      have HA := Lib.hid (show writtenB p l[k] = true → (l.take (k + 1)).all (writtenB p) = true by intro h; rw [List.take_succ_eq_append_getElem hlt, List.all_append, HJ.out]; simp [h])
      clear hca hat
      generalize l[k] = a at *
      have g0 : wr.cell? ⟨ba, oa + k * 7, none⟩ = some (.int .i64 a.ac) := hcell 0 _ rfl
      have g1 : wr.cell? ⟨ba, oa + k * 7 + 1, none⟩ = some (.int .i64 a.act) := hcell 1 _ rfl
      have g2 : wr.cell? ⟨ba, oa + k * 7 + 2, none⟩ = some (.int .i64 a.side) := hcell 2 _ rfl
      have g3 : wr.cell? ⟨ba, oa + k * 7 + 3, none⟩ = some (.bool a.rel) := hcell 3 _ rfl
      have g4 : wr.cell? ⟨ba, oa + k * 7 + 4, none⟩ = some (.int .i64 a.spare) := hcell 4 _ rfl
      have g5 : wr.cell? ⟨ba, oa + k * 7 + 5, none⟩ = some (.int .i64 a.wait) := hcell 5 _ rfl
      have g6 : wr.cell? ⟨ba, oa + k * 7 + 6, none⟩ = some (.int .i64 a.rise) := hcell 6 _ rfl
      clear hcell
      go_wp2_with fail
      refine (written_any p _ _ _ a _ (hp.up (hbw.trans (((Below.refl _ _).alloc (Nat.le_refl _) _).mono hbw.size))) ho).mono ?_
      rintro e w2 ⟨rfl, hb2'⟩
      have hB1 : Below (w.heap.size + 1) w1 w2 := hb.trans (((Below.refl _ _).alloc (Nat.le_refl _) _).trans (hb2'.mono (by simp)) |>.mono (by omega))
      have hB2 : Below w.heap.size w w2 := hB.trans (hB1.mono (by omega))
      cases hfd : writtenB p a with
      | false =>
        have HP := Lib.hid (HNO.out hfd w2 hB2)
        clear hfd
        go_wp2_with fail
        go_ret2
        exact HP.out
      | true =>
        obtain ⟨n1, n2, n3, n4⟩ := name_small hfd
        have HA2 := Lib.hid (HA.out hfd)
        have hgr : wr.grownBy w2 none := ⟨hb2'.os, hb2'.tape, hb2'.output, by have := hb2'.size; simp at this; omega, fun i hi _ => (hb2'.block i (by simp; omega)).trans (Below.heap_alloc _ _ _ hi)⟩
        have HO1 := Lib.hid (HO.out.kept hgr (by cases u6.ownBlock with | none => exact .inl rfl | some k => exact .inr (by simp)))
        have hgs := hgr.size
        obtain ⟨hc, hf⟩ := bcell hb2'
        have HP2 := Lib.hid (hp.up hB2)
        have htr := ht.up hB2
        have HN1 := Lib.hid (And.intro n1 (And.intro n2 n3))
        clear hfd hgr n1 n2 n3
        go_wp2_with fail
        refine (answer_any p _ _ _ a _ HP2.out htr HN1.out.1 HN1.out.2.1 HN1.out.2.2 (by omega) hfk).mono ?_
        rintro e w3 ⟨rfl, hb3⟩
        have hB3 : Below (w.heap.size + 1) w1 w3 := hB1.trans (hb3.mono (by omega))
        have ho2 := HO1.out.kept (row := none) (w' := w3.alloc (.cells #[.string (lineA p a)] 9)) ⟨hb3.os, hb3.tape, hb3.output, by have := hb3.size; simp; omega, fun i hi _ => (Below.heap_alloc _ _ _ (by have := hb3.size; omega)).trans (hb3.block i hi)⟩ (by cases u6.ownBlock with | none => exact .inl rfl | some k => exact .inr (by simp))
        have HO2 := Lib.hid ho2
        have h3s := hb3.size
        clear ho2
        generalize lineA p a = y at *
        go_wp2_with (at_builtin; refine wpList_append_sees rfl (.tmp 22) (.tmp 26) 22 rfl (w.heap.size + 1) 9 i0 _ 1 16 Tryz.underlying22 hi0 hz0 hz1 hz2 rfl (by decide) _ _ _ rfl HO2.out _ _ _ _ rfl (Sees.new1 w3 [.string y] 1 _ w3.heap.size (w3.heap.size + 1) 1 _ rfl rfl (Nat.le_refl _) (by omega)) ?c1 ?c2 ?c3 ?c4 ?_)
        case c1 => intro u hu; simp only [List.mem_singleton] at hu; subst hu; rfl
        case c2 => unfold maxLen; omega
        case c3 => omega
        case c4 => simp; omega
        intro v' w4 hown3 hg3 _
        have hb4 : Below (w.heap.size + 1) w1 w4 := (hB3.trans (((Below.refl _ _).alloc (Nat.le_refl _) _).mono (by omega))).grown hg3 (by simp; omega) (fun g hg => (HO2.out.lt g hg).1)
        have H3 := Lib.hid hown3
        clear hown3 hg3
        go_wp2_with fail
        go_roundw
        case rel => 
          refine ⟨k + 1, by omega, by go_num, ?_, hb4, HA2.out⟩
          rw [HS.out, ← strs_append]
          have := H3.out
          rw [← List.map_take] at this
          exact this
        case measure => simp [intOf]; omega
    · go_wp2_with fail
      obtain rfl : k = l.length := by omega
      go_ret2
      refine ⟨hbw, ?_⟩
      have h1 := HJ.out
      rw [List.take_length] at h1
      rw [if_pos (by unfold okA; rw [HV.out, h1]; rfl)]
      have := Sees.own HO.out
      rw [List.take_length] at this
      exact ⟨_, rfl, this.more (by omega) (Nat.le_refl _)⟩
end Go.Proofs.YtolmehmglgmanaaGreatDoor
