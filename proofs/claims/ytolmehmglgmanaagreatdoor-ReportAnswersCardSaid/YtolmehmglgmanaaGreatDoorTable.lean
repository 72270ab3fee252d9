/- The lines of a table: the walk. -/
import Derived.Test.YtolmehmglgmanaaGreatDoorWords
import Derived.Test.YtolmehmglgmanaaGreatDoorSame
namespace Go.Proofs.YtolmehmglgmanaaGreatDoor
open Go.RowKit

theorem str_info : (Tryz.prog.info? 9).map (fun i => (i.zero, i.size, i.bytes)) = some (some (.string ByteArray.empty), 1, 16) := by kernel_rfl
def wxS (d : Int) : ByteArray := if d = 0 then ⟨#[103, 111]⟩ else if d = 1 then ⟨#[104, 111, 108, 100]⟩ else ⟨#[115, 116, 111, 112]⟩
theorem wxS_size (d : Int) : (wxS d).size ≤ 4 := by unfold wxS; split; · decide
                                                    split <;> decide
/-- The line of decision d, the i-th. -/
def lineT (step : Int) (i : Nat) (d : Int) : ByteArray := ita ((i : Int) * step) ++ spS ++ wxS d
def tabTo (step : Int) (l : List Int) (k : Nat) : List ByteArray := (List.range k).map fun i => lineT step i (l.getD i 0)
theorem tabTo_len (step : Int) (l : List Int) (k : Nat) : (tabTo step l k).length = k := by simp [tabTo]
theorem tabTo_succ (step : Int) (l : List Int) (k : Nat) : tabTo step l (k + 1) = tabTo step l k ++ [lineT step k (l.getD k 0)] := by simp [tabTo, List.range_succ]
theorem strs_append (a b : List ByteArray) : strs a ++ strs b = strs (a ++ b) := by simp [strs]
/-- Which tables there are. -/
def okT (l : List Int) (step : Int) : Bool := decide (1 ≤ step) && decide (step ≤ 3600000) && decide (l.length ≤ 100) && l.all fun d => decide (0 ≤ d) && decide (d ≤ 2)
def TablePost (w : World) (l : List Int) (step : Int) (e : Ending) (w' : World) : Prop :=
  Below w.heap.size w w' ∧ if okT l step = true then ∃ v, e = .returned (.tuple #[v, .int .i64 0]) ∧ Sees w' w.heap.size w'.heap.size 1 v l.length (strs (tabTo step l l.length))
    else e = .returned (.tuple #[.slice none 0 0, .int .i64 2])
theorem TablePost.no {w w' : World} {l : List Int} {step : Int} (h : okT l step = false) (hb : Below w.heap.size w w') : TablePost w l step (.returned (.tuple #[.slice none 0 0, .int .i64 2])) w' := by
  unfold TablePost; rw [h]; exact ⟨hb, rfl⟩
theorem okT_step {l : List Int} {step : Int} (h : ¬ (1 ≤ step ∧ step ≤ 3600000 ∧ l.length ≤ 100)) : okT l step = false := by
  rw [Bool.eq_false_iff]
  intro ho
  unfold okT at ho
  simp only [Bool.and_eq_true, decide_eq_true_eq] at ho
  exact h ⟨ho.1.1.1, ho.1.1.2, ho.1.2⟩
theorem okT_at {l : List Int} {step : Int} {k : Nat} (hk : k < l.length) (h : ¬ (0 ≤ l.getD k 0 ∧ l.getD k 0 ≤ 2)) : okT l step = false := by
  unfold okT
  have : (l.all fun d => decide (0 ≤ d) && decide (d ≤ 2)) = false := by
    rw [List.all_eq_false]
    refine ⟨l[k], List.getElem_mem hk, ?_⟩
    have e : l.getD k 0 = l[k] := by simp [hk]
    rw [e] at h
    simpa using h
  rw [this]; simp
theorem okT_yes {l : List Int} {step : Int} (h1 : 1 ≤ step) (h2 : step ≤ 3600000) (h3 : l.length ≤ 100) (h : ∀ k, k < l.length → 0 ≤ l.getD k 0 ∧ l.getD k 0 ≤ 2) : okT l step = true := by
  unfold okT
  have : (l.all fun d => decide (0 ≤ d) && decide (d ≤ 2)) = true := by
    rw [List.all_eq_true]
    intro d hd
    obtain ⟨k, hk, rfl⟩ := List.getElem_of_mem hd
    have := h k hk
    have e : l.getD k 0 = l[k] := by simp [hk]
    rw [e] at this
    simpa using this
  simp [this, h1, h2, h3]
theorem wx_index0 (w : World) : (Instr.index 102 (.agg #[.string ⟨#[103, 111]⟩, .string ⟨#[104, 111, 108, 100]⟩, .string ⟨#[115, 116, 111, 112]⟩]) (.int .i64 0)).run Tryz.prog w = .ok (.string (wxS 0)) w := by kernel_rfl
theorem wx_index1 (w : World) : (Instr.index 102 (.agg #[.string ⟨#[103, 111]⟩, .string ⟨#[104, 111, 108, 100]⟩, .string ⟨#[115, 116, 111, 112]⟩]) (.int .i64 1)).run Tryz.prog w = .ok (.string (wxS 1)) w := by kernel_rfl
theorem wx_index2 (w : World) : (Instr.index 102 (.agg #[.string ⟨#[103, 111]⟩, .string ⟨#[104, 111, 108, 100]⟩, .string ⟨#[115, 116, 111, 112]⟩]) (.int .i64 2)).run Tryz.prog w = .ok (.string (wxS 2)) w := by kernel_rfl
theorem wx_index (d : Int) (h0 : 0 ≤ d) (h2 : d ≤ 2) (w : World) : (Instr.index 102 (.agg #[.string ⟨#[103, 111]⟩, .string ⟨#[104, 111, 108, 100]⟩, .string ⟨#[115, 116, 111, 112]⟩]) (.int .i64 d)).run Tryz.prog w = .ok (.string (wxS d)) w := by
  have h : d = 0 ∨ d = 1 ∨ d = 2 := by omega
  rcases h with h | h | h
  · subst h; exact wx_index0 w
  · subst h; exact wx_index1 w
  · subst h; exact wx_index2 w
set_option maxRecDepth 100000 in
set_option maxHeartbeats 2000000 in
theorem table_any (l : List Int) (step : Int) (vl : Value) (lo hi : Nat) (w : World) (hl : Sees w lo hi 1 vl l.length (ints l)) (hhi : hi ≤ w.heap.size) (ht : Tab w) (hlen : l.length ≤ 1000000) :
    Calls Tryz.prog 16 #[vl, .int .i64 step] w (TablePost w l step) := by
  obtain ⟨A, c, rfl⟩ := hl.slice
  by_cases hg : 1 ≤ step ∧ step ≤ 3600000 ∧ l.length ≤ 100
  case neg =>
    have HN := Lib.hid (TablePost.no (w := w) (w' := w) (okT_step hg) (Below.refl _ _))
    clear hl ht
    by_cases h1 : 1 ≤ step
    · by_cases h2 : step ≤ 3600000
      · have h3 : ¬ l.length ≤ 100 := fun h => hg ⟨h1, h2, h⟩
        clear hg
        go_enter Tryz.func16, Tryz.ntmps16
        go_wp2_with fail
        go_ret2
        exact HN.out
      · clear hg
        go_enter Tryz.func16, Tryz.ntmps16
        go_wp2_with fail
        go_ret2
        exact HN.out
    · have h1' : step < 1 := by omega
      clear hg h1
      go_enter Tryz.func16, Tryz.ntmps16
      go_wp2_with fail
      go_ret2
      exact HN.out
  case pos =>
  obtain ⟨h1, h2, h3⟩ := hg
  obtain ⟨i0, hi0, hz0, hz1, hz2⟩ := info_parts str_info
  have HL := Lib.hid hl
  clear hl
  go_enter Tryz.func16, Tryz.ntmps16
  go_wp2_with fail
  go_loopw [6, 22] (fun v i wr => ∃ k : Nat, k ≤ l.length ∧ i = .int .i64 k ∧ wr.ownsRow w.heap.size 9 1 v k (strs (tabTo step l k)) ∧ Below w.heap.size w wr ∧ ∀ j, j < k → 0 ≤ l.getD j 0 ∧ l.getD j 0 ≤ 2) (fun _ i _ => l.length - (intOf i).toNat)
  case atStart => exact ⟨0, Nat.zero_le _, rfl, ⟨rfl, .inl ⟨rfl, rfl⟩⟩, Below.refl _ _, fun j hj => by omega⟩
  case round =>
    obtain ⟨k, hk, rfl, hown, hb, hj⟩ := hrel
    have HJ := Lib.hid hj
    have HO := Lib.hid hown
    clear hj hown
    by_cases hlt : k < l.length
    · obtain ⟨ba, oa, ca', ea, _, hb2, hca⟩ := HL.out.pos (by omega)
      cases ea
      have g1 : wr.cell? ⟨ba, oa + k, none⟩ = some (.int .i64 (l.getD k 0)) := (hb.cell (p := ⟨ba, oa + k, none⟩) (show ba < _ by omega)).trans (hca k _ (by rw [ints_at l k hlt]; simp [hlt]))
      have hbad := fun h => TablePost.no (w := w) (w' := wr) (okT_at (step := step) hlt h) hb
      have hsucc := tabTo_succ step l k
      have htr := ht.up hb
      clear hca
      generalize hx : l.getD k 0 = d at *
      have HX := Lib.hid hx
      have HS := Lib.hid hsucc
      have HBAD := Lib.hid hbad
      clear hx hsucc hbad
      by_cases hd : 0 ≤ d ∧ d ≤ 2
      · obtain ⟨d0, d2⟩ := hd
        have hm1 : 0 ≤ (k : Int) * step := Int.mul_nonneg (by omega) (by omega)
        have hm2 : (k : Int) * step ≤ 100 * 3600000 := Int.mul_le_mul (by omega) h2 (by omega) (by omega)
        have hm3 : Hid (IntKind.i64.wrap ((k : Int) * step) = (k : Int) * step) := IntWalk.i64_in _ (by omega)
        have hi := ita_size ((k : Int) * step) (by omega) (by omega)
        have hwx := wxS_size d
        have CALL : Hid (∀ wa, Below wr.heap.size wr wa → Calls Tryz.prog 32 #[.int .i64 ((k : Int) * step)] wa fun e w' => ∃ v, e = .returned v ∧ Below wr.heap.size wr w' ∧ Below wa.heap.size wa w' ∧ is (.string (ita ((k : Int) * step))) v w') := fun wa hC =>
          (itoa_any _ (by omega) (by omega) wa (htr.up hC)).mono fun e w' ⟨he, hb'⟩ => ⟨_, he, hC.trans (hb'.mono hC.size), hb', rfl⟩
        have WX : Hid (∀ w, (Instr.index 102 (.agg #[.string ⟨#[103, 111]⟩, .string ⟨#[104, 111, 108, 100]⟩, .string ⟨#[115, 116, 111, 112]⟩]) (.int .i64 d)).run Tryz.prog w = .ok (.string (wxS d)) w) := wx_index d d0 d2
        generalize hp : (k : Int) * step = pr at *
        have HP := Lib.hid hp
        clear hp
        go_wp2_with fail
        refine region_list 11 47 (fun w' => Below wr.heap.size wr w') [is u6, is (.int .i64 (k : Nat)), is (.int .i64 step), is (.int .i64 pr), is (.string (ita pr)), is (.string (ita pr ++ spS)), is (.agg #[.string ⟨#[103, 111]⟩, .string ⟨#[104, 111, 108, 100]⟩, .string ⟨#[115, 116, 111, 112]⟩]), is (.int .i64 d), is (.string (wxS d)), is (.string (ita pr ++ spS ++ wxS d)), RowW wr.heap.size 9 [.string (ita pr ++ spS ++ wxS d)]] (by kernel_rfl) (by kernel_rfl) rfl (by decide) ?hst ?h0 ?hop ?htail
        case hst =>
          simp only [List.mem_cons, List.mem_nil_iff, or_false, forall_eq_or_imp, forall_eq]
          exact ⟨is_stable _, is_stable _, is_stable _, is_stable _, is_stable _, is_stable _, is_stable _, is_stable _, is_stable _, is_stable _, rowW_stable _ _ _⟩
        case h0 => exact (Below.refl _ _).drew
        case hop =>
          refine ⟨?_, ?_, ?_, ?_, ?_, ?_, ?_, ?_, ?_, ?_, ?_, trivial⟩
          · exact ok_move (.tmp 6) (is u6) rfl (by kernel_rfl) (fun _ _ _ h => h)
          · exact ok_move (.tmp 7) (is (.int .i64 (k : Nat))) rfl (by kernel_rfl) (fun _ _ _ h => h)
          · exact ok_move (.tmp 1) (is (.int .i64 step)) rfl (by kernel_rfl) (fun _ _ _ h => h)
          · exact ok_t2 34 35 (.int .i64 (k : Nat)) (.int .i64 step) (.int .i64 pr) rfl (by kernel_rfl) (by kernel_rfl) (fun a wa _ e1 e2 => by go_simp; rw [HP.out]; exact hm3.out) rfl
          · exact ok_callF 32 [.tmp 36] _ [.int .i64 pr] rfl (fun _ _ => by kernel_rfl) ⟨by kernel_rfl, trivial⟩ CALL.out
          · exact ok_tc 37 (.string ⟨#[32]⟩) (.string (ita pr)) (.string (ita pr ++ spS)) rfl (by kernel_rfl) (fun a wa _ e1 => by go_simp; rw [if_neg (by omega)]; rfl) rfl
          · exact ok_value fun a wa _ _ => ⟨_, by go_simp, rfl⟩
          · exact ok_move (.tmp 8) (is (.int .i64 d)) rfl (by kernel_rfl) (fun _ _ _ h => h)
          · exact ok_t2 39 40 (.agg #[.string ⟨#[103, 111]⟩, .string ⟨#[104, 111, 108, 100]⟩, .string ⟨#[115, 116, 111, 112]⟩]) (.int .i64 d) (.string (wxS d)) rfl (by kernel_rfl) (by kernel_rfl) (fun a wa _ e1 e2 => by have := WX.out wa; go_simp) rfl
          · exact ok_t2 38 41 (.string (ita pr ++ spS)) (.string (wxS d)) (.string (ita pr ++ spS ++ wxS d)) rfl (by kernel_rfl) (by kernel_rfl) (fun a wa _ e1 e2 => by go_simp; have : spS.size = 1 := rfl; omega) rfl
          · exact ok_row1 9 42 (.string (ita pr ++ spS ++ wxS d)) rfl (by kernel_rfl) (fun a wa h1 => by go_simp) rfl
        case htail =>
          intro τ w2 hC hR
          have r0 : τ 0 = u6 := hR 0 (by decide)
          have r10 : RowW wr.heap.size 9 [.string (ita pr ++ spS ++ wxS d)] (τ 10) w2 := hR 10 (by decide)
          obtain ⟨A2, c2, e10⟩ := r10.sees.slice
          rw [e10] at r10
          simp only [putAll, List.getElem?_toArray, List.getElem?_cons_succ, List.getElem?_cons_zero, Option.bind_some, Act.put, List.setIfInBounds_toArray, List.set_cons_succ, List.set_cons_zero, List.drop_succ_cons, List.drop_zero, r0, e10]
          have ho2 : w2.ownsRow w.heap.size 9 1 u6 k (strs (tabTo step l k)) := HO.out.kept (row := none) ⟨hC.os, hC.tape, hC.output, hC.size, fun k hk _ => hC.block k hk⟩ (by cases u6.ownBlock with | none => exact .inl rfl | some k => exact .inr (by simp))
          clear r0 e10 hR
          have hbw := hb.size
          have hcz := hC.size
          refine wpList_append_sees rfl (.tmp 33) (.tmp 43) 22 rfl w.heap.size 9 i0 _ 1 16 Tryz.underlying22 hi0 hz0 hz1 hz2 rfl (by decide) _ _ _ rfl ho2 _ _ _ _ rfl r10.sees ?_ ?_ ?_ ?_ ?_
          · intro u hu; simp only [List.mem_singleton] at hu; subst hu; rfl
          · unfold maxLen; simp; omega
          · simp; omega
          · omega
          intro v' w3 hown3 hg3 _
          have hb3 : Below w.heap.size w w3 := (hb.trans (hC.mono hbw)).grown hg3 (by omega) (fun g hg => (ho2.lt g hg).1)
          have H3 := Lib.hid hown3
          clear hown3 hg3 r10 ho2
          go_wp2_with fail
          go_roundw
          case rel => 
            refine ⟨k + 1, by omega, by go_num, ?_, hb3, fun j hj => ?_⟩
            · rw [HS.out, ← strs_append]
              have := H3.out
              rw [← HP.out] at this
              exact this
            · by_cases hjk : j = k
              · rw [hjk, HX.out]; exact ⟨d0, d2⟩
              · exact HJ.out j (by omega)
          case measure => simp [intOf]; omega
      · have HBB := Lib.hid (HBAD.out hd)
        by_cases hd0 : 0 ≤ d
        · have hd2 : 2 < d := by omega
          clear hd
          go_wp2_with fail
          go_ret2
          exact HBB.out
        · have hd2 : d < 0 := by omega
          clear hd hd0
          go_wp2_with fail
          go_ret2
          exact HBB.out
    · go_wp2_with fail
      obtain rfl : k = l.length := by omega
      go_ret2
      refine ⟨hb, ?_⟩
      rw [if_pos (okT_yes h1 h2 h3 HJ.out)]
      exact ⟨_, rfl, Sees.own HO.out⟩
end Go.Proofs.YtolmehmglgmanaaGreatDoor
