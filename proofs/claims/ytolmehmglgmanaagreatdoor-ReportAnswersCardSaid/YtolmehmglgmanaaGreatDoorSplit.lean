/- Lines and their words: strings.Split by the shelf, slices.Index at strings, and what they mean. -/
import Derived.Test.YtolmehmglgmanaaGreatDoorNum
import Derived.Lib.SplitLaws
namespace Go.Proofs.YtolmehmglgmanaaGreatDoor
open Go.RowKit

theorem index_cut : ∀ (s sub : List UInt8) (i : Nat), Lib.index s sub = i → s = s.take i ++ (sub ++ s.drop (i + sub.length))
  | [], sub, i, h => by
    unfold Lib.index at h
    split at h
    · rename_i he
      have : sub = [] := by simpa using he
      subst this
      simp
    · omega
  | b :: l, sub, i, h => by
    unfold Lib.index at h
    split at h
    · rename_i hp
      have hi : i = 0 := by omega
      subst hi
      have := List.prefix_iff_eq_append.1 (List.isPrefixOf_iff_prefix.1 hp)
      simp only [List.take_zero, List.nil_append, Nat.zero_add]
      exact this.symm
    · split at h
      · omega
      · rename_i h1
        have h2 : Lib.index l sub ≠ -1 := by simpa using h1
        have h3 := Lib.index_ge l sub
        obtain ⟨j, rfl⟩ : ∃ j, i = j + 1 := ⟨i - 1, by omega⟩
        have ih := index_cut l sub j (by omega)
        simp only [List.take_succ_cons, List.cons_append]
        rw [show j + 1 + sub.length = (j + sub.length) + 1 by omega, List.drop_succ_cons, ← ih]
/-- Pieces with sep between them. -/
def joinL (sep : List UInt8) : List (List UInt8) → List UInt8
  | [] => []
  | [s] => s
  | s :: l => s ++ (sep ++ joinL sep l)
theorem joinL_cons (sep s : List UInt8) {l : List (List UInt8)} (h : l ≠ []) : joinL sep (s :: l) = s ++ (sep ++ joinL sep l) := by
  cases l with
  | nil => exact absurd rfl h
  | cons _ _ => rfl
theorem splitK_ne (sep : List UInt8) (k : Nat) (s : List UInt8) : Lib.splitK sep 0 k s ≠ [] := by
  cases k with
  | zero => simp [Lib.splitK]
  | succ k => unfold Lib.splitK; split <;> simp
theorem join_split (sep : List UInt8) : ∀ (k : Nat) (s : List UInt8), joinL sep (Lib.splitK sep 0 k s) = s
  | 0, s => rfl
  | k + 1, s => by
    unfold Lib.splitK
    split
    · rfl
    · rename_i h
      have h2 : Lib.index s sep ≠ -1 := by simpa using h
      have h3 := Lib.index_ge s sep
      rw [joinL_cons _ _ (splitK_ne _ _ _), join_split sep k, Nat.add_zero]
      exact (index_cut s sep _ (by omega)).symm
def splitS (s : ByteArray) : List ByteArray := Lib.splitB spS 0 (Lib.countB s spS) s
theorem splitS_len (s : ByteArray) : (splitS s).length = Lib.countB s spS + 1 := Lib.splitB_all spS (by decide) 0 _ s rfl
theorem splitS_join (s : ByteArray) : joinL [32] ((splitS s).map (·.data.toList)) = s.data.toList := by
  unfold splitS
  rw [Lib.splitB_data]
  exact join_split [32] _ _
theorem joinL_mem (sep : List UInt8) : ∀ (l : List (List UInt8)) (x : List UInt8), x ∈ l → x.length ≤ (joinL sep l).length
  | [s], x, h => by have : x = s := by simpa using h
                    subst this; exact Nat.le_refl _
  | s :: t :: l, x, h => by
    rw [joinL_cons _ _ (by simp)]
    simp only [List.length_append]
    rcases List.mem_cons.1 h with rfl | h
    · omega
    · have := joinL_mem sep (t :: l) x h
      omega
theorem splitS_size (s x : ByteArray) (h : x ∈ splitS s) : x.size ≤ s.size := by
  have := joinL_mem [32] ((splitS s).map (·.data.toList)) x.data.toList (List.mem_map.2 ⟨x, h, rfl⟩)
  rw [splitS_join] at this
  simpa using this
/-- The variable that the library's search reads is a number. -/
def MaxL (w : World) : Prop := ∃ m, w.cell? ⟨3, 0, none⟩ = some (.int .i64 m)
theorem cell_lt {w : World} {b o : Nat} {v : Value} (h : w.cell? ⟨b, o, none⟩ = some v) : b < w.heap.size := by
  rcases Nat.lt_or_ge b w.heap.size with h1 | h1
  · exact h1
  · simp [World.cell?, Array.getElem?_eq_none h1] at h
theorem MaxL.up {w w' : World} (h : MaxL w) (hb : Below w.heap.size w w') : MaxL w' := by
  obtain ⟨m, h⟩ := h
  exact ⟨m, (hb.cell (p := ⟨_, _, none⟩) (cell_lt h)).trans h⟩
def SplitPost (w : World) (s : ByteArray) (e : Ending) (w' : World) : Prop := ∃ A c, e = .returned (.slice A (splitS s).length c) ∧ Sees w' w.heap.size w'.heap.size 1 (.slice A (splitS s).length c) (splitS s).length (strs (splitS s)) ∧ Below w.heap.size w w'
theorem split_any (s : ByteArray) (w : World) (hs : s.size ≤ 1000000) (hm : MaxL w) : Calls Tryz.prog 39 #[.string s, .string spS] w (SplitPost w s) := by
  obtain ⟨m, hm⟩ := hm
  refine (Tryz.strings_Split s spS m w (by omega) hm (by decide)).mono fun e w' ⟨he, hw⟩ => ?_
  refine ⟨_, _, by rw [splitS_len]; exact he, ?_, by rw [hw]; exact (Below.refl _ _).alloc (Nat.le_refl _) _⟩
  rw [hw, splitS_len]
  exact Sees.new1 w (strs (splitS s)) (Lib.countB s spS + 1) _ _ _ 1 _ (by simp [strs, splitS_len]) rfl (Nat.le_refl _) (by simp)
/-- The place of a string in a list, from k on. -/
def idxS (l : List ByteArray) (s : ByteArray) : Int := match l.findIdx? (fun t => decide (s = t)) with | some i => (i : Int) | none => -1
theorem idx_at {l : List ByteArray} {s : ByteArray} {k : Nat} (hk : k < l.length) (he : s = l.getD k ByteArray.empty) (hn : ∀ j, j < k → s ≠ l.getD j ByteArray.empty) : idxS l s = k := by
  have : l.findIdx? (fun t => decide (s = t)) = some k := by
    rw [List.findIdx?_eq_some_iff_getElem]
    refine ⟨hk, by simpa [hk] using he, fun j hj => ?_⟩
    have := hn j hj
    simpa [show j < l.length by omega] using this
  unfold idxS; rw [this]
theorem idx_none {l : List ByteArray} {s : ByteArray} (hn : ∀ j, j < l.length → s ≠ l.getD j ByteArray.empty) : idxS l s = -1 := by
  have : l.findIdx? (fun t => decide (s = t)) = none := by
    rw [List.findIdx?_eq_none_iff]
    intro x hx
    obtain ⟨j, hj, rfl⟩ := List.getElem_of_mem hx
    have := hn j hj
    simpa [hj] using this
  unfold idxS; rw [this]
set_option maxRecDepth 100000 in
set_option maxHeartbeats 1000000 in
theorem index_any (l : List ByteArray) (s : ByteArray) (vl : Value) (lo hi : Nat) (w : World) (hl : Sees w lo hi 1 vl l.length (strs l)) (h1 : l.length ≤ 1000000) :
    Calls Tryz.prog 40 #[vl, .string s] w fun e w' => e = .returned (.int .i64 (idxS l s)) ∧ w = w' := by
  obtain ⟨A, c, rfl⟩ := hl.slice
  have HL := Lib.hid hl
  clear hl
  go_enter Tryz.func40, Tryz.ntmps40
  go_wp2_with fail
  go_loop [8] (fun i => ∃ k : Nat, k ≤ l.length ∧ i = .int .i64 k ∧ ∀ j, j < k → s ≠ l.getD j ByteArray.empty) (fun i => l.length - (intOf i).toNat)
  case atStart => exact ⟨0, Nat.zero_le _, rfl, fun j hj => by omega⟩
  case round =>
    obtain ⟨k, hk, rfl, hj⟩ := hrel
    have HJ := Lib.hid hj
    clear hj
    by_cases hlt : k < l.length
    · obtain ⟨ba, oa, ca', ea, _, _, hca⟩ := HL.out.pos (by omega)
      cases ea
      have g1 : w.cell? ⟨ba, oa + k, none⟩ = some (.string (l.getD k ByteArray.empty)) := hca k _ (strs_getD l k hlt)
      clear hca
      by_cases he : s = l.getD k ByteArray.empty
      · have HI := Lib.hid (idx_at hlt he HJ.out)
        have HE := Lib.hid he
        rw [← he] at g1
        clear he
        go_wp2_with fail
        go_ret
        rw [HI.out]
        exact ⟨rfl, rfl⟩
      · have HE := Lib.hid he
        have hne : (s.toList == (l.getD k ByteArray.empty).toList) = false := beq_eq_false_iff_ne.2 fun e => he (toList_inj e)
        clear he
        generalize hx : l.getD k ByteArray.empty = x at *
        have HX := Lib.hid hx
        clear hx
        go_wp2_with fail
        go_round
        case rel =>
          refine ⟨k + 1, by omega, by go_num, fun j hj => ?_⟩
          by_cases hjk : j = k
          · rw [hjk, HX.out]; exact HE.out
          · exact HJ.out j (by omega)
        case measure => simp [intOf]; omega
    · have HI := Lib.hid (idx_none (l := l) (s := s) fun j hj' => HJ.out j (by omega))
      go_wp2_with fail
      go_ret
      rw [HI.out]
      exact ⟨rfl, rfl⟩
end Go.Proofs.YtolmehmglgmanaaGreatDoor
