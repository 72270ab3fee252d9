/- Words with numbers behind them: the walk of words. -/
import Derived.Test.YtolmehmglgmanaaGreatDoorDec
namespace Go.Proofs.YtolmehmglgmanaaGreatDoor
open Go.RowKit

def spS : ByteArray := ⟨#[32]⟩
/-- A word and numbers, a space ahead of each. -/
def wordsS : ByteArray → List Int → ByteArray
  | s, [] => s
  | s, n :: l => wordsS (s ++ (spS ++ ita n)) l
theorem wordsS_snoc (s : ByteArray) (l : List Int) (n : Int) : wordsS s (l ++ [n]) = wordsS s l ++ (spS ++ ita n) := by
  induction l generalizing s with
  | nil => rfl
  | cons m l ih => exact ih _
def fits (n : Int) : Prop := -9223372036854775808 ≤ n ∧ n ≤ 9223372036854775807
theorem wordsS_size (s : ByteArray) (l : List Int) (h : ∀ n ∈ l, fits n) : (wordsS s l).size ≤ s.size + 22 * l.length := by
  induction l generalizing s with
  | nil => simp [wordsS]
  | cons m l ih =>
    have h1 := ih (s ++ (spS ++ ita m)) (fun n hn => h n (by simp [hn]))
    have h2 := ita_size m (h m (by simp)).1 (h m (by simp)).2
    have h3 : spS.size = 1 := rfl
    simp only [ByteArray.size_append] at h1
    show (wordsS (s ++ (spS ++ ita m)) l).size ≤ _
    simp only [List.length_cons]
    omega
set_option maxRecDepth 100000 in
set_option maxHeartbeats 1000000 in
theorem words_any (s : ByteArray) (l : List Int) (vl : Value) (lo hi : Nat) (w : World) (hl : Sees w lo hi 1 vl l.length (ints l)) (hhi : hi ≤ w.heap.size) (ht : Tab w) (hs : s.size ≤ 1000000) (hn : l.length ≤ 1000) (hf : ∀ n ∈ l, fits n) :
    Calls Tryz.prog 30 #[.string s, vl] w fun e w' => e = .returned (.string (wordsS s l)) ∧ Below w.heap.size w w' := by
  obtain ⟨A, c, rfl⟩ := hl.slice
  have HL := Lib.hid hl
  have HF := Lib.hid hf
  clear hl hf
  go_enter Tryz.func30, Tryz.ntmps30
  go_wp2_with fail
  go_loopw [0, 9] (fun v i wr => ∃ k : Nat, k ≤ l.length ∧ i = .int .i64 k ∧ v = .string (wordsS s (l.take k)) ∧ Below w.heap.size w wr) (fun _ i _ => l.length - (intOf i).toNat)
  case atStart => exact ⟨0, Nat.zero_le _, rfl, rfl, Below.refl _ _⟩
  case round =>
    obtain ⟨k, hk, rfl, rfl, hb⟩ := hrel
    have hz := wordsS_size s (l.take k) (fun n hn => HF.out n (List.mem_of_mem_take hn))
    have hz2 : (l.take k).length ≤ k := List.length_take_le _ _
    have hz3 : (wordsS s (l.take k)).size ≤ 1022000 := by omega
    clear hz hz2
    by_cases hlt : k < l.length
    · obtain ⟨ba, oa, ca', ea, _, hb2, hca⟩ := HL.out.pos (by omega)
      cases ea
      have g1 : wr.cell? ⟨ba, oa + k, none⟩ = some (.int .i64 l[k]) := (hb.cell (p := ⟨ba, oa + k, none⟩) (show ba < _ by omega)).trans (hca k _ (ints_at l k hlt))
      have hs1 : Hid (wordsS s (l.take (k + 1)) = wordsS s (l.take k) ++ (spS ++ ita l[k])) := by unfold Hid; rw [List.take_succ_eq_append_getElem hlt, wordsS_snoc]
      have hfk := HF.out _ (List.getElem_mem hlt)
      have hi := ita_size l[k] hfk.1 hfk.2
      have htr := ht.up hb
      have hfk1 := hfk.1
      have hfk2 := hfk.2
      clear hca hfk
      generalize hx : l[k] = x at *
      have HX := Lib.hid hx
      clear hx
      generalize hy : wordsS s (l.take k) = y at *
      have HY := Lib.hid hy
      clear hy
      go_wp2_with fail
      refine (itoa_any _ hfk1 hfk2 _ htr).mono ?_
      rintro e w1 ⟨rfl, hb1⟩
      go_wp2_with fail
      go_roundw
      case rel => exact ⟨k + 1, by omega, by go_num, by rw [hs1.out]; rfl, hb.trans (hb1.mono hb.size)⟩
      case measure => simp [intOf]; omega
    · go_wp2_with fail
      go_ret
      rw [List.take_of_length_le (by omega)]
      exact ⟨rfl, hb⟩
end Go.Proofs.YtolmehmglgmanaaGreatDoor
