/- A line that is read as an answer is the line of that answer: the plain law. -/
import Derived.Test.YtolmehmglgmanaaGreatDoorRead2
import Derived.Test.YtolmehmglgmanaaGreatDoorLaw40
namespace Go.Proofs.YtolmehmglgmanaaGreatDoor
open Go.RowKit

theorem six' {α : Type} {l : List α} (h : l.length = 6) (d : α) : l = [l.getD 0 d, l.getD 1 d, l.getD 2 d, l.getD 3 d, l.getD 4 d, l.getD 5 d] := by
  match l, h with
  | [a, b, c, e, f, g], _ => rfl
theorem nine {α : Type} {l : List α} (h : l.length = 9) (d : α) : l = [l.getD 0 d, l.getD 1 d, l.getD 2 d, l.getD 3 d, l.getD 4 d, l.getD 5 d, l.getD 6 d, l.getD 7 d, l.getD 8 d] := by
  match l, h with
  | [a, b, c, e, f, g, x, y, z], _ => rfl
theorem idx_is {l : List ByteArray} {s : ByteArray} (h : ¬ idxS l s < 0) : 0 ≤ idxS l s ∧ idxS l s < (l.length : Int) ∧ l.getD (idxS l s).toNat ByteArray.empty = s := by
  unfold idxS at *
  split
  · rename_i i hi
    obtain ⟨hl, he, _⟩ := List.findIdx?_eq_some_iff_getElem.1 hi
    have hs : s = l[i] := by simpa using he
    refine ⟨by omega, by omega, ?_⟩
    simp [hl, ← hs]
  · rename_i hi
    rw [hi] at h
    simp at h
theorem ext_dataA {x y : ByteArray} (h : x.data.toList = y.data.toList) : x = y := ByteArray.ext (Array.toList_inj.1 h)
/-- What is known of an answer that was read. -/
structure ReadA (p : Pr) (line : ByteArray) (a : An) : Prop where
  ok : writtenB p a = true
  line : lineA p a = line
  act : fits a.act
  side : fits a.side
  spare : fits a.spare
  wait : fits a.wait
  rise : fits a.rise
theorem parse_line {p : Pr} {line : ByteArray} {a : An} (h : parseA p (splitS line) = some a) : ReadA p line a := by
  unfold parseA at h
  split at h
  case isFalse => cases h
  case isTrue hh =>
  obtain ⟨hh, hi⟩ := hh
  split at h
  case h_2 => cases h
  case h_1 k s r x y z h2 h4 ht =>
  split at h
  case isFalse => cases h
  case isTrue hw =>
  cases h
  obtain ⟨f2, e2⟩ := numS_some h2
  obtain ⟨f4, e4⟩ := numS_some h4
  obtain ⟨i0, i1, ei⟩ := idx_is hi
  unfold headP at hh
  simp only [Bool.and_eq_true, decide_eq_true_eq] at hh
  obtain ⟨⟨h6, q0⟩, q3⟩ := hh
  have hj := splitS_join line
  have k0 : caseS.data.toList = caseW.data.toList ++ [32] := rfl
  have k1 : side2S.data.toList = [32] ++ (sideW.data.toList ++ [32]) := rfl
  have k3 : spS.data.toList = [32] := rfl
  have k4 : aloneS.data.toList = [32] ++ aloneW.data.toList := rfl
  have k5 : rel2S.data.toList = [32] ++ (reliefW.data.toList ++ [32]) := rfl
  have q0' : (splitS line).getD 0 ByteArray.empty = caseW := q0
  have q3' : (splitS line).getD 3 ByteArray.empty = sideW := q3
  have hL : lineA p ⟨idxS p.names (wd (splitS line) 1), k, s, r, x, y, z⟩ = lineN ((splitS line).getD 1 ByteArray.empty) ⟨idxS p.names (wd (splitS line) 1), k, s, r, x, y, z⟩ := by
    unfold lineA; rw [ei]; rfl
  unfold tailP at ht
  split at ht
  · rename_i q5
    split at ht
    · rename_i hlen
      cases ht
      have q5' : (splitS line).getD 5 ByteArray.empty = aloneW := q5
      have f0 : fits 0 := ⟨by omega, by omega⟩
      refine ⟨hw, ?_, f2, f4, f0, f0, f0⟩
      have hl := six' hlen ByteArray.empty
      rw [hL, lineN_eq]
      apply ext_dataA
      rw [if_neg (by simp), ← hj, hl]
      unfold headN
      rw [e2, e4]
      simp only [List.map_cons, List.map_nil, joinL, ByteArray.data_append, Array.toList_append]
      rw [q0', q3', q5', k0, k1, k3, k4]
      unfold wd
      simp only [List.append_assoc]
      rfl
    · cases ht
  · split at ht
    · rename_i q5
      obtain ⟨q5, hlen⟩ := q5
      split at ht
      case h_2 => cases ht
      case h_1 x' y' z' g6 g7 g8 =>
      cases ht
      obtain ⟨f6, e6⟩ := numS_some g6
      obtain ⟨f7, e7⟩ := numS_some g7
      obtain ⟨f8, e8⟩ := numS_some g8
      have q5' : (splitS line).getD 5 ByteArray.empty = reliefW := q5
      refine ⟨hw, ?_, f2, f4, f6, f7, f8⟩
      have hl := nine hlen ByteArray.empty
      rw [hL, lineN_eq]
      apply ext_dataA
      rw [if_pos rfl, ← hj, hl]
      unfold headN
      rw [e2, e4, e6, e7, e8]
      simp only [List.map_cons, List.map_nil, joinL, ByteArray.data_append, Array.toList_append]
      rw [q0', q3', q5', k0, k1, k3, k5]
      unfold wd
      simp only [List.append_assoc]
      rfl
    · cases ht
end Go.Proofs.YtolmehmglgmanaaGreatDoor
