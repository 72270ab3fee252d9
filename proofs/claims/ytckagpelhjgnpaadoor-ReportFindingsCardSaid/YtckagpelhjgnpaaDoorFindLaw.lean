/- A line that is read as a finding is the line of that finding: the plain law. -/
import Derived.Test.YtckagpelhjgnpaaDoorRead
namespace Go.Proofs.YtckagpelhjgnpaaDoor
open Go.RowKit

theorem six {α : Type} {l : List α} (h : l.length = 6) (d : α) : l = [l.getD 0 d, l.getD 1 d, l.getD 2 d, l.getD 3 d, l.getD 4 d, l.getD 5 d] := by
  match l, h with
  | [a, b, c, e, f, g], _ => rfl
theorem idx_kind {s : ByteArray} {k : Int} (h : idxS kindsL s = k) (h1 : 1 ≤ k) (h5 : k ≤ 5) : s = kindS k := by
  unfold idxS at h
  split at h
  · rename_i i hi
    obtain ⟨hl, he, _⟩ := List.findIdx?_eq_some_iff_getElem.1 hi
    have hs : s = kindsL[i] := by simpa using he
    have hk : k = (i : Int) := h.symm
    have hi5 : i = 1 ∨ i = 2 ∨ i = 3 ∨ i = 4 ∨ i = 5 := by omega
    rcases hi5 with rfl | rfl | rfl | rfl | rfl <;> (rw [hs, hk]; rfl)
  · omega
theorem ext_data {x y : ByteArray} (h : x.data.toList = y.data.toList) : x = y := ByteArray.ext (Array.toList_inj.1 h)
theorem parse_found {line : ByteArray} {f : Fd} (h : parseW (splitS line) = some f) : foundB f = true ∧ lineF f = line ∧ fits f.time ∧ fits f.rec_ := by
  unfold parseW at h
  split at h
  case isFalse => cases h
  case isTrue hh =>
  split at h
  case h_2 => cases h
  case h_1 a t r h1 h3 h5 =>
  split at h
  case isFalse => cases h
  case isTrue hf =>
  cases h
  obtain ⟨fa, ea⟩ := numS_some h1
  obtain ⟨ft, et⟩ := numS_some h3
  obtain ⟨fr, er⟩ := numS_some h5
  refine ⟨hf, ?_, ft, fr⟩
  unfold headW at hh
  simp only [Bool.and_eq_true, decide_eq_true_eq] at hh
  obtain ⟨⟨⟨h6, _⟩, h2⟩, h4⟩ := hh
  have hj := splitS_join line
  have hl := six h6 ByteArray.empty
  have hb : 1 ≤ idxS kindsL (wd (splitS line) 0) ∧ idxS kindsL (wd (splitS line) 0) ≤ 5 ∧ 0 ≤ IntKind.i64.wrap (a - 1) ∧ IntKind.i64.wrap (a - 1) < 64 := by
    unfold foundB mkF at hf
    simp only [Bool.and_eq_true, decide_eq_true_eq] at hf
    exact ⟨hf.1.1.1.1, hf.1.1.1.2, hf.1.1.2, hf.1.2⟩
  obtain ⟨b1, b5, b0, b6⟩ := hb
  have e0 := idx_kind rfl b1 b5
  have ha : IntKind.i64.wrap (a - 1) + 1 = a := by
    have := fa.1
    have := fa.2
    rw [IntKind.wrap_i64] at *
    omega
  rw [lineF_eq]
  apply ext_data
  show (kindS (idxS kindsL (wd (splitS line) 0)) ++ spS ++ ita (IntKind.i64.wrap (a - 1) + 1) ++ at2S ++ ita t ++ rec2S ++ ita r).data.toList = _
  rw [ha, ← e0, ea, et, er, ← hj, hl]
  simp only [List.map_cons, List.map_nil, joinL, ByteArray.data_append, Array.toList_append]
  have q2 : (splitS line).getD 2 ByteArray.empty = atW := h2
  have q4 : (splitS line).getD 4 ByteArray.empty = recW := h4
  rw [q2, q4]
  have k1 : at2S.data.toList = [32] ++ (atW.data.toList ++ [32]) := rfl
  have k2 : rec2S.data.toList = [32] ++ (recW.data.toList ++ [32]) := rfl
  have k3 : spS.data.toList = [32] := rfl
  rw [k1, k2, k3]
  unfold wd
  simp only [List.append_assoc]
  rfl
end Go.Proofs.YtckagpelhjgnpaaDoor
