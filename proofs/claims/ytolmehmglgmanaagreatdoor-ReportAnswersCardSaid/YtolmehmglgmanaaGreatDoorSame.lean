/- Whether two lists of strings are equal: the walk. -/
import Derived.Test.YtolmehmglgmanaaGreatDoorCrew
import Derived.Test.YtolmehmglgmanaaGreatDoorRow
import Derived.BigQuiet
namespace Go.Proofs.YtolmehmglgmanaaGreatDoor
open Go.RowKit

def sameB (a b : List ByteArray) : Bool := decide (a = b)
theorem same_ne {a b : List ByteArray} {k : Nat} (h : a.getD k ByteArray.empty ≠ b.getD k ByteArray.empty) : sameB a b = false := by
  unfold sameB; exact decide_eq_false fun e => h (by rw [e])
theorem same_eq {a b : List ByteArray} (hl : a.length = b.length) (h : ∀ k, k < a.length → a.getD k ByteArray.empty = b.getD k ByteArray.empty) : sameB a b = true := by
  unfold sameB
  refine decide_eq_true (List.ext_getElem hl fun k h1 h2 => ?_)
  have := h k h1
  simpa [h1, h2] using this
theorem toList_inj {x y : ByteArray} (h : x.toList = y.toList) : x = y := by
  rw [ByteArray.toList_eq, ByteArray.toList_eq] at h
  exact ByteArray.ext (Array.toList_inj.1 h)
theorem strs_getD (l : List ByteArray) (k : Nat) (h : k < l.length) : (strs l)[k]? = some (.string (l.getD k ByteArray.empty)) := by simp [strs, h]
set_option maxRecDepth 100000 in
set_option maxHeartbeats 1000000 in
theorem same_any (a b : List ByteArray) (va vb : Value) (lo hi lo' hi' : Nat) (w : World) (ha : Sees w lo hi 1 va a.length (strs a)) (hb : Sees w lo' hi' 1 vb b.length (strs b)) (h1 : a.length ≤ 1000000) (h2 : b.length ≤ 1000000) :
    Calls Tryz.prog 12 #[va, vb] w fun e w' => e = .returned (.bool (sameB a b)) ∧ ∃ n, w' = w.drewN n := by
  obtain ⟨A, ca, rfl⟩ := ha.slice
  obtain ⟨B, cb, rfl⟩ := hb.slice
  by_cases hl : a.length = b.length
  case neg =>
    have HN : Hid (sameB a b = false) := by unfold Hid sameB; exact decide_eq_false fun e => hl (by rw [e])
    have hne : ((a.length : Int) != (b.length : Int)) = true := by rw [bne_iff_ne]; omega
    clear ha hb
    go_enter Tryz.func12, Tryz.ntmps12
    go_wp2_with fail
    go_ret
    rw [HN.out]
    exact ⟨rfl, 0, rfl⟩
  case pos =>
  have HA := Lib.hid ha
  have HB := Lib.hid hb
  have HL := Lib.hid hl
  have hne : ((a.length : Int) != (b.length : Int)) = false := by rw [hl]; simp
  have hab : a.length ≤ b.length := by omega
  clear ha hb hl
  go_enter Tryz.func12, Tryz.ntmps12
  go_wp2_with fail
  go_loopw [5] (fun i wr => ∃ k n : Nat, k ≤ a.length ∧ i = .int .i64 k ∧ wr = w.drewN n ∧ ∀ j, j < k → a.getD j ByteArray.empty = b.getD j ByteArray.empty) (fun i _ => a.length - (intOf i).toNat)
  case atStart => exact ⟨0, 0, Nat.zero_le _, rfl, rfl, fun j hj => by omega⟩
  case round =>
    obtain ⟨k, n, hk, rfl, hw, hj⟩ := hrel
    have HJ := Lib.hid hj
    have HW := Lib.hid hw
    clear hj hw
    by_cases hlt : k < a.length
    · obtain ⟨ba, oa, ca', ea, _, _, hca⟩ := HA.out.pos (by omega)
      obtain ⟨bb, ob, cb', eb, _, _, hcb⟩ := HB.out.pos (by omega)
      cases ea
      cases eb
      have g1 : wr.cell? ⟨ba, oa + k, none⟩ = some (.string (a.getD k ByteArray.empty)) := by rw [HW.out]; simpa using hca k _ (strs_getD a k hlt)
      have g2 : wr.cell? ⟨bb, ob + k, none⟩ = some (.string (b.getD k ByteArray.empty)) := by rw [HW.out]; simpa using hcb k _ (strs_getD b k (by omega))
      clear hca hcb
      generalize hx : a.getD k ByteArray.empty = x at *
      generalize hy : b.getD k ByteArray.empty = y at *
      have HX := Lib.hid hx
      have HY := Lib.hid hy
      clear hx hy
      go_wp2_with fail
      go_quiet (fail)
      go_wp2_with fail
      · rename_i ht
        have hne' : x ≠ y := fun e => by rw [e] at ht; simp at ht
        go_ret
        refine ⟨ret_bool (same_ne (k := k) (by rw [HX.out, HY.out]; exact hne')).symm, n + nq, ?_⟩
        rw [HW.out, World.drewN_drewN]
      · rename_i ht
        have he : x = y := by
          have h3 : x.toList = y.toList := by simpa using ht
          exact toList_inj h3
        refine ⟨⟨k + 1, n + nq, by omega, by go_num, by rw [HW.out, World.drewN_drewN], fun j hj => ?_⟩, by simp [intOf]; omega⟩
        by_cases hjk : j = k
        · rw [hjk, HX.out, HY.out]; exact he
        · exact HJ.out j (by omega)
    · go_wp2_with fail
      go_ret
      refine ⟨ret_bool (same_eq HL.out fun j hj' => HJ.out j (by omega)).symm, n, HW.out⟩
end Go.Proofs.YtolmehmglgmanaaGreatDoor
