/- Numbers in decimal: Itoa by the shelf, and the law's own decimal. -/
import Derived.Test.YtolmehmglgmanaaGreatDoorRow
import Derived.Test.YtolmehmglgmanaaGreatDoorShelf
import Derived.Lib.AppendIntMem
import Derived.IntWalk
import Derived.Laws.Concat
import Derived.Lib.ItoaLen
import Derived.Lib.ItoaMem
namespace Go.Proofs.YtolmehmglgmanaaGreatDoor
open Go.RowKit

/-- The library's table of powers of ten is as its text lays it. -/
def Tab (w : World) : Prop := Lib.TabIs Tryz.prog w "internal/strconv.uint64pow10" .u64 Lib.pow10Tab
theorem Tab.up {w w' : World} (h : Tab w) (hb : Below w.heap.size w w') : Tab w' := by
  unfold Tab Lib.TabIs World.var? at *
  cases hg : Tryz.prog.globalNamed "internal/strconv.uint64pow10" with
  | none => rw [hg] at h; cases h
  | some g =>
    rw [hg] at h
    simp only [Option.bind_some] at h ⊢
    cases hc : w.heap[g]? with
    | none => rw [hc] at h; cases h
    | some o => rw [hb.block g (Array.getElem?_eq_some_iff.1 hc).1, hc]; rw [hc] at h; exact h
/-- A number in decimal. -/
def ita (n : Int) : ByteArray := ⟨(Lib.itoa n).toArray⟩
theorem ita_size (n : Int) (h0 : -9223372036854775808 ≤ n) (h1 : n ≤ 9223372036854775807) : (ita n).size ≤ 21 := by
  have := Lib.itoa_length_le n h0 h1
  simpa [ita, ByteArray.size] using this
theorem itoa_any (n : Int) (h0 : -9223372036854775808 ≤ n) (h1 : n ≤ 9223372036854775807) (w : World) (ht : Tab w) :
    Calls Tryz.prog 32 #[.int .i64 n] w fun e w' => e = .returned (.string (ita n)) ∧ Below w.heap.size w w' :=
  (Tryz.strconv_Itoa n h0 h1 w ht).mono fun e w' ⟨he, k, os, hw⟩ => ⟨he, by rw [hw]; exact Lib.below_grow _ w (Nat.le_refl _) k os⟩
theorem ret_str {a b : ByteArray} (h : a = b) : Ending.returned (.string a) = .returned (.string b) := by rw [h]
def dig (d : Nat) : UInt8 := UInt8.ofNat (48 + d)
/-- One byte as a string. -/
theorem conv_at (w : World) (b : Nat) (d : Nat) (hd : d < 10) (h : w.heap[b]? = some (.cells #[.int .u8 (48 + (d : Int))] 5 (0, 0))) :
    (convert 110 9 (.slice (some ⟨b, 0, none⟩) 1 1)).run Tryz.prog w = .ok (.string ⟨#[dig d]⟩) w := by
  have := run_convert_bytes_back (P := Tryz.prog) w 110 9 5 ⟨b, 0, none⟩ 1 [dig d] Tryz.underlying110 Tryz.underlying5 Tryz.underlying9 (fun j hj => by
    have hj0 : j = 0 := by simpa using hj
    subst hj0
    rw [add_none]
    simp only [Nat.add_zero, World.cell?, h]
    have : (48 + d) % 256 = 48 + d := by omega
    simp [dig, this])
  simpa using this
theorem conv_new (w : World) (d : Nat) (hd : d < 10) :
    (convert 110 9 (.slice (some ⟨w.heap.size, 0, none⟩) 1 1)).run Tryz.prog (w.alloc (.cells #[.int .u8 (48 + (d : Int))] 5)) = .ok (.string ⟨#[dig d]⟩) (w.alloc (.cells #[.int .u8 (48 + (d : Int))] 5)) :=
  conv_at _ _ d hd (heap_alloc_new _ _)
set_option maxRecDepth 100000 in
set_option maxHeartbeats 1000000 in
theorem decimal_nat (k : Nat) : ∀ (n : Nat) (w : World), n ≤ k → n ≤ 9223372036854775807 →
    Calls Tryz.prog 21 #[.int .i64 n] w fun e w' => e = .returned (.string ⟨(Lib.decDigits n).toArray⟩) ∧ Below w.heap.size w w' := by
  induction k with
  | zero =>
    intro n w hk hn
    have h10 : n < 10 := by omega
    have hcv := conv_new w n h10
    have HD : Hid (Lib.decDigits n = [dig n]) := by unfold Hid; rw [Lib.decDigits, dif_pos h10]; rfl
    go_enter Tryz.func21, Tryz.ntmps21
    go_wp2_with fail
    go_ret
    rw [HD.out]
    exact ⟨rfl, (Below.refl _ _).alloc (Nat.le_refl _) _⟩
  | succ k ih =>
    intro n w hk hn
    by_cases h10 : n < 10
    · have hcv := conv_new w n h10
      have HD : Hid (Lib.decDigits n = [dig n]) := by unfold Hid; rw [Lib.decDigits, dif_pos h10]; rfl
      clear ih
      go_enter Tryz.func21, Tryz.ntmps21
      go_wp2_with fail
      go_ret
      rw [HD.out]
      exact ⟨rfl, (Below.refl _ _).alloc (Nat.le_refl _) _⟩
    · have HD : Hid (Lib.decDigits n = Lib.decDigits (n / 10) ++ [dig (n % 10)]) := by unfold Hid; rw [Lib.decDigits, dif_neg h10]; rfl
      have IH := Lib.hid ih
      clear ih
      go_enter Tryz.func21, Tryz.ntmps21
      go_wp2_with fail
      refine region_list 9 26 (fun w' => Below w.heap.size w w') [is (.int .i64 (n : Nat)), is (.int .i64 ((n / 10 : Nat) : Int)), is (.string ⟨(Lib.decDigits (n / 10)).toArray⟩), is (.int .i64 (n : Nat)), is (.int .i64 ((n % 10 : Nat) : Int)), is (.int .i64 (48 + ((n % 10 : Nat) : Int))), is (.int .u8 (48 + ((n % 10 : Nat) : Int))), RowW w.heap.size 5 [.int .u8 (48 + ((n % 10 : Nat) : Int))], is (.string ⟨#[dig (n % 10)]⟩)] (by kernel_rfl) (by kernel_rfl) rfl (by decide) ?hst ?h0 ?hop ?htail
      case hst =>
        simp only [List.mem_cons, List.mem_nil_iff, or_false, forall_eq_or_imp, forall_eq]
        exact ⟨is_stable _, is_stable _, is_stable _, is_stable _, is_stable _, is_stable _, is_stable _, rowW_stable _ _ _, is_stable _⟩
      case h0 => exact (Below.refl _ _).drew
      case hop =>
        refine ⟨?_, ?_, ?_, ?_, ?_, ?_, ?_, ?_, ?_, trivial⟩
        · exact ok_move (.tmp 0) (is (.int .i64 (n : Nat))) rfl (by kernel_rfl) (fun _ _ _ h => h)
        · exact ok_tc 16 (.int .i64 10) (.int .i64 (n : Nat)) (.int .i64 ((n / 10 : Nat) : Int)) rfl (by kernel_rfl) (fun a wa _ h1 => by go_simp; exact IntWalk.i64_in _ (by omega)) rfl
        · exact ok_callF 21 [.tmp 17] _ [.int .i64 ((n / 10 : Nat) : Int)] rfl (fun _ _ => by kernel_rfl) ⟨by kernel_rfl, trivial⟩ (fun wa hC => (IH.out (n / 10) wa (by omega) (by omega)).mono fun e w' ⟨he, hb⟩ => ⟨_, he, hC.trans (hb.mono hC.size), hb, rfl⟩)
        · exact ok_move (.tmp 0) (is (.int .i64 (n : Nat))) rfl (by kernel_rfl) (fun _ _ _ h => h)
        · exact ok_tc 19 (.int .i64 10) (.int .i64 (n : Nat)) (.int .i64 ((n % 10 : Nat) : Int)) rfl (by kernel_rfl) (fun a wa _ h1 => by go_simp; exact IntWalk.rem_in _ _ (by omega)) rfl
        · exact ok_ct 20 (.int .i64 48) (.int .i64 ((n % 10 : Nat) : Int)) (.int .i64 (48 + ((n % 10 : Nat) : Int))) rfl (by kernel_rfl) (fun a wa _ h1 => by go_simp; exact IntWalk.i64_in _ (by omega)) rfl
        · exact ok_t1 21 (.int .i64 (48 + ((n % 10 : Nat) : Int))) (.int .u8 (48 + ((n % 10 : Nat) : Int))) rfl (by kernel_rfl) (fun a wa _ h1 => by go_simp; exact IntWalk.u8_in _ (by omega)) rfl
        · exact ok_row1 5 22 (.int .u8 (48 + ((n % 10 : Nat) : Int))) rfl (by kernel_rfl) (fun a wa h1 => by go_simp) rfl
        · refine ok_value fun a wa hC hpre => ⟨.string ⟨#[dig (n % 10)]⟩, ?_, rfl⟩
          have h1 : RowW w.heap.size 5 [.int .u8 (48 + ((n % 10 : Nat) : Int))] (a.eval (.tmp 23)) wa := hpre (.tmp 23) (by simp [Op.operands])
          obtain ⟨b, _, hv, hc⟩ := h1
          have := conv_at wa b (n % 10) (by omega) hc
          simp only [execOp, hv]
          simp [this]
      case htail =>
        intro τ w2 hC hR
        have r2 : τ 2 = .string ⟨(Lib.decDigits (n / 10)).toArray⟩ := hR 2 (by decide)
        have r8 : τ 8 = .string ⟨#[dig (n % 10)]⟩ := hR 8 (by decide)
        simp only [putAll, List.getElem?_toArray, List.getElem?_cons_succ, List.getElem?_cons_zero, Option.bind_some, Act.put, List.setIfInBounds_toArray, List.set_cons_succ, List.set_cons_zero, List.drop_succ_cons, List.drop_zero, r2, r8]
        clear r2 r8 hR
        have hl : (Lib.decDigits (n / 10)).length ≤ 20 := by rw [Lib.decDigits_length]; exact Lib.nDigits_le20 _ (by omega)
        go_wp2_with fail
        go_ret
        rw [HD.out]
        exact ⟨ret_str (by rw [← ByteArray.mk_append_mk]), hC⟩
set_option maxRecDepth 100000 in
theorem decimal_any (n : Int) (w : World) (h0 : -9223372036854775807 ≤ n) (h1 : n ≤ 9223372036854775807) :
    Calls Tryz.prog 21 #[.int .i64 n] w fun e w' => e = .returned (.string (ita n)) ∧ Below w.heap.size w w' := by
  by_cases hn : n < 0
  · obtain ⟨m, rfl⟩ : ∃ m : Nat, n = -(m : Int) := ⟨n.natAbs, by omega⟩
    have HI : Hid (Lib.itoa (-(m : Int)) = 45 :: Lib.decDigits m) := Lib.itoa_neg m (by omega)
    have hl : (Lib.decDigits m).length ≤ 20 := by rw [Lib.decDigits_length]; exact Lib.nDigits_le20 _ (by omega)
    go_enter Tryz.func21, Tryz.ntmps21
    go_wp2_with fail
    refine (decimal_nat m m _ (Nat.le_refl _) (by omega)).mono ?_
    rintro e w' ⟨rfl, hb⟩
    go_wp2_with fail
    go_ret
    exact ⟨ret_str (by rw [ita, HI.out, show (45 :: Lib.decDigits m) = [45] ++ Lib.decDigits m from rfl, ← ByteArray.mk_append_mk]), hb⟩
  · obtain ⟨m, rfl⟩ : ∃ m : Nat, n = (m : Int) := ⟨n.toNat, by omega⟩
    rw [ita, Lib.itoa_nonneg]
    exact decimal_nat m m w (Nat.le_refl _) (by omega)
end Go.Proofs.YtolmehmglgmanaaGreatDoor
