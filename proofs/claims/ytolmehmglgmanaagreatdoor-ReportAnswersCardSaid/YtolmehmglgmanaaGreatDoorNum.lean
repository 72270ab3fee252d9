/- Numbers that are read: must, number. -/
import Derived.Test.YtolmehmglgmanaaGreatDoorFound
import Derived.Test.YtolmehmglgmanaaGreatDoorShelf2
import Derived.Shelf.Strconv.ErrVarAll
import Derived.Lib.ConvBytes
namespace Go.Proofs.YtolmehmglgmanaaGreatDoor
open Go.RowKit

/-- The panic of a line that cannot be read. -/
def bad : List PanicEntry := [{ v := .iface 41 (.int .i64 6), recovered := false }]
set_option maxRecDepth 100000 in
theorem must_true (w : World) : Calls Tryz.prog 26 #[.bool true] w fun e w' => e = .returned (.tuple #[]) ∧ w = w' := by
  go_enter Tryz.func26, Tryz.ntmps26
  go_wp2_with fail
  go_end0
  exact ⟨rfl, rfl⟩
set_option maxRecDepth 100000 in
theorem must_false (w : World) : Calls Tryz.prog 26 #[.bool false] w fun e w' => e = .panicked bad ∧ w = w' := by
  go_enter Tryz.func26, Tryz.ntmps26
  go_wp2_with fail
  exact ⟨rfl, rfl, rfl⟩
/-- The library's two errors are there. -/
def Errs (w : World) : Prop := (∃ t p, w.var? Tryz.prog "strconv.ErrSyntax" = some #[.iface t p]) ∧ ∃ t p, w.var? Tryz.prog "strconv.ErrRange" = some #[.iface t p]
theorem var_up {w w' : World} {n : String} {cs : Array Value} (h : w.var? Tryz.prog n = some cs) (hb : Below w.heap.size w w') : w'.var? Tryz.prog n = some cs := by
  unfold World.var? at *
  cases hg : Tryz.prog.globalNamed n with
  | none => rw [hg] at h; cases h
  | some g =>
    rw [hg] at h
    simp only [Option.bind_some] at h ⊢
    cases hc : w.heap[g]? with
    | none => rw [hc] at h; cases h
    | some o => rw [hb.block g (Array.getElem?_eq_some_iff.1 hc).1, hc]; rw [hc] at h; exact h
theorem Errs.up {w w' : World} (h : Errs w) (hb : Below w.heap.size w w') : Errs w' := by
  obtain ⟨⟨t1, p1, h1⟩, t2, p2, h2⟩ := h
  exact ⟨⟨t1, p1, var_up h1 hb⟩, t2, p2, var_up h2 hb⟩
/-- The number that a word is. -/
def numS (s : ByteArray) : Option Int := match Lib.atoiAll s.data.toList with | .ok v => if ita v = s then some v else none | _ => none
theorem atoi_fits {l : List UInt8} {v : Int} (h : Lib.atoiAll l = .ok v) : fits v := by
  unfold Lib.atoiAll at h
  split at h
  · cases h
  · rename_i c r
    simp only at h
    split at h
    · cases h
    · cases h
    · rename_i u _
      split at h
      · cases h
      · split at h
        · cases h
        · cases h
          rename_i h1 h2
          unfold fits
          split
          · rename_i hn; simp only [hn, true_and] at h2; omega
          · rename_i hn; simp only [hn, not_false_eq_true, true_and] at h1; omega
theorem numS_some {s : ByteArray} {n : Int} (h : numS s = some n) : fits n ∧ ita n = s := by
  unfold numS at h
  split at h
  · rename_i v hv
    split at h
    · rename_i he; cases h; exact ⟨atoi_fits hv, he⟩
    · cases h
  · cases h
def NumPost (w : World) (s : ByteArray) (e : Ending) (w' : World) : Prop := Below w.heap.size w w' ∧ match numS s with | some n => e = .returned (.int .i64 n) | none => e = .panicked bad
theorem NumPost.no {w w' : World} {s : ByteArray} (h : numS s = none) (hb : Below w.heap.size w w') : NumPost w s (.panicked bad) w' := by unfold NumPost; rw [h]; exact ⟨hb, rfl⟩
theorem NumPost.yes {w w' : World} {s : ByteArray} {n : Int} (h : numS s = some n) (hb : Below w.heap.size w w') : NumPost w s (.returned (.int .i64 n)) w' := by unfold NumPost; rw [h]; exact ⟨hb, rfl⟩
set_option maxRecDepth 100000 in
set_option maxHeartbeats 1000000 in
theorem number_any (s : ByteArray) (w : World) (hs : s.size ≤ 1000000) (ht : Tab w) (he : Errs w) : Calls Tryz.prog 28 #[.string s] w (NumPost w s) := by
  cases hA : Lib.atoiAll s.data.toList with
  | ok v =>
    obtain ⟨f1, f2⟩ := atoi_fits hA
    have CA := Lib.hid (fun w => Tryz.strconv_Atoi_ok s (by omega) v hA w)
    have hi := ita_size v f1 f2
    by_cases hv : ita v = s
    · have HN : Hid (numS s = some v) := by unfold Hid numS; rw [hA]; simp [hv]
      have HV := Lib.hid hv
      clear hA hv he
      go_enter Tryz.func28, Tryz.ntmps28
      go_wp2_with fail
      refine (CA.out _).mono ?_
      rintro e w1 ⟨rfl, hw1⟩
      have hb1 : Below w.heap.size w w1 := by
        rcases hw1 with h | ⟨t, h⟩
        · rw [h]; exact Below.refl _ _
        · rw [h]; exact Lib.bytesWorld_below _ _ _
      clear hw1
      go_wp2_with fail
      refine (itoa_any v f1 f2 _ (ht.up hb1)).mono ?_
      rintro e w2 ⟨rfl, hb2⟩
      rw [HV.out]
      go_wp2_with fail
      refine (must_true _).mono ?_
      rintro e w3 ⟨rfl, rfl⟩
      go_wp2_with fail
      go_ret
      exact NumPost.yes HN.out (hb1.trans (hb2.mono hb1.size))
    · have HN : Hid (numS s = none) := by unfold Hid numS; rw [hA]; simp [hv]
      have hne : ((ita v).toList == s.toList) = false := beq_eq_false_iff_ne.2 fun e => hv (toList_inj e)
      clear hA he
      go_enter Tryz.func28, Tryz.ntmps28
      go_wp2_with fail
      refine (CA.out _).mono ?_
      rintro e w1 ⟨rfl, hw1⟩
      have hb1 : Below w.heap.size w w1 := by
        rcases hw1 with h | ⟨t, h⟩
        · rw [h]; exact Below.refl _ _
        · rw [h]; exact Lib.bytesWorld_below _ _ _
      clear hw1
      go_wp2_with fail
      refine (itoa_any v f1 f2 _ (ht.up hb1)).mono ?_
      rintro e w2 ⟨rfl, hb2⟩
      generalize ita v = y at *
      go_wp2_with fail
      refine (must_false _).mono ?_
      rintro e w3 ⟨rfl, rfl⟩
      exact ⟨rfl, NumPost.no HN.out (hb1.trans (hb2.mono hb1.size))⟩
  | range =>
    have HN : Hid (numS s = none) := by unfold Hid numS; rw [hA]
    have CA : Hid (∀ w, Errs w → Calls Tryz.prog 41 #[.string s] w fun e w' => ∃ N n, e = .returned (.tuple #[.int .i64 n, .iface 136 (.pointer (some ⟨N, 0, none⟩))]) ∧ Below w.heap.size w w') := fun w hE => by
      obtain ⟨t, p, h⟩ := hE.2
      exact (Any.strconv_Atoi_range_var Tryz.laysC172 s (by omega) hA t p w h).mono fun e w' ⟨N, he, _, _, hb⟩ => ⟨N, _, he, hb⟩
    clear hA
    go_enter Tryz.func28, Tryz.ntmps28
    go_wp2_with fail
    refine (CA.out _ he).mono ?_
    rintro e w1 ⟨N, n, rfl, hb1⟩
    go_wp2_with fail
    refine (must_false _).mono ?_
    rintro e w3 ⟨rfl, rfl⟩
    exact ⟨rfl, NumPost.no HN.out hb1⟩
  | _ =>
    have HN : Hid (numS s = none) := by unfold Hid numS; rw [hA]
    have CA : Hid (∀ w, Errs w → Calls Tryz.prog 41 #[.string s] w fun e w' => ∃ N n, e = .returned (.tuple #[.int .i64 n, .iface 136 (.pointer (some ⟨N, 0, none⟩))]) ∧ Below w.heap.size w w') := fun w hE => by
      obtain ⟨t, p, h⟩ := hE.1
      exact (Any.strconv_Atoi_syntax_var Tryz.laysC172 s (by omega) hA t p w h).mono fun e w' ⟨N, he, _, _, hb⟩ => ⟨N, _, he, hb⟩
    clear hA
    go_enter Tryz.func28, Tryz.ntmps28
    go_wp2_with fail
    refine (CA.out _ he).mono ?_
    rintro e w1 ⟨N, n, rfl, hb1⟩
    go_wp2_with fail
    refine (must_false _).mono ?_
    rintro e w3 ⟨rfl, rfl⟩
    exact ⟨rfl, NumPost.no HN.out hb1⟩
end Go.Proofs.YtolmehmglgmanaaGreatDoor
