/- What a valid crew is: the walk of crew. -/
import Derived.Test.YtolmehmglgmanaaGreatDoorVec
import Derived.Test.YtolmehmglgmanaaGreatDoorName
import Derived.Test.YtolmehmglgmanaaGreatDoorMaps
import Derived.Test.YtolmehmglgmanaaGreatDoorPath
import Derived.Test.YtolmehmglgmanaaGreatDoorRegion
import Derived.BigGuardPart
namespace Go.Proofs.YtolmehmglgmanaaGreatDoor
open Go.RowKit

def strs (l : List ByteArray) : List Value := l.map .string
theorem strs_at (l : List ByteArray) (k : Nat) (h : k < l.length) : (strs l)[k]? = some (.string l[k]) := by simp [strs, h]
def V3.val (v : V3) : Value := .agg #[.int .i64 v.x, .int .i64 v.y, .int .i64 v.z]
def eqV (a b : V3) : Bool := a.x == b.x && (a.y == b.y && a.z == b.z)
/-- The check of aircraft number k. -/
def crewAt (names : List ByteArray) (homes : List V3) (k : Nat) : Bool :=
  nameB (names.getD k ByteArray.empty) && !((names.take k).any fun t => names.getD k ByteArray.empty == t) && V3.pt' (homes.getD k V3.zero) && !((homes.take k).any fun t => eqV (homes.getD k V3.zero) t)
where V3.pt' (v : V3) : Bool := ptB v.x v.y v.z
def crewB (names : List ByteArray) (homes : List V3) : Bool :=
  decide (1 ≤ names.length) && decide (names.length ≤ 64) && decide (homes.length = names.length) && (List.range names.length).all (crewAt names homes)
def namesL (l : List ByteArray) : List (Value × Value) := l.map fun s => (.string s, .bool true)
def homesL (l : List V3) : List (Value × Value) := l.map fun v => (v.val, .bool true)
theorem look_names (l : List ByteArray) (s : ByteArray) : (((namesL l).find? (fun p => eqStr (.string s) p.1)).map (·.2)).getD (.bool false) = .bool (l.any fun t => s == t) := by
  induction l with
  | nil => rfl
  | cons t l ih =>
    unfold namesL at *
    simp only [List.map_cons, List.find?_cons, List.any_cons]
    have e : eqStr (.string s) (.string t) = (s == t) := rfl
    rw [e]
    cases s == t
    · simpa using ih
    · rfl
theorem look_homes (l : List V3) (v : V3) : (((homesL l).find? (fun p => eqVec v.val p.1)).map (·.2)).getD (.bool false) = .bool (l.any fun t => eqV v t) := by
  induction l with
  | nil => rfl
  | cons t l ih =>
    unfold homesL at *
    simp only [List.map_cons, List.find?_cons, List.any_cons]
    have e : eqVec v.val t.val = eqV v t := rfl
    rw [e]
    cases eqV v t
    · simpa using ih
    · rfl
theorem namesL_keys (l : List ByteArray) : ∀ p ∈ namesL l, ∃ s, p.1 = .string s := by
  intro p hp; unfold namesL at hp; obtain ⟨s, _, rfl⟩ := List.mem_map.1 hp; exact ⟨s, rfl⟩
theorem homesL_keys (l : List V3) : ∀ p ∈ homesL l, ∃ x y z, p.1 = vec x y z := by
  intro p hp; unfold homesL at hp; obtain ⟨v, _, rfl⟩ := List.mem_map.1 hp; exact ⟨v.x, v.y, v.z, rfl⟩
theorem names_fresh (l : List ByteArray) (s : ByteArray) (h : (l.any fun t => s == t) = false) : ∀ p ∈ namesL l, eqStr (.string s) p.1 = false := by
  intro p hp; unfold namesL at hp; obtain ⟨t, ht, rfl⟩ := List.mem_map.1 hp
  rw [List.any_eq_false] at h
  have := h t ht
  show (s == t) = false
  simpa using this
theorem homes_fresh (l : List V3) (v : V3) (h : (l.any fun t => eqV v t) = false) : ∀ p ∈ homesL l, eqVec v.val p.1 = false := by
  intro p hp; unfold homesL at hp; obtain ⟨t, ht, rfl⟩ := List.mem_map.1 hp
  rw [List.any_eq_false] at h
  have := h t ht
  show eqV v t = false
  simpa using this
theorem crew_no {names : List ByteArray} {homes : List V3} {k : Nat} (hk : k < names.length) (h : crewAt names homes k = false) : crewB names homes = false := by
  have : (List.range names.length).all (crewAt names homes) = false := by
    rw [List.all_eq_false]; exact ⟨k, List.mem_range.2 hk, by rw [h]; simp⟩
  unfold crewB; rw [this]; simp
theorem crew_step {names : List ByteArray} {homes : List V3} {k : Nat} (h : (List.range k).all (crewAt names homes) = true) (hs : crewAt names homes k = true) : (List.range (k + 1)).all (crewAt names homes) = true := by
  rw [List.range_succ, List.all_append, h]; simp [hs]
set_option maxRecDepth 100000 in
set_option maxHeartbeats 2000000 in
theorem crew_any (names : List ByteArray) (homes : List V3) (vn vh va : Value) (w : World) (hn : Sees w 0 w.heap.size 1 vn names.length (strs names)) (hh : Sees w 0 w.heap.size 3 vh homes.length (vecs homes)) (hva : ∃ A n c, va = .slice A n c)
    (hsz : ∀ s ∈ names, s.size ≤ maxLen) :
    Calls Tryz.prog 17 #[.agg #[vn, vh, va]] w fun e w' => e = .returned (.bool (crewB names homes)) ∧ Below w.heap.size w w' := by
  obtain ⟨An, cn, rfl⟩ := hn.slice
  obtain ⟨Ah, ch, rfl⟩ := hh.slice
  obtain ⟨Aa, na, ca, rfl⟩ := hva
  have hmm := @run_makeMap Tryz.prog
  by_cases hpre : 1 ≤ names.length ∧ names.length ≤ 64 ∧ homes.length = names.length
  · obtain ⟨p1, p2, p3⟩ := hpre
    have HP3 := Lib.hid p3
    have hne : ((homes.length : Int) != (names.length : Int)) = false := by simp [p3]
    clear p3
    go_enter Tryz.func17, Tryz.ntmps17
    go_wp2_with fail
    go_loopw [2, 6, 7, 29] (fun _ _ _ i wr => ∃ k : Nat, k ≤ names.length ∧ i = .int .i64 k ∧ MapAt wr (w.heap.size + 1) (namesL (names.take k)) ∧ MapAt wr (w.heap.size + 1 + 1) (homesL (homes.take k)) ∧
      wr.heap[w.heap.size]? = some (.cells #[.slice An names.length cn, .slice Ah homes.length ch, .slice Aa na ca] 26 (0, 0)) ∧ Below w.heap.size w wr ∧ Hid ((List.range k).all (crewAt names homes) = true)) (fun _ _ _ i _ => names.length - (intOf i).toNat)
    case atStart =>
      refine ⟨0, Nat.zero_le _, rfl, ?_, ?_, ?_, ?_, rfl⟩
      · exact (MapAt.new _ _ (by simp)).alloc _
      · exact MapAt.new _ _ (by simp)
      · rw [Below.heap_alloc _ _ _ (by simp; omega), Below.heap_alloc _ _ _ (by simp)]; exact heap_new _ _ _ rfl
      · exact (((Below.refl _ _).alloc (Nat.le_refl _) _).alloc (by simp) _).alloc (by simp; omega) _
    case round =>
      obtain ⟨k, hk, rfl, hmn, hmh, hbox, hbel, HA⟩ := hrel
      have c0 : wr.cell? ⟨w.heap.size, 0, none⟩ = some (.slice An names.length cn) := by simp [World.cell?, hbox]
      have c1 : wr.cell? ⟨w.heap.size, 1, none⟩ = some (.slice Ah homes.length ch) := by simp [World.cell?, hbox]
      have HBX := Lib.hid hbox
      clear hbox
      by_cases hlt : k < names.length
      · obtain ⟨bn, on, cn', en, _, hbn, hcn⟩ := (hn.below hbel).pos (by omega)
        obtain ⟨bh, oh, ch', eh, _, hbh, hch⟩ := (hh.below hbel).pos (by have := HP3.out; omega)
        have hlh : k < homes.length := by have := HP3.out; omega
        have hcell := hcn k _ (strs_at names k hlt)
        have hv0 := hch _ _ (vecs_at homes k hlh 0 _ rfl)
        have hv1 := hch _ _ (vecs_at homes k hlh 1 _ rfl)
        have hv2 := hch _ _ (vecs_at homes k hlh 2 _ rfl)
        have gN : names.getD k ByteArray.empty = names[k] := by simp [hlt]
        have gH : homes.getD k V3.zero = homes[k] := by simp [hlh]
        have hsk := hsz _ (List.getElem_mem hlt)
        have hl1 := hmn.look Tryz.underlying103 (keyStr 9 Tryz.underlying9) (namesL_keys _) (.string names[k]) ⟨_, rfl⟩ (.bool false) (by kernel_rfl)
        rw [look_names] at hl1
        cases en
        cases eh
        have HC : Hid (crewAt names homes k = (nameB names[k] && !((names.take k).any fun t => names[k] == t) && ptB homes[k].x homes[k].y homes[k].z && !((homes.take k).any fun t => eqV homes[k] t))) := by
          unfold Hid crewAt; rw [gN, gH]; rfl
        have hl2 : Hid (∀ W, MapAt W (w.heap.size + 1 + 1) (homesL (homes.take k)) → (Instr.lookup 104 (.map (some (w.heap.size + 1 + 1))) (.agg #[.int .i64 homes[k].x, .int .i64 homes[k].y, .int .i64 homes[k].z]) false).run Tryz.prog W = .ok (.bool ((homes.take k).any fun t => eqV homes[k] t)) W) := fun W hW => by
          have := hW.look Tryz.underlying104 keyVec (homesL_keys _) homes[k].val ⟨_, _, _, rfl⟩ (.bool false) (by kernel_rfl)
          rw [look_homes] at this
          exact this
        have HFN : Hid (((names.take k).any fun t => names[k] == t) = false → ∀ p ∈ namesL (names.take k), eqStr (.string names[k]) p.1 = false) := names_fresh _ _
        have HFH : Hid (((homes.take k).any fun t => eqV homes[k] t) = false → ∀ p ∈ homesL (homes.take k), eqVec homes[k].val p.1 = false) := homes_fresh _ _
        have HTN : Hid (namesL (names.take k) ++ [(.string names[k], .bool true)] = namesL (names.take (k + 1))) := by unfold Hid namesL; rw [List.take_succ_eq_append_getElem hlt]; simp only [List.map_append, List.map_cons, List.map_nil]
        have HTH : Hid (homesL (homes.take k) ++ [(homes[k].val, .bool true)] = homesL (homes.take (k + 1))) := by unfold Hid homesL; rw [List.take_succ_eq_append_getElem hlh]; simp only [List.map_append, List.map_cons, List.map_nil]
        clear hcn hch hn hh gN gH hsz hmm
        generalize hs : names[k] = sk at *
        generalize hhv : homes[k] = hv at *
        generalize h1 : ((names.take k).any fun t => sk == t) = A1 at *
        generalize h2 : ((homes.take k).any fun t => eqV hv t) = A2 at *
        clear hs hhv h1 h2
        simp only [Nat.add_zero] at hv0
        rw [← Nat.add_assoc] at hv1 hv2
        have hzr := hmh.lt
        have hbr : bh < wr.heap.size := by have := hbel.size; omega
        go_wp2_with (first
          | (go_at_call 18
             refine (validName_any _ _ hsk).mono ?_
             rintro e w' ⟨rfl, rfl⟩)
          | (go_at_call 33
             refine (point_pt _ _ _ _).mono ?_
             rintro e w1 ⟨rfl, hb1⟩
             have hzz := hb1.size
             have hmn1 := hmn.below hb1 hmn.lt
             have hmh1 := hmh.below hb1 hmh.lt
             have hl2' := hl2.out w1 hmh1
             have d1 := (hb1.cell (p := ⟨w.heap.size, 1, none⟩) (show w.heap.size < _ by omega)).trans c1
             have e0 := (hb1.cell (p := ⟨bh, oh + k * 3, none⟩) hbr).trans hv0
             have e1 := (hb1.cell (p := ⟨bh, oh + k * 3 + 1, none⟩) hbr).trans hv1
             have e2 := (hb1.cell (p := ⟨bh, oh + k * 3 + 2, none⟩) hbr).trans hv2)
          | (with_reducible refine wpList_update rfl (.tmp 60) (.tmp 61) (.const (.bool true)) 103 rfl Tryz.underlying103 (keyStr 9 Tryz.underlying9) rfl hmn1 (namesL_keys _) (.string sk) (.bool true) rfl rfl ⟨_, rfl⟩ (HFN.out (by assumption)) ?_
             intro w2 hm2 hg2
             have hmh2 := hmh1.keep (hg2.block _ hmh1.lt (by simp)))
          | (with_reducible refine wpList_entry rfl (.tmp 62) (.tmp 67) 104 rfl Tryz.underlying104 keyVec rfl hmh2 (homesL_keys _) hv.val rfl ⟨_, _, _, rfl⟩ (HFH.out (by assumption)) (.bool false) (by kernel_rfl) ?_
             intro w3 cc hE hg3
             have hm3 := hm2.keep (hg3.block _ hm2.lt (by simp)))
          | (with_reducible refine wpList_entryStore rfl (.tmp 62) (.tmp 69) (.const (.bool true)) 104 rfl rfl hE rfl (.bool true) rfl ?_
             intro w4 hm4 hg4
             have hm5 := hm3.keep (hg4.block _ hm3.lt (by simp))))
        case roundEnd =>
          rw [HTN.out] at hm5
          rw [HTH.out] at hm4
          refine ⟨⟨k + 1, by omega, by go_num, hm5, hm4, ?_, ?_, crew_step HA.out ?_⟩, by simp [intOf]; omega⟩
          · rw [hg4.block _ (by have := hm3.lt; omega) (by simp; omega), hg3.block _ (by have := hm2.lt; omega) (by simp; omega), hg2.block _ (by have := hmn1.lt; omega) (by simp), hb1.block _ (by omega)]
            exact HBX.out
          · have q1 := hbel.trans (hb1.mono hbel.size)
            have q2 := q1.grown hg2 q1.size (by rintro j ⟨rfl⟩; omega)
            have q3 := q2.grown hg3 q2.size (by rintro j ⟨rfl⟩; omega)
            exact q3.grown hg4 q3.size (by rintro j ⟨rfl⟩; omega)
          · rw [HC.out]; simp [*]
        all_goals
          go_ret
          refine ⟨ret_bool (crew_no hlt ?_).symm, ?_⟩
          · rw [HC.out]; simp [*]
          · first | exact hbel | exact hbel.trans (hb1.mono hbel.size)
      · have HKN : Hid (k = names.length) := by unfold Hid; omega
        go_wp2
        go_ret
        refine ⟨ret_bool ?_, hbel⟩
        unfold crewB
        rw [← HKN.out, HA.out]
        have := HP3.out
        rw [this, ← HKN.out]
        simp
        omega
  · have HN : Hid (crewB names homes = false) := by
      unfold Hid crewB
      by_cases a1 : 1 ≤ names.length <;> by_cases a2 : names.length ≤ 64 <;> by_cases a3 : homes.length = names.length <;> simp [a1, a2, a3]
      exact absurd ⟨a1, a2, a3⟩ hpre
    go_enter Tryz.func17, Tryz.ntmps17
    go_wp2_with fail
    all_goals first
      | (go_ret; exact ⟨ret_bool HN.out.symm, (Below.refl _ _).alloc (Nat.le_refl _) _⟩)
      | (exfalso; apply hpre; refine ⟨by omega, by omega, ?_⟩; have h := ‹((homes.length : Int) != (names.length : Int)) = false›; simp at h; omega)
end Go.Proofs.YtolmehmglgmanaaGreatDoor
