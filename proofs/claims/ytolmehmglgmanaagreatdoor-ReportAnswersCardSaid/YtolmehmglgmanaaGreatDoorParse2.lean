/- One line of answers is read: the walks of Find and of ParseAnswers' function. -/
import Derived.Test.YtolmehmglgmanaaGreatDoorAnswer
import Derived.Test.YtolmehmglgmanaaGreatDoorParseB
import Derived.Test.YtolmehmglgmanaaGreatDoorRegionK
import Derived.Deep.MidRow
namespace Go.Proofs.YtolmehmglgmanaaGreatDoor
open Go.RowKit

def pfindI (p : Pr) (s : ByteArray) : Int := if idxS p.names s < 0 then 0 else idxS p.names s
def pfindE (p : Pr) (s : ByteArray) : Int := if idxS p.names s < 0 then 9 else 0
set_option maxRecDepth 100000 in
set_option maxHeartbeats 1000000 in
theorem find_any (p : Pr) (vn vh va : Value) (s : ByteArray) (w : World) (hp : ProgAt w w.heap.size vn vh va p) (ho : PrOk p) (hv : validB p = true) :
    Calls Tryz.prog 27 #[.agg #[vn, vh, va], .string s] w fun e w' => e = .returned (.tuple #[.int .i64 (pfindI p s), .int .i64 (pfindE p s)]) ∧ Below w.heap.size w w' := by
  obtain ⟨A1, cn, rfl⟩ := hp.names.slice
  obtain ⟨Ah, ch, rfl⟩ := hp.homes.slice
  obtain ⟨csA, ha, hacts⟩ := hp.acts
  obtain ⟨Aa, ca, rfl⟩ := ha.slice
  have HV := Lib.hid hv
  have hn := names_le hv
  clear ha hacts hv
  go_enter Tryz.func27, Tryz.ntmps27
  go_wp2_with fail
  refine (valid_ok p _ _ _ _ (hp.up ((Below.refl _ _).alloc (Nat.le_refl _) _)) ho).mono ?_
  rintro e w1 ⟨rfl, hb1⟩
  rw [HV.out]
  have hB : Below w.heap.size w w1 := ((Below.refl _ _).alloc (Nat.le_refl _) _).trans (hb1.mono (by simp))
  obtain ⟨hc, hf⟩ := bcell hb1
  have HP := Lib.hid (hp.up hB)
  clear hp hb1
  go_wp2_with fail
  refine (index_any p.names s _ 0 w1.heap.size w1 HP.out.names (by omega)).mono ?_
  rintro e w2 ⟨rfl, rfl⟩
  have HI : Hid (∀ i, idxS p.names s = i → pfindI p s = (if i < 0 then 0 else i) ∧ pfindE p s = (if i < 0 then 9 else 0)) := by rintro i rfl; exact ⟨rfl, rfl⟩
  have hfi : idxS p.names s ≤ 1000000 := by
    unfold idxS
    split
    · rename_i i hi; have := (List.findIdx?_eq_some_iff_getElem.1 hi).1; omega
    · omega
  generalize idxS p.names s = i at *
  by_cases hi : i < 0
  · go_wp2_with fail
    go_ret2
    obtain ⟨h1, h2⟩ := HI.out i rfl
    rw [h1, h2, if_pos hi, if_pos hi]
    exact ⟨rfl, hB⟩
  · go_wp2_with fail
    go_ret2
    obtain ⟨h1, h2⟩ := HI.out i rfl
    rw [h1, h2, if_neg (by omega), if_neg (by omega)]
    exact ⟨rfl, hB⟩
def aloneW : ByteArray := ⟨#[97, 108, 111, 110, 101]⟩
def reliefW : ByteArray := ⟨#[114, 101, 108, 105, 101, 102]⟩
def caseW : ByteArray := ⟨#[99, 97, 115, 101]⟩
def sideW : ByteArray := ⟨#[115, 105, 100, 101]⟩
def headP (ws : List ByteArray) : Bool := decide (6 ≤ ws.length) && decide (wd ws 0 = caseW) && decide (wd ws 3 = sideW)
/-- What the words from the sixth on say. -/
def tailP (ws : List ByteArray) : Option (Bool × Int × Int × Int) :=
  if wd ws 5 = aloneW then (if ws.length = 6 then some (false, 0, 0, 0) else none)
  else if wd ws 5 = reliefW ∧ ws.length = 9 then
    match numS (wd ws 6), numS (wd ws 7), numS (wd ws 8) with
    | some a, some b, some c => some (true, a, b, c)
    | _, _, _ => none
  else none
/-- The answer that words say. -/
def parseA (p : Pr) (ws : List ByteArray) : Option An :=
  if headP ws = true ∧ ¬ idxS p.names (wd ws 1) < 0 then
    match numS (wd ws 2), numS (wd ws 4), tailP ws with
    | some k, some s, some (r, a, b, c) => if writtenB p ⟨idxS p.names (wd ws 1), k, s, r, a, b, c⟩ = true then some ⟨idxS p.names (wd ws 1), k, s, r, a, b, c⟩ else none
    | _, _, _ => none
  else none
def AnsP (w : World) (p : Pr) (ws : List ByteArray) (e : Ending) (w' : World) : Prop := Below w.heap.size w w' ∧ match parseA p ws with | some a => e = .returned a.val | none => e = .panicked bad
theorem AnsP.no {w w' : World} {p : Pr} {ws : List ByteArray} (h : parseA p ws = none) (hb : Below w.heap.size w w') : AnsP w p ws (.panicked bad) w' := by unfold AnsP; rw [h]; exact ⟨hb, rfl⟩
theorem AnsP.yes {w w' : World} {p : Pr} {ws : List ByteArray} {a : An} (h : parseA p ws = some a) (hb : Below w.heap.size w w') : AnsP w p ws (.returned a.val) w' := by unfold AnsP; rw [h]; exact ⟨hb, rfl⟩
theorem parseA_head {p : Pr} {ws : List ByteArray} (h : headP ws = false) : parseA p ws = none := by unfold parseA; rw [if_neg (by simp [h])]
theorem parseA_find {p : Pr} {ws : List ByteArray} (h : idxS p.names (wd ws 1) < 0) : parseA p ws = none := by unfold parseA; rw [if_neg (by simp [h])]
theorem parseA_num {p : Pr} {ws : List ByteArray} (h : numS (wd ws 2) = none ∨ numS (wd ws 4) = none ∨ tailP ws = none) : parseA p ws = none := by
  unfold parseA
  split
  · rcases h with h | h | h
    · rw [h]
    · rw [h]; cases numS (wd ws 2) <;> rfl
    · rw [h]; cases numS (wd ws 2) <;> cases numS (wd ws 4) <;> rfl
  · rfl
theorem parseA_all {p : Pr} {ws : List ByteArray} {k s a b c : Int} {r : Bool} (hh : headP ws = true) (hi : ¬ idxS p.names (wd ws 1) < 0) (h2 : numS (wd ws 2) = some k) (h4 : numS (wd ws 4) = some s) (ht : tailP ws = some (r, a, b, c)) :
    parseA p ws = if writtenB p ⟨idxS p.names (wd ws 1), k, s, r, a, b, c⟩ = true then some ⟨idxS p.names (wd ws 1), k, s, r, a, b, c⟩ else none := by
  unfold parseA; rw [if_pos ⟨hh, hi⟩, h2, h4, ht]
theorem tailP_num {ws : List ByteArray} (h5 : wd ws 5 ≠ aloneW) (h : numS (wd ws 6) = none ∨ numS (wd ws 7) = none ∨ numS (wd ws 8) = none) : tailP ws = none := by
  unfold tailP
  rw [if_neg h5]
  split
  · rcases h with h | h | h
    · rw [h]
    · rw [h]; cases numS (wd ws 6) <;> rfl
    · rw [h]; cases numS (wd ws 6) <;> cases numS (wd ws 7) <;> rfl
  · rfl
set_option maxRecDepth 100000 in
set_option maxHeartbeats 1000000 in
/-- The head is wrong. -/
theorem onea_head (p : Pr) (ws : List ByteArray) (vl : Value) (B lo hi : Nat) (w : World) (hl : Sees w lo hi 1 vl ws.length (strs ws)) (hhi : hi ≤ w.heap.size) (hm : ws.length ≤ 1000000) (hh : headP ws = false) :
    Calls Tryz.prog 25 #[vl, .pointer (some ⟨B, 0, none⟩)] w (AnsP w p ws) := by
  obtain ⟨A, c, rfl⟩ := hl.slice
  have HP : Hid (AnsP w p ws (.panicked bad) (w.alloc (.cells #[.int .i64 0, .int .i64 0, .int .i64 0, .bool false, .int .i64 0, .int .i64 0, .int .i64 0] 38))) := AnsP.no (parseA_head hh) ((Below.refl _ _).alloc (Nat.le_refl _) _)
  by_cases h6 : 6 ≤ ws.length
  · obtain ⟨b, o, c', e, _, hb2, hca⟩ := hl.pos (by omega)
    cases e
    have g0 : w.cell? ⟨b, o, none⟩ = some (.string (wd ws 0)) := hca 0 _ (strs_getD ws 0 (by omega))
    have g3 : w.cell? ⟨b, o + 3, none⟩ = some (.string (wd ws 3)) := hca 3 _ (strs_getD ws 3 (by omega))
    have hblt : b < w.heap.size := by omega
    have HC : Hid (wd ws 0 ≠ caseW ∨ (wd ws 0 = caseW ∧ wd ws 3 ≠ sideW)) := by
      unfold Hid
      by_cases q0 : wd ws 0 = caseW
      · by_cases q3 : wd ws 3 = sideW
        · exfalso; unfold headP at hh; simp [h6, q0, q3] at hh
        · exact .inr ⟨q0, q3⟩
      · exact .inl q0
    generalize wd ws 0 = s0 at *
    generalize wd ws 3 = s3 at *
    generalize ws.length = n at *
    clear hl hca hh
    have i0 : (0 : Int) < (n : Int) := by omega
    have i3 : (3 : Int) < (n : Int) := by omega
    have i6 : (6 : Int) ≤ (n : Int) := by omega
    rcases HC.out with q0 | ⟨q0, q3⟩
    · have e0 : (s0.toList == [99, 97, 115, 101]) = false := beq_eq_false_iff_ne.2 fun e => q0 (toList_inj (e.trans (by rw [ByteArray.toList_eq]; rfl)))
      clear q0
      go_enter Tryz.func25, Tryz.ntmps25
      go_wp2_with fail
      refine (must_false _).mono ?_
      rintro e w3 ⟨rfl, rfl⟩
      exact ⟨rfl, HP.out⟩
    · have e3 : (s3.toList == [115, 105, 100, 101]) = false := beq_eq_false_iff_ne.2 fun e => q3 (toList_inj (e.trans (by rw [ByteArray.toList_eq]; rfl)))
      subst q0
      unfold caseW at g0
      clear q3
      go_enter Tryz.func25, Tryz.ntmps25
      go_wp2_with fail
      refine (must_false _).mono ?_
      rintro e w3 ⟨rfl, rfl⟩
      exact ⟨rfl, HP.out⟩
  · generalize ws.length = n at *
    clear hl hh
    go_enter Tryz.func25, Tryz.ntmps25
    go_wp2_with fail
    refine (must_false _).mono ?_
    rintro e w3 ⟨rfl, rfl⟩
    exact ⟨rfl, HP.out⟩
def CaseV (fi : Int) (s : ByteArray) : Value → World → Prop := fun v _ => ∃ n, numS s = some n ∧ v = .agg #[.int .i64 fi, .int .i64 n]
def BaseV (fi : Int) (s t : ByteArray) : Value → World → Prop := fun v _ => ∃ n m, numS s = some n ∧ numS t = some m ∧ v = .agg #[.int .i64 fi, .int .i64 n, .int .i64 m, .bool false, .int .i64 0, .int .i64 0, .int .i64 0]
theorem caseV_stable (fi : Int) (s : ByteArray) : Stable (CaseV fi s) := fun _ _ _ _ h => h
theorem baseV_stable (fi : Int) (s t : ByteArray) : Stable (BaseV fi s t) := fun _ _ _ _ h => h
/-- How it stands while the relief is read: the answer's variable is block B6, its first three cells stay. -/
structure RelC (W : World) (B6 : Nat) (fi n2 n4 : Int) (w : World) : Prop where
  keep : KeepP (fun b => b = B6) W w
  row : ∃ r x y z, w.heap[B6]? = some (.cells #[.int .i64 fi, .int .i64 n2, .int .i64 n4, r, x, y, z] 38 (0, 0))
def RelG (B6 : Nat) (tgt : Nat → Value) (w w' : World) : Prop := KeepP (fun b => b = B6) w w' ∧ ∀ j, 3 ≤ j → w'.cell? ⟨B6, j, none⟩ = w.cell? ⟨B6, j, none⟩ ∨ w'.cell? ⟨B6, j, none⟩ = some (tgt j)
def tgtF (a b c : Int) (j : Nat) : Value := if j = 4 then .int .i64 a else if j = 5 then .int .i64 b else if j = 6 then .int .i64 c else .bool true
theorem RelC.below {W w w' : World} {B6 : Nat} {fi n2 n4 : Int} (h : RelC W B6 fi n2 n4 w) (hb : Below w.heap.size w w') : RelC W B6 fi n2 n4 w' := by
  obtain ⟨r, x, y, z, hr⟩ := h.row
  exact ⟨h.keep.trans (KeepP.of_below hb), r, x, y, z, (hb.block B6 (Array.getElem?_eq_some_iff.1 hr).1).trans hr⟩
theorem RelC.g {W w w' : World} {B6 : Nat} {fi n2 n4 : Int} {tgt : Nat → Value} (h : RelC W B6 fi n2 n4 w) (hb : Below w.heap.size w w') : RelG B6 tgt w w' := by
  obtain ⟨r, x, y, z, hr⟩ := h.row
  exact ⟨KeepP.of_below hb, fun j _ => .inl (hb.cell (p := ⟨B6, j, none⟩) (Array.getElem?_eq_some_iff.1 hr).1)⟩
theorem RelC.free {W w : World} {B6 : Nat} {fi n2 n4 : Int} (h : RelC W B6 fi n2 n4 w) (j : Nat) : w.frozen? ⟨B6, j, none⟩ = false := by
  obtain ⟨r, x, y, z, hr⟩ := h.row
  simp [World.frozen?, hr]
theorem RelC.some {W w : World} {B6 : Nat} {fi n2 n4 : Int} (h : RelC W B6 fi n2 n4 w) (j : Nat) (hj : j < 7) : ∃ v, w.cell? ⟨B6, j, none⟩ = some v := by
  obtain ⟨r, x, y, z, hr⟩ := h.row
  match j, hj with
  | 0, _ => exact ⟨_, by rw [World.cell?, hr]; rfl⟩
  | 1, _ => exact ⟨_, by rw [World.cell?, hr]; rfl⟩
  | 2, _ => exact ⟨_, by rw [World.cell?, hr]; rfl⟩
  | 3, _ => exact ⟨_, by rw [World.cell?, hr]; rfl⟩
  | 4, _ => exact ⟨_, by rw [World.cell?, hr]; rfl⟩
  | 5, _ => exact ⟨_, by rw [World.cell?, hr]; rfl⟩
  | 6, _ => exact ⟨_, by rw [World.cell?, hr]; rfl⟩
theorem RelC.set {W w : World} {B6 : Nat} {fi n2 n4 : Int} (h : RelC W B6 fi n2 n4 w) (j : Nat) (hj : 3 ≤ j) (hj2 : j < 7) (v : Value) : RelC W B6 fi n2 n4 (w.setCell ⟨B6, j, none⟩ v) := by
  obtain ⟨r, x, y, z, hr⟩ := h.row
  have := heap_setCell_same w B6 j _ _ _ v hr
  refine ⟨h.keep.trans (KeepP.setCell w ⟨B6, j, none⟩ v rfl), ?_⟩
  rcases (show j = 3 ∨ j = 4 ∨ j = 5 ∨ j = 6 by omega) with rfl | rfl | rfl | rfl
  · exact ⟨v, x, y, z, this⟩
  · exact ⟨r, v, y, z, this⟩
  · exact ⟨r, x, v, z, this⟩
  · exact ⟨r, x, y, v, this⟩
theorem RelG.refl (B6 : Nat) (tgt : Nat → Value) (w : World) : RelG B6 tgt w w := ⟨KeepP.refl _ _, fun _ _ => .inl rfl⟩
theorem RelG.set {w0 w : World} {B6 : Nat} {tgt : Nat → Value} (h : RelG B6 tgt w0 w) (j : Nat) (hc : ∃ u, w.cell? ⟨B6, j, none⟩ = some u) : RelG B6 tgt w0 (w.setCell ⟨B6, j, none⟩ (tgt j)) := by
  refine ⟨h.1.trans (KeepP.setCell w ⟨B6, j, none⟩ _ rfl), fun k hk => ?_⟩
  by_cases e : k = j
  · subst e
    right
    obtain ⟨u, hu⟩ := hc
    exact World.cell?_setCell_same w ⟨B6, k, none⟩ _ hu
  · have := World.cell?_setCell_other w ⟨B6, j, none⟩ ⟨B6, k, none⟩ (tgt j) (fun e' => e (by injection e' with _ h2; omega))
    rw [this]
    exact h.2 k hk
def RelV (s t u : ByteArray) : Value → World → Prop := fun v _ => ∃ a b c, numS s = some a ∧ numS t = some b ∧ numS u = some c ∧ v = .agg #[.int .i64 a, .int .i64 b, .int .i64 c]
section
variable {P : Program} {ops : Array Oper} {n : Nat} {C : World → Prop} {R : Nat → Value → World → Prop} {a0 : Act} {Q : Exit → Act → World → Prop} {G : World → World → Prop}
/-- The three cells of the relief are stored. -/
theorem rel_store {W : World} {B6 : Nat} {fi n2 n4 a b c : Int} {s t u : ByteArray} {i : Nat} {o : Oper} (x : Nat) (ho : o.op = .store 36 (.tmp 77) (.tmp x)) (hx : preOf ops n R a0 (.tmp 77) = is (.pointer (some ⟨B6, 4, none⟩))) (hy : preOf ops n R a0 (.tmp x) = RelV s t u)
    (hP : (P.info? 36).map (·.size) = some 3) (ha : a = (numS s).getD 0 ∧ b = (numS t).getD 0 ∧ c = (numS u).getD 0) (hr : R i = fun _ w => ∀ j, 4 ≤ j → j < 7 → w.cell? ⟨B6, j, none⟩ = some (tgtF a b c j)) : OpOkG P ops n (RelC W B6 fi n2 n4) R a0 Q (RelG B6 (tgtF a b c)) i o := by
  intro act w hd hC hpre
  have e1 : act.eval (.tmp 77) = .pointer (some ⟨B6, 4, none⟩) := by have := hpre (.tmp 77) (by rw [ho]; simp [Op.operands]); rw [hx] at this; exact this
  have e2 : RelV s t u (act.eval (.tmp x)) w := by have := hpre (.tmp x) (by rw [ho]; simp [Op.operands]); rw [hy] at this; exact this
  obtain ⟨x1, x2, x3, h1, h2, h3, hv⟩ := e2
  have q1 : a = x1 := by rw [ha.1, h1]; rfl
  have q2 : b = x2 := by rw [ha.2.1, h2]; rfl
  have q3 : c = x3 := by rw [ha.2.2, h3]; rfl
  subst q1 q2 q3
  refine wp_store_mid 36 (.tmp 77) (.tmp x) ho B6 4 #[.int .i64 a, .int .i64 b, .int .i64 c] e1 hv (fun j hj => ?_) hP (by simp [Value.oneCell']) ?_
  · obtain ⟨v, hv⟩ := hC.some (4 + j) (by simp at hj; omega)
    exact ⟨by rw [hv]; rfl, hC.free _⟩
  have e : w.setCells B6 4 (#[Value.int .i64 a, .int .i64 b, .int .i64 c].toList) = ((w.setCell ⟨B6, 4, none⟩ (.int .i64 a)).setCell ⟨B6, 5, none⟩ (.int .i64 b)).setCell ⟨B6, 6, none⟩ (.int .i64 c) := by simp [World.setCells]
  rw [e]
  have c1 := hC.set 4 (by omega) (by omega) (.int .i64 a)
  have c2 := c1.set 5 (by omega) (by omega) (.int .i64 b)
  have c3 := c2.set 6 (by omega) (by omega) (.int .i64 c)
  have g1 := (RelG.refl B6 (tgtF a b c) w).set 4 (hC.some 4 (by omega))
  have g2 := g1.set 5 (c1.some 5 (by omega))
  have g3 := g2.set 6 (c2.some 6 (by omega))
  refine ⟨undef, rfl, c3, g3, ?_⟩
  rw [hr]
  intro j h4 h7
  obtain ⟨u4, hu4⟩ := hC.some 4 (by omega)
  obtain ⟨u5, hu5⟩ := c1.some 5 (by omega)
  obtain ⟨u6, hu6⟩ := c2.some 6 (by omega)
  rcases (show j = 4 ∨ j = 5 ∨ j = 6 by omega) with rfl | rfl | rfl
  · rw [World.cell?_setCell_other _ _ _ _ (by simp), World.cell?_setCell_other _ _ _ _ (by simp)]; exact World.cell?_setCell_same w ⟨B6, 4, none⟩ _ hu4
  · rw [World.cell?_setCell_other _ _ _ _ (by simp)]; exact World.cell?_setCell_same _ ⟨B6, 5, none⟩ _ hu5
  · exact World.cell?_setCell_same _ ⟨B6, 6, none⟩ _ hu6
/-- A store of one value. -/
theorem opG_store {i : Nat} {o : Oper} (ty : TypeId) (x y : Operand) (q : Addr) (v : Value) (ho : o.op = .store ty x y) (hx : preOf ops n R a0 x = is (.pointer (some q))) (hy : preOf ops n R a0 y = is v) (hrun : ∀ w, C w → (storeVar ty q v).run P w = .ok () (w.setCell q v))
    (hk : ∀ w, C w → C (w.setCell q v) ∧ G w (w.setCell q v) ∧ R i undef (w.setCell q v)) : OpOkG P ops n C R a0 Q G i o := by
  intro a w hd hC hpre
  have e1 : a.eval x = .pointer (some q) := by have := hpre x (by rw [ho]; simp [Op.operands]); rw [hx] at this; exact this
  have e2 : a.eval y = v := by have := hpre y (by rw [ho]; simp [Op.operands]); rw [hy] at this; exact this
  unfold Oper.wp execOp
  simp only [ho, e1, e2, Instr.storeAt, Instr.sureAddr, Sem.run_bind, Sem.run_pure, Result.andThen_ok, hrun w hC]
  exact ⟨undef, rfl, hk w hC⟩
/-- The relief's mark is stored. -/
theorem rel_bool {W : World} {B6 : Nat} {fi n2 n4 a b c : Int} {i : Nat} {o : Oper} (ho : o.op = .store 4 (.tmp 76) (.const (.bool true))) (hx : preOf ops n R a0 (.tmp 76) = is (.pointer (some ⟨B6, 3, none⟩))) (hy : preOf ops n R a0 (.const (.bool true)) = is (.bool true))
    (hr : R i = fun _ w => w.cell? ⟨B6, 3, none⟩ = some (.bool true)) : OpOkG Tryz.prog ops n (RelC W B6 fi n2 n4) R a0 Q (RelG B6 (tgtF a b c)) i o := by
  refine opG_store 4 (.tmp 76) (.const (.bool true)) ⟨B6, 3, none⟩ (.bool true) ho hx hy (fun wa hC => ?_) (fun wa hC => ?_)
  · obtain ⟨u, hu⟩ := hC.some 3 (by omega)
    have hf := hC.free 3
    have hz : (sizeOf 4).run Tryz.prog wa = .ok 1 wa := by kernel_rfl
    have e0 : (⟨B6, 3, none⟩ : Addr).add 0 = ⟨B6, 3, none⟩ := by rw [add_none]
    simp only [storeVar, hz, Sem.run_bind, Result.andThen_ok, Value.cells]
    simp [storeCells, e0, run_store_bool, stored, hu, hf]
  · obtain ⟨u, hu⟩ := hC.some 3 (by omega)
    refine ⟨hC.set 3 (by omega) (by omega) _, (RelG.refl B6 (tgtF a b c) wa).set 3 ⟨u, hu⟩, ?_⟩
    rw [hr]
    exact World.cell?_setCell_same wa ⟨B6, 3, none⟩ _ hu
end
set_option maxRecDepth 100000 in
set_option maxHeartbeats 4000000 in
theorem onea_any (p : Pr) (ws : List ByteArray) (vl vn vh va : Value) (B lo hi : Nat) (w : World) (hl : Sees w lo hi 1 vl ws.length (strs ws)) (hhi : hi ≤ w.heap.size) (hm : ws.length ≤ 1000000) (hs : ∀ s ∈ ws, s.size ≤ 1000000) (ht : Tab w) (hE : Errs w)
    (hp : ProgAt w w.heap.size vn vh va p) (ho : PrOk p) (hv : validB p = true) (hB0 : w.heap[B]? = some (.cells #[vn, vh, va] 26 (0, 0))) :
    Calls Tryz.prog 25 #[vl, .pointer (some ⟨B, 0, none⟩)] w (AnsP w p ws) := by
  cases hh : headP ws with
  | false => exact onea_head p ws vl B lo hi w hl hhi hm hh
  | true =>
  have hh' := hh
  unfold headP at hh'
  simp only [Bool.and_eq_true, decide_eq_true_eq] at hh'
  obtain ⟨⟨h6, q0⟩, q3⟩ := hh'
  obtain ⟨An', cn, rfl⟩ := hp.names.slice
  obtain ⟨Ah, ch, rfl⟩ := hp.homes.slice
  obtain ⟨csA, ha, hacts⟩ := hp.acts
  obtain ⟨Aa, ca, rfl⟩ := ha.slice
  clear ha hacts
  obtain ⟨b, o, c', rfl, _, hb2, hca⟩ := hl.pos (by omega)
  have hcl : ∀ j, j < ws.length → w.cell? ⟨b, o + j, none⟩ = some (.string (wd ws j)) := fun j hj => hca j _ (strs_getD ws j (by omega))
  have hsz : ∀ j, (wd ws j).size ≤ 1000000 := fun j => by
    unfold wd
    by_cases hj : j < ws.length
    · simp only [List.getD_eq_getElem?_getD, List.getElem?_eq_getElem hj, Option.getD_some]; exact hs _ (List.getElem_mem hj)
    · simp [List.getD_eq_getElem?_getD, List.getElem?_eq_none (Nat.le_of_not_lt hj)]
  have g0 : w.cell? ⟨b, o, none⟩ = some (.string ⟨#[99, 97, 115, 101]⟩) := by rw [show w.cell? ⟨b, o, none⟩ = some (.string (wd ws 0)) from hcl 0 (by omega), q0]; rfl
  have g3 : w.cell? ⟨b, o + 3, none⟩ = some (.string ⟨#[115, 105, 100, 101]⟩) := by rw [hcl 3 (by omega), q3]; rfl
  have hblt : b < w.heap.size := by omega
  have hBlt : B < w.heap.size := (Array.getElem?_eq_some_iff.1 hB0).1
  have HCL := Lib.hid hcl
  have HSZ := Lib.hid hsz
  have HH := Lib.hid hh
  have HV := Lib.hid hv
  have HB0 := Lib.hid hB0
  obtain ⟨n, hn⟩ : ∃ n, n = ws.length := ⟨_, rfl⟩
  rw [← hn] at h6 hm HCL
  rw [← hn]
  have HN := Lib.hid hn
  have i0 : (0 : Int) < (n : Int) := by omega
  have i3 : (3 : Int) < (n : Int) := by omega
  have i6 : (6 : Int) ≤ (n : Int) := by omega
  clear hl hca hs hcl hsz hh q0 q3 hv hB0 hn
  have HP := Lib.hid hp
  clear hp
  go_enter Tryz.func25, Tryz.ntmps25
  go_wp2_with fail
  refine (must_true _).mono ?_
  rintro e w1 ⟨rfl, rfl⟩
  go_wp2_with fail
  obtain ⟨W, hW⟩ : ∃ W, W = w.alloc (.cells #[.int .i64 0, .int .i64 0, .int .i64 0, .bool false, .int .i64 0, .int .i64 0, .int .i64 0] 38) := ⟨_, rfl⟩
  rw [← hW]
  have hbW : Below w.heap.size w W := by rw [hW]; exact (Below.refl _ _).alloc (Nat.le_refl _) _
  have hzW : W.heap.size = w.heap.size + 1 := by rw [hW]; simp
  have hR0 : W.heap[w.heap.size]? = some (.cells #[.int .i64 0, .int .i64 0, .int .i64 0, .bool false, .int .i64 0, .int .i64 0, .int .i64 0] 38 (0, 0)) := by rw [hW]; exact heap_new _ _ _ rfl
  clear hW g0 g3
  have CW : Hid (∀ wa, Below W.heap.size W wa → ∀ j, j < n → wa.cell? ⟨b, o + j * 1, none⟩ = some (.string (wd ws j))) := fun wa hC j hj => by
    rw [Nat.mul_one, hC.cell (p := ⟨b, o + j, none⟩) (show b < W.heap.size by omega), hbW.cell (p := ⟨b, o + j, none⟩) hblt]
    exact HCL.out j hj
  have CP : Hid (∀ wa, Below W.heap.size W wa → wa.heap[B]? = some (.cells #[.slice An' p.names.length cn, .slice Ah p.homes.length ch, .slice Aa p.acts.length ca] 26 (0, 0))) := fun wa hC =>
    (hC.block B (by omega)).trans ((hbW.block B hBlt).trans HB0.out)
  have CPB : Hid (∀ wa, Below W.heap.size W wa → ∀ j u, [Value.slice An' p.names.length cn, .slice Ah p.homes.length ch, .slice Aa p.acts.length ca][j]? = some u → wa.cell? ⟨B, 0 + j, none⟩ = some u) := fun wa hC j u hu => by
    rw [Nat.zero_add, World.cell?, CP.out wa hC]; simpa using hu
  have PW : Hid (∀ wa, Below W.heap.size W wa → ProgAt wa wa.heap.size (.slice An' p.names.length cn) (.slice Ah p.homes.length ch) (.slice Aa p.acts.length ca) p) := fun wa hC => HP.out.up (hbW.trans (hC.mono (by omega)))
  obtain ⟨fi, hfi⟩ : ∃ fi, fi = pfindI p (wd ws 1) := ⟨_, rfl⟩
  obtain ⟨fe, hfe⟩ : ∃ fe, fe = pfindE p (wd ws 1) := ⟨_, rfl⟩
  have FC : Hid (∀ wa, Below W.heap.size W wa → Calls Tryz.prog 27 #[.agg #[.slice An' p.names.length cn, .slice Ah p.homes.length ch, .slice Aa p.acts.length ca], .string (wd ws 1)] wa fun e w' => ∃ v, e = .returned v ∧ Below W.heap.size W w' ∧ Below wa.heap.size wa w' ∧ is (.tuple #[.int .i64 fi, .int .i64 fe]) v w') := fun wa hC =>
    (find_any p _ _ _ (wd ws 1) wa (PW.out wa hC) ho HV.out).mono fun e x ⟨he, hb⟩ => ⟨_, he, hC.trans (hb.mono hC.size), hb, by rw [hfi, hfe]; rfl⟩
  have HFI := Lib.hid hfi
  have HFE := Lib.hid hfe
  clear hfi hfe
  refine region_list 10 83 (fun w' => Below W.heap.size W w') [is (.agg #[.slice An' p.names.length cn, .slice Ah p.homes.length ch, .slice Aa p.acts.length ca]), is (.slice (some ⟨b, o, none⟩) n c'), is (.pointer (some ⟨b, o + 1 * 1, none⟩)), is (.string (wd ws 1)), is (.tuple #[.int .i64 fi, .int .i64 fe]), is (.tuple #[.int .i64 fi, .int .i64 fe]), is (.int .i64 fi), is (.int .i64 fe), is (.int .i64 fi), is (.int .i64 fe)] (by kernel_rfl) (by kernel_rfl) rfl (by decide) ?hst ?h0 ?hop ?htail
  case hst =>
    simp only [List.mem_cons, List.mem_nil_iff, or_false, forall_eq_or_imp, forall_eq]
    exact ⟨is_stable _, is_stable _, is_stable _, is_stable _, is_stable _, is_stable _, is_stable _, is_stable _, is_stable _, is_stable _⟩
  case h0 => exact (Below.refl _ _).drew
  case hop =>
    refine ⟨?_, ?_, ?_, ?_, ?_, ?_, ?_, ?_, ?_, ?_, trivial⟩
    · exact ok_load 26 (.tmp 1) (.pointer (some ⟨B, 0, none⟩)) (.agg #[.slice An' p.names.length cn, .slice Ah p.homes.length ch, .slice Aa p.acts.length ca]) rfl (by kernel_rfl) (fun wa hC => run_loadN [.slice An' p.names.length cn, .slice Ah p.homes.length ch, .slice Aa p.acts.length ca] wa (by kernel_rfl) (by kernel_rfl) (CPB.out wa hC)) rfl
    · exact ok_move (.tmp 0) (is (.slice (some ⟨b, o, none⟩) n c')) rfl (by kernel_rfl) (fun _ _ _ h => h)
    · exact ok_indexC 22 9 25 (b) (o) (n) (c') 1 1 (1) rfl (by kernel_rfl) Tryz.underlying22 str1_size (rfl) (by omega) rfl
    · exact ok_load 9 (.tmp 26) (.pointer (some ⟨b, o + 1 * 1, none⟩)) (.string (wd ws 1)) rfl (by kernel_rfl) (fun wa hC => run_load1 wa (by kernel_rfl) (CW.out wa hC 1 (by omega))) rfl
    · exact ok_callF 27 [.tmp 24, .tmp 27] _ [.agg #[.slice An' p.names.length cn, .slice Ah p.homes.length ch, .slice Aa p.acts.length ca], .string (wd ws 1)] rfl (fun _ _ => by kernel_rfl) ⟨by kernel_rfl, by kernel_rfl, trivial⟩ (FC.out)
    · exact ok_move (.tmp 28) (is (.tuple #[.int .i64 fi, .int .i64 fe])) rfl (by kernel_rfl) (fun _ _ _ h => h)
    · exact ok_t1 23 (.tuple #[.int .i64 fi, .int .i64 fe]) (.int .i64 fi) rfl (by kernel_rfl) (fun a wa _ e1 => by go_simp) rfl
    · exact ok_t1 23 (.tuple #[.int .i64 fi, .int .i64 fe]) (.int .i64 fe) rfl (by kernel_rfl) (fun a wa _ e1 => by go_simp) rfl
    · exact ok_assign (.tmp 29) (is (.int .i64 fi)) rfl (by kernel_rfl) (fun _ _ _ h => h)
    · exact ok_assign (.tmp 30) (is (.int .i64 fe)) rfl (by kernel_rfl) (fun _ _ _ h => h)
  case htail =>
  intro τ w2 hC hR
  have r8 : τ 8 = .int .i64 fi := hR 8 (by decide)
  have r9 : τ 9 = .int .i64 fe := hR 9 (by decide)
  simp only [putAll, List.getElem?_toArray, List.getElem?_cons_succ, List.getElem?_cons_zero, Option.bind_some, Act.put, List.setIfInBounds_toArray, List.set_cons_succ, List.set_cons_zero, List.drop_succ_cons, List.drop_zero, r8, r9]
  clear r8 r9 hR
  by_cases hix : idxS p.names (wd ws 1) < 0
  case pos =>
    have he9 : fe = 9 := by rw [HFE.out]; unfold pfindE; rw [if_pos hix]
    subst he9
    have HNO : Hid (AnsP w p ws (.panicked bad) w2) := AnsP.no (parseA_find hix) (hbW.trans (hC.mono (by omega)))
    clear hix
    go_wp2_with fail
    refine (must_false _).mono ?_
    rintro e w3 ⟨rfl, rfl⟩
    exact ⟨rfl, HNO.out⟩
  case neg =>
  have he0 : fe = 0 := by rw [HFE.out]; unfold pfindE; rw [if_neg hix]
  have hfi0 : fi = idxS p.names (wd ws 1) := by rw [HFI.out]; unfold pfindI; rw [if_neg hix]
  subst he0
  have HIX := Lib.hid hix
  have HFI0 := Lib.hid hfi0
  clear hix hfi0
  go_wp2_with fail
  refine (must_true _).mono ?_
  rintro e w3 ⟨rfl, rfl⟩
  go_wp2_with fail
  have hb0 : Below w.heap.size w w2 := hbW.trans (hC.mono (by omega))
  have hz2 := hC.size
  have hR2 : w2.heap[w.heap.size]? = some (.cells #[.int .i64 0, .int .i64 0, .int .i64 0, .bool false, .int .i64 0, .int .i64 0, .int .i64 0] 38 (0, 0)) := (hC.block _ (by omega)).trans hR0
  have CW2 : Hid (∀ wa, Below w2.heap.size w2 wa → ∀ j, j < n → wa.cell? ⟨b, o + j * 1, none⟩ = some (.string (wd ws j))) := fun wa h => CW.out wa (hC.trans (h.mono hz2))
  have CP2 : Hid (∀ wa, Below w2.heap.size w2 wa → wa.heap[B]? = some (.cells #[.slice An' p.names.length cn, .slice Ah p.homes.length ch, .slice Aa p.acts.length ca] 26 (0, 0))) := fun wa h => CP.out wa (hC.trans (h.mono hz2))
  have ht2 := ht.up hb0
  have hE2 := hE.up hb0
  have HNB : Hid (∀ (_ : parseA p ws = none) (w' : World), Below w2.heap.size w2 w' → AnsP w p ws (.panicked bad) w') := fun hn w' hb => AnsP.no hn (hb0.trans (hb.mono (by omega)))
  have N2 := Lib.hid (number_ok w2 ht2 hE2 (wd ws 2) (HSZ.out 2) (Pq := fun w' => AnsP w p ws (.panicked bad) w') fun hn => HNB.out (parseA_num (.inl hn)))
  have N4 := Lib.hid (number_ok w2 ht2 hE2 (wd ws 4) (HSZ.out 4) (Pq := fun w' => AnsP w p ws (.panicked bad) w') fun hn => HNB.out (parseA_num (.inr (.inl hn))))
  clear hR0 CW CPB FC CP
  refine region_list 12 83 (fun w' => Below w2.heap.size w2 w') [is (.int .i64 fi), is (.slice (some ⟨b, o, none⟩) n c'), is (.pointer (some ⟨b, o + 2 * 1, none⟩)), is (.string (wd ws 2)), NumW (wd ws 2), CaseV fi (wd ws 2), is (.slice (some ⟨b, o, none⟩) n c'), is (.pointer (some ⟨b, o + 4 * 1, none⟩)), is (.string (wd ws 4)), NumW (wd ws 4), BaseV fi (wd ws 2) (wd ws 4), AllocW w2.heap.size 38 #[.int .i64 0, .int .i64 0, .int .i64 0, .bool false, .int .i64 0, .int .i64 0, .int .i64 0]] (by kernel_rfl) (by kernel_rfl) rfl (by decide) ?hst ?h0 ?hop ?htail
  case hst =>
    simp only [List.mem_cons, List.mem_nil_iff, or_false, forall_eq_or_imp, forall_eq]
    exact ⟨is_stable _, is_stable _, is_stable _, is_stable _, numW_stable _, caseV_stable _ _, is_stable _, is_stable _, is_stable _, numW_stable _, baseV_stable _ _ _, allocW_stable _ _ _⟩
  case h0 => exact (Below.refl _ _).drew
  case hop =>
    refine ⟨?_, ?_, ?_, ?_, ?_, ?_, ?_, ?_, ?_, ?_, ?_, ?_, trivial⟩
    · exact ok_move (.tmp 4) (is (.int .i64 fi)) rfl (by kernel_rfl) (fun _ _ _ h => h)
    · exact ok_move (.tmp 0) (is (.slice (some ⟨b, o, none⟩) n c')) rfl (by kernel_rfl) (fun _ _ _ h => h)
    · exact ok_indexC 22 9 35 (b) (o) (n) (c') 1 2 (2) rfl (by kernel_rfl) Tryz.underlying22 str1_size (rfl) (by omega) rfl
    · exact ok_load 9 (.tmp 36) (.pointer (some ⟨b, o + 2 * 1, none⟩)) (.string (wd ws 2)) rfl (by kernel_rfl) (fun wa hC => run_load1 wa (by kernel_rfl) (CW2.out wa hC 2 (by omega))) rfl
    · exact ok_callP 28 [.tmp 37] _ [.string (wd ws 2)] rfl (fun _ _ => by kernel_rfl) ⟨by kernel_rfl, trivial⟩ (fun wa hC => (N2.out wa hC).mono fun e x h => by
      rcases h with h | ⟨ch, he, rfl, hp⟩
      · exact .inl h
      · exact .inr ⟨_, he, fun a hd => ⟨hd.1, hp⟩⟩)
    · refine ok_value fun a wa hC hpre => ?_
      have h1 : is (.int .i64 fi) (a.eval (.tmp 34)) wa := hpre (.tmp 34) (by simp [Op.operands])
      have h2 : NumW (wd ws 2) (a.eval (.tmp 38)) wa := hpre (.tmp 38) (by simp [Op.operands])
      obtain ⟨n2, hn2, hv2⟩ := h2
      have e1 : a.tmps[34]?.getD undef = .int .i64 fi := by simpa [Act.eval, is] using h1
      have e2 : a.tmps[38]?.getD undef = .int .i64 n2 := by simpa [Act.eval] using hv2
      refine ⟨.agg #[.int .i64 fi, .int .i64 n2], ?_, n2, hn2, rfl⟩
      clear h1 hv2
      go_simp
    · exact ok_move (.tmp 0) (is (.slice (some ⟨b, o, none⟩) n c')) rfl (by kernel_rfl) (fun _ _ _ h => h)
    · exact ok_indexC 22 9 40 (b) (o) (n) (c') 1 4 (4) rfl (by kernel_rfl) Tryz.underlying22 str1_size (rfl) (by omega) rfl
    · exact ok_load 9 (.tmp 41) (.pointer (some ⟨b, o + 4 * 1, none⟩)) (.string (wd ws 4)) rfl (by kernel_rfl) (fun wa hC => run_load1 wa (by kernel_rfl) (CW2.out wa hC 4 (by omega))) rfl
    · exact ok_callP 28 [.tmp 42] _ [.string (wd ws 4)] rfl (fun _ _ => by kernel_rfl) ⟨by kernel_rfl, trivial⟩ (fun wa hC => (N4.out wa hC).mono fun e x h => by
      rcases h with h | ⟨ch, he, rfl, hp⟩
      · exact .inl h
      · exact .inr ⟨_, he, fun a hd => ⟨hd.1, hp⟩⟩)
    · refine ok_value fun a wa hC hpre => ?_
      have h1 : CaseV fi (wd ws 2) (a.eval (.tmp 39)) wa := hpre (.tmp 39) (by simp [Op.operands])
      have h2 : NumW (wd ws 4) (a.eval (.tmp 43)) wa := hpre (.tmp 43) (by simp [Op.operands])
      obtain ⟨n2, hn2, hv2⟩ := h1
      obtain ⟨n4, hn4, hv4⟩ := h2
      have e1 : a.tmps[39]?.getD undef = .agg #[.int .i64 fi, .int .i64 n2] := by simpa [Act.eval] using hv2
      have e2 : a.tmps[43]?.getD undef = .int .i64 n4 := by simpa [Act.eval] using hv4
      refine ⟨.agg #[.int .i64 fi, .int .i64 n2, .int .i64 n4, .bool false, .int .i64 0, .int .i64 0, .int .i64 0], ?_, n2, n4, hn2, hn4, rfl⟩
      clear hv2 hv4
      go_simp
    · exact ok_alloc 38 #[.int .i64 0, .int .i64 0, .int .i64 0, .bool false, .int .i64 0, .int .i64 0, .int .i64 0] (fun a wa => by go_simp) rfl
  case htail =>
  intro τ w4 hC4 hR
  have r10 : BaseV fi (wd ws 2) (wd ws 4) (τ 10) w4 := hR 10 (by decide)
  have r11 : AllocW w2.heap.size 38 #[.int .i64 0, .int .i64 0, .int .i64 0, .bool false, .int .i64 0, .int .i64 0, .int .i64 0] (τ 11) w4 := hR 11 (by decide)
  obtain ⟨B6, hB6, e11, hc6⟩ := r11
  obtain ⟨n2, n4, hn2, hn4, e10⟩ := r10
  simp only [putAll, List.getElem?_toArray, List.getElem?_cons_succ, List.getElem?_cons_zero, Option.bind_some, Act.put, List.setIfInBounds_toArray, List.set_cons_succ, List.set_cons_zero, List.drop_succ_cons, List.drop_zero, e10, e11]
  clear hR e10 e11
  have HN2 := Lib.hid hn2
  have HN4 := Lib.hid hn4
  clear hn2 hn4
  have hne6 : w.heap.size ≠ B6 := by omega
  have hneB : B ≠ B6 := by omega
  have hneb : b ≠ B6 := by omega
  refine wpList_store_row rfl 38 (.tmp 6) (.tmp 44) rfl B6 _ rfl rfl 38 _ hc6 (by kernel_rfl) rfl (by simp [Value.oneCell']) ?_
  have h6 := setRow_heap w4 B6 _ #[.int .i64 fi, .int .i64 n2, .int .i64 n4, .bool false, .int .i64 0, .int .i64 0, .int .i64 0] 38 (0, 0) hc6
  have hR5 : (w4.setRow B6 #[.int .i64 fi, .int .i64 n2, .int .i64 n4, .bool false, .int .i64 0, .int .i64 0, .int .i64 0]).heap[w.heap.size]? = some (.cells #[.int .i64 0, .int .i64 0, .int .i64 0, .bool false, .int .i64 0, .int .i64 0, .int .i64 0] 38 (0, 0)) := (setRow_other _ _ _ _ hne6).trans ((hC4.block _ (by omega)).trans hR2)
  have hP5 : (w4.setRow B6 #[.int .i64 fi, .int .i64 n2, .int .i64 n4, .bool false, .int .i64 0, .int .i64 0, .int .i64 0]).heap[B]? = some (.cells #[.slice An' p.names.length cn, .slice Ah p.homes.length ch, .slice Aa p.acts.length ca] 26 (0, 0)) := (setRow_other _ _ _ _ hneB).trans (CP2.out w4 hC4)
  have hb5 : Below w.heap.size w (w4.setRow B6 #[.int .i64 fi, .int .i64 n2, .int .i64 n4, .bool false, .int .i64 0, .int .i64 0, .int .i64 0]) := below_setRow (hb0.trans (hC4.mono (by omega))) (by omega) _
  have hs5 : (w4.setRow B6 #[.int .i64 fi, .int .i64 n2, .int .i64 n4, .bool false, .int .i64 0, .int .i64 0, .int .i64 0]).heap.size = w4.heap.size := by simp
  have hk5 : Below w2.heap.size w2 (w4.setRow B6 #[.int .i64 fi, .int .i64 n2, .int .i64 n4, .bool false, .int .i64 0, .int .i64 0, .int .i64 0]) := below_setRow hC4 hB6 _
  generalize w4.setRow B6 #[.int .i64 fi, .int .i64 n2, .int .i64 n4, .bool false, .int .i64 0, .int .i64 0, .int .i64 0] = w5 at *
  have x5 : ∀ j, j < n → w5.cell? ⟨b, o + j, none⟩ = some (.string (wd ws j)) := fun j hj => by have := CW2.out w5 hk5 j hj; rwa [Nat.mul_one] at this
  have HX5 := Lib.hid x5
  have k5 := x5 5 (by omega)
  clear x5 hc6 hC4 hC
  have HH6 := Lib.hid h6
  have HR5 := Lib.hid hR5
  have HP5 := Lib.hid hP5
  clear h6 hR5 hP5 hR2
  by_cases h5 : wd ws 5 = aloneW
  case pos =>
    rw [h5] at k5
    unfold aloneW at k5
    by_cases hlen : n = 6
    case pos =>
      have HPA : Hid (parseA p ws = if writtenB p ⟨fi, n2, n4, false, 0, 0, 0⟩ = true then some ⟨fi, n2, n4, false, 0, 0, 0⟩ else none) := by
        unfold Hid; rw [HFI0.out]
        exact parseA_all HH.out (by have := HIX.out; omega) HN2.out HN4.out (by unfold tailP; rw [if_pos h5, if_pos (by rw [← HN.out]; exact hlen)])
      have hbx := hb5
      have HX6 := HH6
      have HXR := HR5
      have HXP := HP5
      have hl6 : ((n : Int) == 6) = true := by rw [hlen]; rfl
      have i5 : (5 : Int) < (n : Int) := by omega
      clear h5 hlen
      go_wp2_with fail
      refine (must_true _).mono ?_
      rintro e w6 ⟨rfl, rfl⟩
      have c0 : w5.cell? ⟨B6, 0, none⟩ = some (.int .i64 fi) := by rw [World.cell?, HX6.out]; rfl
      have c1 : w5.cell? ⟨B6, 1, none⟩ = some (.int .i64 n2) := by rw [World.cell?, HX6.out]; rfl
      have c2 : w5.cell? ⟨B6, 2, none⟩ = some (.int .i64 n4) := by rw [World.cell?, HX6.out]; rfl
      have c3 : w5.cell? ⟨B6, 3, none⟩ = some (.bool false) := by rw [World.cell?, HX6.out]; rfl
      have c4 : w5.cell? ⟨B6, 4, none⟩ = some (.int .i64 0) := by rw [World.cell?, HX6.out]; rfl
      have c5 : w5.cell? ⟨B6, 5, none⟩ = some (.int .i64 0) := by rw [World.cell?, HX6.out]; rfl
      have c6 : w5.cell? ⟨B6, 6, none⟩ = some (.int .i64 0) := by rw [World.cell?, HX6.out]; rfl
      have p0 : w5.cell? ⟨B, 0, none⟩ = some (.slice An' p.names.length cn) := by rw [World.cell?, HXP.out]; rfl
      have p1 : w5.cell? ⟨B, 1, none⟩ = some (.slice Ah p.homes.length ch) := by rw [World.cell?, HXP.out]; rfl
      have p2 : w5.cell? ⟨B, 2, none⟩ = some (.slice Aa p.acts.length ca) := by rw [World.cell?, HXP.out]; rfl
      have PX := Lib.hid (HP.out.up hbx)
      have hlt6 : B6 < w5.heap.size := (Array.getElem?_eq_some_iff.1 HX6.out).1
      go_wp2_with fail
      refine (written_any p _ _ _ ⟨fi, n2, n4, false, 0, 0, 0⟩ _ PX.out ho).mono ?_
      rintro e w7 ⟨rfl, hb7⟩
      have hB7 := hbx.trans (hb7.mono hbx.size)
      cases hwr : writtenB p ⟨fi, n2, n4, false, 0, 0, 0⟩ with
      | false =>
        have HN7 := Lib.hid (AnsP.no (w := w) (w' := w7) (p := p) (ws := ws) (by rw [HPA.out, hwr]; rfl) hB7)
        clear hwr
        go_wp2_with fail
        refine (must_false _).mono ?_
        rintro e w8 ⟨rfl, rfl⟩
        exact ⟨rfl, HN7.out⟩
      | true =>
        have HY := Lib.hid (show parseA p ws = some ⟨fi, n2, n4, false, 0, 0, 0⟩ by rw [HPA.out, hwr]; rfl)
        have hR7 : w7.heap[w.heap.size]? = some (.cells #[.int .i64 0, .int .i64 0, .int .i64 0, .bool false, .int .i64 0, .int .i64 0, .int .i64 0] 38 (0, 0)) := (hb7.block _ (Array.getElem?_eq_some_iff.1 HXR.out).1).trans HXR.out
        have d0 : w7.cell? ⟨B6, 0, none⟩ = some (.int .i64 fi) := (hb7.cell (p := ⟨B6, 0, none⟩) hlt6).trans c0
        have d1 : w7.cell? ⟨B6, 1, none⟩ = some (.int .i64 n2) := (hb7.cell (p := ⟨B6, 1, none⟩) hlt6).trans c1
        have d2 : w7.cell? ⟨B6, 2, none⟩ = some (.int .i64 n4) := (hb7.cell (p := ⟨B6, 2, none⟩) hlt6).trans c2
        have d3 : w7.cell? ⟨B6, 3, none⟩ = some (.bool false) := (hb7.cell (p := ⟨B6, 3, none⟩) hlt6).trans c3
        have d4 : w7.cell? ⟨B6, 4, none⟩ = some (.int .i64 0) := (hb7.cell (p := ⟨B6, 4, none⟩) hlt6).trans c4
        have d5 : w7.cell? ⟨B6, 5, none⟩ = some (.int .i64 0) := (hb7.cell (p := ⟨B6, 5, none⟩) hlt6).trans c5
        have d6 : w7.cell? ⟨B6, 6, none⟩ = some (.int .i64 0) := (hb7.cell (p := ⟨B6, 6, none⟩) hlt6).trans c6
        have r0 : w7.cell? ⟨w.heap.size, 0, none⟩ = some (.int .i64 0) := by rw [World.cell?, hR7]; rfl
        have r1 : w7.cell? ⟨w.heap.size, 1, none⟩ = some (.int .i64 0) := by rw [World.cell?, hR7]; rfl
        have r2 : w7.cell? ⟨w.heap.size, 2, none⟩ = some (.int .i64 0) := by rw [World.cell?, hR7]; rfl
        have r3 : w7.cell? ⟨w.heap.size, 3, none⟩ = some (.bool false) := by rw [World.cell?, hR7]; rfl
        have r4 : w7.cell? ⟨w.heap.size, 4, none⟩ = some (.int .i64 0) := by rw [World.cell?, hR7]; rfl
        have r5 : w7.cell? ⟨w.heap.size, 5, none⟩ = some (.int .i64 0) := by rw [World.cell?, hR7]; rfl
        have r6 : w7.cell? ⟨w.heap.size, 6, none⟩ = some (.int .i64 0) := by rw [World.cell?, hR7]; rfl
        have z0 : w7.frozen? ⟨w.heap.size, 0, none⟩ = false := by simp [World.frozen?, hR7]
        have z1 : w7.frozen? ⟨w.heap.size, 1, none⟩ = false := by simp [World.frozen?, hR7]
        have z2 : w7.frozen? ⟨w.heap.size, 2, none⟩ = false := by simp [World.frozen?, hR7]
        have z3 : w7.frozen? ⟨w.heap.size, 3, none⟩ = false := by simp [World.frozen?, hR7]
        have z4 : w7.frozen? ⟨w.heap.size, 4, none⟩ = false := by simp [World.frozen?, hR7]
        have z5 : w7.frozen? ⟨w.heap.size, 5, none⟩ = false := by simp [World.frozen?, hR7]
        have z6 : w7.frozen? ⟨w.heap.size, 6, none⟩ = false := by simp [World.frozen?, hR7]
        have HR7 := Lib.hid hR7
        clear hwr hR7 c0 c1 c2 c3 c4 c5 c6
        go_wp2_with fail
        refine (must_true _).mono ?_
        rintro e w8 ⟨rfl, rfl⟩
        have s0' := heap_setCell_same _ _ 0 _ _ _ (.int .i64 fi) HR7.out
        have s1' := heap_setCell_same _ _ 1 _ _ _ (.int .i64 n2) s0'
        have s2' := heap_setCell_same _ _ 2 _ _ _ (.int .i64 n4) s1'
        have s3' := heap_setCell_same _ _ 3 _ _ _ (.bool false) s2'
        have s4' := heap_setCell_same _ _ 4 _ _ _ (.int .i64 0) s3'
        have s5' := heap_setCell_same _ _ 5 _ _ _ (.int .i64 0) s4'
        have s6' := heap_setCell_same _ _ 6 _ _ _ (.int .i64 0) s5'
        have S6 := Lib.hid s6'
        clear s0' s1' s2' s3' s4' s5' s6'
        go_wp2_with fail
        refine bodyPost_ret (v := .agg #[.int .i64 fi, .int .i64 n2, .int .i64 n4, .bool false, .int .i64 0, .int .i64 0, .int .i64 0]) ?_ rfl ?_
        · have l0 := load_row S6.out (by kernel_rfl) (by kernel_rfl)
          simp only [results, Tryz.results25]
          simp [asAddr]
          exact l0
        · exact AnsP.yes HY.out (((((((hB7.setCell (by simp) _).setCell (by simp) _).setCell (by simp) _).setCell (by simp) _).setCell (by simp) _).setCell (by simp) _).setCell (by simp) _)
    case neg =>
      have HNO : Hid (AnsP w p ws (.panicked bad) w5) := AnsP.no (parseA_num (.inr (.inr (by unfold tailP; rw [if_pos h5, if_neg (by rw [← HN.out]; exact hlen)])))) hb5
      have hl6 : ((n : Int) == 6) = false := by rw [beq_eq_false_iff_ne]; omega
      have i5 : (5 : Int) < (n : Int) := by omega
      clear h5 hlen
      go_wp2_with fail
      refine (must_false _).mono ?_
      rintro e w6 ⟨rfl, rfl⟩
      exact ⟨rfl, HNO.out⟩
  case neg =>
  have e5 : ((wd ws 5).toList == [97, 108, 111, 110, 101]) = false := beq_eq_false_iff_ne.2 fun e => h5 (toList_inj (e.trans (by rw [ByteArray.toList_eq]; rfl)))
  have H5 := Lib.hid h5
  clear h5
  have i5 : (5 : Int) < (n : Int) := by omega
  by_cases hrl : wd ws 5 = reliefW ∧ n = 9
  case neg =>
    have HNO : Hid (AnsP w p ws (.panicked bad) w5) := AnsP.no (parseA_num (.inr (.inr (by unfold tailP; rw [if_neg H5.out, if_neg (by rw [← HN.out]; exact hrl)])))) hb5
    by_cases hr5 : wd ws 5 = reliefW
    · have h9 : ((n : Int) == 9) = false := by rw [beq_eq_false_iff_ne]; intro e; exact hrl ⟨hr5, by omega⟩
      rw [hr5] at k5
      unfold reliefW at k5
      clear hrl e5 hr5
      go_wp2_with fail
      refine (must_false _).mono ?_
      rintro e w6 ⟨rfl, rfl⟩
      exact ⟨rfl, HNO.out⟩
    · have e6 : ((wd ws 5).toList == [114, 101, 108, 105, 101, 102]) = false := beq_eq_false_iff_ne.2 fun e => hr5 (toList_inj (e.trans (by rw [ByteArray.toList_eq]; rfl)))
      clear hrl hr5
      generalize wd ws 5 = s5 at *
      go_wp2_with fail
      refine (must_false _).mono ?_
      rintro e w6 ⟨rfl, rfl⟩
      exact ⟨rfl, HNO.out⟩
  case pos =>
  obtain ⟨hr5, h9⟩ := hrl
  rw [hr5] at k5
  unfold reliefW at k5
  have h99 : ((n : Int) == 9) = true := by rw [h9]; rfl
  have HR9 := Lib.hid (And.intro hr5 h9)
  have n9 : 9 ≤ n := by omega
  clear hr5 h9 e5
  go_wp2_with fail
  refine (must_true _).mono ?_
  rintro e w6 ⟨rfl, rfl⟩
  go_wp2_with fail
  have HK : Hid (∀ wa, RelC w5 B6 fi n2 n4 wa → Below w2.heap.size w2 wa) := fun wa hC => ⟨hC.keep.os.trans hk5.os, hC.keep.tape.trans hk5.tape, hC.keep.output.trans hk5.output, Nat.le_trans hk5.size hC.keep.size, fun i hi => (hC.keep.block i (by have := hk5.size; omega) (by omega)).trans (hk5.block i hi)⟩
  have TN : Hid (∀ (_ : numS (wd ws 6) = none ∨ numS (wd ws 7) = none ∨ numS (wd ws 8) = none), parseA p ws = none) := fun h => parseA_num (.inr (.inr (tailP_num H5.out h)))
  have N6 := Lib.hid (number_ok w2 ht2 hE2 (wd ws 6) (HSZ.out 6) (Pq := fun w' => AnsP w p ws (.panicked bad) w') fun hn => HNB.out (TN.out (.inl hn)))
  have N7 := Lib.hid (number_ok w2 ht2 hE2 (wd ws 7) (HSZ.out 7) (Pq := fun w' => AnsP w p ws (.panicked bad) w') fun hn => HNB.out (TN.out (.inr (.inl hn))))
  have N8 := Lib.hid (number_ok w2 ht2 hE2 (wd ws 8) (HSZ.out 8) (Pq := fun w' => AnsP w p ws (.panicked bad) w') fun hn => HNB.out (TN.out (.inr (.inr hn))))
  obtain ⟨a6, ha6⟩ : ∃ x, x = (numS (wd ws 6)).getD 0 := ⟨_, rfl⟩
  obtain ⟨a7, ha7⟩ : ∃ x, x = (numS (wd ws 7)).getD 0 := ⟨_, rfl⟩
  obtain ⟨a8, ha8⟩ : ∃ x, x = (numS (wd ws 8)).getD 0 := ⟨_, rfl⟩
  have A678 := Lib.hid (And.intro ha6 (And.intro ha7 ha8))
  clear ha6 ha7 ha8
  have hG : Hid (∀ w w', RelC w5 B6 fi n2 n4 w → Below w.heap.size w w' → RelG B6 (tgtF a6 a7 a8) w w') := fun w w' hC hb => hC.g hb
  refine region_all 83 (RelC w5 B6 fi n2 n4) (RelG B6 (tgtF a6 a7 a8)) [is (.slice (some ⟨b, o, none⟩) n c'), is (.pointer (some ⟨b, o + 6 * 1, none⟩)), is (.string (wd ws 6)), NumW (wd ws 6), is (.slice (some ⟨b, o, none⟩) n c'), is (.pointer (some ⟨b, o + 7 * 1, none⟩)), is (.string (wd ws 7)), NumW (wd ws 7), is (.slice (some ⟨b, o, none⟩) n c'), is (.pointer (some ⟨b, o + 8 * 1, none⟩)), is (.string (wd ws 8)), NumW (wd ws 8), RelV (wd ws 6) (wd ws 7) (wd ws 8), is (.pointer (some ⟨B6, 3, none⟩)), fun _ w => w.cell? ⟨B6, 3, none⟩ = some (.bool true), is (.pointer (some ⟨B6, 4, none⟩)), fun _ w => ∀ j, 4 ≤ j → j < 7 → w.cell? ⟨B6, j, none⟩ = some (tgtF a6 a7 a8 j)] (by kernel_rfl) (by kernel_rfl) rfl ?hst ?h0 ?hop ?hend
  case hst =>
    simp only [List.mem_cons, List.mem_nil_iff, or_false, forall_eq_or_imp, forall_eq]
    refine ⟨(fun _ _ _ _ h => h), (fun _ _ _ _ h => h), (fun _ _ _ _ h => h), (fun _ _ _ _ h => h), (fun _ _ _ _ h => h), (fun _ _ _ _ h => h), (fun _ _ _ _ h => h), (fun _ _ _ _ h => h), (fun _ _ _ _ h => h), (fun _ _ _ _ h => h), (fun _ _ _ _ h => h), (fun _ _ _ _ h => h), (fun _ _ _ _ h => h), (fun _ _ _ _ h => h), ?_, (fun _ _ _ _ h => h), ?_⟩
    · intro v w w' hg hr; rcases hg.2 3 (by omega) with h | h; exact h.trans hr; exact h
    · intro v w w' hg hr j h1 h2; rcases hg.2 j (by omega) with h | h; exact h.trans (hr j h1 h2); exact h
  case h0 => exact RelC.below ⟨KeepP.refl _ _, _, _, _, _, HH6.out⟩ ((Below.refl _ _).drew)
  case hop =>
    refine ⟨?_, ?_, ?_, ?_, ?_, ?_, ?_, ?_, ?_, ?_, ?_, ?_, ?_, ?_, ?_, ?_, ?_, trivial⟩
    · refine opG_of hG.out ?_
      exact ok_move (.tmp 0) (is (.slice (some ⟨b, o, none⟩) n c')) rfl (by kernel_rfl) (fun _ _ _ h => h)
    · refine opG_of hG.out ?_
      exact ok_indexC 22 9 63 (b) (o) (n) (c') 1 6 (6) rfl (by kernel_rfl) Tryz.underlying22 str1_size (rfl) (by omega) rfl
    · refine opG_of hG.out ?_
      exact ok_load 9 (.tmp 64) (.pointer (some ⟨b, o + 6 * 1, none⟩)) (.string (wd ws 6)) rfl (by kernel_rfl) (fun wa hC => run_load1 wa (by kernel_rfl) (CW2.out wa (HK.out wa hC) 6 (by omega))) rfl
    · refine opG_of hG.out ?_
      exact ok_callP 28 [.tmp 65] _ [.string (wd ws 6)] rfl (fun _ _ => by kernel_rfl) ⟨by kernel_rfl, trivial⟩ (fun wa hC => (N6.out wa (HK.out wa hC)).mono fun e x h => by
        rcases h with ⟨v, he, _, hb, hn⟩ | ⟨ch, he, rfl, hp⟩
        · exact .inl ⟨v, he, hC.below hb, hb, hn⟩
        · exact .inr ⟨_, he, fun a hd => ⟨hd.1, hp⟩⟩)
    · refine opG_of hG.out ?_
      exact ok_move (.tmp 0) (is (.slice (some ⟨b, o, none⟩) n c')) rfl (by kernel_rfl) (fun _ _ _ h => h)
    · refine opG_of hG.out ?_
      exact ok_indexC 22 9 67 (b) (o) (n) (c') 1 7 (7) rfl (by kernel_rfl) Tryz.underlying22 str1_size (rfl) (by omega) rfl
    · refine opG_of hG.out ?_
      exact ok_load 9 (.tmp 68) (.pointer (some ⟨b, o + 7 * 1, none⟩)) (.string (wd ws 7)) rfl (by kernel_rfl) (fun wa hC => run_load1 wa (by kernel_rfl) (CW2.out wa (HK.out wa hC) 7 (by omega))) rfl
    · refine opG_of hG.out ?_
      exact ok_callP 28 [.tmp 69] _ [.string (wd ws 7)] rfl (fun _ _ => by kernel_rfl) ⟨by kernel_rfl, trivial⟩ (fun wa hC => (N7.out wa (HK.out wa hC)).mono fun e x h => by
        rcases h with ⟨v, he, _, hb, hn⟩ | ⟨ch, he, rfl, hp⟩
        · exact .inl ⟨v, he, hC.below hb, hb, hn⟩
        · exact .inr ⟨_, he, fun a hd => ⟨hd.1, hp⟩⟩)
    · refine opG_of hG.out ?_
      exact ok_move (.tmp 0) (is (.slice (some ⟨b, o, none⟩) n c')) rfl (by kernel_rfl) (fun _ _ _ h => h)
    · refine opG_of hG.out ?_
      exact ok_indexC 22 9 71 (b) (o) (n) (c') 1 8 (8) rfl (by kernel_rfl) Tryz.underlying22 str1_size (rfl) (by omega) rfl
    · refine opG_of hG.out ?_
      exact ok_load 9 (.tmp 72) (.pointer (some ⟨b, o + 8 * 1, none⟩)) (.string (wd ws 8)) rfl (by kernel_rfl) (fun wa hC => run_load1 wa (by kernel_rfl) (CW2.out wa (HK.out wa hC) 8 (by omega))) rfl
    · refine opG_of hG.out ?_
      exact ok_callP 28 [.tmp 73] _ [.string (wd ws 8)] rfl (fun _ _ => by kernel_rfl) ⟨by kernel_rfl, trivial⟩ (fun wa hC => (N8.out wa (HK.out wa hC)).mono fun e x h => by
        rcases h with ⟨v, he, _, hb, hn⟩ | ⟨ch, he, rfl, hp⟩
        · exact .inl ⟨v, he, hC.below hb, hb, hn⟩
        · exact .inr ⟨_, he, fun a hd => ⟨hd.1, hp⟩⟩)
    · refine opG_of hG.out ?_
      refine ok_value fun a wa hC hpre => ?_
      have h1 : NumW (wd ws 6) (a.eval (.tmp 66)) wa := hpre (.tmp 66) (by simp [Op.operands])
      have h2 : NumW (wd ws 7) (a.eval (.tmp 70)) wa := hpre (.tmp 70) (by simp [Op.operands])
      have h3 : NumW (wd ws 8) (a.eval (.tmp 74)) wa := hpre (.tmp 74) (by simp [Op.operands])
      obtain ⟨x1, hx1, hv1⟩ := h1
      obtain ⟨x2, hx2, hv2⟩ := h2
      obtain ⟨x3, hx3, hv3⟩ := h3
      have e1 : a.tmps[66]?.getD undef = .int .i64 x1 := by simpa [Act.eval] using hv1
      have e2 : a.tmps[70]?.getD undef = .int .i64 x2 := by simpa [Act.eval] using hv2
      have e3 : a.tmps[74]?.getD undef = .int .i64 x3 := by simpa [Act.eval] using hv3
      refine ⟨.agg #[.int .i64 x1, .int .i64 x2, .int .i64 x3], ?_, x1, x2, x3, hx1, hx2, hx3, rfl⟩
      clear hv1 hv2 hv3
      go_simp
    · refine opG_of hG.out ?_
      exact ok_field 38 (.tmp 6) 2 (.pointer (some ⟨B6, 0, none⟩)) (.pointer (some ⟨B6, 3, none⟩)) rfl (by kernel_rfl) (fun w => by kernel_rfl) rfl
    · exact rel_bool rfl (by kernel_rfl) (by kernel_rfl) rfl
    · refine opG_of hG.out ?_
      exact ok_field 38 (.tmp 6) 3 (.pointer (some ⟨B6, 0, none⟩)) (.pointer (some ⟨B6, 4, none⟩)) rfl (by kernel_rfl) (fun w => by kernel_rfl) rfl
    · exact rel_store 75 rfl (by kernel_rfl) (by kernel_rfl) (by kernel_rfl) A678.out rfl
  case hend =>
  intro τ w8 hC8 hR8
  obtain ⟨x1, x2, x3, hx1, hx2, hx3, -⟩ : RelV (wd ws 6) (wd ws 7) (wd ws 8) (τ 12) w8 := hR8 12 (by decide)
  have r14 : w8.cell? ⟨B6, 3, none⟩ = some (.bool true) := hR8 14 (by decide)
  have r16 : ∀ j, 4 ≤ j → j < 7 → w8.cell? ⟨B6, j, none⟩ = some (tgtF a6 a7 a8 j) := hR8 16 (by decide)
  obtain ⟨q6, q7, q8⟩ := A678.out
  rw [hx1] at q6
  rw [hx2] at q7
  rw [hx3] at q8
  simp only [Option.getD_some] at q6 q7 q8
  subst q6 q7 q8
  have hP8 : w8.heap[B]? = some (.cells #[.slice An' p.names.length cn, .slice Ah p.homes.length ch, .slice Aa p.acts.length ca] 26 (0, 0)) := (hC8.keep.block B (by have := hk5.size; omega) hneB).trans HP5.out
  have hR85 : w8.heap[w.heap.size]? = some (.cells #[.int .i64 0, .int .i64 0, .int .i64 0, .bool false, .int .i64 0, .int .i64 0, .int .i64 0] 38 (0, 0)) := (hC8.keep.block _ (by have := hk5.size; omega) hne6).trans HR5.out
  have hb8 : Below w.heap.size w w8 := ⟨hC8.keep.os.trans hb5.os, hC8.keep.tape.trans hb5.tape, hC8.keep.output.trans hb5.output, Nat.le_trans hb5.size hC8.keep.size, fun i hi => (hC8.keep.block i (by have := hb5.size; omega) (by omega)).trans (hb5.block i hi)⟩
  have h68 : w8.heap[B6]? = some (.cells #[.int .i64 fi, .int .i64 n2, .int .i64 n4, .bool true, .int .i64 a6, .int .i64 a7, .int .i64 a8] 38 (0, 0)) := by
    obtain ⟨r, x, y, z, hr⟩ := hC8.row
    have c3 := r14
    have c4 := r16 4 (by omega) (by omega)
    have c5 := r16 5 (by omega) (by omega)
    have c6 := r16 6 (by omega) (by omega)
    simp [World.cell?, hr, tgtF] at c3 c4 c5 c6
    rw [hr, c3, c4, c5, c6]
  have HPA : Hid (parseA p ws = if writtenB p ⟨fi, n2, n4, true, a6, a7, a8⟩ = true then some ⟨fi, n2, n4, true, a6, a7, a8⟩ else none) := by
    unfold Hid; rw [HFI0.out]
    exact parseA_all HH.out (by have := HIX.out; omega) HN2.out HN4.out (by unfold tailP; rw [if_neg H5.out, if_pos (by rw [← HN.out]; exact HR9.out), hx1, hx2, hx3])
  have hbx := hb8
  have HX6 := Lib.hid h68
  have HXR := Lib.hid hR85
  have HXP := Lib.hid hP8
  simp only [putAll, List.length_cons, List.length_nil, Nat.reduceAdd, List.getElem?_toArray, List.getElem?_cons_succ, List.getElem?_cons_zero, Option.bind_some, Act.put, List.setIfInBounds_toArray, List.set_cons_succ, List.set_cons_zero, List.drop_succ_cons, List.drop_zero]
  clear r14 r16 h68 hR85 hP8 hb8 hC8 hR8 hx1 hx2 hx3 A678
  have c0 : w8.cell? ⟨B6, 0, none⟩ = some (.int .i64 fi) := by rw [World.cell?, HX6.out]; rfl
  have c1 : w8.cell? ⟨B6, 1, none⟩ = some (.int .i64 n2) := by rw [World.cell?, HX6.out]; rfl
  have c2 : w8.cell? ⟨B6, 2, none⟩ = some (.int .i64 n4) := by rw [World.cell?, HX6.out]; rfl
  have c3 : w8.cell? ⟨B6, 3, none⟩ = some (.bool true) := by rw [World.cell?, HX6.out]; rfl
  have c4 : w8.cell? ⟨B6, 4, none⟩ = some (.int .i64 a6) := by rw [World.cell?, HX6.out]; rfl
  have c5 : w8.cell? ⟨B6, 5, none⟩ = some (.int .i64 a7) := by rw [World.cell?, HX6.out]; rfl
  have c6 : w8.cell? ⟨B6, 6, none⟩ = some (.int .i64 a8) := by rw [World.cell?, HX6.out]; rfl
  have p0 : w8.cell? ⟨B, 0, none⟩ = some (.slice An' p.names.length cn) := by rw [World.cell?, HXP.out]; rfl
  have p1 : w8.cell? ⟨B, 1, none⟩ = some (.slice Ah p.homes.length ch) := by rw [World.cell?, HXP.out]; rfl
  have p2 : w8.cell? ⟨B, 2, none⟩ = some (.slice Aa p.acts.length ca) := by rw [World.cell?, HXP.out]; rfl
  have PX := Lib.hid (HP.out.up hbx)
  have hlt6 : B6 < w8.heap.size := (Array.getElem?_eq_some_iff.1 HX6.out).1
  go_wp2_with fail
  refine (written_any p _ _ _ ⟨fi, n2, n4, true, a6, a7, a8⟩ _ PX.out ho).mono ?_
  rintro e w7 ⟨rfl, hb7⟩
  have hB7 := hbx.trans (hb7.mono hbx.size)
  cases hwr : writtenB p ⟨fi, n2, n4, true, a6, a7, a8⟩ with
  | false =>
    have HN7 := Lib.hid (AnsP.no (w := w) (w' := w7) (p := p) (ws := ws) (by rw [HPA.out, hwr]; rfl) hB7)
    clear hwr
    go_wp2_with fail
    refine (must_false _).mono ?_
    rintro e w8 ⟨rfl, rfl⟩
    exact ⟨rfl, HN7.out⟩
  | true =>
    have HY := Lib.hid (show parseA p ws = some ⟨fi, n2, n4, true, a6, a7, a8⟩ by rw [HPA.out, hwr]; rfl)
    have hR7 : w7.heap[w.heap.size]? = some (.cells #[.int .i64 0, .int .i64 0, .int .i64 0, .bool false, .int .i64 0, .int .i64 0, .int .i64 0] 38 (0, 0)) := (hb7.block _ (Array.getElem?_eq_some_iff.1 HXR.out).1).trans HXR.out
    have d0 : w7.cell? ⟨B6, 0, none⟩ = some (.int .i64 fi) := (hb7.cell (p := ⟨B6, 0, none⟩) hlt6).trans c0
    have d1 : w7.cell? ⟨B6, 1, none⟩ = some (.int .i64 n2) := (hb7.cell (p := ⟨B6, 1, none⟩) hlt6).trans c1
    have d2 : w7.cell? ⟨B6, 2, none⟩ = some (.int .i64 n4) := (hb7.cell (p := ⟨B6, 2, none⟩) hlt6).trans c2
    have d3 : w7.cell? ⟨B6, 3, none⟩ = some (.bool true) := (hb7.cell (p := ⟨B6, 3, none⟩) hlt6).trans c3
    have d4 : w7.cell? ⟨B6, 4, none⟩ = some (.int .i64 a6) := (hb7.cell (p := ⟨B6, 4, none⟩) hlt6).trans c4
    have d5 : w7.cell? ⟨B6, 5, none⟩ = some (.int .i64 a7) := (hb7.cell (p := ⟨B6, 5, none⟩) hlt6).trans c5
    have d6 : w7.cell? ⟨B6, 6, none⟩ = some (.int .i64 a8) := (hb7.cell (p := ⟨B6, 6, none⟩) hlt6).trans c6
    have r0 : w7.cell? ⟨w.heap.size, 0, none⟩ = some (.int .i64 0) := by rw [World.cell?, hR7]; rfl
    have r1 : w7.cell? ⟨w.heap.size, 1, none⟩ = some (.int .i64 0) := by rw [World.cell?, hR7]; rfl
    have r2 : w7.cell? ⟨w.heap.size, 2, none⟩ = some (.int .i64 0) := by rw [World.cell?, hR7]; rfl
    have r3 : w7.cell? ⟨w.heap.size, 3, none⟩ = some (.bool false) := by rw [World.cell?, hR7]; rfl
    have r4 : w7.cell? ⟨w.heap.size, 4, none⟩ = some (.int .i64 0) := by rw [World.cell?, hR7]; rfl
    have r5 : w7.cell? ⟨w.heap.size, 5, none⟩ = some (.int .i64 0) := by rw [World.cell?, hR7]; rfl
    have r6 : w7.cell? ⟨w.heap.size, 6, none⟩ = some (.int .i64 0) := by rw [World.cell?, hR7]; rfl
    have z0 : w7.frozen? ⟨w.heap.size, 0, none⟩ = false := by simp [World.frozen?, hR7]
    have z1 : w7.frozen? ⟨w.heap.size, 1, none⟩ = false := by simp [World.frozen?, hR7]
    have z2 : w7.frozen? ⟨w.heap.size, 2, none⟩ = false := by simp [World.frozen?, hR7]
    have z3 : w7.frozen? ⟨w.heap.size, 3, none⟩ = false := by simp [World.frozen?, hR7]
    have z4 : w7.frozen? ⟨w.heap.size, 4, none⟩ = false := by simp [World.frozen?, hR7]
    have z5 : w7.frozen? ⟨w.heap.size, 5, none⟩ = false := by simp [World.frozen?, hR7]
    have z6 : w7.frozen? ⟨w.heap.size, 6, none⟩ = false := by simp [World.frozen?, hR7]
    have HR7 := Lib.hid hR7
    clear hwr hR7 c0 c1 c2 c3 c4 c5 c6
    go_wp2_with fail
    refine (must_true _).mono ?_
    rintro e w8 ⟨rfl, rfl⟩
    have s0' := heap_setCell_same _ _ 0 _ _ _ (.int .i64 fi) HR7.out
    have s1' := heap_setCell_same _ _ 1 _ _ _ (.int .i64 n2) s0'
    have s2' := heap_setCell_same _ _ 2 _ _ _ (.int .i64 n4) s1'
    have s3' := heap_setCell_same _ _ 3 _ _ _ (.bool true) s2'
    have s4' := heap_setCell_same _ _ 4 _ _ _ (.int .i64 a6) s3'
    have s5' := heap_setCell_same _ _ 5 _ _ _ (.int .i64 a7) s4'
    have s6' := heap_setCell_same _ _ 6 _ _ _ (.int .i64 a8) s5'
    have S6 := Lib.hid s6'
    clear s0' s1' s2' s3' s4' s5' s6'
    go_wp2_with fail
    refine bodyPost_ret (v := .agg #[.int .i64 fi, .int .i64 n2, .int .i64 n4, .bool true, .int .i64 a6, .int .i64 a7, .int .i64 a8]) ?_ rfl ?_
    · have l0 := load_row S6.out (by kernel_rfl) (by kernel_rfl)
      simp only [results, Tryz.results25]
      simp [asAddr]
      exact l0
    · exact AnsP.yes HY.out (((((((hB7.setCell (by simp) _).setCell (by simp) _).setCell (by simp) _).setCell (by simp) _).setCell (by simp) _).setCell (by simp) _).setCell (by simp) _)
end Go.Proofs.YtolmehmglgmanaaGreatDoor
