/- What a leg of a flight is: the walks of valid, rows and leg. -/
import Derived.Test.YtolmehmglgmanaaGreatDoorGlide
import Derived.Test.YtolmehmglgmanaaGreatDoorMaps
import Derived.Test.YtolmehmglgmanaaGreatDoorRegion
namespace Go.Proofs.YtolmehmglgmanaaGreatDoor
open Go.RowKit
def glValidB (x y z x' y' z' f t : Int) : Bool := ptB x y z && ptB x' y' z' && decide (0 ≤ f) && decide (f < t) && decide (t ≤ 3600000)
set_option maxHeartbeats 400000 in
theorem glValid_any (x y z x' y' z' f t : Int) (w : World) :
    Calls Tryz.prog 71 #[.agg #[.int .i64 x, .int .i64 y, .int .i64 z], .agg #[.int .i64 x', .int .i64 y', .int .i64 z'], .int .i64 f, .int .i64 t] w fun e w' => e = .returned (.bool (glValidB x y z x' y' z' f t)) ∧ Below w.heap.size w w' := by
  cases h1 : ptB x y z <;> cases h2 : ptB x' y' z'
  all_goals
    have HF : Hid (∀ a b, a = ptB x y z → b = ptB x' y' z' → glValidB x y z x' y' z' f t = (a && b && decide (0 ≤ f) && decide (f < t) && decide (t ≤ 3600000))) := fun a b h h' => by rw [h, h']; rfl
    have H1 := Lib.hid h1
    have H2 := Lib.hid h2
    clear h1 h2
    go_enter Tryz.func71, Tryz.ntmps71
    go_wp2_with fail
    refine (point_pt _ _ _ _).mono ?_
    rintro e w1 ⟨rfl, hb⟩
    rw [H1.out]
    have hz := hb.size
    have hB := (((Below.refl _ _).alloc (Nat.le_refl _) _).alloc (by simp) _).trans (hb.mono (show w.heap.size ≤ _ by simp; omega))
    obtain ⟨hc, hf⟩ := bcell hb
    simp at hz hc
    go_wp2_with fail
  · go_ret; exact ⟨ret_bool (by rw [HF.out _ _ H1.out.symm H2.out.symm]; simp), hB⟩
  · go_ret; exact ⟨ret_bool (by rw [HF.out _ _ H1.out.symm H2.out.symm]; simp), hB⟩
  all_goals
    refine (point_pt _ _ _ _).mono ?_
    rintro e w2 ⟨rfl, hb2⟩
    rw [H2.out]
    go_wp2
    all_goals
      go_ret
      refine ⟨ret_bool ?_, hB.trans (hb2.mono (by omega))⟩
      rw [HF.out _ _ H1.out.symm H2.out.symm]
      simp
      try omega
/-- A result in a cell of the call's own: what the call gives, behind the stores. -/
theorem leg_end {w w1 w2 w3 : World} {p n1 n2 n3 : Nat} {v1 v2 v3 : Value} {x1 x2 x3 : List Value} {f t : Int} (hG : w2.grownBy w3 (some p)) (hp : w.heap.size ≤ p) (hp1 : p < w1.heap.size) (hb : Below w.heap.size w w1) (hC : Below w1.heap.size w1 w2)
    (h1 : Sees w2 w1.heap.size w2.heap.size 1 v1 n1 x1) (h2 : Sees w2 w1.heap.size w2.heap.size 1 v2 n2 x2) (h3 : Sees w2 w1.heap.size w2.heap.size 1 v3 n3 x3) :
    ∃ vx vy vz, Ending.returned (.agg #[.int .i64 f, .int .i64 t, .int .i64 1, v1, v2, v3]) = .returned (.agg #[.int .i64 f, .int .i64 t, .int .i64 1, vx, vy, vz]) ∧ Sees w3 w.heap.size w3.heap.size 1 vx n1 x1 ∧ Sees w3 w.heap.size w3.heap.size 1 vy n2 x2 ∧ Sees w3 w.heap.size w3.heap.size 1 vz n3 x3 ∧ Below w.heap.size w w3 := by
  have hr : ∀ b, some p = some b → b < w1.heap.size ∨ w2.heap.size ≤ b := by rintro b ⟨rfl⟩; exact .inl hp1
  have hz := hb.size
  have hz2 := hC.size
  exact ⟨_, _, _, rfl, (h1.keepG hG (Nat.le_refl _) hr).more hz hG.size, (h2.keepG hG (Nat.le_refl _) hr).more hz hG.size, (h3.keepG hG (Nat.le_refl _) hr).more hz hG.size,
    (hb.trans (hC.mono hz)).grown hG (by omega) (by rintro b ⟨rfl⟩; exact hp)⟩
theorem kindKey : KeyEq 146 (fun v => ∃ n, v = .int .i64 n) eqInt := keyInt 146 (by kernel_rfl)
def kindRow (k : Int) : List Int := if k = 0 then [] else if k = 1 then [1] else [0, 0, 10, -15, 6]
set_option maxHeartbeats 400000 in
theorem rows_any (w : World) :
    Calls Tryz.prog 96 #[] w fun e w' => ∃ b v1 v2, e = .returned (.map (some b)) ∧ MapAt w' b [(.int .i64 0, .slice none 0 0), (.int .i64 1, v1), (.int .i64 2, v2)] ∧ Sees w' w.heap.size w'.heap.size 1 v1 1 (ints [1]) ∧ Sees w' w.heap.size w'.heap.size 1 v2 5 (ints [0, 0, 10, -15, 6]) ∧ w.heap.size ≤ b ∧ Below w.heap.size w w' := by
  have hmm := @run_makeMap Tryz.prog
  go_enter Tryz.func96, Tryz.ntmps96
  go_wp2_with (with_reducible refine wpList_insert rfl (.tmp 1) (.const (.int .i64 0)) (.const (.slice none 0 0)) 177 rfl Tryz.underlying177 kindKey rfl (MapAt.new _ _ rfl) (by simp) _ _ rfl rfl ⟨_, rfl⟩ (by simp) ?_)
  intro w1 hm1 hg1
  have hb1 : Below w.heap.size w w1 := ((Below.refl _ _).alloc (Nat.le_refl _) _).grown hg1 (by simp) (fun k hk => by injection hk with hk; omega)
  have hz1 : w.heap.size < w1.heap.size := hm1.lt
  go_wp2_with (with_reducible refine wpList_insert rfl (.tmp 1) (.const (.int .i64 1)) (.tmp 2) 177 rfl Tryz.underlying177 kindKey rfl (hm1.alloc _) (by simp) (.int .i64 1) _ rfl rfl ⟨_, rfl⟩ (by simp [eqInt]) ?_)
  intro w2 hm2 hg2
  have hb2 : Below w.heap.size w w2 := (hb1.alloc hb1.size _).grown hg2 (by simp; omega) (fun k hk => by injection hk with hk; omega)
  have hs2 : Sees w2 w1.heap.size (w1.heap.size + 1) 1 (.slice (some ⟨w1.heap.size, 0, none⟩) 1 1) 1 (ints [1]) :=
    (Sees.new1 w1 (ints [1]) 1 _ w1.heap.size (w1.heap.size + 1) 1 3 rfl rfl (Nat.le_refl _) (by omega)).keepG hg2 (by simp) (by intro b e; simp at e; omega)
  have hz2 : w1.heap.size + 1 ≤ w2.heap.size := by have := hg2.size; simpa using this
  clear hm1 hg1 hg2
  go_wp2_with (with_reducible refine wpList_insert rfl (.tmp 1) (.const (.int .i64 2)) (.tmp 3) 177 rfl Tryz.underlying177 kindKey rfl (hm2.alloc _) (by simp) (.int .i64 2) _ rfl rfl ⟨_, rfl⟩ (by simp [eqInt]) ?_)
  intro w3 hm3 hg3
  have hb3 : Below w.heap.size w w3 := (hb2.alloc hb2.size _).grown hg3 (by simp; omega) (fun k hk => by injection hk with hk; omega)
  have hs3 : Sees w3 w2.heap.size (w2.heap.size + 1) 1 (.slice (some ⟨w2.heap.size, 0, none⟩) 5 5) 5 (ints [0, 0, 10, -15, 6]) :=
    (Sees.new1 w2 (ints [0, 0, 10, -15, 6]) 5 _ w2.heap.size (w2.heap.size + 1) 1 3 rfl rfl (Nat.le_refl _) (by omega)).keepG hg3 (by simp) (by intro b e; simp at e; omega)
  have hs4 := (hs2.new hz2 (.cells #[.int .i64 0, .int .i64 0, .int .i64 10, .int .i64 (-15), .int .i64 6] 3)).keepG hg3 (by simp; omega) (by intro b e; simp at e; omega)
  have hz3 : w2.heap.size + 1 ≤ w3.heap.size := by have := hg3.size; simpa using this
  go_wp2
  go_ret
  exact ⟨_, _, _, rfl, hm3, hs4.more (by omega) (by omega), hs3.more (by omega) (by omega), Nat.le_refl _, hb3⟩
def kindV (k : Int) : Prop := k = 0 ∨ k = 1 ∨ k = 2
theorem kindRow_small (k : Int) : ∀ f ∈ kindRow k, -100 ≤ f ∧ f ≤ 100 := by
  unfold kindRow; split
  · simp
  · split <;> simp
theorem kindRow_len (k : Int) : (kindRow k).length ≤ 100 := by
  unfold kindRow; split
  · simp
  · split <;> simp
/-- rows()[k], as the call of leg meets it. -/
theorem look_row {w : World} {v1 v2 : Value} (k : Int) (hk : kindV k) (lo : Nat) (h1 : Sees w lo w.heap.size 1 v1 1 (ints [1])) (h2 : Sees w lo w.heap.size 1 v2 5 (ints [0, 0, 10, -15, 6])) :
    ∃ v, (([(Value.int .i64 0, Value.slice none 0 0), (.int .i64 1, v1), (.int .i64 2, v2)].find? (fun p => eqInt (.int .i64 k) p.1)).map (·.2)).getD (.slice none 0 0) = v ∧ Sees w lo w.heap.size 1 v (kindRow k).length (ints (kindRow k)) := by
  rcases hk with rfl | rfl | rfl
  · exact ⟨_, rfl, by simp [eqInt, kindRow, ints]; exact Sees.nil none 0⟩
  · exact ⟨_, rfl, by simpa [eqInt, kindRow, ints] using h1⟩
  · exact ⟨_, rfl, by simpa [eqInt, kindRow, ints] using h2⟩
set_option maxRecDepth 100000 in
set_option maxHeartbeats 1000000 in
theorem leg_any (x y z x' y' z' f t k : Int) (w : World) (hk : kindV k) (hx : -2097152 ≤ x ∧ x ≤ 2097152) (hy : -2097152 ≤ y ∧ y ≤ 2097152) (hz : -2097152 ≤ z ∧ z ≤ 2097152) (hx' : -2097152 ≤ x' ∧ x' ≤ 2097152) (hy' : -2097152 ≤ y' ∧ y' ≤ 2097152) (hz' : -2097152 ≤ z' ∧ z' ≤ 2097152) :
    Calls Tryz.prog 85 #[.agg #[.int .i64 x, .int .i64 y, .int .i64 z], .agg #[.int .i64 x', .int .i64 y', .int .i64 z'], .int .i64 f, .int .i64 t, .int .i64 k] w fun e w' => ∃ vx vy vz, e = .returned (.agg #[.int .i64 f, .int .i64 t, .int .i64 1, vx, vy, vz]) ∧ Sees w' w.heap.size w'.heap.size 1 vx (termsL x x' (kindRow k)).length (ints (termsL x x' (kindRow k))) ∧ Sees w' w.heap.size w'.heap.size 1 vy (termsL y y' (kindRow k)).length (ints (termsL y y' (kindRow k))) ∧ Sees w' w.heap.size w'.heap.size 1 vz (termsL z z' (kindRow k)).length (ints (termsL z z' (kindRow k))) ∧ Below w.heap.size w w' := by
  go_enter Tryz.func85, Tryz.ntmps85
  go_wp2_with fail
  refine (rows_any _).mono ?_
  rintro e w1 ⟨b, v1, v2, rfl, hm, h1, h2, hbb, hb1⟩
  obtain ⟨v, hv, hs⟩ := look_row k hk _ h1 h2
  have HK := Lib.hid hk
  clear hk
  go_wp2_with (with_reducible refine wpList_look rfl (.tmp 12) (.tmp 13) 177 rfl Tryz.underlying177 kindKey rfl hm ?_ (.int .i64 k) rfl ⟨_, rfl⟩ (.slice none 0 0) ?_ _ hv ?_)
  · intro p hp; simp at hp; rcases hp with rfl | rfl | rfl <;> exact ⟨_, rfl⟩
  · kernel_rfl
  have hz1 := hb1.size
  obtain ⟨hc, hf⟩ := bcell hb1
  simp at hz1
  have c1 : w1.cell? ⟨w.heap.size, 0, none⟩ = some (.int .i64 x) := by rw [hc _ _ (by simp <;> omega)]; go_simp
  have c2 : w1.cell? ⟨w.heap.size, 1, none⟩ = some (.int .i64 y) := by rw [hc _ _ (by simp <;> omega)]; go_simp
  have c3 : w1.cell? ⟨w.heap.size, 2, none⟩ = some (.int .i64 z) := by rw [hc _ _ (by simp <;> omega)]; go_simp
  have c4 : w1.cell? ⟨w.heap.size + 1, 0, none⟩ = some (.int .i64 x') := by rw [hc _ _ (by simp <;> omega)]; go_simp
  have c5 : w1.cell? ⟨w.heap.size + 1, 1, none⟩ = some (.int .i64 y') := by rw [hc _ _ (by simp <;> omega)]; go_simp
  have c6 : w1.cell? ⟨w.heap.size + 1, 2, none⟩ = some (.int .i64 z') := by rw [hc _ _ (by simp <;> omega)]; go_simp
  have c7 : w1.cell? ⟨w.heap.size + 2, 0, none⟩ = some (.int .i64 0) := by rw [hc _ _ (by simp <;> omega)]; go_simp
  have c8 : w1.cell? ⟨w.heap.size + 2, 1, none⟩ = some (.int .i64 0) := by rw [hc _ _ (by simp <;> omega)]; go_simp
  have c9 : w1.cell? ⟨w.heap.size + 2, 2, none⟩ = some (.int .i64 0) := by rw [hc _ _ (by simp <;> omega)]; go_simp
  have c10 : w1.cell? ⟨w.heap.size + 2, 3, none⟩ = some (.slice none 0 0) := by rw [hc _ _ (by simp <;> omega)]; go_simp
  have c11 : w1.cell? ⟨w.heap.size + 2, 4, none⟩ = some (.slice none 0 0) := by rw [hc _ _ (by simp <;> omega)]; go_simp
  have c12 : w1.cell? ⟨w.heap.size + 2, 5, none⟩ = some (.slice none 0 0) := by rw [hc _ _ (by simp <;> omega)]; go_simp
  have f0 : w1.frozen? ⟨w.heap.size + 2, 0, none⟩ = false := by rw [hf _ _ (by simp <;> omega)]; go_simp
  have f1 : w1.frozen? ⟨w.heap.size + 2, 1, none⟩ = false := by rw [hf _ _ (by simp <;> omega)]; go_simp
  have f2 : w1.frozen? ⟨w.heap.size + 2, 2, none⟩ = false := by rw [hf _ _ (by simp <;> omega)]; go_simp
  have f3 : w1.frozen? ⟨w.heap.size + 2, 3, none⟩ = false := by rw [hf _ _ (by simp <;> omega)]; go_simp
  have f4 : w1.frozen? ⟨w.heap.size + 2, 4, none⟩ = false := by rw [hf _ _ (by simp <;> omega)]; go_simp
  have f5 : w1.frozen? ⟨w.heap.size + 2, 5, none⟩ = false := by rw [hf _ _ (by simp <;> omega)]; go_simp
  have hbw : Below w.heap.size w w1 := ((((Below.refl _ _).alloc (Nat.le_refl _) _).alloc (by simp) _).alloc (by simp; omega) _).trans (hb1.mono (by simp; omega))
  clear hc hf hm hv hbb hb1
  refine region_list 20 36 (fun w' => Below w1.heap.size w1 w') [is (.int .i64 f), is (.int .i64 t), is (.pointer (some ⟨w.heap.size, 0, none⟩)), is (.int .i64 x), is (.pointer (some ⟨w.heap.size + 1, 0, none⟩)), is (.int .i64 x'), is (v), fun v w' => Sees w' w1.heap.size w'.heap.size 1 v (termsL x x' (kindRow k)).length (ints (termsL x x' (kindRow k))), is (.pointer (some ⟨w.heap.size, 1, none⟩)), is (.int .i64 y), is (.pointer (some ⟨w.heap.size + 1, 1, none⟩)), is (.int .i64 y'), is (v), fun v w' => Sees w' w1.heap.size w'.heap.size 1 v (termsL y y' (kindRow k)).length (ints (termsL y y' (kindRow k))), is (.pointer (some ⟨w.heap.size, 2, none⟩)), is (.int .i64 z), is (.pointer (some ⟨w.heap.size + 1, 2, none⟩)), is (.int .i64 z'), is (v), fun v w' => Sees w' w1.heap.size w'.heap.size 1 v (termsL z z' (kindRow k)).length (ints (termsL z z' (kindRow k)))] (by kernel_rfl) (by kernel_rfl) rfl (by decide) ?hst ?h0 ?hop ?htail
  case hop =>
    refine ⟨?_, ?_, ?_, ?_, ?_, ?_, ?_, ?_, ?_, ?_, ?_, ?_, ?_, ?_, ?_, ?_, ?_, ?_, ?_, ?_, trivial⟩
    · exact ok_move (.tmp 2) (is (.int .i64 f)) rfl (by kernel_rfl) (fun _ _ _ h => h)
    · exact ok_move (.tmp 3) (is (.int .i64 t)) rfl (by kernel_rfl) (fun _ _ _ h => h)
    · exact ok_field 95 (.tmp 5) 0 (.pointer (some ⟨w.heap.size, 0, none⟩)) (.pointer (some ⟨w.heap.size, 0, none⟩)) rfl (by kernel_rfl) (fun w => by kernel_rfl) rfl
    · exact ok_load 3 (.tmp 17) (.pointer (some ⟨w.heap.size, 0, none⟩)) (.int .i64 x) rfl (by kernel_rfl) (fun wa hC => run_load1 wa (Tryz.isAgg3 wa) (((bcell hC).1 _ _ (by omega)).trans c1)) rfl
    · exact ok_field 95 (.tmp 6) 0 (.pointer (some ⟨w.heap.size + 1, 0, none⟩)) (.pointer (some ⟨w.heap.size + 1, 0, none⟩)) rfl (by kernel_rfl) (fun w => by kernel_rfl) rfl
    · exact ok_load 3 (.tmp 19) (.pointer (some ⟨w.heap.size + 1, 0, none⟩)) (.int .i64 x') rfl (by kernel_rfl) (fun wa hC => run_load1 wa (Tryz.isAgg3 wa) (((bcell hC).1 _ _ (by omega)).trans c4)) rfl
    · exact ok_move (.tmp 11) (is v) rfl (by kernel_rfl) (fun _ _ _ h => h)
    · exact ok_callF 97 [.tmp 18, .tmp 20, .tmp 21] _ [.int .i64 x, .int .i64 x', v] rfl (fun _ _ => by kernel_rfl) ⟨by kernel_rfl, by kernel_rfl, by kernel_rfl, trivial⟩ (fun wa hC => (terms_any _ _ (kindRow k) v _ _ w1.heap.size hC.size hx hx' (kindRow_small k) (kindRow_len k) (hs.below hC)).mono fun e w' ⟨v', he, h1, h2⟩ => ⟨v', he, hC.trans (h2.mono hC.size), h2, h1.more hC.size (Nat.le_refl _)⟩)
    · exact ok_field 95 (.tmp 5) 1 (.pointer (some ⟨w.heap.size, 0, none⟩)) (.pointer (some ⟨w.heap.size, 1, none⟩)) rfl (by kernel_rfl) (fun w => by kernel_rfl) rfl
    · exact ok_load 3 (.tmp 23) (.pointer (some ⟨w.heap.size, 1, none⟩)) (.int .i64 y) rfl (by kernel_rfl) (fun wa hC => run_load1 wa (Tryz.isAgg3 wa) (((bcell hC).1 _ _ (by omega)).trans c2)) rfl
    · exact ok_field 95 (.tmp 6) 1 (.pointer (some ⟨w.heap.size + 1, 0, none⟩)) (.pointer (some ⟨w.heap.size + 1, 1, none⟩)) rfl (by kernel_rfl) (fun w => by kernel_rfl) rfl
    · exact ok_load 3 (.tmp 25) (.pointer (some ⟨w.heap.size + 1, 1, none⟩)) (.int .i64 y') rfl (by kernel_rfl) (fun wa hC => run_load1 wa (Tryz.isAgg3 wa) (((bcell hC).1 _ _ (by omega)).trans c5)) rfl
    · exact ok_move (.tmp 11) (is v) rfl (by kernel_rfl) (fun _ _ _ h => h)
    · exact ok_callF 97 [.tmp 24, .tmp 26, .tmp 27] _ [.int .i64 y, .int .i64 y', v] rfl (fun _ _ => by kernel_rfl) ⟨by kernel_rfl, by kernel_rfl, by kernel_rfl, trivial⟩ (fun wa hC => (terms_any _ _ (kindRow k) v _ _ w1.heap.size hC.size hy hy' (kindRow_small k) (kindRow_len k) (hs.below hC)).mono fun e w' ⟨v', he, h1, h2⟩ => ⟨v', he, hC.trans (h2.mono hC.size), h2, h1.more hC.size (Nat.le_refl _)⟩)
    · exact ok_field 95 (.tmp 5) 2 (.pointer (some ⟨w.heap.size, 0, none⟩)) (.pointer (some ⟨w.heap.size, 2, none⟩)) rfl (by kernel_rfl) (fun w => by kernel_rfl) rfl
    · exact ok_load 3 (.tmp 29) (.pointer (some ⟨w.heap.size, 2, none⟩)) (.int .i64 z) rfl (by kernel_rfl) (fun wa hC => run_load1 wa (Tryz.isAgg3 wa) (((bcell hC).1 _ _ (by omega)).trans c3)) rfl
    · exact ok_field 95 (.tmp 6) 2 (.pointer (some ⟨w.heap.size + 1, 0, none⟩)) (.pointer (some ⟨w.heap.size + 1, 2, none⟩)) rfl (by kernel_rfl) (fun w => by kernel_rfl) rfl
    · exact ok_load 3 (.tmp 31) (.pointer (some ⟨w.heap.size + 1, 2, none⟩)) (.int .i64 z') rfl (by kernel_rfl) (fun wa hC => run_load1 wa (Tryz.isAgg3 wa) (((bcell hC).1 _ _ (by omega)).trans c6)) rfl
    · exact ok_move (.tmp 11) (is v) rfl (by kernel_rfl) (fun _ _ _ h => h)
    · exact ok_callF 97 [.tmp 30, .tmp 32, .tmp 33] _ [.int .i64 z, .int .i64 z', v] rfl (fun _ _ => by kernel_rfl) ⟨by kernel_rfl, by kernel_rfl, by kernel_rfl, trivial⟩ (fun wa hC => (terms_any _ _ (kindRow k) v _ _ w1.heap.size hC.size hz hz' (kindRow_small k) (kindRow_len k) (hs.below hC)).mono fun e w' ⟨v', he, h1, h2⟩ => ⟨v', he, hC.trans (h2.mono hC.size), h2, h1.more hC.size (Nat.le_refl _)⟩)
  case hst =>
    simp only [List.mem_cons, List.mem_nil_iff, or_false, forall_eq_or_imp, forall_eq]
    refine ⟨is_stable _, is_stable _, is_stable _, is_stable _, is_stable _, is_stable _, is_stable _, sees_stable _ _ _ _, is_stable _, is_stable _, is_stable _, is_stable _, is_stable _, sees_stable _ _ _ _, is_stable _, is_stable _, is_stable _, is_stable _, is_stable _, sees_stable _ _ _ _⟩
  case h0 => exact (Below.refl _ _).drew
  case htail =>
    intro σ w2 hC hR
    have r15 : σ 0 = _ := hR 0 (by decide)
    have r16 : σ 1 = _ := hR 1 (by decide)
    have r22 : Sees w2 w1.heap.size w2.heap.size 1 (σ 7) _ _ := hR 7 (by decide)
    have r28 : Sees w2 w1.heap.size w2.heap.size 1 (σ 13) _ _ := hR 13 (by decide)
    have r34 : Sees w2 w1.heap.size w2.heap.size 1 (σ 19) _ _ := hR 19 (by decide)
    obtain ⟨A1, d1, e1⟩ := r22.slice
    obtain ⟨A2, d2, e2⟩ := r28.slice
    obtain ⟨A3, d3, e3⟩ := r34.slice
    simp only [putAll, e1, e2, e3, r15, r16]
    have hcs := bcell hC
    have k0 : w2.cell? ⟨w.heap.size + 2, 0, none⟩ = some (.int .i64 0) := (hcs.1 _ _ (by omega)).trans c7
    have k1 : w2.cell? ⟨w.heap.size + 2, 1, none⟩ = some (.int .i64 0) := (hcs.1 _ _ (by omega)).trans c8
    have k2 : w2.cell? ⟨w.heap.size + 2, 2, none⟩ = some (.int .i64 0) := (hcs.1 _ _ (by omega)).trans c9
    have k3 : w2.cell? ⟨w.heap.size + 2, 3, none⟩ = some (.slice none 0 0) := (hcs.1 _ _ (by omega)).trans c10
    have k4 : w2.cell? ⟨w.heap.size + 2, 4, none⟩ = some (.slice none 0 0) := (hcs.1 _ _ (by omega)).trans c11
    have k5 : w2.cell? ⟨w.heap.size + 2, 5, none⟩ = some (.slice none 0 0) := (hcs.1 _ _ (by omega)).trans c12
    have m0 : w2.frozen? ⟨w.heap.size + 2, 0, none⟩ = false := (hcs.2 _ _ (by omega)).trans f0
    have m1 : w2.frozen? ⟨w.heap.size + 2, 1, none⟩ = false := (hcs.2 _ _ (by omega)).trans f1
    have m2 : w2.frozen? ⟨w.heap.size + 2, 2, none⟩ = false := (hcs.2 _ _ (by omega)).trans f2
    have m3 : w2.frozen? ⟨w.heap.size + 2, 3, none⟩ = false := (hcs.2 _ _ (by omega)).trans f3
    have m4 : w2.frozen? ⟨w.heap.size + 2, 4, none⟩ = false := (hcs.2 _ _ (by omega)).trans f4
    have m5 : w2.frozen? ⟨w.heap.size + 2, 5, none⟩ = false := (hcs.2 _ _ (by omega)).trans f5
    clear hcs hR c1 c2 c3 c4 c5 c6 c7 c8 c9 c10 c11 c12 f0 f1 f2 f3 f4 f5 r15 r16
    rw [e1] at r22
    rw [e2] at r28
    rw [e3] at r34
    clear e1 e2 e3
    go_wp2
    refine bodyPost_ret (v := .agg #[.int .i64 f, .int .i64 t, .int .i64 1, .slice A1 (termsL x x' (kindRow k)).length d1, .slice A2 (termsL y y' (kindRow k)).length d2, .slice A3 (termsL z z' (kindRow k)).length d3]) (by simp [results, Tryz.results85, go_sem, k0, k1, k2, k3, k4, k5]) rfl ?_
    refine leg_end (p := w.heap.size + 1 + 1) ?_ (by omega) (by omega) hbw hC r22 r28 r34
    exact grown_set (grown_set (grown_set (grown_set (grown_set (grown_set (World.grownBy.refl _ _) _ _) _ _) _ _) _ _) _ _) _ _
end Go.Proofs.YtolmehmglgmanaaGreatDoor
