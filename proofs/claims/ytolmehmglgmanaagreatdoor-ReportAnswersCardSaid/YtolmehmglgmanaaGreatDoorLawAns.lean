/- The law ReportAnswers: the walk. -/
import Derived.Test.YtolmehmglgmanaaGreatDoorAnsLaw
import Derived.Test.YtolmehmglgmanaaGreatDoorKnown
import Derived.Test.YtolmehmglgmanaaGreatDoorRegionT
namespace Go.Proofs.YtolmehmglgmanaaGreatDoor
open Go.RowKit

def goodA (p : Pr) (l : List An) (k : Nat) : Bool := validB p && (l.take k).all (writtenB p)
theorem goodA_succ {p : Pr} {l : List An} {k : Nat} (hk : k < l.length) : goodA p l (k + 1) = (goodA p l k && writtenB p l[k]) := by
  unfold goodA; rw [List.take_succ_eq_append_getElem hk, List.all_append]; simp [Bool.and_assoc]
theorem goodA_all (p : Pr) (l : List An) : goodA p l l.length = okA p l := by unfold goodA okA; rw [List.take_length]
/-- How it stands after k answers. -/
structure ALoop (w : World) (p : Pr) (l : List An) (pv : Array Value) (g : Bool) (v : Value) (k : Nat) (wr : World) : Prop where
  le : k ≤ l.length
  below : Below w.heap.size w wr
  box : wr.heap[w.heap.size]? = some (.cells pv 26 (0, 0))
  all : goodA p l k = g
  own : g = true → wr.ownsRow (w.heap.size + 1) 9 1 v k (strs ((l.take k).map (lineA p)))
  slice : ∃ A n c, v = .slice A n c
theorem few_lenA {l : List ByteArray} (h : fewB l = true) : l.length ≤ 8 ∧ ∀ s ∈ l, s.size ≤ 200 := by
  unfold fewB at h
  simp only [Bool.and_eq_true, decide_eq_true_eq, List.all_eq_true] at h
  exact h
theorem parseAllA_len {p : Pr} : ∀ {l : List ByteArray} {fs : List An}, parseAllA p l = some fs → fs.length = l.length := fun {l fs} h => Lib.mapM_length h
theorem parseAllA_at {p : Pr} {l : List ByteArray} {fs : List An} (h : parseAllA p l = some fs) {k : Nat} (hk : k < l.length) (hk2 : k < fs.length) : parseA p (splitS l[k]) = some fs[k] := by
  obtain ⟨b, hb, hf⟩ := Lib.mapM_at h k l[k] (by simp [hk])
  rw [List.getElem?_eq_getElem hk2] at hb
  cases hb
  exact hf
theorem an_size (w : World) : (sizeOf 38).run Tryz.prog w = .ok 7 w := by kernel_rfl
/-- An answer of a valid program whose numbers are small can be written out. -/
theorem written_fits {p : Pr} {a : An} (h : writtenB p a = true) (hm : p.acts.length ≤ 1000000) : -9223372036854775807 ≤ a.act ∧ a.act ≤ 9223372036854775807 := by
  unfold writtenB caseB at h
  simp only [Bool.and_eq_true, decide_eq_true_eq] at h
  omega
theorem small_fits {n : Int} (h : smallB n = true) : -9223372036854775807 ≤ n ∧ n ≤ 9223372036854775807 := by
  unfold smallB at h
  simp only [Bool.and_eq_true, decide_eq_true_eq] at h
  omega
theorem small_yes (n : Int) (w : World) (h : smallB n = true) : Calls Tryz.prog 8 #[.int .i64 n] w fun e w' => e = .returned (.bool true) ∧ w = w' := (small_any n w).mono fun e w' ⟨he, hw⟩ => ⟨by rw [he, h], hw⟩
set_option maxRecDepth 100000 in
set_option maxHeartbeats 4000000 in
theorem ranswers_any (p : Pr) (l : List An) (lines : List ByteArray) (vn vh va vf vl : Value) (w : World) (hp : ProgAt w w.heap.size vn vh va p) (hsn : ∀ s ∈ p.names, s.size ≤ maxLen) (hsa : ∀ a ∈ p.acts, a.name.size ≤ maxLen) (hf : Sees w 0 w.heap.size 7 vf l.length (ans l)) (hl : Sees w 0 w.heap.size 1 vl lines.length (strs lines))
    (hfit : ∀ a ∈ l, fitA a) (hm : l.length ≤ maxLen) (hm2 : lines.length ≤ maxLen) (hs : ∀ s ∈ lines, s.size ≤ maxLen) (ht : Tab w) (hE : Errs w) (hML : MaxL w) :
    Calls Tryz.prog 3 #[.agg #[vn, vh, va], vf, vl] w fun e w' => e = .returned (.bool true) ∧ Below w.heap.size w w' := by
  unfold maxLen at hm hm2
  obtain ⟨An', cn, rfl⟩ := hp.names.slice
  obtain ⟨Ah, ch, rfl⟩ := hp.homes.slice
  obtain ⟨csA, ha, hacts⟩ := hp.acts
  obtain ⟨Aa, ca, rfl⟩ := ha.slice
  obtain ⟨Af, cf, rfl⟩ := hf.slice
  obtain ⟨Al, cl, rfl⟩ := hl.slice
  clear ha hacts
  have HP := Lib.hid hp
  have HF := Lib.hid hf
  have HL := Lib.hid hl
  have HFIT := Lib.hid hfit
  have HSL := Lib.hid hs
  have HSN := Lib.hid hsn
  have HSA := Lib.hid hsa
  clear hp hf hl hfit hs hsn hsa
  go_enter Tryz.func3, Tryz.ntmps3
  go_wp2_with fail
  have hb0 : Below w.heap.size w (w.alloc (.cells #[.slice An' p.names.length cn, .slice Ah p.homes.length ch, .slice Aa p.acts.length ca] 26)) := (Below.refl _ _).alloc (Nat.le_refl _) _
  have hx0 : (w.alloc (.cells #[.slice An' p.names.length cn, .slice Ah p.homes.length ch, .slice Aa p.acts.length ca] 26)).heap[w.heap.size]? = some (.cells #[.slice An' p.names.length cn, .slice Ah p.homes.length ch, .slice Aa p.acts.length ca] 26 (0, 0)) := heap_new _ _ _ rfl
  generalize w.alloc (.cells #[.slice An' p.names.length cn, .slice Ah p.homes.length ch, .slice Aa p.acts.length ca] 26) = W0 at *
  refine (few40_any p 3 3 _ _ _ W0 (HP.out.up hb0) (by decide) (by decide) HSN.out HSA.out).mono ?_
  rintro e w1 ⟨rfl, hbf⟩
  have hb1 := hb0.trans (hbf.mono hb0.size)
  have hx1 : w1.heap[w.heap.size]? = some (.cells #[.slice An' p.names.length cn, .slice Ah p.homes.length ch, .slice Aa p.acts.length ca] 26 (0, 0)) := (hbf.block _ (Array.getElem?_eq_some_iff.1 hx0).1).trans hx0
  clear hbf hx0 hb0
  have ht1 := ht.up hb1
  cases hfp : few40B p 3 3 with
  | false =>
    clear hfp hx1
    go_wp2_with fail
    refine (known_any _ ht1).mono ?_
    rintro e w2 ⟨rfl, hb2⟩
    go_wp2_with fail
    go_ret
    exact ⟨rfl, hb1.trans (hb2.mono hb1.size)⟩
  | true =>
  have ho := few40_ok hfp (by decide) (by decide)
  clear hfp
  by_cases h8 : l.length ≤ 8
  case neg =>
    have h8' : (8 : Int) < (l.length : Int) := by omega
    have h8n : 8 < l.length := by omega
    clear hx1
    go_wp2_with fail
    refine (known_any _ ht1).mono ?_
    rintro e w2 ⟨rfl, hb2⟩
    go_wp2_with fail
    go_ret
    exact ⟨rfl, hb1.trans (hb2.mono hb1.size)⟩
  have h8' : ¬ (8 : Int) < (l.length : Int) := by omega
  have hlw : Sees w1 0 w1.heap.size 1 (.slice Al lines.length cl) lines.length (strs lines) := HL.out.up hb1
  have HFEW := Lib.hid (few_any lines _ 0 w1.heap.size w1 hlw (by unfold maxLen; omega) HSL.out)
  clear hlw
  have HX1 := Lib.hid hx1
  clear hx1
  go_wp2_with fail
  refine HFEW.out.mono ?_
  rintro e w2 ⟨rfl, rfl⟩
  cases hfw : fewB lines with
  | false =>
    clear hfw HFEW
    go_wp2_with fail
    refine (known_any _ ht1).mono ?_
    rintro e w2 ⟨rfl, hb2⟩
    go_wp2_with fail
    go_ret
    exact ⟨rfl, hb1.trans (hb2.mono hb1.size)⟩
  | true =>
  have HFW := Lib.hid hfw
  have HO := Lib.hid ho
  clear hfw HFEW ho
  have p0 : w1.cell? ⟨w.heap.size, 0, none⟩ = some (.slice An' p.names.length cn) := by rw [World.cell?, HX1.out]; rfl
  have p1 : w1.cell? ⟨w.heap.size, 1, none⟩ = some (.slice Ah p.homes.length ch) := by rw [World.cell?, HX1.out]; rfl
  have p2 : w1.cell? ⟨w.heap.size, 2, none⟩ = some (.slice Aa p.acts.length ca) := by rw [World.cell?, HX1.out]; rfl
  go_wp2_with fail
  refine (valid_ok p _ _ _ _ (HP.out.up hb1) HO.out).mono ?_
  rintro e w2 ⟨rfl, hb2⟩
  have hB2 := hb1.trans (hb2.mono hb1.size)
  have hX2 : Hid (w2.heap[w.heap.size]? = some (.cells #[.slice An' p.names.length cn, .slice Ah p.homes.length ch, .slice Aa p.acts.length ca] 26 (0, 0))) := (hb2.block _ (Array.getElem?_eq_some_iff.1 HX1.out).1).trans HX1.out
  have hlt0 : w.heap.size + 1 ≤ w2.heap.size := (Array.getElem?_eq_some_iff.1 hX2.out).1
  clear p0 p1 p2 hb2 hb1 ht1
  obtain ⟨i0, hi0, hz0, hz1, hz2⟩ := info_parts str_info
  go_wp2_with fail
  go_loopw [7, 8, 9] (fun g v i wr => ∃ (gb : Bool) (k : Nat), g = .bool gb ∧ i = .int .i64 k ∧ ALoop w p l #[.slice An' p.names.length cn, .slice Ah p.homes.length ch, .slice Aa p.acts.length ca] gb v k wr) (fun _ _ i _ => l.length - (intOf i).toNat)
  case atStart => exact ⟨validB p, 0, rfl, rfl, Nat.zero_le _, hB2, hX2.out, by unfold goodA; simp, fun _ => ⟨rfl, .inl ⟨rfl, rfl⟩⟩, _, _, _, rfl⟩
  case round =>
    obtain ⟨gb, k, rfl, rfl, HT⟩ := hrel
    have hkl := HT.le
    have htr := ht.up HT.below
    have HBX : Hid (wr.heap[w.heap.size]? = some (.cells #[.slice An' p.names.length cn, .slice Ah p.homes.length ch, .slice Aa p.acts.length ca] 26 (0, 0))) := HT.box
    have hzr : w.heap.size + 1 ≤ wr.heap.size := (Array.getElem?_eq_some_iff.1 HBX.out).1
    by_cases hlt : k < l.length
    · obtain ⟨ba, oa, ca', ea, _, hb2, hca⟩ := HF.out.pos (by omega)
      cases ea
      have hat := ans_at l k hlt
      have hfk := HFIT.out _ (List.getElem_mem hlt)
      have CA : Hid (∀ wa, Below wr.heap.size wr wa → ∀ j u, (l[k].cells)[j]? = some u → wa.cell? ⟨ba, oa + k * 7 + j, none⟩ = some u) := fun wa hC j u hu => by
        have := hca _ u (hat j u hu)
        rw [← Nat.add_assoc] at this
        exact (hC.cell (p := ⟨ba, oa + k * 7 + j, none⟩) (show ba < _ by omega)).trans ((HT.below.cell (p := ⟨ba, oa + k * 7 + j, none⟩) (show ba < _ by omega)).trans this)
      have HS := Lib.hid (show (l.take (k + 1)).map (lineA p) = (l.take k).map (lineA p) ++ [lineA p l[k]] by rw [List.take_succ_eq_append_getElem hlt, List.map_append]; rfl)
      have HA := Lib.hid (goodA_succ (p := p) hlt)
      clear hca hat
      generalize l[k] = a at *
      obtain ⟨ac, act, side, rel, sp, wt, rs⟩ := a
      have g2 : wr.cell? ⟨ba, oa + k * 7 + 2, none⟩ = some (.int .i64 side) := CA.out wr (Below.refl _ _) 2 _ rfl
      have g4 : wr.cell? ⟨ba, oa + k * 7 + 4, none⟩ = some (.int .i64 sp) := CA.out wr (Below.refl _ _) 4 _ rfl
      have g5 : wr.cell? ⟨ba, oa + k * 7 + 5, none⟩ = some (.int .i64 wt) := CA.out wr (Below.refl _ _) 5 _ rfl
      have g6 : wr.cell? ⟨ba, oa + k * 7 + 6, none⟩ = some (.int .i64 rs) := CA.out wr (Below.refl _ _) 6 _ rfl
      have HT1 := Lib.hid HT
      have htb := HT.below
      clear HT
      by_cases hsm : (smallB side && smallB sp && smallB wt && smallB rs) = true
      case neg =>
        have HSM := Lib.hid hsm
        clear hsm
        go_wp2_with (go_at_call 8; refine (small_any _ _).mono ?_; rintro e w' ⟨rfl, rfl⟩)
        all_goals first
          | (exfalso; apply HSM.out; have hx := ‹(!smallB rs) = false›; simp at hx; simp [*]; done)
          | (refine (known_any _ htr).mono ?_; rintro e w3 ⟨rfl, hb3⟩; go_wp2_with fail; go_ret; exact ⟨rfl, htb.trans (hb3.mono htb.size)⟩)
      case pos =>
      simp only [Bool.and_eq_true] at hsm
      obtain ⟨⟨⟨s1, s2⟩, s3⟩, s4⟩ := hsm
      have S1 := Lib.hid s1
      have S2 := Lib.hid s2
      have S3 := Lib.hid s3
      have S4 := Lib.hid s4
      clear s1 s2 s3 s4
      go_wp2_with (go_at_call 8; (first | (with_reducible refine (small_yes side _ S1.out).mono ?_) | (with_reducible refine (small_yes sp _ S2.out).mono ?_) | (with_reducible refine (small_yes wt _ S3.out).mono ?_) | (with_reducible refine (small_yes rs _ S4.out).mono ?_)); rintro e w' ⟨rfl, rfl⟩)
      clear g2 g4 g5 g6
      obtain ⟨wb, hwb⟩ : ∃ wb, wb = writtenB p ⟨ac, act, side, rel, sp, wt, rs⟩ := ⟨_, rfl⟩
      have HWB := Lib.hid hwb
      clear hwb
      have CP : Hid (∀ wa, Below wr.heap.size wr wa → ∀ j u, [Value.slice An' p.names.length cn, .slice Ah p.homes.length ch, .slice Aa p.acts.length ca][j]? = some u → wa.cell? ⟨w.heap.size, 0 + j, none⟩ = some u) := fun wa hC j u hu => by
        rw [Nat.zero_add, World.cell?, hC.block w.heap.size (by omega), HBX.out]; simpa using hu
      have PW : Hid (∀ wa, Below wr.heap.size wr wa → ProgAt wa wa.heap.size (.slice An' p.names.length cn) (.slice Ah p.homes.length ch) (.slice Aa p.acts.length ca) p) := fun wa hC => HP.out.up (htb.trans (hC.mono htb.size))
      cases gb with
      | false =>
        have HAA := Lib.hid (show goodA p l (k + 1) = false by rw [HA.out, HT1.out.all]; rfl)
        refine region_guardT 9 217 (fun w' => Below wr.heap.size wr w') [is (.bool false), is (.bool false), is undef, is undef, is undef, is undef, is undef, is undef, is (.bool false)] (by kernel_rfl) (by kernel_rfl) rfl ?hst ?h0 ?hop ?htail
        case hst =>
          simp only [List.mem_cons, List.mem_nil_iff, or_false, forall_eq_or_imp, forall_eq]
          exact ⟨is_stable _, is_stable _, is_stable _, is_stable _, is_stable _, is_stable _, is_stable _, is_stable _, is_stable _⟩
        case h0 => exact (Below.refl _ _).drew
        case hop =>
          refine ⟨?_, ?_, ?_, ?_, ?_, ?_, ?_, ?_, ?_, trivial⟩
          · refine opG_none rfl ?_
            exact ok_move (.tmp 7) (is (.bool false)) rfl (by kernel_rfl) (fun _ _ _ h => h)
          · refine opG_none rfl ?_
            exact ok_move (.tmp 75) (is (.bool false)) rfl (by kernel_rfl) (fun _ _ _ h => h)
          · exact opG_skip (b := false) rfl (by kernel_rfl) (by decide) (by kernel_rfl)
          · exact opG_skip (b := false) rfl (by kernel_rfl) (by decide) (by kernel_rfl)
          · exact opG_skip (b := false) rfl (by kernel_rfl) (by decide) (by kernel_rfl)
          · exact opG_skip (b := false) rfl (by kernel_rfl) (by decide) (by kernel_rfl)
          · exact opG_skip (b := false) rfl (by kernel_rfl) (by decide) (by kernel_rfl)
          · exact opG_skip (b := false) rfl (by kernel_rfl) (by decide) (by kernel_rfl)
          · refine opG_none rfl ?_
            refine ok_value fun a wa hC hpre => ?_
            have h1 : is (.bool false) (a.eval (.tmp 76)) wa := hpre (.tmp 76) (by simp [Op.operands])
            have h2 : is (undef) (a.eval (.tmp 82)) wa := hpre (.tmp 82) (by simp [Op.operands])
            have e1 : a.tmps[76]?.getD undef = .bool false := by simpa [Act.eval, is] using h1
            have e2 : a.tmps[82]?.getD undef = undef := by simpa [Act.eval, is] using h2
            refine ⟨.bool false, ?_, rfl⟩
            clear h1 h2
            go_simp
        case htail =>
        intro τ w5 hC hR
        have r9 : τ 8 = .bool false := hR 8 (by decide)
        simp only [putAll, List.getElem?_toArray, List.getElem?_cons_succ, List.getElem?_cons_zero, Option.bind_some, Act.put, List.setIfInBounds_toArray, List.set_cons_succ, List.set_cons_zero, List.drop_succ_cons, List.drop_zero, r9]
        clear r9 hR
        have hB5 := htb.trans (hC.mono htb.size)
        have HX5 : Hid (w5.heap[w.heap.size]? = some (.cells #[.slice An' p.names.length cn, .slice Ah p.homes.length ch, .slice Aa p.acts.length ca] 26 (0, 0))) := (hC.block _ (by omega)).trans HBX.out
        go_wp2_with fail
        go_roundw
        case rel => exact ⟨false, k + 1, rfl, by go_num, by omega, hB5, HX5.out, HAA.out, (fun h => by cases h), HT1.out.slice⟩
        case measure => simp [intOf]; omega
      | true =>
      obtain ⟨Aw, nw, cw, hvv⟩ := HT1.out.slice
      subst hvv
      refine region_guardT 9 217 (fun w' => Below wr.heap.size wr w') [is (.bool true), is (.bool true), is (.agg #[.slice An' p.names.length cn, .slice Ah p.homes.length ch, .slice Aa p.acts.length ca]), is (.slice (some ⟨ba, oa, none⟩) l.length cf), is (.int .i64 ((k : Nat) : Int)), is (.pointer (some ⟨ba, oa + k * 7, none⟩)), is (.agg #[.int .i64 ac, .int .i64 act, .int .i64 side, .bool rel, .int .i64 sp, .int .i64 wt, .int .i64 rs]), is (.bool wb), is (.bool wb)] (by kernel_rfl) (by kernel_rfl) rfl ?hst ?h0 ?hop ?htail
      case hst =>
        simp only [List.mem_cons, List.mem_nil_iff, or_false, forall_eq_or_imp, forall_eq]
        exact ⟨is_stable _, is_stable _, is_stable _, is_stable _, is_stable _, is_stable _, is_stable _, is_stable _, is_stable _⟩
      case h0 => exact (Below.refl _ _).drew
      case hop =>
        refine ⟨?_, ?_, ?_, ?_, ?_, ?_, ?_, ?_, ?_, trivial⟩
        · refine opG_none rfl ?_
          exact ok_move (.tmp 7) (is (.bool true)) rfl (by kernel_rfl) (fun _ _ _ h => h)
        · refine opG_none rfl ?_
          exact ok_move (.tmp 75) (is (.bool true)) rfl (by kernel_rfl) (fun _ _ _ h => h)
        · refine opG_run rfl (by kernel_rfl) ?_
          exact ok_load 26 (.tmp 3) (.pointer (some ⟨w.heap.size, 0, none⟩)) (.agg #[.slice An' p.names.length cn, .slice Ah p.homes.length ch, .slice Aa p.acts.length ca]) rfl (by kernel_rfl) (fun wa hC => run_loadN [.slice An' p.names.length cn, .slice Ah p.homes.length ch, .slice Aa p.acts.length ca] wa (by kernel_rfl) (by kernel_rfl) (CP.out wa hC)) rfl
        · refine opG_run rfl (by kernel_rfl) ?_
          exact ok_move (.tmp 1) (is (.slice (some ⟨ba, oa, none⟩) l.length cf)) rfl (by kernel_rfl) (fun _ _ _ h => h)
        · refine opG_run rfl (by kernel_rfl) ?_
          exact ok_move (.tmp 9) (is (.int .i64 ((k : Nat) : Int))) rfl (by kernel_rfl) (fun _ _ _ h => h)
        · refine opG_run rfl (by kernel_rfl) ?_
          exact ok_index 27 38 78 79 (ba) (oa) (l.length) (cf) 7 (((k : Nat) : Int)) (k) rfl (by kernel_rfl) (by kernel_rfl) Tryz.underlying27 an_size (rfl) (by omega) rfl
        · refine opG_run rfl (by kernel_rfl) ?_
          exact ok_load 38 (.tmp 80) (.pointer (some ⟨ba, oa + k * 7, none⟩)) (.agg #[.int .i64 ac, .int .i64 act, .int .i64 side, .bool rel, .int .i64 sp, .int .i64 wt, .int .i64 rs]) rfl (by kernel_rfl) (fun wa hC => run_loadN [.int .i64 ac, .int .i64 act, .int .i64 side, .bool rel, .int .i64 sp, .int .i64 wt, .int .i64 rs] wa (by kernel_rfl) (by kernel_rfl) (CA.out wa hC)) rfl
        · refine opG_run rfl (by kernel_rfl) ?_
          exact ok_callF 9 [.tmp 77, .tmp 81] _ [.agg #[.slice An' p.names.length cn, .slice Ah p.homes.length ch, .slice Aa p.acts.length ca], .agg #[.int .i64 ac, .int .i64 act, .int .i64 side, .bool rel, .int .i64 sp, .int .i64 wt, .int .i64 rs]] rfl (fun _ _ => by kernel_rfl) ⟨by kernel_rfl, by kernel_rfl, trivial⟩ (fun wa hC => (lwritten_any p _ _ _ ⟨ac, act, side, rel, sp, wt, rs⟩ wa (PW.out wa hC) HO.out).mono fun e x ⟨he, hb⟩ => ⟨_, he, hC.trans (hb.mono hC.size), hb, by rw [HWB.out]; rfl⟩)
        · refine opG_none rfl ?_
          refine ok_value fun a wa hC hpre => ?_
          have h1 : is (.bool true) (a.eval (.tmp 76)) wa := hpre (.tmp 76) (by simp [Op.operands])
          have h2 : is (.bool wb) (a.eval (.tmp 82)) wa := hpre (.tmp 82) (by simp [Op.operands])
          have e1 : a.tmps[76]?.getD undef = .bool true := by simpa [Act.eval, is] using h1
          have e2 : a.tmps[82]?.getD undef = .bool wb := by simpa [Act.eval, is] using h2
          refine ⟨.bool wb, ?_, rfl⟩
          clear h1 h2
          go_simp
      case htail =>
      intro τ w5 hC hR
      have r9 : τ 8 = .bool wb := hR 8 (by decide)
      simp only [putAll, List.getElem?_toArray, List.getElem?_cons_succ, List.getElem?_cons_zero, Option.bind_some, Act.put, List.setIfInBounds_toArray, List.set_cons_succ, List.set_cons_zero, List.drop_succ_cons, List.drop_zero, r9]
      clear r9 hR
      have hB5 := htb.trans (hC.mono htb.size)
      have hX5 : w5.heap[w.heap.size]? = some (.cells #[.slice An' p.names.length cn, .slice Ah p.homes.length ch, .slice Aa p.acts.length ca] 26 (0, 0)) := (hC.block _ (by omega)).trans HBX.out
      have HX5 := Lib.hid hX5
      clear hX5
      cases hwv : wb with
      | false =>
        have HAA := Lib.hid (show goodA p l (k + 1) = false by rw [HA.out, ← HWB.out, hwv, Bool.and_false])
        have HV := Lib.hid HT1.out.slice
        clear hwv
        go_wp2_with fail
        go_roundw
        case rel => exact ⟨false, k + 1, rfl, by go_num, by omega, hB5, HX5.out, HAA.out, (fun h => by cases h), HV.out⟩
        case measure => simp [intOf]; omega
      | true =>
      have hw1 : writtenB p ⟨ac, act, side, rel, sp, wt, rs⟩ = true := by rw [← HWB.out, hwv]
      have HAA := Lib.hid (show goodA p l (k + 1) = true by rw [HA.out, HT1.out.all, hw1]; rfl)
      have HNS := Lib.hid (name_small hw1)
      have HWF := Lib.hid (written_fits hw1 HO.out.many)
      have CA5 : Hid (∀ wa, Below w5.heap.size w5 wa → ∀ j u, ((⟨ac, act, side, rel, sp, wt, rs⟩ : An).cells)[j]? = some u → wa.cell? ⟨ba, oa + k * 7 + j, none⟩ = some u) := fun wa h => CA.out wa (hC.trans (h.mono hC.size))
      have CP5 : Hid (∀ wa, Below w5.heap.size w5 wa → ∀ j u, [Value.slice An' p.names.length cn, .slice Ah p.homes.length ch, .slice Aa p.acts.length ca][j]? = some u → wa.cell? ⟨w.heap.size, 0 + j, none⟩ = some u) := fun wa h => CP.out wa (hC.trans (h.mono hC.size))
      have PW5 : Hid (∀ wa, Below w5.heap.size w5 wa → ProgAt wa wa.heap.size (.slice An' p.names.length cn) (.slice Ah p.homes.length ch) (.slice Aa p.acts.length ca) p) := fun wa h => PW.out wa (hC.trans (h.mono hC.size))
      obtain ⟨y, hy⟩ : ∃ y, y = lineA p ⟨ac, act, side, rel, sp, wt, rs⟩ := ⟨_, rfl⟩
      have HY := Lib.hid hy
      clear hwv hw1 hy
      have hno : wr.grownBy w5 none := ⟨hC.os, hC.tape, hC.output, hC.size, fun i hi _ => hC.block i hi⟩
      have HO5 := Lib.hid ((HT1.out.own rfl).kept hno (by cases (Value.slice Aw nw cw).ownBlock with | none => exact .inl rfl | some k => exact .inr (by simp)))
      clear hno
      go_wp2_with fail
      refine region_list 8 217 (fun w' => Below w5.heap.size w5 w') [is (.slice Aw nw cw), is (.agg #[.slice An' p.names.length cn, .slice Ah p.homes.length ch, .slice Aa p.acts.length ca]), is (.slice (some ⟨ba, oa, none⟩) l.length cf), is (.int .i64 ((k : Nat) : Int)), is (.pointer (some ⟨ba, oa + k * 7, none⟩)), is (.agg #[.int .i64 ac, .int .i64 act, .int .i64 side, .bool rel, .int .i64 sp, .int .i64 wt, .int .i64 rs]), is (.string y), RowW w5.heap.size 9 [.string y]] (by kernel_rfl) (by kernel_rfl) rfl (by decide) ?hst ?h0 ?hop ?htail
      case hst =>
        simp only [List.mem_cons, List.mem_nil_iff, or_false, forall_eq_or_imp, forall_eq]
        exact ⟨is_stable _, is_stable _, is_stable _, is_stable _, is_stable _, is_stable _, is_stable _, rowW_stable _ _ _⟩
      case h0 => exact (Below.refl _ _).drew
      case hop =>
        refine ⟨?_, ?_, ?_, ?_, ?_, ?_, ?_, ?_, trivial⟩
        · exact ok_move (.tmp 8) (is (.slice Aw nw cw)) rfl (by kernel_rfl) (fun _ _ _ h => h)
        · exact ok_load 26 (.tmp 3) (.pointer (some ⟨w.heap.size, 0, none⟩)) (.agg #[.slice An' p.names.length cn, .slice Ah p.homes.length ch, .slice Aa p.acts.length ca]) rfl (by kernel_rfl) (fun wa hC => run_loadN [.slice An' p.names.length cn, .slice Ah p.homes.length ch, .slice Aa p.acts.length ca] wa (by kernel_rfl) (by kernel_rfl) (CP5.out wa hC)) rfl
        · exact ok_move (.tmp 1) (is (.slice (some ⟨ba, oa, none⟩) l.length cf)) rfl (by kernel_rfl) (fun _ _ _ h => h)
        · exact ok_move (.tmp 9) (is (.int .i64 ((k : Nat) : Int))) rfl (by kernel_rfl) (fun _ _ _ h => h)
        · exact ok_index 27 38 87 88 (ba) (oa) (l.length) (cf) 7 (((k : Nat) : Int)) (k) rfl (by kernel_rfl) (by kernel_rfl) Tryz.underlying27 an_size (rfl) (by omega) rfl
        · exact ok_load 38 (.tmp 89) (.pointer (some ⟨ba, oa + k * 7, none⟩)) (.agg #[.int .i64 ac, .int .i64 act, .int .i64 side, .bool rel, .int .i64 sp, .int .i64 wt, .int .i64 rs]) rfl (by kernel_rfl) (fun wa hC => run_loadN [.int .i64 ac, .int .i64 act, .int .i64 side, .bool rel, .int .i64 sp, .int .i64 wt, .int .i64 rs] wa (by kernel_rfl) (by kernel_rfl) (CA5.out wa hC)) rfl
        · exact ok_callF 10 [.tmp 86, .tmp 90] _ [.agg #[.slice An' p.names.length cn, .slice Ah p.homes.length ch, .slice Aa p.acts.length ca], .agg #[.int .i64 ac, .int .i64 act, .int .i64 side, .bool rel, .int .i64 sp, .int .i64 wt, .int .i64 rs]] rfl (fun _ _ => by kernel_rfl) ⟨by kernel_rfl, by kernel_rfl, trivial⟩ (fun wa hC => (lline_any p _ _ _ ⟨ac, act, side, rel, sp, wt, rs⟩ wa (PW5.out wa hC) HNS.out.1 HNS.out.2.1 HNS.out.2.2.1 (by have := HNS.out.2.2.2; omega) HWF.out (small_fits S1.out) (small_fits S2.out) (small_fits S3.out) (small_fits S4.out)).mono fun e x ⟨he, hb⟩ => ⟨_, he, hC.trans (hb.mono hC.size), hb, by rw [HY.out]; rfl⟩)
        · exact ok_row1 9 91 (.string y) rfl (by kernel_rfl) (fun a wa h1 => by go_simp) rfl
      case htail =>
      intro τ w6 hC6 hR
      have r0 : τ 0 = .slice Aw nw cw := hR 0 (by decide)
      have r7 : RowW w5.heap.size 9 [.string y] (τ 7) w6 := hR 7 (by decide)
      obtain ⟨b7, hlb, e7, hcb⟩ := r7
      simp only [putAll, List.getElem?_toArray, List.getElem?_cons_succ, List.getElem?_cons_zero, Option.bind_some, Act.put, List.setIfInBounds_toArray, List.set_cons_succ, List.set_cons_zero, List.drop_succ_cons, List.drop_zero, r0, e7]
      clear r0 e7 hR
      have hno6 : w5.grownBy w6 none := ⟨hC6.os, hC6.tape, hC6.output, hC6.size, fun i hi _ => hC6.block i hi⟩
      have ho6 := HO5.out.kept hno6 (by cases (Value.slice Aw nw cw).ownBlock with | none => exact .inl rfl | some k => exact .inr (by simp))
      have hsee : SeesD w6 (fun _ => True) 1 (.slice (some ⟨b7, 0, none⟩) 1 1) 1 [.string y] := ⟨rfl, .inr ⟨b7, 0, 1, rfl, trivial, fun j u hu => by rw [Nat.zero_add, World.cell?, hcb]; simpa using hu⟩⟩
      have hb6 := hB5.trans (hC6.mono hB5.size)
      have h5z := hC.size
      have h6z := hC6.size
      have hx6 : w6.heap[w.heap.size]? = some (.cells #[.slice An' p.names.length cn, .slice Ah p.homes.length ch, .slice Aa p.acts.length ca] 26 (0, 0)) := (hC6.block _ (by omega)).trans HX5.out
      refine wpList_append_sees rfl (.tmp 85) (.tmp 92) 22 rfl (w.heap.size + 1) 9 i0 _ 1 16 Tryz.underlying22 hi0 hz0 hz1 hz2 rfl (by decide) _ _ _ rfl ho6 _ _ _ _ rfl hsee ?_ ?_ ?_ ?_ ?_
      · intro u hu; simp only [List.mem_singleton] at hu; subst hu; rfl
      · unfold maxLen; omega
      · omega
      · omega
      intro v' w7 hown7 hg7 _
      have hrow7 : ∀ g, (Value.slice Aw nw cw).ownBlock = some g → w.heap.size + 1 ≤ g := fun g e => (ho6.lt g e).1
      have hb7 : Below w.heap.size w w7 := hb6.grown hg7 (by omega) (fun g e => by have := hrow7 g e; omega)
      have hx7 : w7.heap[w.heap.size]? = some (.cells #[.slice An' p.names.length cn, .slice Ah p.homes.length ch, .slice Aa p.acts.length ca] 26 (0, 0)) := (hg7.block _ (by omega) (fun e => by have := hrow7 _ e.symm; omega)).trans hx6
      have HV := Lib.hid (Sees.own hown7).slice
      have H7 := Lib.hid hown7
      have HX7 := Lib.hid hx7
      clear hown7 hg7 hx6 hx7 ho6 hsee hcb hno6
      go_wp2_with fail
      go_roundw
      case rel =>
        refine ⟨true, k + 1, rfl, by go_num, by omega, hb7, HX7.out, HAA.out, fun _ => ?_, by obtain ⟨A, c, h⟩ := HV.out; exact ⟨A, _, c, h⟩⟩
        rw [HS.out, ← strs_append, ← HY.out]
        exact H7.out
      case measure => simp [intOf]; omega
    · obtain rfl : k = l.length := by omega
      have hall := HT.all
      have hown := HT.own
      rw [goodA_all] at hall
      obtain ⟨Aw, nw, cw, rfl⟩ := HT.slice
      have HB := Lib.hid HT.below
      rw [List.take_length] at hown
      have HALL := Lib.hid hall
      have HOWN := Lib.hid hown
      have p0 : wr.cell? ⟨w.heap.size, 0, none⟩ = some (.slice An' p.names.length cn) := by rw [World.cell?, HBX.out]; rfl
      have p1 : wr.cell? ⟨w.heap.size, 1, none⟩ = some (.slice Ah p.homes.length ch) := by rw [World.cell?, HBX.out]; rfl
      have p2 : wr.cell? ⟨w.heap.size, 2, none⟩ = some (.slice Aa p.acts.length ca) := by rw [World.cell?, HBX.out]; rfl
      clear hall hown HT
      go_wp2_with fail
      refine (answers_any p _ _ _ l _ 0 w.heap.size _ (HP.out.up HB.out) HO.out (HF.out.keep (fun b o _ h => HB.out.cell (p := ⟨b, o, none⟩) h)) HB.out.size htr (by omega) HFIT.out).mono ?_
      intro e w1 hpost
      obtain ⟨hb1, hp1⟩ := hpost
      rw [HALL.out] at hp1
      have hB1 := HB.out.trans (hb1.mono HB.out.size)
      have HXw : Hid (w1.heap[w.heap.size]? = some (.cells #[.slice An' p.names.length cn, .slice Ah p.homes.length ch, .slice Aa p.acts.length ca] 26 (0, 0))) := (hb1.block _ (by omega)).trans HBX.out
      clear p0 p1 p2
      cases gb with
      | false =>
        rw [if_neg (by simp)] at hp1
        subst hp1
        obtain ⟨wx, hwx⟩ : ∃ wx, wx = w1 := ⟨_, rfl⟩
        have hBx : Below w.heap.size w wx := by rw [hwx]; exact hB1
        have HXx : Hid (wx.heap[w.heap.size]? = some (.cells #[.slice An' p.names.length cn, .slice Ah p.homes.length ch, .slice Aa p.acts.length ca] 26 (0, 0))) := by rw [hwx]; exact HXw.out
        rw [← hwx]
        clear hwx hB1 hb1
        have hxx : wx.heap[w.heap.size]? = some (.cells #[.slice An' p.names.length cn, .slice Ah p.homes.length ch, .slice Aa p.acts.length ca] 26 (0, 0)) := HXx.out
        have q0 : wx.cell? ⟨w.heap.size, 0, none⟩ = some (.slice An' p.names.length cn) := by rw [World.cell?, hxx]; rfl
        have q1 : wx.cell? ⟨w.heap.size, 1, none⟩ = some (.slice Ah p.homes.length ch) := by rw [World.cell?, hxx]; rfl
        have q2 : wx.cell? ⟨w.heap.size, 2, none⟩ = some (.slice Aa p.acts.length ca) := by rw [World.cell?, hxx]; rfl
        obtain ⟨l8, l200⟩ := few_lenA HFW.out
        have L200 := Lib.hid l200
        have HLx := Lib.hid (HL.out.keep (w' := wx) (fun b o _ h => hBx.cell (p := ⟨b, o, none⟩) h))
        have hzx : w.heap.size < wx.heap.size := (Array.getElem?_eq_some_iff.1 hxx).1
        clear l200 hxx
        go_wp2_with fail
        refine (parse_anyA (pr := p) lines _ _ _ _ 0 w.heap.size wx HLx.out hBx.size (by omega) (fun s hs => Nat.le_trans (L200.out s hs) (by omega)) (ht.up hBx) (hE.up hBx) (hML.up hBx) (HP.out.up hBx) HO.out).mono ?_
        intro e w3 h3
        unfold ParsePost at h3
        clear q0 q1 q2
        have fin : ∀ {w3 : World}, Below wx.heap.size wx w3 → w3.heap[w.heap.size]? = some (.cells #[.slice An' p.names.length cn, .slice Ah p.homes.length ch, .slice Aa p.acts.length ca] 26 (0, 0)) := fun hb => (hb.block _ hzx).trans HXx.out
        cases hvp : validB p with
        | false =>
          rw [hvp, if_neg (by simp)] at h3
          obtain ⟨rfl, hb3⟩ := h3
          have hB3 := hBx.trans (hb3.mono hBx.size)
          have hx3 := fin hb3
          have q0 : w3.cell? ⟨w.heap.size, 0, none⟩ = some (.slice An' p.names.length cn) := by rw [World.cell?, hx3]; rfl
          have q1 : w3.cell? ⟨w.heap.size, 1, none⟩ = some (.slice Ah p.homes.length ch) := by rw [World.cell?, hx3]; rfl
          have q2 : w3.cell? ⟨w.heap.size, 2, none⟩ = some (.slice Aa p.acts.length ca) := by rw [World.cell?, hx3]; rfl
          have HVP := Lib.hid hvp
          clear hvp hx3 hb3 fin
          go_wp2_with fail
          refine (valid_ok p _ _ _ _ (HP.out.up hB3) HO.out).mono ?_
          rintro e w4 ⟨rfl, hb4⟩
          rw [HVP.out]
          have hB4 := hB3.trans (hb4.mono hB3.size)
          clear q0 q1 q2
          go_wp2_with fail
          refine (known_any _ (ht.up hB4)).mono ?_
          rintro e w5 ⟨rfl, hb5⟩
          go_wp2_with fail
          go_ret
          exact ⟨rfl, hB4.trans (hb5.mono hB4.size)⟩
        | true =>
        rw [hvp, if_pos rfl] at h3
        obtain ⟨hb3, h3⟩ := h3
        have hB3 := hBx.trans (hb3.mono hBx.size)
        have hx3 := fin hb3
        have q0 : w3.cell? ⟨w.heap.size, 0, none⟩ = some (.slice An' p.names.length cn) := by rw [World.cell?, hx3]; rfl
        have q1 : w3.cell? ⟨w.heap.size, 1, none⟩ = some (.slice Ah p.homes.length ch) := by rw [World.cell?, hx3]; rfl
        have q2 : w3.cell? ⟨w.heap.size, 2, none⟩ = some (.slice Aa p.acts.length ca) := by rw [World.cell?, hx3]; rfl
        have HX3 := Lib.hid hx3
        have HVP := Lib.hid hvp
        clear hvp hx3 hb3 fin
        cases hpa : parseAllA p lines with
        | none =>
          rw [hpa] at h3
          subst h3
          clear hpa
          go_wp2_with fail
          refine (valid_ok p _ _ _ _ (HP.out.up hB3) HO.out).mono ?_
          rintro e w4 ⟨rfl, hb4⟩
          rw [HVP.out]
          have hB4 := hB3.trans (hb4.mono hB3.size)
          clear q0 q1 q2
          go_wp2_with fail
          refine (known_any _ (ht.up hB4)).mono ?_
          rintro e w5 ⟨rfl, hb5⟩
          go_wp2_with fail
          go_ret
          exact ⟨rfl, hB4.trans (hb5.mono hB4.size)⟩
        | some fs =>
        rw [hpa] at h3
        obtain ⟨v3, rfl, hs3⟩ := h3
        obtain ⟨A3, c3, rfl⟩ := hs3.slice
        have hlen := parseAllA_len hpa
        have HPA := Lib.hid hpa
        have HS3 := Lib.hid hs3
        have hne : ((fs.length : Int) != (lines.length : Int)) = false := by rw [hlen]; simp
        have hfl : fs.length ≤ 8 := by omega
        have HLEN := Lib.hid hlen
        clear hpa hs3 hlen
        go_wp2_with fail
        refine (valid_ok p _ _ _ _ (HP.out.up hB3) HO.out).mono ?_
        rintro e w4 ⟨rfl, hb4⟩
        rw [HVP.out]
        have hB4 := hB3.trans (hb4.mono hB3.size)
        have HS4 := Lib.hid (HS3.out.up hb4)
        have HX4 : Hid (w4.heap[w.heap.size]? = some (.cells #[.slice An' p.names.length cn, .slice Ah p.homes.length ch, .slice Aa p.acts.length ca] 26 (0, 0))) := (hb4.block _ (Array.getElem?_eq_some_iff.1 HX3.out).1).trans HX3.out
        have hz4 : w.heap.size < w4.heap.size := (Array.getElem?_eq_some_iff.1 HX4.out).1
        have ht4 := ht.up hB4
        clear q0 q1 q2 hb4
        go_wp2_with fail
        go_loopw [14] (fun i wr => ∃ k : Nat, k ≤ fs.length ∧ i = .int .i64 k ∧ Below w4.heap.size w4 wr) (fun i _ => fs.length - (intOf i).toNat)
        case atStart => exact ⟨0, Nat.zero_le _, rfl, Below.refl _ _⟩
        case round =>
        obtain ⟨k, hk, rfl, hbk⟩ := hrel
        have hBk := hB4.trans (hbk.mono hB4.size)
        by_cases hlt : k < fs.length
        case neg =>
          go_wp2_with fail
          refine (known_any _ (ht4.up hbk)).mono ?_
          rintro e w5 ⟨rfl, hb5⟩
          go_wp2_with fail
          go_ret
          exact ⟨rfl, hBk.trans (hb5.mono hBk.size)⟩
        case pos =>
        obtain ⟨bb, ob, cb', eb, _, hbb, hcb⟩ := HS4.out.pos (by omega)
        cases eb
        obtain ⟨bl, ol, cl', el, _, hbl, hcl⟩ := HL.out.pos (by have := HLEN.out; omega)
        cases el
        have hltl : k < lines.length := by have := HLEN.out; omega
        have hrd := parse_line (parseAllA_at HPA.out hltl hlt)
        have hat := ans_at fs k hlt
        have hzk := hbk.size
        have CB : Hid (∀ wa, Below wr.heap.size wr wa → ∀ j u, (fs[k].cells)[j]? = some u → wa.cell? ⟨bb, ob + k * 7 + j, none⟩ = some u) := fun wa hC j u hu => by
          have := hcb _ u (hat j u hu)
          rw [← Nat.add_assoc] at this
          exact (hC.cell (p := ⟨bb, ob + k * 7 + j, none⟩) (show bb < _ by omega)).trans ((hbk.cell (p := ⟨bb, ob + k * 7 + j, none⟩) hbb).trans this)
        have CL : Hid (∀ wa, Below wr.heap.size wr wa → wa.cell? ⟨bl, ol + k * 1, none⟩ = some (.string lines[k])) := fun wa hC => by
          have := hcl k _ (strs_at lines k hltl)
          have hz := hBk.size
          rw [Nat.mul_one]
          exact (hC.cell (p := ⟨bl, ol + k, none⟩) (show bl < _ by omega)).trans ((hBk.cell (p := ⟨bl, ol + k, none⟩) hbl).trans this)
        have CP : Hid (∀ wa, Below wr.heap.size wr wa → ∀ j u, [Value.slice An' p.names.length cn, .slice Ah p.homes.length ch, .slice Aa p.acts.length ca][j]? = some u → wa.cell? ⟨w.heap.size, 0 + j, none⟩ = some u) := fun wa hC j u hu => by
          rw [Nat.zero_add, World.cell?, hC.block w.heap.size (by omega), hbk.block _ hz4, HX4.out]; simpa using hu
        have PW : Hid (∀ wa, Below wr.heap.size wr wa → ProgAt wa wa.heap.size (.slice An' p.names.length cn) (.slice Ah p.homes.length ch) (.slice Aa p.acts.length ca) p) := fun wa hC => HP.out.up (hBk.trans (hC.mono hBk.size))
        clear hcb hcl hat
        generalize fs[k] = a at *
        generalize lines[k] = s at *
        obtain ⟨ac, act, side, rel, sp, wt, rs⟩ := a
        have HRD := Lib.hid hrd
        clear hrd
        have g2 : wr.cell? ⟨bb, ob + k * 7 + 2, none⟩ = some (.int .i64 side) := CB.out wr (Below.refl _ _) 2 _ rfl
        have g4 : wr.cell? ⟨bb, ob + k * 7 + 4, none⟩ = some (.int .i64 sp) := CB.out wr (Below.refl _ _) 4 _ rfl
        have g5 : wr.cell? ⟨bb, ob + k * 7 + 5, none⟩ = some (.int .i64 wt) := CB.out wr (Below.refl _ _) 5 _ rfl
        have g6 : wr.cell? ⟨bb, ob + k * 7 + 6, none⟩ = some (.int .i64 rs) := CB.out wr (Below.refl _ _) 6 _ rfl
        by_cases hsm : (smallB side && smallB sp && smallB wt && smallB rs) = true
        case neg =>
          have HSM := Lib.hid hsm
          clear hsm
          go_wp2_with (go_at_call 8; refine (small_any _ _).mono ?_; rintro e w' ⟨rfl, rfl⟩)
          all_goals first
            | (exfalso; apply HSM.out; have hx := ‹(!smallB rs) = false›; simp at hx; simp [*]; done)
            | (exact ⟨⟨k + 1, by omega, by go_num, hbk⟩, by simp [intOf]; omega⟩)
        case pos =>
        simp only [Bool.and_eq_true] at hsm
        obtain ⟨⟨⟨s1, s2⟩, s3⟩, s4⟩ := hsm
        have S1 := Lib.hid s1
        have S2 := Lib.hid s2
        have S3 := Lib.hid s3
        have S4 := Lib.hid s4
        clear s1 s2 s3 s4
        go_wp2_with (go_at_call 8; (first | (with_reducible refine (small_yes side _ S1.out).mono ?_) | (with_reducible refine (small_yes sp _ S2.out).mono ?_) | (with_reducible refine (small_yes wt _ S3.out).mono ?_) | (with_reducible refine (small_yes rs _ S4.out).mono ?_)); rintro e w' ⟨rfl, rfl⟩)
        clear g2 g4 g5 g6
        have HNS := Lib.hid (name_small HRD.out.ok)
        have HWF := Lib.hid (written_fits HRD.out.ok HO.out.many)
        refine region_guard 20 217 (fun w' => Below wr.heap.size wr w') [is (.agg #[.slice An' p.names.length cn, .slice Ah p.homes.length ch, .slice Aa p.acts.length ca]), is (.slice (some ⟨bb, ob, none⟩) fs.length c3), is (.int .i64 ((k : Nat) : Int)), is (.pointer (some ⟨bb, ob + k * 7, none⟩)), is (.agg #[.int .i64 ac, .int .i64 act, .int .i64 side, .bool rel, .int .i64 sp, .int .i64 wt, .int .i64 rs]), is (.bool true), is (.bool false), is (.bool false), is (.agg #[.slice An' p.names.length cn, .slice Ah p.homes.length ch, .slice Aa p.acts.length ca]), is (.slice (some ⟨bb, ob, none⟩) fs.length c3), is (.int .i64 ((k : Nat) : Int)), is (.pointer (some ⟨bb, ob + k * 7, none⟩)), is (.agg #[.int .i64 ac, .int .i64 act, .int .i64 side, .bool rel, .int .i64 sp, .int .i64 wt, .int .i64 rs]), is (.string s), is (.slice (some ⟨bl, ol, none⟩) lines.length cl), is (.int .i64 ((k : Nat) : Int)), is (.pointer (some ⟨bl, ol + k * 1, none⟩)), is (.string s), is (.bool false), is (.bool false)] (by kernel_rfl) (by kernel_rfl) rfl ?hst ?h0 ?hop ?htail
        case hst =>
          simp only [List.mem_cons, List.mem_nil_iff, or_false, forall_eq_or_imp, forall_eq]
          exact ⟨is_stable _, is_stable _, is_stable _, is_stable _, is_stable _, is_stable _, is_stable _, is_stable _, is_stable _, is_stable _, is_stable _, is_stable _, is_stable _, is_stable _, is_stable _, is_stable _, is_stable _, is_stable _, is_stable _, is_stable _⟩
        case h0 => exact (Below.refl _ _).drew
        case hop =>
          refine ⟨?_, ?_, ?_, ?_, ?_, ?_, ?_, ?_, ?_, ?_, ?_, ?_, ?_, ?_, ?_, ?_, ?_, ?_, ?_, ?_, trivial⟩
          · refine opG_none rfl ?_
            exact ok_load 26 (.tmp 3) (.pointer (some ⟨w.heap.size, 0, none⟩)) (.agg #[.slice An' p.names.length cn, .slice Ah p.homes.length ch, .slice Aa p.acts.length ca]) rfl (by kernel_rfl) (fun wa hC => run_loadN [.slice An' p.names.length cn, .slice Ah p.homes.length ch, .slice Aa p.acts.length ca] wa (by kernel_rfl) (by kernel_rfl) (CP.out wa hC)) rfl
          · refine opG_none rfl ?_
            exact ok_move (.tmp 12) (is (.slice (some ⟨bb, ob, none⟩) fs.length c3)) rfl (by kernel_rfl) (fun _ _ _ h => h)
          · refine opG_none rfl ?_
            exact ok_move (.tmp 14) (is (.int .i64 ((k : Nat) : Int))) rfl (by kernel_rfl) (fun _ _ _ h => h)
          · refine opG_none rfl ?_
            exact ok_index 27 38 197 198 (bb) (ob) (fs.length) (c3) 7 (((k : Nat) : Int)) (k) rfl (by kernel_rfl) (by kernel_rfl) Tryz.underlying27 an_size (rfl) (by omega) rfl
          · refine opG_none rfl ?_
            exact ok_load 38 (.tmp 199) (.pointer (some ⟨bb, ob + k * 7, none⟩)) (.agg #[.int .i64 ac, .int .i64 act, .int .i64 side, .bool rel, .int .i64 sp, .int .i64 wt, .int .i64 rs]) rfl (by kernel_rfl) (fun wa hC => run_loadN [.int .i64 ac, .int .i64 act, .int .i64 side, .bool rel, .int .i64 sp, .int .i64 wt, .int .i64 rs] wa (by kernel_rfl) (by kernel_rfl) (CB.out wa hC)) rfl
          · refine opG_none rfl ?_
            exact ok_callF 9 [.tmp 196, .tmp 200] _ [.agg #[.slice An' p.names.length cn, .slice Ah p.homes.length ch, .slice Aa p.acts.length ca], .agg #[.int .i64 ac, .int .i64 act, .int .i64 side, .bool rel, .int .i64 sp, .int .i64 wt, .int .i64 rs]] rfl (fun _ _ => by kernel_rfl) ⟨by kernel_rfl, by kernel_rfl, trivial⟩ (fun wa hC => (lwritten_any p _ _ _ ⟨ac, act, side, rel, sp, wt, rs⟩ wa (PW.out wa hC) HO.out).mono fun e x ⟨he, hb⟩ => ⟨_, he, hC.trans (hb.mono hC.size), hb, by rw [HRD.out.ok]; rfl⟩)
          · refine opG_none rfl ?_
            exact ok_t1 201 (.bool true) (.bool false) rfl (by kernel_rfl) (fun a wa _ e1 => by go_simp) rfl
          · refine opG_none rfl ?_
            exact ok_move (.tmp 202) (is (.bool false)) rfl (by kernel_rfl) (fun _ _ _ h => h)
          · refine opG_run rfl (by kernel_rfl) ?_
            exact ok_load 26 (.tmp 3) (.pointer (some ⟨w.heap.size, 0, none⟩)) (.agg #[.slice An' p.names.length cn, .slice Ah p.homes.length ch, .slice Aa p.acts.length ca]) rfl (by kernel_rfl) (fun wa hC => run_loadN [.slice An' p.names.length cn, .slice Ah p.homes.length ch, .slice Aa p.acts.length ca] wa (by kernel_rfl) (by kernel_rfl) (CP.out wa hC)) rfl
          · refine opG_run rfl (by kernel_rfl) ?_
            exact ok_move (.tmp 12) (is (.slice (some ⟨bb, ob, none⟩) fs.length c3)) rfl (by kernel_rfl) (fun _ _ _ h => h)
          · refine opG_run rfl (by kernel_rfl) ?_
            exact ok_move (.tmp 14) (is (.int .i64 ((k : Nat) : Int))) rfl (by kernel_rfl) (fun _ _ _ h => h)
          · refine opG_run rfl (by kernel_rfl) ?_
            exact ok_index 27 38 205 206 (bb) (ob) (fs.length) (c3) 7 (((k : Nat) : Int)) (k) rfl (by kernel_rfl) (by kernel_rfl) Tryz.underlying27 an_size (rfl) (by omega) rfl
          · refine opG_run rfl (by kernel_rfl) ?_
            exact ok_load 38 (.tmp 207) (.pointer (some ⟨bb, ob + k * 7, none⟩)) (.agg #[.int .i64 ac, .int .i64 act, .int .i64 side, .bool rel, .int .i64 sp, .int .i64 wt, .int .i64 rs]) rfl (by kernel_rfl) (fun wa hC => run_loadN [.int .i64 ac, .int .i64 act, .int .i64 side, .bool rel, .int .i64 sp, .int .i64 wt, .int .i64 rs] wa (by kernel_rfl) (by kernel_rfl) (CB.out wa hC)) rfl
          · refine opG_run rfl (by kernel_rfl) ?_
            exact ok_callF 10 [.tmp 204, .tmp 208] _ [.agg #[.slice An' p.names.length cn, .slice Ah p.homes.length ch, .slice Aa p.acts.length ca], .agg #[.int .i64 ac, .int .i64 act, .int .i64 side, .bool rel, .int .i64 sp, .int .i64 wt, .int .i64 rs]] rfl (fun _ _ => by kernel_rfl) ⟨by kernel_rfl, by kernel_rfl, trivial⟩ (fun wa hC => (lline_any p _ _ _ ⟨ac, act, side, rel, sp, wt, rs⟩ wa (PW.out wa hC) HNS.out.1 HNS.out.2.1 HNS.out.2.2.1 (by have := HNS.out.2.2.2; omega) HWF.out (small_fits S1.out) (small_fits S2.out) (small_fits S3.out) (small_fits S4.out)).mono fun e x ⟨he, hb⟩ => ⟨_, he, hC.trans (hb.mono hC.size), hb, by rw [HRD.out.line]; rfl⟩)
          · refine opG_run rfl (by kernel_rfl) ?_
            exact ok_move (.tmp 2) (is (.slice (some ⟨bl, ol, none⟩) lines.length cl)) rfl (by kernel_rfl) (fun _ _ _ h => h)
          · refine opG_run rfl (by kernel_rfl) ?_
            exact ok_move (.tmp 14) (is (.int .i64 ((k : Nat) : Int))) rfl (by kernel_rfl) (fun _ _ _ h => h)
          · refine opG_run rfl (by kernel_rfl) ?_
            exact ok_index 22 9 210 211 (bl) (ol) (lines.length) (cl) 1 (((k : Nat) : Int)) (k) rfl (by kernel_rfl) (by kernel_rfl) Tryz.underlying22 str_size (rfl) (by omega) rfl
          · refine opG_run rfl (by kernel_rfl) ?_
            exact ok_load 9 (.tmp 212) (.pointer (some ⟨bl, ol + k * 1, none⟩)) (.string s) rfl (by kernel_rfl) (fun wa hC => run_load1 wa (by kernel_rfl) (CL.out wa hC)) rfl
          · refine opG_run rfl (by kernel_rfl) ?_
            exact ok_t2 209 213 (.string s) (.string s) (.bool false) rfl (by kernel_rfl) (by kernel_rfl) (fun a wa _ e1 e2 => by go_simp) rfl
          · refine opG_none rfl ?_
            refine ok_value fun a wa hC hpre => ?_
            have h1 : is (.bool false) (a.eval (.tmp 203)) wa := hpre (.tmp 203) (by simp [Op.operands])
            have h2 : is (.bool false) (a.eval (.tmp 214)) wa := hpre (.tmp 214) (by simp [Op.operands])
            have e1 : a.tmps[203]?.getD undef = .bool false := by simpa [Act.eval, is] using h1
            have e2 : a.tmps[214]?.getD undef = .bool false := by simpa [Act.eval, is] using h2
            refine ⟨.bool false, ?_, rfl⟩
            clear h1 h2
            go_simp
        case htail =>
        intro τ w5 hC hR
        have r19 : τ 19 = .bool false := hR 19 (by decide)
        simp only [putAll, List.getElem?_toArray, List.getElem?_cons_succ, List.getElem?_cons_zero, Option.bind_some, Act.put, List.setIfInBounds_toArray, List.set_cons_succ, List.set_cons_zero, List.drop_succ_cons, List.drop_zero, r19]
        clear r19 hR
        have hb5 := hbk.trans (hC.mono hbk.size)
        go_wp2_with fail
        go_roundw
        case rel => exact ⟨k + 1, by omega, by go_num, hb5⟩
        case measure => simp [intOf]; omega
      | true =>
        rw [if_pos rfl] at hp1
        obtain ⟨v1, rfl, hs1⟩ := hp1
        obtain ⟨A1, c1, rfl⟩ := hs1.slice
        have hsA : Sees w1 0 w1.heap.size 1 (.slice A1 l.length c1) (l.map (lineA p)).length (strs (l.map (lineA p))) := by rw [List.length_map]; exact hs1.more (Nat.zero_le _) (Nat.le_refl _)
        have hsB0 := Sees.own (HOWN.out rfl)
        obtain ⟨_, _, hnw⟩ := hsB0.slice
        obtain rfl : nw = l.length := by cases hnw; rfl
        have hsB : Sees w1 0 w1.heap.size 1 (.slice Aw l.length cw) (l.map (lineA p)).length (strs (l.map (lineA p))) := by rw [List.length_map]; exact (hsB0.more (Nat.zero_le _) (Nat.le_refl _)).up hb1
        have HSA := Lib.hid hsA
        have HSB := Lib.hid hsB
        clear hsA hsB hsB0 hs1 hnw
        go_wp2_with fail
        refine (same_any (l.map (lineA p)) (l.map (lineA p)) _ _ 0 w1.heap.size 0 w1.heap.size _ HSA.out HSB.out (by rw [List.length_map]; omega) (by rw [List.length_map]; omega)).mono ?_
        rintro e wx ⟨he, n2, hw⟩
        rw [same_refl] at he
        subst he
        have hBx : Below w.heap.size w wx := by rw [hw]; exact below_drawn hB1 _
        have HXx : Hid (wx.heap[w.heap.size]? = some (.cells #[.slice An' p.names.length cn, .slice Ah p.homes.length ch, .slice Aa p.acts.length ca] 26 (0, 0))) := by rw [hw]; exact HXw.out
        clear hw hB1 hb1
        have hxx : wx.heap[w.heap.size]? = some (.cells #[.slice An' p.names.length cn, .slice Ah p.homes.length ch, .slice Aa p.acts.length ca] 26 (0, 0)) := HXx.out
        have q0 : wx.cell? ⟨w.heap.size, 0, none⟩ = some (.slice An' p.names.length cn) := by rw [World.cell?, hxx]; rfl
        have q1 : wx.cell? ⟨w.heap.size, 1, none⟩ = some (.slice Ah p.homes.length ch) := by rw [World.cell?, hxx]; rfl
        have q2 : wx.cell? ⟨w.heap.size, 2, none⟩ = some (.slice Aa p.acts.length ca) := by rw [World.cell?, hxx]; rfl
        obtain ⟨l8, l200⟩ := few_lenA HFW.out
        have L200 := Lib.hid l200
        have HLx := Lib.hid (HL.out.keep (w' := wx) (fun b o _ h => hBx.cell (p := ⟨b, o, none⟩) h))
        have hzx : w.heap.size < wx.heap.size := (Array.getElem?_eq_some_iff.1 hxx).1
        clear l200 hxx
        go_wp2_with fail
        refine (parse_anyA (pr := p) lines _ _ _ _ 0 w.heap.size wx HLx.out hBx.size (by omega) (fun s hs => Nat.le_trans (L200.out s hs) (by omega)) (ht.up hBx) (hE.up hBx) (hML.up hBx) (HP.out.up hBx) HO.out).mono ?_
        intro e w3 h3
        unfold ParsePost at h3
        clear q0 q1 q2
        have fin : ∀ {w3 : World}, Below wx.heap.size wx w3 → w3.heap[w.heap.size]? = some (.cells #[.slice An' p.names.length cn, .slice Ah p.homes.length ch, .slice Aa p.acts.length ca] 26 (0, 0)) := fun hb => (hb.block _ hzx).trans HXx.out
        cases hvp : validB p with
        | false =>
          rw [hvp, if_neg (by simp)] at h3
          obtain ⟨rfl, hb3⟩ := h3
          have hB3 := hBx.trans (hb3.mono hBx.size)
          have hx3 := fin hb3
          have q0 : w3.cell? ⟨w.heap.size, 0, none⟩ = some (.slice An' p.names.length cn) := by rw [World.cell?, hx3]; rfl
          have q1 : w3.cell? ⟨w.heap.size, 1, none⟩ = some (.slice Ah p.homes.length ch) := by rw [World.cell?, hx3]; rfl
          have q2 : w3.cell? ⟨w.heap.size, 2, none⟩ = some (.slice Aa p.acts.length ca) := by rw [World.cell?, hx3]; rfl
          have HVP := Lib.hid hvp
          clear hvp hx3 hb3 fin
          go_wp2_with fail
          refine (valid_ok p _ _ _ _ (HP.out.up hB3) HO.out).mono ?_
          rintro e w4 ⟨rfl, hb4⟩
          rw [HVP.out]
          have hB4 := hB3.trans (hb4.mono hB3.size)
          clear q0 q1 q2
          go_wp2_with fail
          refine (known_any _ (ht.up hB4)).mono ?_
          rintro e w5 ⟨rfl, hb5⟩
          go_wp2_with fail
          go_ret
          exact ⟨rfl, hB4.trans (hb5.mono hB4.size)⟩
        | true =>
        rw [hvp, if_pos rfl] at h3
        obtain ⟨hb3, h3⟩ := h3
        have hB3 := hBx.trans (hb3.mono hBx.size)
        have hx3 := fin hb3
        have q0 : w3.cell? ⟨w.heap.size, 0, none⟩ = some (.slice An' p.names.length cn) := by rw [World.cell?, hx3]; rfl
        have q1 : w3.cell? ⟨w.heap.size, 1, none⟩ = some (.slice Ah p.homes.length ch) := by rw [World.cell?, hx3]; rfl
        have q2 : w3.cell? ⟨w.heap.size, 2, none⟩ = some (.slice Aa p.acts.length ca) := by rw [World.cell?, hx3]; rfl
        have HX3 := Lib.hid hx3
        have HVP := Lib.hid hvp
        clear hvp hx3 hb3 fin
        cases hpa : parseAllA p lines with
        | none =>
          rw [hpa] at h3
          subst h3
          clear hpa
          go_wp2_with fail
          refine (valid_ok p _ _ _ _ (HP.out.up hB3) HO.out).mono ?_
          rintro e w4 ⟨rfl, hb4⟩
          rw [HVP.out]
          have hB4 := hB3.trans (hb4.mono hB3.size)
          clear q0 q1 q2
          go_wp2_with fail
          refine (known_any _ (ht.up hB4)).mono ?_
          rintro e w5 ⟨rfl, hb5⟩
          go_wp2_with fail
          go_ret
          exact ⟨rfl, hB4.trans (hb5.mono hB4.size)⟩
        | some fs =>
        rw [hpa] at h3
        obtain ⟨v3, rfl, hs3⟩ := h3
        obtain ⟨A3, c3, rfl⟩ := hs3.slice
        have hlen := parseAllA_len hpa
        have HPA := Lib.hid hpa
        have HS3 := Lib.hid hs3
        have hne : ((fs.length : Int) != (lines.length : Int)) = false := by rw [hlen]; simp
        have hfl : fs.length ≤ 8 := by omega
        have HLEN := Lib.hid hlen
        clear hpa hs3 hlen
        go_wp2_with fail
        refine (valid_ok p _ _ _ _ (HP.out.up hB3) HO.out).mono ?_
        rintro e w4 ⟨rfl, hb4⟩
        rw [HVP.out]
        have hB4 := hB3.trans (hb4.mono hB3.size)
        have HS4 := Lib.hid (HS3.out.up hb4)
        have HX4 : Hid (w4.heap[w.heap.size]? = some (.cells #[.slice An' p.names.length cn, .slice Ah p.homes.length ch, .slice Aa p.acts.length ca] 26 (0, 0))) := (hb4.block _ (Array.getElem?_eq_some_iff.1 HX3.out).1).trans HX3.out
        have hz4 : w.heap.size < w4.heap.size := (Array.getElem?_eq_some_iff.1 HX4.out).1
        have ht4 := ht.up hB4
        clear q0 q1 q2 hb4
        go_wp2_with fail
        go_loopw [14] (fun i wr => ∃ k : Nat, k ≤ fs.length ∧ i = .int .i64 k ∧ Below w4.heap.size w4 wr) (fun i _ => fs.length - (intOf i).toNat)
        case atStart => exact ⟨0, Nat.zero_le _, rfl, Below.refl _ _⟩
        case round =>
        obtain ⟨k, hk, rfl, hbk⟩ := hrel
        have hBk := hB4.trans (hbk.mono hB4.size)
        by_cases hlt : k < fs.length
        case neg =>
          go_wp2_with fail
          refine (known_any _ (ht4.up hbk)).mono ?_
          rintro e w5 ⟨rfl, hb5⟩
          go_wp2_with fail
          go_ret
          exact ⟨rfl, hBk.trans (hb5.mono hBk.size)⟩
        case pos =>
        obtain ⟨bb, ob, cb', eb, _, hbb, hcb⟩ := HS4.out.pos (by omega)
        cases eb
        obtain ⟨bl, ol, cl', el, _, hbl, hcl⟩ := HL.out.pos (by have := HLEN.out; omega)
        cases el
        have hltl : k < lines.length := by have := HLEN.out; omega
        have hrd := parse_line (parseAllA_at HPA.out hltl hlt)
        have hat := ans_at fs k hlt
        have hzk := hbk.size
        have CB : Hid (∀ wa, Below wr.heap.size wr wa → ∀ j u, (fs[k].cells)[j]? = some u → wa.cell? ⟨bb, ob + k * 7 + j, none⟩ = some u) := fun wa hC j u hu => by
          have := hcb _ u (hat j u hu)
          rw [← Nat.add_assoc] at this
          exact (hC.cell (p := ⟨bb, ob + k * 7 + j, none⟩) (show bb < _ by omega)).trans ((hbk.cell (p := ⟨bb, ob + k * 7 + j, none⟩) hbb).trans this)
        have CL : Hid (∀ wa, Below wr.heap.size wr wa → wa.cell? ⟨bl, ol + k * 1, none⟩ = some (.string lines[k])) := fun wa hC => by
          have := hcl k _ (strs_at lines k hltl)
          have hz := hBk.size
          rw [Nat.mul_one]
          exact (hC.cell (p := ⟨bl, ol + k, none⟩) (show bl < _ by omega)).trans ((hBk.cell (p := ⟨bl, ol + k, none⟩) hbl).trans this)
        have CP : Hid (∀ wa, Below wr.heap.size wr wa → ∀ j u, [Value.slice An' p.names.length cn, .slice Ah p.homes.length ch, .slice Aa p.acts.length ca][j]? = some u → wa.cell? ⟨w.heap.size, 0 + j, none⟩ = some u) := fun wa hC j u hu => by
          rw [Nat.zero_add, World.cell?, hC.block w.heap.size (by omega), hbk.block _ hz4, HX4.out]; simpa using hu
        have PW : Hid (∀ wa, Below wr.heap.size wr wa → ProgAt wa wa.heap.size (.slice An' p.names.length cn) (.slice Ah p.homes.length ch) (.slice Aa p.acts.length ca) p) := fun wa hC => HP.out.up (hBk.trans (hC.mono hBk.size))
        clear hcb hcl hat
        generalize fs[k] = a at *
        generalize lines[k] = s at *
        obtain ⟨ac, act, side, rel, sp, wt, rs⟩ := a
        have HRD := Lib.hid hrd
        clear hrd
        have g2 : wr.cell? ⟨bb, ob + k * 7 + 2, none⟩ = some (.int .i64 side) := CB.out wr (Below.refl _ _) 2 _ rfl
        have g4 : wr.cell? ⟨bb, ob + k * 7 + 4, none⟩ = some (.int .i64 sp) := CB.out wr (Below.refl _ _) 4 _ rfl
        have g5 : wr.cell? ⟨bb, ob + k * 7 + 5, none⟩ = some (.int .i64 wt) := CB.out wr (Below.refl _ _) 5 _ rfl
        have g6 : wr.cell? ⟨bb, ob + k * 7 + 6, none⟩ = some (.int .i64 rs) := CB.out wr (Below.refl _ _) 6 _ rfl
        by_cases hsm : (smallB side && smallB sp && smallB wt && smallB rs) = true
        case neg =>
          have HSM := Lib.hid hsm
          clear hsm
          go_wp2_with (go_at_call 8; refine (small_any _ _).mono ?_; rintro e w' ⟨rfl, rfl⟩)
          all_goals first
            | (exfalso; apply HSM.out; have hx := ‹(!smallB rs) = false›; simp at hx; simp [*]; done)
            | (exact ⟨⟨k + 1, by omega, by go_num, hbk⟩, by simp [intOf]; omega⟩)
        case pos =>
        simp only [Bool.and_eq_true] at hsm
        obtain ⟨⟨⟨s1, s2⟩, s3⟩, s4⟩ := hsm
        have S1 := Lib.hid s1
        have S2 := Lib.hid s2
        have S3 := Lib.hid s3
        have S4 := Lib.hid s4
        clear s1 s2 s3 s4
        go_wp2_with (go_at_call 8; (first | (with_reducible refine (small_yes side _ S1.out).mono ?_) | (with_reducible refine (small_yes sp _ S2.out).mono ?_) | (with_reducible refine (small_yes wt _ S3.out).mono ?_) | (with_reducible refine (small_yes rs _ S4.out).mono ?_)); rintro e w' ⟨rfl, rfl⟩)
        clear g2 g4 g5 g6
        have HNS := Lib.hid (name_small HRD.out.ok)
        have HWF := Lib.hid (written_fits HRD.out.ok HO.out.many)
        refine region_guard 20 217 (fun w' => Below wr.heap.size wr w') [is (.agg #[.slice An' p.names.length cn, .slice Ah p.homes.length ch, .slice Aa p.acts.length ca]), is (.slice (some ⟨bb, ob, none⟩) fs.length c3), is (.int .i64 ((k : Nat) : Int)), is (.pointer (some ⟨bb, ob + k * 7, none⟩)), is (.agg #[.int .i64 ac, .int .i64 act, .int .i64 side, .bool rel, .int .i64 sp, .int .i64 wt, .int .i64 rs]), is (.bool true), is (.bool false), is (.bool false), is (.agg #[.slice An' p.names.length cn, .slice Ah p.homes.length ch, .slice Aa p.acts.length ca]), is (.slice (some ⟨bb, ob, none⟩) fs.length c3), is (.int .i64 ((k : Nat) : Int)), is (.pointer (some ⟨bb, ob + k * 7, none⟩)), is (.agg #[.int .i64 ac, .int .i64 act, .int .i64 side, .bool rel, .int .i64 sp, .int .i64 wt, .int .i64 rs]), is (.string s), is (.slice (some ⟨bl, ol, none⟩) lines.length cl), is (.int .i64 ((k : Nat) : Int)), is (.pointer (some ⟨bl, ol + k * 1, none⟩)), is (.string s), is (.bool false), is (.bool false)] (by kernel_rfl) (by kernel_rfl) rfl ?hst ?h0 ?hop ?htail
        case hst =>
          simp only [List.mem_cons, List.mem_nil_iff, or_false, forall_eq_or_imp, forall_eq]
          exact ⟨is_stable _, is_stable _, is_stable _, is_stable _, is_stable _, is_stable _, is_stable _, is_stable _, is_stable _, is_stable _, is_stable _, is_stable _, is_stable _, is_stable _, is_stable _, is_stable _, is_stable _, is_stable _, is_stable _, is_stable _⟩
        case h0 => exact (Below.refl _ _).drew
        case hop =>
          refine ⟨?_, ?_, ?_, ?_, ?_, ?_, ?_, ?_, ?_, ?_, ?_, ?_, ?_, ?_, ?_, ?_, ?_, ?_, ?_, ?_, trivial⟩
          · refine opG_none rfl ?_
            exact ok_load 26 (.tmp 3) (.pointer (some ⟨w.heap.size, 0, none⟩)) (.agg #[.slice An' p.names.length cn, .slice Ah p.homes.length ch, .slice Aa p.acts.length ca]) rfl (by kernel_rfl) (fun wa hC => run_loadN [.slice An' p.names.length cn, .slice Ah p.homes.length ch, .slice Aa p.acts.length ca] wa (by kernel_rfl) (by kernel_rfl) (CP.out wa hC)) rfl
          · refine opG_none rfl ?_
            exact ok_move (.tmp 12) (is (.slice (some ⟨bb, ob, none⟩) fs.length c3)) rfl (by kernel_rfl) (fun _ _ _ h => h)
          · refine opG_none rfl ?_
            exact ok_move (.tmp 14) (is (.int .i64 ((k : Nat) : Int))) rfl (by kernel_rfl) (fun _ _ _ h => h)
          · refine opG_none rfl ?_
            exact ok_index 27 38 197 198 (bb) (ob) (fs.length) (c3) 7 (((k : Nat) : Int)) (k) rfl (by kernel_rfl) (by kernel_rfl) Tryz.underlying27 an_size (rfl) (by omega) rfl
          · refine opG_none rfl ?_
            exact ok_load 38 (.tmp 199) (.pointer (some ⟨bb, ob + k * 7, none⟩)) (.agg #[.int .i64 ac, .int .i64 act, .int .i64 side, .bool rel, .int .i64 sp, .int .i64 wt, .int .i64 rs]) rfl (by kernel_rfl) (fun wa hC => run_loadN [.int .i64 ac, .int .i64 act, .int .i64 side, .bool rel, .int .i64 sp, .int .i64 wt, .int .i64 rs] wa (by kernel_rfl) (by kernel_rfl) (CB.out wa hC)) rfl
          · refine opG_none rfl ?_
            exact ok_callF 9 [.tmp 196, .tmp 200] _ [.agg #[.slice An' p.names.length cn, .slice Ah p.homes.length ch, .slice Aa p.acts.length ca], .agg #[.int .i64 ac, .int .i64 act, .int .i64 side, .bool rel, .int .i64 sp, .int .i64 wt, .int .i64 rs]] rfl (fun _ _ => by kernel_rfl) ⟨by kernel_rfl, by kernel_rfl, trivial⟩ (fun wa hC => (lwritten_any p _ _ _ ⟨ac, act, side, rel, sp, wt, rs⟩ wa (PW.out wa hC) HO.out).mono fun e x ⟨he, hb⟩ => ⟨_, he, hC.trans (hb.mono hC.size), hb, by rw [HRD.out.ok]; rfl⟩)
          · refine opG_none rfl ?_
            exact ok_t1 201 (.bool true) (.bool false) rfl (by kernel_rfl) (fun a wa _ e1 => by go_simp) rfl
          · refine opG_none rfl ?_
            exact ok_move (.tmp 202) (is (.bool false)) rfl (by kernel_rfl) (fun _ _ _ h => h)
          · refine opG_run rfl (by kernel_rfl) ?_
            exact ok_load 26 (.tmp 3) (.pointer (some ⟨w.heap.size, 0, none⟩)) (.agg #[.slice An' p.names.length cn, .slice Ah p.homes.length ch, .slice Aa p.acts.length ca]) rfl (by kernel_rfl) (fun wa hC => run_loadN [.slice An' p.names.length cn, .slice Ah p.homes.length ch, .slice Aa p.acts.length ca] wa (by kernel_rfl) (by kernel_rfl) (CP.out wa hC)) rfl
          · refine opG_run rfl (by kernel_rfl) ?_
            exact ok_move (.tmp 12) (is (.slice (some ⟨bb, ob, none⟩) fs.length c3)) rfl (by kernel_rfl) (fun _ _ _ h => h)
          · refine opG_run rfl (by kernel_rfl) ?_
            exact ok_move (.tmp 14) (is (.int .i64 ((k : Nat) : Int))) rfl (by kernel_rfl) (fun _ _ _ h => h)
          · refine opG_run rfl (by kernel_rfl) ?_
            exact ok_index 27 38 205 206 (bb) (ob) (fs.length) (c3) 7 (((k : Nat) : Int)) (k) rfl (by kernel_rfl) (by kernel_rfl) Tryz.underlying27 an_size (rfl) (by omega) rfl
          · refine opG_run rfl (by kernel_rfl) ?_
            exact ok_load 38 (.tmp 207) (.pointer (some ⟨bb, ob + k * 7, none⟩)) (.agg #[.int .i64 ac, .int .i64 act, .int .i64 side, .bool rel, .int .i64 sp, .int .i64 wt, .int .i64 rs]) rfl (by kernel_rfl) (fun wa hC => run_loadN [.int .i64 ac, .int .i64 act, .int .i64 side, .bool rel, .int .i64 sp, .int .i64 wt, .int .i64 rs] wa (by kernel_rfl) (by kernel_rfl) (CB.out wa hC)) rfl
          · refine opG_run rfl (by kernel_rfl) ?_
            exact ok_callF 10 [.tmp 204, .tmp 208] _ [.agg #[.slice An' p.names.length cn, .slice Ah p.homes.length ch, .slice Aa p.acts.length ca], .agg #[.int .i64 ac, .int .i64 act, .int .i64 side, .bool rel, .int .i64 sp, .int .i64 wt, .int .i64 rs]] rfl (fun _ _ => by kernel_rfl) ⟨by kernel_rfl, by kernel_rfl, trivial⟩ (fun wa hC => (lline_any p _ _ _ ⟨ac, act, side, rel, sp, wt, rs⟩ wa (PW.out wa hC) HNS.out.1 HNS.out.2.1 HNS.out.2.2.1 (by have := HNS.out.2.2.2; omega) HWF.out (small_fits S1.out) (small_fits S2.out) (small_fits S3.out) (small_fits S4.out)).mono fun e x ⟨he, hb⟩ => ⟨_, he, hC.trans (hb.mono hC.size), hb, by rw [HRD.out.line]; rfl⟩)
          · refine opG_run rfl (by kernel_rfl) ?_
            exact ok_move (.tmp 2) (is (.slice (some ⟨bl, ol, none⟩) lines.length cl)) rfl (by kernel_rfl) (fun _ _ _ h => h)
          · refine opG_run rfl (by kernel_rfl) ?_
            exact ok_move (.tmp 14) (is (.int .i64 ((k : Nat) : Int))) rfl (by kernel_rfl) (fun _ _ _ h => h)
          · refine opG_run rfl (by kernel_rfl) ?_
            exact ok_index 22 9 210 211 (bl) (ol) (lines.length) (cl) 1 (((k : Nat) : Int)) (k) rfl (by kernel_rfl) (by kernel_rfl) Tryz.underlying22 str_size (rfl) (by omega) rfl
          · refine opG_run rfl (by kernel_rfl) ?_
            exact ok_load 9 (.tmp 212) (.pointer (some ⟨bl, ol + k * 1, none⟩)) (.string s) rfl (by kernel_rfl) (fun wa hC => run_load1 wa (by kernel_rfl) (CL.out wa hC)) rfl
          · refine opG_run rfl (by kernel_rfl) ?_
            exact ok_t2 209 213 (.string s) (.string s) (.bool false) rfl (by kernel_rfl) (by kernel_rfl) (fun a wa _ e1 e2 => by go_simp) rfl
          · refine opG_none rfl ?_
            refine ok_value fun a wa hC hpre => ?_
            have h1 : is (.bool false) (a.eval (.tmp 203)) wa := hpre (.tmp 203) (by simp [Op.operands])
            have h2 : is (.bool false) (a.eval (.tmp 214)) wa := hpre (.tmp 214) (by simp [Op.operands])
            have e1 : a.tmps[203]?.getD undef = .bool false := by simpa [Act.eval, is] using h1
            have e2 : a.tmps[214]?.getD undef = .bool false := by simpa [Act.eval, is] using h2
            refine ⟨.bool false, ?_, rfl⟩
            clear h1 h2
            go_simp
        case htail =>
        intro τ w5 hC hR
        have r19 : τ 19 = .bool false := hR 19 (by decide)
        simp only [putAll, List.getElem?_toArray, List.getElem?_cons_succ, List.getElem?_cons_zero, Option.bind_some, Act.put, List.setIfInBounds_toArray, List.set_cons_succ, List.set_cons_zero, List.drop_succ_cons, List.drop_zero, r19]
        clear r19 hR
        have hb5 := hbk.trans (hC.mono hbk.size)
        go_wp2_with fail
        go_roundw
        case rel => exact ⟨k + 1, by omega, by go_num, hb5⟩
        case measure => simp [intOf]; omega
end Go.Proofs.YtolmehmglgmanaaGreatDoor
