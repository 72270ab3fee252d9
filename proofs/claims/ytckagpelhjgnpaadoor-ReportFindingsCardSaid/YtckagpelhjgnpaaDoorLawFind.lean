/- The law ReportFindings: the walk. -/
import Derived.Test.YtckagpelhjgnpaaDoorFindLaw
import Derived.Test.YtckagpelhjgnpaaDoorKnown
import Derived.Test.YtckagpelhjgnpaaDoorRegionG
namespace Go.Proofs.YtckagpelhjgnpaaDoor
open Go.RowKit

theorem all_take {l : List Fd} {k : Nat} (hk : k < l.length) : (l.take (k + 1)).all foundB = ((l.take k).all foundB && foundB l[k]) := by
  rw [List.take_succ_eq_append_getElem hk, List.all_append]; simp
structure FLoop (w : World) (l : List Fd) (g : Bool) (v : Value) (k : Nat) (wr : World) : Prop where
  le : k ≤ l.length
  below : Below w.heap.size w wr
  all : (l.take k).all foundB = g
  own : g = true → wr.ownsRow w.heap.size 9 1 v k (strs ((l.take k).map lineF))
  slice : ∃ A n c, v = .slice A n c
/-- What is left of the law behind the first loop. -/
structure FIn (w : World) (lines : List ByteArray) (vl : Value) : Prop where
  sees : Sees w 0 w.heap.size 1 vl lines.length (strs lines)
  few : fewB lines = true
  tab : Tab w
  errs : Errs w
  max : MaxL w
theorem parseAll_len : ∀ {l : List ByteArray} {fs : List Fd}, parseAll l = some fs → fs.length = l.length := fun {l fs} h => Lib.mapM_length h
theorem parseAll_at {l : List ByteArray} {fs : List Fd} (h : parseAll l = some fs) {k : Nat} (hk : k < l.length) (hk2 : k < fs.length) : parseW (splitS l[k]) = some fs[k] := by
  obtain ⟨b, hb, hf⟩ := Lib.mapM_at h k l[k] (by simp [hk])
  rw [List.getElem?_eq_getElem hk2] at hb
  cases hb
  exact hf
theorem few_len {l : List ByteArray} (h : fewB l = true) : l.length ≤ 8 ∧ ∀ s ∈ l, s.size ≤ 200 := by
  unfold fewB at h
  simp only [Bool.and_eq_true, decide_eq_true_eq, List.all_eq_true] at h
  exact h
theorem fd4_size (w : World) : (sizeOf 37).run Tryd.prog w = .ok 4 w := by kernel_rfl
set_option maxRecDepth 100000 in
set_option maxHeartbeats 2000000 in
theorem finds_any (l : List Fd) (lines : List ByteArray) (vf vl : Value) (w : World) (hf : Sees w 0 w.heap.size 4 vf l.length (fds l)) (hl : Sees w 0 w.heap.size 1 vl lines.length (strs lines)) (hfit : ∀ f ∈ l, fitF f) (hm : l.length ≤ maxLen) (hm2 : lines.length ≤ maxLen) (hs : ∀ s ∈ lines, s.size ≤ maxLen) (ht : Tab w) (hE : Errs w) (hML : MaxL w) :
    Calls Tryd.prog 4 #[vf, vl] w fun e w' => e = .returned (.bool true) ∧ Below w.heap.size w w' := by
  have hfew := few_any lines vl 0 w.heap.size w hl hm2 hs
  unfold maxLen at hm hm2
  obtain ⟨Af, cf, rfl⟩ := hf.slice
  obtain ⟨Al, cl, rfl⟩ := hl.slice
  have HF := Lib.hid hf
  have HL := Lib.hid hl
  have HFEW := Lib.hid hfew
  have HFIT := Lib.hid hfit
  clear hf hl hfew hs hfit
  by_cases h8 : l.length ≤ 8
  case neg =>
    have h8' : decide (8 < l.length) = true := decide_eq_true (by omega)
    have h9 : 8 < l.length := by omega
    go_enter Tryd.func4, Tryd.ntmps4
    go_wp2_with fail
    any_goals (exfalso; omega)
    refine (known_any _ ht).mono ?_
    rintro e w1 ⟨rfl, hb1⟩
    go_wp2_with fail
    go_ret
    exact ⟨rfl, hb1⟩
  cases hfw : fewB lines with
  | false =>
    have HW := Lib.hid hfw
    clear hfw
    go_enter Tryd.func4, Tryd.ntmps4
    go_wp2_with fail
    refine HFEW.out.mono ?_
    rintro e w1 ⟨rfl, rfl⟩
    rw [HW.out]
    go_wp2_with fail
    refine (known_any _ ht).mono ?_
    rintro e w1 ⟨rfl, hb1⟩
    go_wp2_with fail
    go_ret
    exact ⟨rfl, hb1⟩
  | true =>
  have HW := Lib.hid hfw
  clear hfw
  obtain ⟨i0, hi0, hz0, hz1, hz2⟩ := info_parts str_info
  go_enter Tryd.func4, Tryd.ntmps4
  go_wp2_with fail
  refine HFEW.out.mono ?_
  rintro e w1 ⟨rfl, rfl⟩
  rw [HW.out]
  go_wp2_with fail
  go_loopw [5, 6, 7] (fun g v i wr => ∃ (gb : Bool) (k : Nat), g = .bool gb ∧ i = .int .i64 k ∧ FLoop w l gb v k wr) (fun _ _ i _ => l.length - (intOf i).toNat)
  case atStart => exact ⟨true, 0, rfl, rfl, Nat.zero_le _, Below.refl _ _, rfl, fun _ => ⟨rfl, .inl ⟨rfl, rfl⟩⟩, _, _, _, rfl⟩
  case round =>
    obtain ⟨gb, k, rfl, rfl, HT⟩ := hrel
    have hkl := HT.le
    have htr := ht.up HT.below
    by_cases hlt : k < l.length
    · obtain ⟨ba, oa, ca', ea, _, hb2, hca⟩ := HF.out.pos (by omega)
      cases ea
      have hat := fds_at l k hlt
      have hfk := HFIT.out _ (List.getElem_mem hlt)
      have hcell : ∀ j u, (l[k].cells)[j]? = some u → wr.cell? ⟨ba, oa + k * 4 + j, none⟩ = some u := fun j u hu => by
        have := hca _ u (hat j u hu)
        rw [← Nat.add_assoc] at this
        exact (HT.below.cell (p := ⟨ba, oa + k * 4 + j, none⟩) (show ba < _ by omega)).trans this
      have HS := Lib.hid (show (l.take (k + 1)).map lineF = (l.take k).map lineF ++ [lineF l[k]] by rw [List.take_succ_eq_append_getElem hlt, List.map_append]; rfl)
      have HA := Lib.hid (all_take hlt)
      clear hca hat
      generalize l[k] = f at *
      obtain ⟨fk, fa, fr, ft⟩ := f
      obtain ⟨⟨k1, k2⟩, ⟨a1, a2⟩, ⟨r1, r2⟩, ⟨t1, t2⟩⟩ := hfk
      simp only at k1 k2 a1 a2 r1 r2 t1 t2
      have g0 : wr.cell? ⟨ba, oa + k * 4, none⟩ = some (.int .i64 fk) := hcell 0 _ rfl
      have g1 : wr.cell? ⟨ba, oa + k * 4 + 1, none⟩ = some (.int .i64 fa) := hcell 1 _ rfl
      have g2 : wr.cell? ⟨ba, oa + k * 4 + 2, none⟩ = some (.int .i64 fr) := hcell 2 _ rfl
      have g3 : wr.cell? ⟨ba, oa + k * 4 + 3, none⟩ = some (.int .i64 ft) := hcell 3 _ rfl
      have hblt : ba < wr.heap.size := by have := HT.below.size; omega
      clear hcell
      go_wp2_with fail
      refine (small_any ft _).mono ?_
      rintro e w1 ⟨rfl, rfl⟩
      cases hsm : smallB ft with
      | false =>
        have HB := Lib.hid HT.below
        clear hsm
        go_wp2_with fail
        refine (known_any _ htr).mono ?_
        rintro e w1 ⟨rfl, hb1⟩
        go_wp2_with fail
        go_ret
        exact ⟨rfl, HB.out.trans (hb1.mono HB.out.size)⟩
      | true =>
        have hsm2 : -4611686018427387904 < ft ∧ ft < 4611686018427387904 := by unfold smallB at hsm; simpa using hsm
        obtain ⟨s1, s2⟩ := hsm2
        clear hsm
        cases gb with
        | false =>
          have HAA := Lib.hid (show (l.take (k + 1)).all foundB = false by rw [HA.out, HT.all]; rfl)
          have HB := Lib.hid HT.below
          have HV := Lib.hid HT.slice
          clear HA HS
          go_wp2_with fail
          go_roundw
          case rel => exact ⟨false, k + 1, rfl, by go_num, by omega, HB.out, HAA.out, (fun h => by cases h), HV.out⟩
          case measure => simp [intOf]; omega
        | true =>
          go_wp2_with fail
          refine (lfound_any fk fa fr ft _).mono ?_
          rintro e w1 ⟨rfl, hb1⟩
          have hB1 := HT.below.trans (hb1.mono HT.below.size)
          have hgr : wr.grownBy w1 none := ⟨hb1.os, hb1.tape, hb1.output, hb1.size, fun i hi _ => hb1.block i hi⟩
          have HO1 := Lib.hid ((HT.own rfl).kept hgr (by cases u6.ownBlock with | none => exact .inl rfl | some k => exact .inr (by simp)))
          cases hfd : foundB ⟨fk, fa, fr, ft⟩ with
          | false =>
            have HAA := Lib.hid (show (l.take (k + 1)).all foundB = false by rw [HA.out, hfd, Bool.and_false])
            have HV := Lib.hid HT.slice
            clear HA HS hfd hgr
            go_wp2_with fail
            go_roundw
            case rel => exact ⟨false, k + 1, rfl, by go_num, by omega, hB1, HAA.out, (fun h => by cases h), HV.out⟩
            case measure => simp [intOf]; omega
          | true =>
            have hq : 0 ≤ fa ∧ fa < 64 ∧ 0 ≤ fr := by unfold foundB at hfd; simp only [Bool.and_eq_true, decide_eq_true_eq] at hfd; omega
            obtain ⟨q3, q4, q5⟩ := hq
            have HAA := Lib.hid (show (l.take (k + 1)).all foundB = true by rw [HA.out, HT.all, hfd]; rfl)
            have m0 : w1.cell? ⟨ba, oa + k * 4, none⟩ = some (.int .i64 fk) := (hb1.cell (p := ⟨ba, oa + k * 4, none⟩) hblt).trans g0
            have m1 : w1.cell? ⟨ba, oa + k * 4 + 1, none⟩ = some (.int .i64 fa) := (hb1.cell (p := ⟨ba, oa + k * 4 + 1, none⟩) hblt).trans g1
            have m2 : w1.cell? ⟨ba, oa + k * 4 + 2, none⟩ = some (.int .i64 fr) := (hb1.cell (p := ⟨ba, oa + k * 4 + 2, none⟩) hblt).trans g2
            have m3 : w1.cell? ⟨ba, oa + k * 4 + 3, none⟩ = some (.int .i64 ft) := (hb1.cell (p := ⟨ba, oa + k * 4 + 3, none⟩) hblt).trans g3
            clear HA hfd hgr g0 g1 g2 g3
            go_wp2_with fail
            refine (finding_any fk fa fr ft _ q3 q4 q5 r2 (by omega) (by omega)).mono ?_
            rintro e w2 ⟨rfl, hb2'⟩
            have h2s := hb2'.size
            have hbs := hB1.size
            have HO2 := Lib.hid (HO1.out.kept (row := none) (w' := w2.alloc (.cells #[.string (lineF ⟨fk, fa, fr, ft⟩)] 9)) ⟨hb2'.os, hb2'.tape, hb2'.output, by simp; omega, fun i hi _ => (Below.heap_alloc _ _ _ (by omega)).trans (hb2'.block i hi)⟩ (by cases u6.ownBlock with | none => exact .inl rfl | some k => exact .inr (by simp)))
            generalize lineF ⟨fk, fa, fr, ft⟩ = y at *
            go_wp2_with (at_builtin; refine wpList_append_sees rfl (.tmp 45) (.tmp 51) 24 rfl w.heap.size 9 i0 _ 1 16 Tryd.underlying24 hi0 hz0 hz1 hz2 rfl (by decide) _ _ _ rfl HO2.out _ _ _ _ rfl (Sees.new1 w2 [.string y] 1 _ w2.heap.size (w2.heap.size + 1) 1 _ rfl rfl (Nat.le_refl _) (by omega)) ?c1 ?c2 ?c3 ?c4 ?_)
            case c1 => intro u hu; simp only [List.mem_singleton] at hu; subst hu; rfl
            case c2 => unfold maxLen; omega
            case c3 => omega
            case c4 => simp; omega
            intro v' w3 hown3 hg3 _
            have hb3 : Below w.heap.size w w3 := ((hB1.trans (hb2'.mono hbs)).alloc (by omega) _).grown hg3 (by simp; omega) (fun g hg => (HO2.out.lt g hg).1)
            have HV := Lib.hid (Sees.own hown3).slice
            have H3 := Lib.hid hown3
            clear hown3 hg3
            go_wp2_with fail
            go_roundw
            case rel =>
              refine ⟨true, k + 1, rfl, by go_num, by omega, hb3, HAA.out, fun _ => ?_, by obtain ⟨A, c, h⟩ := HV.out; exact ⟨A, _, c, h⟩⟩
              rw [HS.out, ← strs_append]
              have := H3.out
              rw [← List.map_take] at this
              exact this
            case measure => simp [intOf]; omega
    · obtain rfl : k = l.length := by omega
      have hall := HT.all
      have hown := HT.own
      obtain ⟨Aw, nw, cw, rfl⟩ := HT.slice
      have HB := Lib.hid HT.below
      rw [List.take_length] at hall hown
      have HALL := Lib.hid hall
      have HOWN := Lib.hid hown
      clear hall hown HT
      go_wp2_with fail
      refine (findings_any l _ 0 w.heap.size _ (HF.out.keep (fun b o _ h => HB.out.cell (p := ⟨b, o, none⟩) h)) HB.out.size htr (by omega) HFIT.out).mono ?_
      intro e w1 hpost
      obtain ⟨hb1, hp⟩ := hpost
      rw [HALL.out] at hp
      have hB1 := HB.out.trans (hb1.mono HB.out.size)
      cases gb with
      | false =>
        rw [if_neg (by simp)] at hp
        subst hp
        obtain ⟨wx, hwx⟩ : ∃ wx, wx = w1 := ⟨_, rfl⟩
        have hBx : Below w.heap.size w wx := by rw [hwx]; exact hB1
        rw [← hwx]
        clear hwx hB1 hb1
        go_wp2_with fail
        obtain ⟨l8, l200⟩ := few_len HW.out
        have HLx := Lib.hid (HL.out.keep (w' := wx) (fun b o _ h => hBx.cell (p := ⟨b, o, none⟩) h))
        refine (parse_any lines _ 0 w.heap.size wx HLx.out hBx.size (by omega) (fun s hs => Nat.le_trans (l200 s hs) (by omega)) (ht.up hBx) (hE.up hBx) (hML.up hBx)).mono ?_
        rintro e w3 ⟨hb3, h3⟩
        have hB3 := hBx.trans (hb3.mono hBx.size)
        have ht3 := ht.up hB3
        have L200 := Lib.hid l200
        clear l200 HLx
        cases hpa : parseAll lines with
        | none =>
          rw [hpa] at h3
          subst h3
          clear hpa
          go_wp2_with fail
          refine (known_any _ ht3).mono ?_
          rintro e w4 ⟨rfl, hb4⟩
          go_wp2_with fail
          go_ret
          exact ⟨rfl, hB3.trans (hb4.mono hB3.size)⟩
        | some fs =>
          rw [hpa] at h3
          obtain ⟨v3, rfl, hs3⟩ := h3
          obtain ⟨A3, c3, rfl⟩ := hs3.slice
          have hlen := parseAll_len hpa
          have HPA := Lib.hid hpa
          have HS3 := Lib.hid hs3
          have hne : ((fs.length : Int) != (lines.length : Int)) = false := by rw [hlen]; simp
          have hfl : fs.length ≤ 8 := by omega
          have hfl2 : fs.length = lines.length := hlen
          have HLEN := Lib.hid hlen
          clear hpa hs3 hlen hfl2
          go_wp2_with fail
          go_loopw [12] (fun i wr => ∃ k : Nat, k ≤ fs.length ∧ i = .int .i64 k ∧ Below w3.heap.size w3 wr) (fun i _ => fs.length - (intOf i).toNat)
          case atStart => exact ⟨0, Nat.zero_le _, rfl, Below.refl _ _⟩
          case round =>
            obtain ⟨k, hk, rfl, hbk⟩ := hrel
            have hBk := hB3.trans (hbk.mono hB3.size)
            by_cases hlt : k < fs.length
            · obtain ⟨bb, ob, cb', eb, _, hbb, hcb⟩ := HS3.out.pos (by omega)
              cases eb
              obtain ⟨bl, ol, cl', el, _, hbl, hcl⟩ := HL.out.pos (by have := HLEN.out; omega)
              cases el
              have hltl : k < lines.length := by have := HLEN.out; omega
              obtain ⟨hfd, hline, fit1, fit2⟩ := parse_found (parseAll_at HPA.out hltl hlt)
              have hat := fds_at fs k hlt
              have CB : Hid (∀ wa, Below wr.heap.size wr wa → ∀ j u, (fs[k].cells)[j]? = some u → wa.cell? ⟨bb, ob + k * 4 + j, none⟩ = some u) := fun wa hC j u hu => by
                have := hcb _ u (hat j u hu)
                rw [← Nat.add_assoc] at this
                have hz := hbk.size
                exact (hC.cell (p := ⟨bb, ob + k * 4 + j, none⟩) (show bb < _ by omega)).trans ((hbk.cell (p := ⟨bb, ob + k * 4 + j, none⟩) hbb).trans this)
              have CL : Hid (∀ wa, Below wr.heap.size wr wa → wa.cell? ⟨bl, ol + k * 1, none⟩ = some (.string lines[k])) := fun wa hC => by
                have := hcl k _ (strs_at lines k hltl)
                have hz := hBk.size
                rw [Nat.mul_one]
                exact (hC.cell (p := ⟨bl, ol + k, none⟩) (show bl < _ by omega)).trans ((hBk.cell (p := ⟨bl, ol + k, none⟩) hbl).trans this)
              clear hcb hcl hat
              generalize fs[k] = f at *
              generalize lines[k] = s at *
              obtain ⟨fk, fa, fr, ft⟩ := f
              have hq : 0 ≤ fa ∧ fa < 64 ∧ 0 ≤ fr := by unfold foundB at hfd; simp only [Bool.and_eq_true, decide_eq_true_eq] at hfd; omega
              obtain ⟨q3, q4, q5⟩ := hq
              obtain ⟨t1, t2⟩ := fit1
              obtain ⟨r1, r2⟩ := fit2
              simp only at t1 t2 r1 r2
              have HFD := Lib.hid hfd
              have HLI := Lib.hid hline
              clear hfd hline
              cases hsm : smallB ft with
              | false =>
                have HSM := Lib.hid hsm
                clear hsm
                go_wp2_with fail
                refine region_guard 26 130 (fun w' => Below wr.heap.size wr w') [is (.slice (some ⟨bb, ob, none⟩) fs.length c3), is (.int .i64 ((k : Nat) : Int)), is (.pointer (some ⟨bb, ob + k * 4, none⟩)), is (.pointer (some ⟨bb, ob + k * 4 + 3, none⟩)), is (.int .i64 ft), is (.bool false), is (.bool false), is undef, is undef, is undef, is undef, is undef, is undef, is undef, is undef, is undef, is undef, is undef, is undef, is undef, is undef, is undef, is undef, is undef, is undef, is (.bool false)] (by kernel_rfl) (by kernel_rfl) rfl ?hst ?h0 ?hop ?htail
                case hst =>
                  simp only [List.mem_cons, List.mem_nil_iff, or_false, forall_eq_or_imp, forall_eq]
                  exact ⟨is_stable _, is_stable _, is_stable _, is_stable _, is_stable _, is_stable _, is_stable _, is_stable _, is_stable _, is_stable _, is_stable _, is_stable _, is_stable _, is_stable _, is_stable _, is_stable _, is_stable _, is_stable _, is_stable _, is_stable _, is_stable _, is_stable _, is_stable _, is_stable _, is_stable _, is_stable _⟩
                case h0 => exact (Below.refl _ _).drew
                case hop =>
                  refine ⟨?_, ?_, ?_, ?_, ?_, ?_, ?_, ?_, ?_, ?_, ?_, ?_, ?_, ?_, ?_, ?_, ?_, ?_, ?_, ?_, ?_, ?_, ?_, ?_, ?_, ?_, trivial⟩
                  · refine opG_none rfl ?_
                    exact ok_move (.tmp 10) (is (.slice (some ⟨bb, ob, none⟩) fs.length c3)) rfl (by kernel_rfl) (fun _ _ _ h => h)
                  · refine opG_none rfl ?_
                    exact ok_move (.tmp 12) (is (.int .i64 ((k : Nat) : Int))) rfl (by kernel_rfl) (fun _ _ _ h => h)
                  · refine opG_none rfl ?_
                    exact ok_index 32 37 103 104 (bb) (ob) (fs.length) (c3) 4 (((k : Nat) : Int)) (k) rfl (by kernel_rfl) (by kernel_rfl) Tryd.underlying32 fd4_size (rfl) (by omega) rfl
                  · refine opG_none rfl ?_
                    exact ok_field 37 (.tmp 105) 3 (.pointer (some ⟨bb, ob + k * 4, none⟩)) (.pointer (some ⟨bb, ob + k * 4 + 3, none⟩)) rfl (by kernel_rfl) (fun w => by kernel_rfl) rfl
                  · refine opG_none rfl ?_
                    exact ok_load 3 (.tmp 106) (.pointer (some ⟨bb, ob + k * 4 + 3, none⟩)) (.int .i64 ft) rfl (by kernel_rfl) (fun wa hC => run_load1 wa (by kernel_rfl) (CB.out wa hC 3 _ rfl)) rfl
                  · refine opG_none rfl ?_
                    exact ok_callF 10 [.tmp 107] _ [.int .i64 ft] rfl (fun _ _ => by kernel_rfl) ⟨by kernel_rfl, trivial⟩ (fun wa hC => (small_any ft wa).mono fun e x ⟨he, hw⟩ => ⟨_, he, hw ▸ hC, hw ▸ Below.refl _ _, HSM.out ▸ rfl⟩)
                  · refine opG_none rfl ?_
                    exact ok_move (.tmp 108) (is (.bool false)) rfl (by kernel_rfl) (fun _ _ _ h => h)
                  · exact opG_skip (b := false) rfl (by kernel_rfl) (by decide) (by kernel_rfl)
                  · exact opG_skip (b := false) rfl (by kernel_rfl) (by decide) (by kernel_rfl)
                  · exact opG_skip (b := false) rfl (by kernel_rfl) (by decide) (by kernel_rfl)
                  · exact opG_skip (b := false) rfl (by kernel_rfl) (by decide) (by kernel_rfl)
                  · exact opG_skip (b := false) rfl (by kernel_rfl) (by decide) (by kernel_rfl)
                  · exact opG_skip (b := false) rfl (by kernel_rfl) (by decide) (by kernel_rfl)
                  · exact opG_skip (b := false) rfl (by kernel_rfl) (by decide) (by kernel_rfl)
                  · exact opG_skip2 rfl (by kernel_rfl) (by kernel_rfl)
                  · exact opG_skip2 rfl (by kernel_rfl) (by kernel_rfl)
                  · exact opG_skip2 rfl (by kernel_rfl) (by kernel_rfl)
                  · exact opG_skip2 rfl (by kernel_rfl) (by kernel_rfl)
                  · exact opG_skip2 rfl (by kernel_rfl) (by kernel_rfl)
                  · exact opG_skip2 rfl (by kernel_rfl) (by kernel_rfl)
                  · exact opG_skip2 rfl (by kernel_rfl) (by kernel_rfl)
                  · exact opG_skip2 rfl (by kernel_rfl) (by kernel_rfl)
                  · exact opG_skip2 rfl (by kernel_rfl) (by kernel_rfl)
                  · exact opG_skip2 rfl (by kernel_rfl) (by kernel_rfl)
                  · exact opG_skip (b := false) rfl (by kernel_rfl) (by decide) (by kernel_rfl)
                  · refine opG_none rfl ?_
                    refine ok_value fun a wa hC hpre => ?_
                    have h1 : is (.bool false) (a.eval (.tmp 109)) wa := hpre (.tmp 109) (by simp [Op.operands])
                    have h2 : is (undef) (a.eval (.tmp 127)) wa := hpre (.tmp 127) (by simp [Op.operands])
                    have e1 : a.tmps[109]?.getD undef = .bool false := by simpa [Act.eval, is] using h1
                    have e2 : a.tmps[127]?.getD undef = undef := by simpa [Act.eval, is] using h2
                    refine ⟨.bool false, ?_, rfl⟩
                    clear h1 h2
                    go_simp
                case htail =>
                  intro τ w5 hC hR
                  have r25 : τ 25 = .bool false := hR 25 (by decide)
                  simp only [putAll, List.getElem?_toArray, List.getElem?_cons_succ, List.getElem?_cons_zero, Option.bind_some, Act.put, List.setIfInBounds_toArray, List.set_cons_succ, List.set_cons_zero, List.drop_succ_cons, List.drop_zero, r25]
                  clear r25 hR
                  have hb5 := hbk.trans (hC.mono hbk.size)
                  go_wp2_with fail
                  go_roundw
                  case rel => exact ⟨k + 1, by omega, by go_num, hb5⟩
                  case measure => simp [intOf]; omega
              | true =>
                have hsm2 : -4611686018427387904 < ft ∧ ft < 4611686018427387904 := by unfold smallB at hsm; simpa using hsm
                obtain ⟨s1, s2⟩ := hsm2
                have HSM := Lib.hid hsm
                clear hsm
                go_wp2_with fail
                refine region_guard 26 130 (fun w' => Below wr.heap.size wr w') [is (.slice (some ⟨bb, ob, none⟩) fs.length c3), is (.int .i64 ((k : Nat) : Int)), is (.pointer (some ⟨bb, ob + k * 4, none⟩)), is (.pointer (some ⟨bb, ob + k * 4 + 3, none⟩)), is (.int .i64 ft), is (.bool true), is (.bool true), is (.slice (some ⟨bb, ob, none⟩) fs.length c3), is (.int .i64 ((k : Nat) : Int)), is (.pointer (some ⟨bb, ob + k * 4, none⟩)), is (.agg #[.int .i64 fk, .int .i64 fa, .int .i64 fr, .int .i64 ft]), is (.bool true), is (.bool false), is (.bool false), is (.slice (some ⟨bb, ob, none⟩) fs.length c3), is (.int .i64 ((k : Nat) : Int)), is (.pointer (some ⟨bb, ob + k * 4, none⟩)), is (.agg #[.int .i64 fk, .int .i64 fa, .int .i64 fr, .int .i64 ft]), is (.string s), is (.slice (some ⟨bl, ol, none⟩) lines.length cl), is (.int .i64 ((k : Nat) : Int)), is (.pointer (some ⟨bl, ol + k * 1, none⟩)), is (.string s), is (.bool false), is (.bool false), is (.bool false)] (by kernel_rfl) (by kernel_rfl) rfl ?hst ?h0 ?hop ?htail
                case hst =>
                  simp only [List.mem_cons, List.mem_nil_iff, or_false, forall_eq_or_imp, forall_eq]
                  exact ⟨is_stable _, is_stable _, is_stable _, is_stable _, is_stable _, is_stable _, is_stable _, is_stable _, is_stable _, is_stable _, is_stable _, is_stable _, is_stable _, is_stable _, is_stable _, is_stable _, is_stable _, is_stable _, is_stable _, is_stable _, is_stable _, is_stable _, is_stable _, is_stable _, is_stable _, is_stable _⟩
                case h0 => exact (Below.refl _ _).drew
                case hop =>
                  refine ⟨?_, ?_, ?_, ?_, ?_, ?_, ?_, ?_, ?_, ?_, ?_, ?_, ?_, ?_, ?_, ?_, ?_, ?_, ?_, ?_, ?_, ?_, ?_, ?_, ?_, ?_, trivial⟩
                  · refine opG_none rfl ?_
                    exact ok_move (.tmp 10) (is (.slice (some ⟨bb, ob, none⟩) fs.length c3)) rfl (by kernel_rfl) (fun _ _ _ h => h)
                  · refine opG_none rfl ?_
                    exact ok_move (.tmp 12) (is (.int .i64 ((k : Nat) : Int))) rfl (by kernel_rfl) (fun _ _ _ h => h)
                  · refine opG_none rfl ?_
                    exact ok_index 32 37 103 104 (bb) (ob) (fs.length) (c3) 4 (((k : Nat) : Int)) (k) rfl (by kernel_rfl) (by kernel_rfl) Tryd.underlying32 fd4_size (rfl) (by omega) rfl
                  · refine opG_none rfl ?_
                    exact ok_field 37 (.tmp 105) 3 (.pointer (some ⟨bb, ob + k * 4, none⟩)) (.pointer (some ⟨bb, ob + k * 4 + 3, none⟩)) rfl (by kernel_rfl) (fun w => by kernel_rfl) rfl
                  · refine opG_none rfl ?_
                    exact ok_load 3 (.tmp 106) (.pointer (some ⟨bb, ob + k * 4 + 3, none⟩)) (.int .i64 ft) rfl (by kernel_rfl) (fun wa hC => run_load1 wa (by kernel_rfl) (CB.out wa hC 3 _ rfl)) rfl
                  · refine opG_none rfl ?_
                    exact ok_callF 10 [.tmp 107] _ [.int .i64 ft] rfl (fun _ _ => by kernel_rfl) ⟨by kernel_rfl, trivial⟩ (fun wa hC => (small_any ft wa).mono fun e x ⟨he, hw⟩ => ⟨_, he, hw ▸ hC, hw ▸ Below.refl _ _, HSM.out ▸ rfl⟩)
                  · refine opG_none rfl ?_
                    exact ok_move (.tmp 108) (is (.bool true)) rfl (by kernel_rfl) (fun _ _ _ h => h)
                  · refine opG_run rfl (by kernel_rfl) ?_
                    exact ok_move (.tmp 10) (is (.slice (some ⟨bb, ob, none⟩) fs.length c3)) rfl (by kernel_rfl) (fun _ _ _ h => h)
                  · refine opG_run rfl (by kernel_rfl) ?_
                    exact ok_move (.tmp 12) (is (.int .i64 ((k : Nat) : Int))) rfl (by kernel_rfl) (fun _ _ _ h => h)
                  · refine opG_run rfl (by kernel_rfl) ?_
                    exact ok_index 32 37 110 111 (bb) (ob) (fs.length) (c3) 4 (((k : Nat) : Int)) (k) rfl (by kernel_rfl) (by kernel_rfl) Tryd.underlying32 fd4_size (rfl) (by omega) rfl
                  · refine opG_run rfl (by kernel_rfl) ?_
                    exact ok_load 37 (.tmp 112) (.pointer (some ⟨bb, ob + k * 4, none⟩)) (.agg #[.int .i64 fk, .int .i64 fa, .int .i64 fr, .int .i64 ft]) rfl (by kernel_rfl) (fun wa hC => run_loadN [.int .i64 fk, .int .i64 fa, .int .i64 fr, .int .i64 ft] wa (by kernel_rfl) (by kernel_rfl) (CB.out wa hC)) rfl
                  · refine opG_run rfl (by kernel_rfl) ?_
                    exact ok_callF 11 [.tmp 113] _ [.agg #[.int .i64 fk, .int .i64 fa, .int .i64 fr, .int .i64 ft]] rfl (fun _ _ => by kernel_rfl) ⟨by kernel_rfl, trivial⟩ (fun wa hC => (lfound_any fk fa fr ft wa).mono fun e x ⟨he, hb⟩ => ⟨_, he, hC.trans (hb.mono hC.size), hb, HFD.out ▸ rfl⟩)
                  · refine opG_run rfl (by kernel_rfl) ?_
                    exact ok_t1 114 (.bool true) (.bool false) rfl (by kernel_rfl) (fun a wa _ e1 => by go_simp) rfl
                  · refine opG_run rfl (by kernel_rfl) ?_
                    exact ok_move (.tmp 115) (is (.bool false)) rfl (by kernel_rfl) (fun _ _ _ h => h)
                  · refine opG_run rfl (by kernel_rfl) ?_
                    exact ok_move (.tmp 10) (is (.slice (some ⟨bb, ob, none⟩) fs.length c3)) rfl (by kernel_rfl) (fun _ _ _ h => h)
                  · refine opG_run rfl (by kernel_rfl) ?_
                    exact ok_move (.tmp 12) (is (.int .i64 ((k : Nat) : Int))) rfl (by kernel_rfl) (fun _ _ _ h => h)
                  · refine opG_run rfl (by kernel_rfl) ?_
                    exact ok_index 32 37 117 118 (bb) (ob) (fs.length) (c3) 4 (((k : Nat) : Int)) (k) rfl (by kernel_rfl) (by kernel_rfl) Tryd.underlying32 fd4_size (rfl) (by omega) rfl
                  · refine opG_run rfl (by kernel_rfl) ?_
                    exact ok_load 37 (.tmp 119) (.pointer (some ⟨bb, ob + k * 4, none⟩)) (.agg #[.int .i64 fk, .int .i64 fa, .int .i64 fr, .int .i64 ft]) rfl (by kernel_rfl) (fun wa hC => run_loadN [.int .i64 fk, .int .i64 fa, .int .i64 fr, .int .i64 ft] wa (by kernel_rfl) (by kernel_rfl) (CB.out wa hC)) rfl
                  · refine opG_run rfl (by kernel_rfl) ?_
                    exact ok_callF 12 [.tmp 120] _ [.agg #[.int .i64 fk, .int .i64 fa, .int .i64 fr, .int .i64 ft]] rfl (fun _ _ => by kernel_rfl) ⟨by kernel_rfl, trivial⟩ (fun wa hC => (finding_any fk fa fr ft wa q3 q4 q5 r2 (by omega) (by omega)).mono fun e x ⟨he, hb⟩ => ⟨_, he, hC.trans (hb.mono hC.size), hb, HLI.out ▸ rfl⟩)
                  · refine opG_run rfl (by kernel_rfl) ?_
                    exact ok_move (.tmp 1) (is (.slice (some ⟨bl, ol, none⟩) lines.length cl)) rfl (by kernel_rfl) (fun _ _ _ h => h)
                  · refine opG_run rfl (by kernel_rfl) ?_
                    exact ok_move (.tmp 12) (is (.int .i64 ((k : Nat) : Int))) rfl (by kernel_rfl) (fun _ _ _ h => h)
                  · refine opG_run rfl (by kernel_rfl) ?_
                    exact ok_index 24 9 122 123 (bl) (ol) (lines.length) (cl) 1 (((k : Nat) : Int)) (k) rfl (by kernel_rfl) (by kernel_rfl) Tryd.underlying24 str_size (rfl) (by omega) rfl
                  · refine opG_run rfl (by kernel_rfl) ?_
                    exact ok_load 9 (.tmp 124) (.pointer (some ⟨bl, ol + k * 1, none⟩)) (.string s) rfl (by kernel_rfl) (fun wa hC => run_load1 wa (by kernel_rfl) (CL.out wa hC)) rfl
                  · refine opG_run rfl (by kernel_rfl) ?_
                    exact ok_t2 121 125 (.string s) (.string s) (.bool false) rfl (by kernel_rfl) (by kernel_rfl) (fun a wa _ e1 e2 => by go_simp) rfl
                  · refine opG_run rfl (by kernel_rfl) ?_
                    refine ok_value fun a wa hC hpre => ?_
                    have h1 : is (.bool false) (a.eval (.tmp 116)) wa := hpre (.tmp 116) (by simp [Op.operands])
                    have h2 : is (.bool false) (a.eval (.tmp 126)) wa := hpre (.tmp 126) (by simp [Op.operands])
                    have e1 : a.tmps[116]?.getD undef = .bool false := by simpa [Act.eval, is] using h1
                    have e2 : a.tmps[126]?.getD undef = .bool false := by simpa [Act.eval, is] using h2
                    refine ⟨.bool false, ?_, rfl⟩
                    clear h1 h2
                    go_simp
                  · refine opG_none rfl ?_
                    refine ok_value fun a wa hC hpre => ?_
                    have h1 : is (.bool true) (a.eval (.tmp 109)) wa := hpre (.tmp 109) (by simp [Op.operands])
                    have h2 : is (.bool false) (a.eval (.tmp 127)) wa := hpre (.tmp 127) (by simp [Op.operands])
                    have e1 : a.tmps[109]?.getD undef = .bool true := by simpa [Act.eval, is] using h1
                    have e2 : a.tmps[127]?.getD undef = .bool false := by simpa [Act.eval, is] using h2
                    refine ⟨.bool false, ?_, rfl⟩
                    clear h1 h2
                    go_simp
                case htail =>
                  intro τ w5 hC hR
                  have r25 : τ 25 = .bool false := hR 25 (by decide)
                  simp only [putAll, List.getElem?_toArray, List.getElem?_cons_succ, List.getElem?_cons_zero, Option.bind_some, Act.put, List.setIfInBounds_toArray, List.set_cons_succ, List.set_cons_zero, List.drop_succ_cons, List.drop_zero, r25]
                  clear r25 hR
                  have hb5 := hbk.trans (hC.mono hbk.size)
                  go_wp2_with fail
                  go_roundw
                  case rel => exact ⟨k + 1, by omega, by go_num, hb5⟩
                  case measure => simp [intOf]; omega
            · go_wp2_with fail
              refine (known_any _ (ht3.up hbk)).mono ?_
              rintro e w4 ⟨rfl, hb4⟩
              go_wp2_with fail
              go_ret
              exact ⟨rfl, hBk.trans (hb4.mono hBk.size)⟩
      | true =>
        rw [if_pos rfl] at hp
        obtain ⟨v1, rfl, hs1⟩ := hp
        obtain ⟨A1, c1, rfl⟩ := hs1.slice
        have hsA : Sees w1 0 w1.heap.size 1 (.slice A1 l.length c1) (l.map lineF).length (strs (l.map lineF)) := by rw [List.length_map]; exact hs1.more (Nat.zero_le _) (Nat.le_refl _)
        have hsB0 := Sees.own (HOWN.out rfl)
        obtain ⟨_, _, hnw⟩ := hsB0.slice
        obtain rfl : nw = l.length := by cases hnw; rfl
        have hsB : Sees w1 0 w1.heap.size 1 (.slice Aw l.length cw) (l.map lineF).length (strs (l.map lineF)) := by rw [List.length_map]; exact (hsB0.more (Nat.zero_le _) (Nat.le_refl _)).up hb1
        have HSA := Lib.hid hsA
        have HSB := Lib.hid hsB
        clear hsA hsB hsB0 hs1 hnw
        go_wp2_with fail
        refine (same_any (l.map lineF) (l.map lineF) _ _ 0 w1.heap.size 0 w1.heap.size _ HSA.out HSB.out (by rw [List.length_map]; omega) (by rw [List.length_map]; omega)).mono ?_
        rintro e wx ⟨he, n2, hw⟩
        rw [same_refl] at he
        subst he
        have hBx : Below w.heap.size w wx := by rw [hw]; exact below_drawn hB1 _
        clear hw hB1 hb1
        go_wp2_with fail
        obtain ⟨l8, l200⟩ := few_len HW.out
        have HLx := Lib.hid (HL.out.keep (w' := wx) (fun b o _ h => hBx.cell (p := ⟨b, o, none⟩) h))
        refine (parse_any lines _ 0 w.heap.size wx HLx.out hBx.size (by omega) (fun s hs => Nat.le_trans (l200 s hs) (by omega)) (ht.up hBx) (hE.up hBx) (hML.up hBx)).mono ?_
        rintro e w3 ⟨hb3, h3⟩
        have hB3 := hBx.trans (hb3.mono hBx.size)
        have ht3 := ht.up hB3
        have L200 := Lib.hid l200
        clear l200 HLx
        cases hpa : parseAll lines with
        | none =>
          rw [hpa] at h3
          subst h3
          clear hpa
          go_wp2_with fail
          refine (known_any _ ht3).mono ?_
          rintro e w4 ⟨rfl, hb4⟩
          go_wp2_with fail
          go_ret
          exact ⟨rfl, hB3.trans (hb4.mono hB3.size)⟩
        | some fs =>
          rw [hpa] at h3
          obtain ⟨v3, rfl, hs3⟩ := h3
          obtain ⟨A3, c3, rfl⟩ := hs3.slice
          have hlen := parseAll_len hpa
          have HPA := Lib.hid hpa
          have HS3 := Lib.hid hs3
          have hne : ((fs.length : Int) != (lines.length : Int)) = false := by rw [hlen]; simp
          have hfl : fs.length ≤ 8 := by omega
          have hfl2 : fs.length = lines.length := hlen
          have HLEN := Lib.hid hlen
          clear hpa hs3 hlen hfl2
          go_wp2_with fail
          go_loopw [12] (fun i wr => ∃ k : Nat, k ≤ fs.length ∧ i = .int .i64 k ∧ Below w3.heap.size w3 wr) (fun i _ => fs.length - (intOf i).toNat)
          case atStart => exact ⟨0, Nat.zero_le _, rfl, Below.refl _ _⟩
          case round =>
            obtain ⟨k, hk, rfl, hbk⟩ := hrel
            have hBk := hB3.trans (hbk.mono hB3.size)
            by_cases hlt : k < fs.length
            · obtain ⟨bb, ob, cb', eb, _, hbb, hcb⟩ := HS3.out.pos (by omega)
              cases eb
              obtain ⟨bl, ol, cl', el, _, hbl, hcl⟩ := HL.out.pos (by have := HLEN.out; omega)
              cases el
              have hltl : k < lines.length := by have := HLEN.out; omega
              obtain ⟨hfd, hline, fit1, fit2⟩ := parse_found (parseAll_at HPA.out hltl hlt)
              have hat := fds_at fs k hlt
              have CB : Hid (∀ wa, Below wr.heap.size wr wa → ∀ j u, (fs[k].cells)[j]? = some u → wa.cell? ⟨bb, ob + k * 4 + j, none⟩ = some u) := fun wa hC j u hu => by
                have := hcb _ u (hat j u hu)
                rw [← Nat.add_assoc] at this
                have hz := hbk.size
                exact (hC.cell (p := ⟨bb, ob + k * 4 + j, none⟩) (show bb < _ by omega)).trans ((hbk.cell (p := ⟨bb, ob + k * 4 + j, none⟩) hbb).trans this)
              have CL : Hid (∀ wa, Below wr.heap.size wr wa → wa.cell? ⟨bl, ol + k * 1, none⟩ = some (.string lines[k])) := fun wa hC => by
                have := hcl k _ (strs_at lines k hltl)
                have hz := hBk.size
                rw [Nat.mul_one]
                exact (hC.cell (p := ⟨bl, ol + k, none⟩) (show bl < _ by omega)).trans ((hBk.cell (p := ⟨bl, ol + k, none⟩) hbl).trans this)
              clear hcb hcl hat
              generalize fs[k] = f at *
              generalize lines[k] = s at *
              obtain ⟨fk, fa, fr, ft⟩ := f
              have hq : 0 ≤ fa ∧ fa < 64 ∧ 0 ≤ fr := by unfold foundB at hfd; simp only [Bool.and_eq_true, decide_eq_true_eq] at hfd; omega
              obtain ⟨q3, q4, q5⟩ := hq
              obtain ⟨t1, t2⟩ := fit1
              obtain ⟨r1, r2⟩ := fit2
              simp only at t1 t2 r1 r2
              have HFD := Lib.hid hfd
              have HLI := Lib.hid hline
              clear hfd hline
              cases hsm : smallB ft with
              | false =>
                have HSM := Lib.hid hsm
                clear hsm
                go_wp2_with fail
                refine region_guard 26 130 (fun w' => Below wr.heap.size wr w') [is (.slice (some ⟨bb, ob, none⟩) fs.length c3), is (.int .i64 ((k : Nat) : Int)), is (.pointer (some ⟨bb, ob + k * 4, none⟩)), is (.pointer (some ⟨bb, ob + k * 4 + 3, none⟩)), is (.int .i64 ft), is (.bool false), is (.bool false), is undef, is undef, is undef, is undef, is undef, is undef, is undef, is undef, is undef, is undef, is undef, is undef, is undef, is undef, is undef, is undef, is undef, is undef, is (.bool false)] (by kernel_rfl) (by kernel_rfl) rfl ?hst ?h0 ?hop ?htail
                case hst =>
                  simp only [List.mem_cons, List.mem_nil_iff, or_false, forall_eq_or_imp, forall_eq]
                  exact ⟨is_stable _, is_stable _, is_stable _, is_stable _, is_stable _, is_stable _, is_stable _, is_stable _, is_stable _, is_stable _, is_stable _, is_stable _, is_stable _, is_stable _, is_stable _, is_stable _, is_stable _, is_stable _, is_stable _, is_stable _, is_stable _, is_stable _, is_stable _, is_stable _, is_stable _, is_stable _⟩
                case h0 => exact (Below.refl _ _).drew
                case hop =>
                  refine ⟨?_, ?_, ?_, ?_, ?_, ?_, ?_, ?_, ?_, ?_, ?_, ?_, ?_, ?_, ?_, ?_, ?_, ?_, ?_, ?_, ?_, ?_, ?_, ?_, ?_, ?_, trivial⟩
                  · refine opG_none rfl ?_
                    exact ok_move (.tmp 10) (is (.slice (some ⟨bb, ob, none⟩) fs.length c3)) rfl (by kernel_rfl) (fun _ _ _ h => h)
                  · refine opG_none rfl ?_
                    exact ok_move (.tmp 12) (is (.int .i64 ((k : Nat) : Int))) rfl (by kernel_rfl) (fun _ _ _ h => h)
                  · refine opG_none rfl ?_
                    exact ok_index 32 37 103 104 (bb) (ob) (fs.length) (c3) 4 (((k : Nat) : Int)) (k) rfl (by kernel_rfl) (by kernel_rfl) Tryd.underlying32 fd4_size (rfl) (by omega) rfl
                  · refine opG_none rfl ?_
                    exact ok_field 37 (.tmp 105) 3 (.pointer (some ⟨bb, ob + k * 4, none⟩)) (.pointer (some ⟨bb, ob + k * 4 + 3, none⟩)) rfl (by kernel_rfl) (fun w => by kernel_rfl) rfl
                  · refine opG_none rfl ?_
                    exact ok_load 3 (.tmp 106) (.pointer (some ⟨bb, ob + k * 4 + 3, none⟩)) (.int .i64 ft) rfl (by kernel_rfl) (fun wa hC => run_load1 wa (by kernel_rfl) (CB.out wa hC 3 _ rfl)) rfl
                  · refine opG_none rfl ?_
                    exact ok_callF 10 [.tmp 107] _ [.int .i64 ft] rfl (fun _ _ => by kernel_rfl) ⟨by kernel_rfl, trivial⟩ (fun wa hC => (small_any ft wa).mono fun e x ⟨he, hw⟩ => ⟨_, he, hw ▸ hC, hw ▸ Below.refl _ _, HSM.out ▸ rfl⟩)
                  · refine opG_none rfl ?_
                    exact ok_move (.tmp 108) (is (.bool false)) rfl (by kernel_rfl) (fun _ _ _ h => h)
                  · exact opG_skip (b := false) rfl (by kernel_rfl) (by decide) (by kernel_rfl)
                  · exact opG_skip (b := false) rfl (by kernel_rfl) (by decide) (by kernel_rfl)
                  · exact opG_skip (b := false) rfl (by kernel_rfl) (by decide) (by kernel_rfl)
                  · exact opG_skip (b := false) rfl (by kernel_rfl) (by decide) (by kernel_rfl)
                  · exact opG_skip (b := false) rfl (by kernel_rfl) (by decide) (by kernel_rfl)
                  · exact opG_skip (b := false) rfl (by kernel_rfl) (by decide) (by kernel_rfl)
                  · exact opG_skip (b := false) rfl (by kernel_rfl) (by decide) (by kernel_rfl)
                  · exact opG_skip2 rfl (by kernel_rfl) (by kernel_rfl)
                  · exact opG_skip2 rfl (by kernel_rfl) (by kernel_rfl)
                  · exact opG_skip2 rfl (by kernel_rfl) (by kernel_rfl)
                  · exact opG_skip2 rfl (by kernel_rfl) (by kernel_rfl)
                  · exact opG_skip2 rfl (by kernel_rfl) (by kernel_rfl)
                  · exact opG_skip2 rfl (by kernel_rfl) (by kernel_rfl)
                  · exact opG_skip2 rfl (by kernel_rfl) (by kernel_rfl)
                  · exact opG_skip2 rfl (by kernel_rfl) (by kernel_rfl)
                  · exact opG_skip2 rfl (by kernel_rfl) (by kernel_rfl)
                  · exact opG_skip2 rfl (by kernel_rfl) (by kernel_rfl)
                  · exact opG_skip (b := false) rfl (by kernel_rfl) (by decide) (by kernel_rfl)
                  · refine opG_none rfl ?_
                    refine ok_value fun a wa hC hpre => ?_
                    have h1 : is (.bool false) (a.eval (.tmp 109)) wa := hpre (.tmp 109) (by simp [Op.operands])
                    have h2 : is (undef) (a.eval (.tmp 127)) wa := hpre (.tmp 127) (by simp [Op.operands])
                    have e1 : a.tmps[109]?.getD undef = .bool false := by simpa [Act.eval, is] using h1
                    have e2 : a.tmps[127]?.getD undef = undef := by simpa [Act.eval, is] using h2
                    refine ⟨.bool false, ?_, rfl⟩
                    clear h1 h2
                    go_simp
                case htail =>
                  intro τ w5 hC hR
                  have r25 : τ 25 = .bool false := hR 25 (by decide)
                  simp only [putAll, List.getElem?_toArray, List.getElem?_cons_succ, List.getElem?_cons_zero, Option.bind_some, Act.put, List.setIfInBounds_toArray, List.set_cons_succ, List.set_cons_zero, List.drop_succ_cons, List.drop_zero, r25]
                  clear r25 hR
                  have hb5 := hbk.trans (hC.mono hbk.size)
                  go_wp2_with fail
                  go_roundw
                  case rel => exact ⟨k + 1, by omega, by go_num, hb5⟩
                  case measure => simp [intOf]; omega
              | true =>
                have hsm2 : -4611686018427387904 < ft ∧ ft < 4611686018427387904 := by unfold smallB at hsm; simpa using hsm
                obtain ⟨s1, s2⟩ := hsm2
                have HSM := Lib.hid hsm
                clear hsm
                go_wp2_with fail
                refine region_guard 26 130 (fun w' => Below wr.heap.size wr w') [is (.slice (some ⟨bb, ob, none⟩) fs.length c3), is (.int .i64 ((k : Nat) : Int)), is (.pointer (some ⟨bb, ob + k * 4, none⟩)), is (.pointer (some ⟨bb, ob + k * 4 + 3, none⟩)), is (.int .i64 ft), is (.bool true), is (.bool true), is (.slice (some ⟨bb, ob, none⟩) fs.length c3), is (.int .i64 ((k : Nat) : Int)), is (.pointer (some ⟨bb, ob + k * 4, none⟩)), is (.agg #[.int .i64 fk, .int .i64 fa, .int .i64 fr, .int .i64 ft]), is (.bool true), is (.bool false), is (.bool false), is (.slice (some ⟨bb, ob, none⟩) fs.length c3), is (.int .i64 ((k : Nat) : Int)), is (.pointer (some ⟨bb, ob + k * 4, none⟩)), is (.agg #[.int .i64 fk, .int .i64 fa, .int .i64 fr, .int .i64 ft]), is (.string s), is (.slice (some ⟨bl, ol, none⟩) lines.length cl), is (.int .i64 ((k : Nat) : Int)), is (.pointer (some ⟨bl, ol + k * 1, none⟩)), is (.string s), is (.bool false), is (.bool false), is (.bool false)] (by kernel_rfl) (by kernel_rfl) rfl ?hst ?h0 ?hop ?htail
                case hst =>
                  simp only [List.mem_cons, List.mem_nil_iff, or_false, forall_eq_or_imp, forall_eq]
                  exact ⟨is_stable _, is_stable _, is_stable _, is_stable _, is_stable _, is_stable _, is_stable _, is_stable _, is_stable _, is_stable _, is_stable _, is_stable _, is_stable _, is_stable _, is_stable _, is_stable _, is_stable _, is_stable _, is_stable _, is_stable _, is_stable _, is_stable _, is_stable _, is_stable _, is_stable _, is_stable _⟩
                case h0 => exact (Below.refl _ _).drew
                case hop =>
                  refine ⟨?_, ?_, ?_, ?_, ?_, ?_, ?_, ?_, ?_, ?_, ?_, ?_, ?_, ?_, ?_, ?_, ?_, ?_, ?_, ?_, ?_, ?_, ?_, ?_, ?_, ?_, trivial⟩
                  · refine opG_none rfl ?_
                    exact ok_move (.tmp 10) (is (.slice (some ⟨bb, ob, none⟩) fs.length c3)) rfl (by kernel_rfl) (fun _ _ _ h => h)
                  · refine opG_none rfl ?_
                    exact ok_move (.tmp 12) (is (.int .i64 ((k : Nat) : Int))) rfl (by kernel_rfl) (fun _ _ _ h => h)
                  · refine opG_none rfl ?_
                    exact ok_index 32 37 103 104 (bb) (ob) (fs.length) (c3) 4 (((k : Nat) : Int)) (k) rfl (by kernel_rfl) (by kernel_rfl) Tryd.underlying32 fd4_size (rfl) (by omega) rfl
                  · refine opG_none rfl ?_
                    exact ok_field 37 (.tmp 105) 3 (.pointer (some ⟨bb, ob + k * 4, none⟩)) (.pointer (some ⟨bb, ob + k * 4 + 3, none⟩)) rfl (by kernel_rfl) (fun w => by kernel_rfl) rfl
                  · refine opG_none rfl ?_
                    exact ok_load 3 (.tmp 106) (.pointer (some ⟨bb, ob + k * 4 + 3, none⟩)) (.int .i64 ft) rfl (by kernel_rfl) (fun wa hC => run_load1 wa (by kernel_rfl) (CB.out wa hC 3 _ rfl)) rfl
                  · refine opG_none rfl ?_
                    exact ok_callF 10 [.tmp 107] _ [.int .i64 ft] rfl (fun _ _ => by kernel_rfl) ⟨by kernel_rfl, trivial⟩ (fun wa hC => (small_any ft wa).mono fun e x ⟨he, hw⟩ => ⟨_, he, hw ▸ hC, hw ▸ Below.refl _ _, HSM.out ▸ rfl⟩)
                  · refine opG_none rfl ?_
                    exact ok_move (.tmp 108) (is (.bool true)) rfl (by kernel_rfl) (fun _ _ _ h => h)
                  · refine opG_run rfl (by kernel_rfl) ?_
                    exact ok_move (.tmp 10) (is (.slice (some ⟨bb, ob, none⟩) fs.length c3)) rfl (by kernel_rfl) (fun _ _ _ h => h)
                  · refine opG_run rfl (by kernel_rfl) ?_
                    exact ok_move (.tmp 12) (is (.int .i64 ((k : Nat) : Int))) rfl (by kernel_rfl) (fun _ _ _ h => h)
                  · refine opG_run rfl (by kernel_rfl) ?_
                    exact ok_index 32 37 110 111 (bb) (ob) (fs.length) (c3) 4 (((k : Nat) : Int)) (k) rfl (by kernel_rfl) (by kernel_rfl) Tryd.underlying32 fd4_size (rfl) (by omega) rfl
                  · refine opG_run rfl (by kernel_rfl) ?_
                    exact ok_load 37 (.tmp 112) (.pointer (some ⟨bb, ob + k * 4, none⟩)) (.agg #[.int .i64 fk, .int .i64 fa, .int .i64 fr, .int .i64 ft]) rfl (by kernel_rfl) (fun wa hC => run_loadN [.int .i64 fk, .int .i64 fa, .int .i64 fr, .int .i64 ft] wa (by kernel_rfl) (by kernel_rfl) (CB.out wa hC)) rfl
                  · refine opG_run rfl (by kernel_rfl) ?_
                    exact ok_callF 11 [.tmp 113] _ [.agg #[.int .i64 fk, .int .i64 fa, .int .i64 fr, .int .i64 ft]] rfl (fun _ _ => by kernel_rfl) ⟨by kernel_rfl, trivial⟩ (fun wa hC => (lfound_any fk fa fr ft wa).mono fun e x ⟨he, hb⟩ => ⟨_, he, hC.trans (hb.mono hC.size), hb, HFD.out ▸ rfl⟩)
                  · refine opG_run rfl (by kernel_rfl) ?_
                    exact ok_t1 114 (.bool true) (.bool false) rfl (by kernel_rfl) (fun a wa _ e1 => by go_simp) rfl
                  · refine opG_run rfl (by kernel_rfl) ?_
                    exact ok_move (.tmp 115) (is (.bool false)) rfl (by kernel_rfl) (fun _ _ _ h => h)
                  · refine opG_run rfl (by kernel_rfl) ?_
                    exact ok_move (.tmp 10) (is (.slice (some ⟨bb, ob, none⟩) fs.length c3)) rfl (by kernel_rfl) (fun _ _ _ h => h)
                  · refine opG_run rfl (by kernel_rfl) ?_
                    exact ok_move (.tmp 12) (is (.int .i64 ((k : Nat) : Int))) rfl (by kernel_rfl) (fun _ _ _ h => h)
                  · refine opG_run rfl (by kernel_rfl) ?_
                    exact ok_index 32 37 117 118 (bb) (ob) (fs.length) (c3) 4 (((k : Nat) : Int)) (k) rfl (by kernel_rfl) (by kernel_rfl) Tryd.underlying32 fd4_size (rfl) (by omega) rfl
                  · refine opG_run rfl (by kernel_rfl) ?_
                    exact ok_load 37 (.tmp 119) (.pointer (some ⟨bb, ob + k * 4, none⟩)) (.agg #[.int .i64 fk, .int .i64 fa, .int .i64 fr, .int .i64 ft]) rfl (by kernel_rfl) (fun wa hC => run_loadN [.int .i64 fk, .int .i64 fa, .int .i64 fr, .int .i64 ft] wa (by kernel_rfl) (by kernel_rfl) (CB.out wa hC)) rfl
                  · refine opG_run rfl (by kernel_rfl) ?_
                    exact ok_callF 12 [.tmp 120] _ [.agg #[.int .i64 fk, .int .i64 fa, .int .i64 fr, .int .i64 ft]] rfl (fun _ _ => by kernel_rfl) ⟨by kernel_rfl, trivial⟩ (fun wa hC => (finding_any fk fa fr ft wa q3 q4 q5 r2 (by omega) (by omega)).mono fun e x ⟨he, hb⟩ => ⟨_, he, hC.trans (hb.mono hC.size), hb, HLI.out ▸ rfl⟩)
                  · refine opG_run rfl (by kernel_rfl) ?_
                    exact ok_move (.tmp 1) (is (.slice (some ⟨bl, ol, none⟩) lines.length cl)) rfl (by kernel_rfl) (fun _ _ _ h => h)
                  · refine opG_run rfl (by kernel_rfl) ?_
                    exact ok_move (.tmp 12) (is (.int .i64 ((k : Nat) : Int))) rfl (by kernel_rfl) (fun _ _ _ h => h)
                  · refine opG_run rfl (by kernel_rfl) ?_
                    exact ok_index 24 9 122 123 (bl) (ol) (lines.length) (cl) 1 (((k : Nat) : Int)) (k) rfl (by kernel_rfl) (by kernel_rfl) Tryd.underlying24 str_size (rfl) (by omega) rfl
                  · refine opG_run rfl (by kernel_rfl) ?_
                    exact ok_load 9 (.tmp 124) (.pointer (some ⟨bl, ol + k * 1, none⟩)) (.string s) rfl (by kernel_rfl) (fun wa hC => run_load1 wa (by kernel_rfl) (CL.out wa hC)) rfl
                  · refine opG_run rfl (by kernel_rfl) ?_
                    exact ok_t2 121 125 (.string s) (.string s) (.bool false) rfl (by kernel_rfl) (by kernel_rfl) (fun a wa _ e1 e2 => by go_simp) rfl
                  · refine opG_run rfl (by kernel_rfl) ?_
                    refine ok_value fun a wa hC hpre => ?_
                    have h1 : is (.bool false) (a.eval (.tmp 116)) wa := hpre (.tmp 116) (by simp [Op.operands])
                    have h2 : is (.bool false) (a.eval (.tmp 126)) wa := hpre (.tmp 126) (by simp [Op.operands])
                    have e1 : a.tmps[116]?.getD undef = .bool false := by simpa [Act.eval, is] using h1
                    have e2 : a.tmps[126]?.getD undef = .bool false := by simpa [Act.eval, is] using h2
                    refine ⟨.bool false, ?_, rfl⟩
                    clear h1 h2
                    go_simp
                  · refine opG_none rfl ?_
                    refine ok_value fun a wa hC hpre => ?_
                    have h1 : is (.bool true) (a.eval (.tmp 109)) wa := hpre (.tmp 109) (by simp [Op.operands])
                    have h2 : is (.bool false) (a.eval (.tmp 127)) wa := hpre (.tmp 127) (by simp [Op.operands])
                    have e1 : a.tmps[109]?.getD undef = .bool true := by simpa [Act.eval, is] using h1
                    have e2 : a.tmps[127]?.getD undef = .bool false := by simpa [Act.eval, is] using h2
                    refine ⟨.bool false, ?_, rfl⟩
                    clear h1 h2
                    go_simp
                case htail =>
                  intro τ w5 hC hR
                  have r25 : τ 25 = .bool false := hR 25 (by decide)
                  simp only [putAll, List.getElem?_toArray, List.getElem?_cons_succ, List.getElem?_cons_zero, Option.bind_some, Act.put, List.setIfInBounds_toArray, List.set_cons_succ, List.set_cons_zero, List.drop_succ_cons, List.drop_zero, r25]
                  clear r25 hR
                  have hb5 := hbk.trans (hC.mono hbk.size)
                  go_wp2_with fail
                  go_roundw
                  case rel => exact ⟨k + 1, by omega, by go_num, hb5⟩
                  case measure => simp [intOf]; omega
            · go_wp2_with fail
              refine (known_any _ (ht3.up hbk)).mono ?_
              rintro e w4 ⟨rfl, hb4⟩
              go_wp2_with fail
              go_ret
              exact ⟨rfl, hBk.trans (hb4.mono hBk.size)⟩
end Go.Proofs.YtckagpelhjgnpaaDoor
