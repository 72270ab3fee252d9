/- Valid: the walk. -/
import Derived.Test.YtolmehmglgmanaaGreatDoorValid
import Derived.BigGuardPart
namespace Go.Proofs.YtolmehmglgmanaaGreatDoor
open Go.RowKit
set_option maxRecDepth 100000 in
set_option maxHeartbeats 4000000 in
theorem valid_any (p : Pr) (vn vh va : Value) (w : World) (hp : ProgAt w w.heap.size vn vh va p) (hsz : ∀ s ∈ p.names, s.size ≤ maxLen) (hsa : ∀ a ∈ p.acts, a.name.size ≤ maxLen) (hb : p.acts.length ≤ 1000000) (hmv : ∀ a ∈ p.acts, a.moves.length ≤ 1000000) :
    Calls Tryz.prog 7 #[.agg #[vn, vh, va]] w fun e w' => e = .returned (.bool (validB p)) ∧ Below w.heap.size w w' := by
  obtain ⟨An, cn, rfl⟩ := hp.names.slice
  obtain ⟨Ah, ch, rfl⟩ := hp.homes.slice
  obtain ⟨csA, ha, hacts⟩ := hp.acts
  obtain ⟨Aa, ca, rfl⟩ := ha.slice
  have HSZ := Lib.hid hsz
  have HSA := Lib.hid hsa
  have HMV := Lib.hid hmv
  clear hsz hsa hmv
  refine calls_marks Tryz.func7 rfl ?_
  simp only [Tryz.ntmps7, List.size_toArray, List.length_cons, List.length_nil, Nat.reduceAdd, Nat.reduceSub, Array.replicate_succ,
     Array.replicate_zero, List.push_toArray, List.append_toArray, List.nil_append, List.cons_append]
  go_wp2_with fail
  obtain ⟨W1, hW1⟩ : ∃ W1, W1 = (w.alloc (.cells #[.slice An p.names.length cn, .slice Ah p.homes.length ch, .slice Aa p.acts.length ca] 26)).alloc (.cells #[.bool false] 4) := ⟨_, rfl⟩
  rw [← hW1]
  have hz1 : W1.heap.size = w.heap.size + 2 := by rw [hW1]; simp
  have hb1 : Below w.heap.size w W1 := by rw [hW1]; exact ((Below.refl _ _).alloc (Nat.le_refl _) _).alloc (by simp) _
  have hB1 : W1.heap[w.heap.size]? = some (.cells #[.slice An p.names.length cn, .slice Ah p.homes.length ch, .slice Aa p.acts.length ca] 26 (0, 0)) := by rw [hW1, Below.heap_alloc _ _ _ (by simp)]; exact World.alloc_heap_new _ _
  have hB2 : W1.heap[w.heap.size + 1]? = some (.cells #[.bool false] 4 (0, 0)) := by rw [hW1]; exact heap_new _ _ _ (by simp)
  refine (crew_any p.names p.homes _ _ _ _ ?_ ?_ ⟨_, _, _, rfl⟩ HSZ.out).mono ?_
  · exact (hp.names.below hb1).more (Nat.le_refl _) (by omega)
  · exact (hp.homes.below hb1).more (Nat.le_refl _) (by omega)
  rintro e wC ⟨rfl, hbC⟩
  have hzC := hbC.size
  have hC1 := (hbC.block w.heap.size (by omega)).trans hB1
  have hC2 := (hbC.block (w.heap.size + 1) (by omega)).trans hB2
  have hbC0 : Below w.heap.size w wC := hb1.trans (hbC.mono (by omega))
  have c0 : wC.cell? ⟨w.heap.size, 0, none⟩ = some (.slice An p.names.length cn) := by simp [World.cell?, hC1]
  have c1 : wC.cell? ⟨w.heap.size, 1, none⟩ = some (.slice Ah p.homes.length ch) := by simp [World.cell?, hC1]
  have c2 : wC.cell? ⟨w.heap.size, 2, none⟩ = some (.slice Aa p.acts.length ca) := by simp [World.cell?, hC1]
  have c3 : wC.cell? ⟨w.heap.size + 1, 0, none⟩ = some (.bool false) := by simp [World.cell?, hC2]
  have c4 : wC.frozen? ⟨w.heap.size + 1, 0, none⟩ = false := by simp [World.frozen?, hC2]
  clear hW1 hB1 hB2
  have HP := Lib.hid hp
  have HA := Lib.hid ha
  have HAC := Lib.hid hacts
  have HC1 := Lib.hid hC1
  have HC2 := Lib.hid hC2
  clear hp ha hacts hC1 hC2
  by_cases hcr : crewB p.names p.homes = true
  case neg =>
    have hcr : crewB p.names p.homes = false := by simpa using hcr
    rw [hcr]
    have hv : Hid (validB p = false) := by unfold Hid validB; rw [hcr]; simp
    clear hcr
    go_wp2_with fail
    rw [hv.out]
    exact valid_ret (rs := []) rfl HC2.out hbC0 (by simp) (by simp)
  case pos =>
  rw [hcr]
  have HCR := Lib.hid hcr
  have hnn : 1 ≤ p.names.length ∧ p.names.length ≤ 64 ∧ p.homes.length = p.names.length := by unfold crewB at hcr; simp at hcr; omega
  have HNN := Lib.hid hnn
  have hmk := make_ints p.names.length (by omega) wC
  have zA : w.heap.size < wC.heap.size := by omega
  have zB : w.heap.size + 1 < wC.heap.size := by omega
  have zA1 : w.heap.size < wC.heap.size + 1 := by omega
  have zB1 : w.heap.size + 1 < wC.heap.size + 1 := by omega
  clear hnn
  go_wp2_with fail
  · rename_i hgt
    have hv : validB p = false := by unfold validB; rw [decide_eq_false (show ¬ p.acts.length ≤ 60 by omega)]; simp
    rw [hv]
    exact valid_ret (rs := []) rfl HC2.out hbC0 (by simp) (by simp)
  obtain ⟨W0, hW0⟩ : ∃ W0, W0 = ((wC.alloc (.cells (manyC (List.replicate p.names.length 0)) 3)).alloc (.cells #[.slice (some ⟨wC.heap.size, 0, none⟩) p.names.length p.names.length] 63)) := ⟨_, rfl⟩
  refine wp_loop (fun a' w' => a'.tmps.size = 86 ∧ ∃ (rs : List Nat) (k : Nat) (t : Int) (m : List Int), VLoop p W0 w.heap.size wC.heap.size rs k t m w' ∧ a'.defers = rs.map markOf ∧ a'.tmps[1]? = some (.pointer (some ⟨w.heap.size, 0, none⟩)) ∧ a'.tmps[2]? = some (.pointer (some ⟨w.heap.size + 1, 0, none⟩)) ∧ a'.tmps[3]? = some (.int .i64 t) ∧ a'.tmps[4]? = some (.pointer (some ⟨wC.heap.size + 1, 0, none⟩)) ∧ a'.tmps[24]? = some (.slice Aa p.acts.length ca) ∧ a'.tmps[25]? = some (.int .i64 (p.acts.length : Nat)) ∧ a'.tmps[26]? = some (.int .i64 (k : Nat)))
    (fun a' w' => p.acts.length - (intOf (a'.tmps.getD 26 undef)).toNat) ?_ ?_
  · refine ⟨rfl, [], 0, 0, List.replicate p.names.length 0, ?_, rfl, rfl, rfl, rfl, rfl, rfl, rfl, rfl⟩
    rw [← hW0]
    refine ⟨rfl, Nat.zero_le _, KeepP.refl _ _, ?_, ⟨false, ?_⟩, by simp, by simp⟩
    · rw [hW0, Below.heap_alloc _ _ _ (by simp)]; exact World.alloc_heap_new _ _
    · rw [hW0, Below.heap_alloc _ _ _ (by simp; omega), Below.heap_alloc _ _ _ (by omega)]; exact HC2.out
  · rintro ⟨tmps, defers⟩ wr ⟨hsz, rs, k, t, m, hL, hd, e1, e2, e3, e4, e24, e25, e26⟩
    dsimp only at hsz hd e1 e2 e3 e4 e24 e25 e26
    subst hd
    obtain ⟨u, hu, htm⟩ := tmps_lit tmps 86 hsz
    have f (i : Nat) (v : Value) (hi : i < 86) (h : tmps[i]? = some v) : u i = v := by rw [hu i hi] at h; exact Option.some.inj h
    have g1 := f _ _ (by decide) e1
    have g2 := f _ _ (by decide) e2
    have g3 := f _ _ (by decide) e3
    have g4 := f _ _ (by decide) e4
    have g24 := f _ _ (by decide) e24
    have g25 := f _ _ (by decide) e25
    have g26 := f _ _ (by decide) e26
    simp only [List.range, List.range.loop, List.map_cons, List.map_nil, g1, g2, g3, g4, g24, g25, g26] at htm
    subst htm
    clear hsz e1 e2 e3 e4 e24 e25 e26 hu f g1 g2 g3 g4 g24 g25 g26
    have hz0 : W0.heap.size = wC.heap.size + 2 := by rw [hW0]; simp
    have hwz := hL.keep.size
    have HL := Lib.hid hL
    have kb : Hid (∀ b, b < W0.heap.size → b ≠ w.heap.size + 1 → b ≠ wC.heap.size → wr.heap[b]? = W0.heap[b]?) := fun b hb h1 h2 => hL.keep.block b hb (by omega)
    have k1 : wr.heap[w.heap.size]? = some (.cells #[.slice An p.names.length cn, .slice Ah p.homes.length ch, .slice Aa p.acts.length ca] 26 (0, 0)) := by
      rw [kb.out _ (by omega) (by omega) (by omega), hW0, Below.heap_alloc _ _ _ (by simp; omega), Below.heap_alloc _ _ _ (by omega)]; exact HC1.out
    have k4 : wr.heap[wC.heap.size + 1]? = some (.cells #[.slice (some ⟨wC.heap.size, 0, none⟩) p.names.length p.names.length] 63 (0, 0)) := by
      rw [kb.out _ (by omega) (by omega) (by omega), hW0]; exact heap_new _ _ _ (by simp)
    have HBR : Hid (Below w.heap.size w wr) := by
      refine ⟨hL.keep.os.trans ?_, hL.keep.tape.trans ?_, hL.keep.output.trans ?_, by omega, fun b hb => ?_⟩
      · rw [hW0]; exact hbC0.os
      · rw [hW0]; exact hbC0.tape
      · rw [hW0]; exact hbC0.output
      · rw [kb.out _ (by omega) (by omega) (by omega), hW0, Below.heap_alloc _ _ _ (by simp; omega), Below.heap_alloc _ _ _ (by omega)]; exact hbC0.block b hb
    have kp : Hid (ProgAt wr w.heap.size (.slice An p.names.length cn) (.slice Ah p.homes.length ch) (.slice Aa p.acts.length ca) p) := HP.out.below HBR.out
    have HMK : Hid (∀ r ∈ rs, w.heap.size + 2 ≤ r ∧ wr.heap[r]? = some (.deferred (some []))) := fun r hr => ⟨by have := (hL.marks r hr).1; omega, (hL.marks r hr).2⟩
    have p0 : wr.cell? ⟨w.heap.size, 0, none⟩ = some (.slice An p.names.length cn) := by simp [World.cell?, k1]
    have p1 : wr.cell? ⟨w.heap.size, 1, none⟩ = some (.slice Ah p.homes.length ch) := by simp [World.cell?, k1]
    have p2 : wr.cell? ⟨w.heap.size, 2, none⟩ = some (.slice Aa p.acts.length ca) := by simp [World.cell?, k1]
    have p4 : wr.cell? ⟨wC.heap.size + 1, 0, none⟩ = some (.slice (some ⟨wC.heap.size, 0, none⟩) p.names.length p.names.length) := by simp [World.cell?, k4]
    obtain ⟨rv, hrv⟩ := hL.res
    have p5 : wr.cell? ⟨w.heap.size + 1, 0, none⟩ = some (.bool rv) := by simp [World.cell?, hrv]
    have p6 : wr.frozen? ⟨w.heap.size + 1, 0, none⟩ = false := by simp [World.frozen?, hrv]
    have K1 := Lib.hid k1
    have K4 := Lib.hid k4
    have HRV := Lib.hid hrv
    have hle := hL.le
    have HW0 := Lib.hid hW0
    clear k1 k4 hrv hL hW0 hmk c0 c1 c2 c3 c4
    by_cases hk : k < p.acts.length
    case neg =>
      have hkN : k = p.acts.length := by omega
      have HkN := Lib.hid hkN
      clear hkN
      go_wp2_with fail
      have hv : validB p = true := by
        unfold validB; rw [HCR.out, decide_eq_true (show p.acts.length ≤ 60 by omega), ← HkN.out, HL.out.up]; rfl
      rw [hv]
      exact valid_ret rfl HRV.out HBR.out HL.out.nodup HMK.out
    case pos =>
    obtain ⟨csB, hsB, hactsB⟩ := kp.out.acts
    obtain ⟨ba, oa, ca', ea, hba1, hba2, hcac⟩ := hsB.pos (by omega)
    obtain ⟨vm, hvm, hcm⟩ := hactsB.at_ hk
    have a0 := hcac _ _ (hcm 0 _ rfl)
    have a1 := hcac _ _ (hcm 1 _ rfl)
    have a2 := hcac _ _ (hcm 2 _ rfl)
    obtain ⟨Am, cm, rfl⟩ := hvm.slice
    cases ea
    rw [← Nat.add_assoc] at a1 a2
    simp only [Nat.add_zero] at a0
    have gA : Hid (p.acts.getD k Ac.none = p.acts[k]) := by simp [Hid, hk]
    have hsn := HSA.out _ (List.getElem_mem hk)
    clear hcac hcm hactsB hsB hvm
    generalize hAC : p.acts[k] = ac at *
    have HACk := Lib.hid hAC
    clear hAC
    obtain ⟨up1, up2, up3, up4, up5⟩ := upTo_facts HL.out.up
    have UP4 := Lib.hid up4
    have UP5 := Lib.hid up5
    clear up4 up5
    go_wp2_with fail
    obtain ⟨WA, hWA⟩ : ∃ WA, WA = wr.alloc (.cells #[.string ac.name, .int .i64 ac.len, .slice Am ac.moves.length cm] 50) := ⟨_, rfl⟩
    rw [← hWA]
    refine (validName_any ac.name _ hsn).mono ?_
    rintro e w' ⟨rfl, rfl⟩
    have hzA : WA.heap.size = wr.heap.size + 1 := by rw [hWA]; simp
    have hbA : Below wr.heap.size wr WA := by rw [hWA]; exact (Below.refl _ _).alloc (Nat.le_refl _) _
    have hA : WA.heap[wr.heap.size]? = some (.cells #[.string ac.name, .int .i64 ac.len, .slice Am ac.moves.length cm] 50 (0, 0)) := by rw [hWA]; exact World.alloc_heap_new _ _
    have HA0 := Lib.hid hA
    have b0 : WA.cell? ⟨wr.heap.size, 0, none⟩ = some (.string ac.name) := by simp [World.cell?, hA]
    have b1 : WA.cell? ⟨wr.heap.size, 1, none⟩ = some (.int .i64 ac.len) := by simp [World.cell?, hA]
    have b2 : WA.cell? ⟨wr.heap.size, 2, none⟩ = some (.slice Am ac.moves.length cm) := by simp [World.cell?, hA]
    have P0 : WA.cell? ⟨w.heap.size, 0, none⟩ = some (.slice An p.names.length cn) := (hbA.cell (p := ⟨w.heap.size, 0, none⟩) (show w.heap.size < _ by omega)).trans p0
    have P1 : WA.cell? ⟨w.heap.size, 1, none⟩ = some (.slice Ah p.homes.length ch) := (hbA.cell (p := ⟨w.heap.size, 1, none⟩) (show w.heap.size < _ by omega)).trans p1
    have P2 : WA.cell? ⟨w.heap.size, 2, none⟩ = some (.slice (some ⟨ba, oa, none⟩) p.acts.length ca) := (hbA.cell (p := ⟨w.heap.size, 2, none⟩) (show w.heap.size < _ by omega)).trans p2
    have P4 : WA.cell? ⟨wC.heap.size + 1, 0, none⟩ = some (.slice (some ⟨wC.heap.size, 0, none⟩) p.names.length p.names.length) := (hbA.cell (p := ⟨wC.heap.size + 1, 0, none⟩) (show wC.heap.size + 1 < _ by omega)).trans p4
    have hR : WA.heap[w.heap.size + 1]? = some (.cells #[.bool rv] 4 (0, 0)) := (hbA.block _ (by omega)).trans HRV.out
    have P5 : WA.cell? ⟨w.heap.size + 1, 0, none⟩ = some (.bool rv) := by simp [World.cell?, hR]
    have P6 : WA.frozen? ⟨w.heap.size + 1, 0, none⟩ = false := by simp [World.frozen?, hR]
    have HR := Lib.hid hR
    have HBA : Hid (Below w.heap.size w WA) := HBR.out.trans (hbA.mono HBR.out.size)
    have HMA : Hid (∀ r ∈ rs, w.heap.size + 2 ≤ r ∧ WA.heap[r]? = some (.deferred (some []))) := fun r hr => ⟨(HMK.out r hr).1, (hbA.block r (Array.getElem?_eq_some_iff.1 (HMK.out r hr).2).1).trans (HMK.out r hr).2⟩
    have y1 : w.heap.size < WA.heap.size := by omega
    have y2 : w.heap.size + 1 < WA.heap.size := by omega
    have y3 : wC.heap.size + 1 < WA.heap.size := by omega
    have y4 : wr.heap.size < WA.heap.size := by omega
    have y5 : w.heap.size < wr.heap.size + 1 := by omega
    have y6 : w.heap.size + 1 < wr.heap.size + 1 := by omega
    have y7 : wC.heap.size + 1 < wr.heap.size + 1 := by omega
    clear hA hR hWA p0 p1 p2 p4 p5 p6 a0 a1 a2
    by_cases hg : nameB ac.name = true ∧ 1 ≤ ac.len ∧ ac.len ≤ 3600000 - t ∧ ac.moves.length = p.names.length
    case neg =>
      have hv : Hid (validB p = false) := valid_no (j := k + 1) (upTo_bad HL.out.up (by rw [gA.out]; exact hg)) hk
      have fin : ∀ tm : Array Value, tm[2]? = some (.pointer (some ⟨w.heap.size + 1, 0, none⟩)) → bodyPostM Fence.wide 0 Tryz.prog Tryz.f7 (fun e w' => e = .returned (.bool (validB p)) ∧ Below w.heap.size w w') .ret ⟨tm, rs.map markOf⟩ (WA.setCell ⟨w.heap.size + 1, 0, none⟩ (.bool false)) := fun tm h2 => by rw [hv.out]; exact valid_ret h2 HR.out HBA.out HL.out.nodup HMA.out
      have FIN := Lib.hid fin
      have HG := Lib.hid hg
      clear fin hg
      by_cases h1 : nameB ac.name = true
      · rw [h1]
        by_cases h2 : 1 ≤ ac.len
        · by_cases h3 : ac.len ≤ 3600000 - t
          · have h4 : ¬ ac.moves.length = p.names.length := fun h => HG.out ⟨h1, h2, h3, h⟩
            clear h1
            go_wp2_with fail
            exact FIN.out _ rfl
          · clear h1
            go_wp2_with fail
            exact FIN.out _ rfl
        · clear h1
          go_wp2_with fail
          exact FIN.out _ rfl
      · have h1 : nameB ac.name = false := by simpa using h1
        rw [h1]
        clear h1
        go_wp2_with fail
        exact FIN.out _ rfl
    case pos =>
    obtain ⟨h1, h2, h3, h4⟩ := hg
    rw [h1]
    have H1 := Lib.hid h1
    have H4 := Lib.hid h4
    clear h1
    go_wp2_with fail
    all_goals try (exfalso; omega)
    obtain ⟨WB, hWB⟩ : ∃ WB, WB = WA.alloc (.cells #[.int .i64 0] 3) := ⟨_, rfl⟩
    rw [← hWB]
    refine (paths_any _ _ _ _ _ _).mono ?_
    rintro e wP ⟨Bp, Ba, Bt, rfl, hbP, q1, q2, q3, q4, q5, q6, qp, qa, qt⟩
    have hzB : WB.heap.size = WA.heap.size + 1 := by rw [hWB]; simp
    have hzP := hbP.size
    have hbB : Below WA.heap.size WA WB := by rw [hWB]; exact (Below.refl _ _).alloc (Nat.le_refl _) _
    have hB7 : WB.heap[wr.heap.size + 1]? = some (.cells #[.int .i64 0] 3 (0, 0)) := by rw [hWB]; exact heap_new _ _ _ (by omega)
    have HP7 : Hid (wP.heap[wr.heap.size + 1]? = some (.cells #[.int .i64 0] 3 (0, 0))) := (hbP.block _ (by omega)).trans hB7
    have HQP := Lib.hid qp
    have HQA := Lib.hid qa
    have HQT := Lib.hid qt
    have hrP : Below wr.heap.size wr wP := hbA.trans ((hbB.mono (by omega)).trans (hbP.mono (by omega)))
    have HRP := Lib.hid hrP
    clear qp qa qt hWB hB7 hrP
    have hFL : Hid ((formL p k).length = p.names.length) := formL_len HNN.out.2.2 HL.out.up
    have hpP : Hid (ProgAt wP w.heap.size (.slice An p.names.length cn) (.slice Ah p.homes.length ch) (.slice (some ⟨ba, oa, none⟩) p.acts.length ca) p) := kp.out.below (HRP.out.mono HBR.out.size)
    have hnn1 := HNN.out.1
    have hnn2 := HNN.out.2.1
    have ITER : Hid (Iter 34 #[.pointer (some ⟨Bp, 0, none⟩), .pointer (some ⟨Ba, 0, none⟩), .pointer (some ⟨Bt, 0, none⟩)] p.names.length (fun lo => PathItem lo p k t) (fun b => b < w.heap.size ∨ b = Bp ∨ b = Ba ∨ b = Bt) wP) := by
      have := paths_iter wP Bp Ba Bt _ _ _ p k t (fun b => b < w.heap.size ∨ b = Bp ∨ b = Ba ∨ b = Bt) (by intro b hb; omega) w.heap.size (by omega) (fun b hb => .inl hb) (.inr (.inl rfl)) (.inr (.inr (.inl rfl))) (.inr (.inr (.inr rfl))) HQP.out HQA.out HQT.out hpP.out hk
        (by rw [HNN.out.2.2]; omega) (by rw [HNN.out.2.2]; omega) hb HMV.out (by rw [hFL.out, gA.out]; exact H4.out)
      rw [hFL.out] at this
      exact this
    have hBmP : Hid (wP.heap[wC.heap.size]? = some (.cells (manyC m) 3 (0, 0))) := (HRP.out.block _ (by omega)).trans HL.out.many
    have hB2P : Hid (wP.heap[w.heap.size + 1]? = some (.cells #[.bool rv] 4 (0, 0))) := (HRP.out.block _ (by omega)).trans HRV.out
    go_wp2_with fail
    refine range_law (σ := List Int) (w0 := wP) (gf := 34) (lb := #[.pointer (some ⟨Bp, 0, none⟩), .pointer (some ⟨Ba, 0, none⟩), .pointer (some ⟨Bt, 0, none⟩)]) rfl ?eg ITER.out (Below.refl _ _) (by intro b hb; omega) ?hps
      (fun s i A => VIn p k t m wP (w.heap.size + 1) wC.heap.size (wr.heap.size + 1) s i A) (fun _ b => b = w.heap.size + 1 ∨ b = wC.heap.size ∨ b = wr.heap.size + 1)
      (fun c A => c = .ret ∧ manyAt p k t m p.names.length = none ∧ VOut wP (w.heap.size + 1) wC.heap.size (wr.heap.size + 1) A) m
      (fun s i => VIn.own (by omega) (by omega) (by omega)) (fun c => VOut.own (by omega)) ?hlt ?hTP ?h0
      (fun s i args a' A => (∃ Ap c, args = #[.slice Ap (pathL p k t i).length c, .int .i64 (pathE p k t i)]) ∧ VIn p k t m wP (w.heap.size + 1) wC.heap.size (wr.heap.size + 1) s i A ∧ a'.defers = [] ∧ a'.tmps.size = 86 ∧ a'.tmps[2]? = some (.pointer (some ⟨w.heap.size + 1, 0, none⟩)) ∧ a'.tmps[4]? = some (.pointer (some ⟨wC.heap.size + 1, 0, none⟩)) ∧ a'.tmps[7]? = some (.pointer (some ⟨wr.heap.size + 1, 0, none⟩)) ∧ a'.tmps[8]? = args[0]? ∧ a'.tmps[9]? = args[1]?) ?hM ?hassign ?hbody ?hdone ?hstop
    case eg => intro args w; kernel_rfl
    case hps => rintro lo i A args ⟨A', c, rfl, _⟩; rfl
    case hlt => rintro s i A b hi (rfl | rfl | rfl) <;> (have := hi.keep.size; omega)
    case hTP => rintro s i A b hi hT; omega
    case h0 => exact ⟨rfl, KeepP.refl _ _, hBmP.out, HP7.out, rv, hB2P.out⟩
    case hM =>
      intro s i args a' _ A B row h hg hr
      exact ⟨h.1, VIn.own (by omega) (by omega) (by omega) () A B row h.2.1 hg hr, h.2.2⟩
    case hassign =>
      rintro l s i A0 A args hi _ _ _ hI ⟨Ap, c, rfl, hpt⟩
      have HI := Lib.hid hI
      clear hI hpt
      simp only [List.zip_toArray, List.zip_cons_cons, List.zip_nil_right, List.foldl_toArray, List.foldl_cons, List.foldl_nil, List.setIfInBounds_toArray, List.set_cons_succ, List.set_cons_zero]
      gi_wp2_with (rw [Oper.semAt_eq _ _ _ (fun c h => by cases h)]; go_simp)
      exact ⟨⟨⟨_, _, rfl⟩, HI.out, trivial, rfl, rfl, rfl, rfl, rfl, rfl⟩, KeepsOthers.refl _, KeepP.refl _ _⟩
    case hbody =>
      rintro l s i A _ ⟨tmps', defers'⟩ size hi ⟨⟨Ap, c, rfl⟩, hI, hd, hsz, e2, e4, e7, e8, e9⟩ hsize
      dsimp only at hd hsz e2 e4 e7 e8 e9
      subst hd
      obtain ⟨v, hu, htm⟩ := tmps_lit tmps' 86 hsz
      have f (i : Nat) (x : Value) (hi : i < 86) (h : tmps'[i]? = some x) : v i = x := by rw [hu i hi] at h; exact Option.some.inj h
      have g2 := f _ _ (by decide) e2
      have g4 := f _ _ (by decide) e4
      have g7 := f _ _ (by decide) e7
      have g8 := f _ _ (by decide) e8
      have g9 := f _ _ (by decide) e9
      simp only [List.range, List.range.loop, List.map_cons, List.map_nil, g2, g4, g7, g8, g9] at htm
      subst htm
      clear hsz e2 e4 e7 e8 e9 hu f g2 g4 g7 g8 g9
      have hfs := manyAt_facts UP4.out hI.eq
      have hsA := hI.keep.size
      obtain ⟨rb, hrb⟩ := hI.res
      have hmy := hI.many
      have hct := hI.cnt
      have hsl : s.length = p.names.length := hfs.1.trans up3
      have d4 : A.cell? ⟨wC.heap.size + 1, 0, none⟩ = some (.slice (some ⟨wC.heap.size, 0, none⟩) p.names.length p.names.length) := by
        have h1 := hI.keep.block (wC.heap.size + 1) (by omega) (by omega)
        have h2 := HRP.out.block (wC.heap.size + 1) (by omega)
        have h3 := h1.trans (h2.trans K4.out)
        simp [World.cell?, h3]
      have d2 : A.cell? ⟨w.heap.size + 1, 0, none⟩ = some (.bool rb) := by simp [World.cell?, hrb]
      have d2f : A.frozen? ⟨w.heap.size + 1, 0, none⟩ = false := by simp [World.frozen?, hrb]
      have d7 : A.cell? ⟨wr.heap.size + 1, 0, none⟩ = some (.int .i64 (i : Nat)) := by simp [World.cell?, hct]
      have d7f : A.frozen? ⟨wr.heap.size + 1, 0, none⟩ = false := by simp [World.frozen?, hct]
      have dm : A.cell? ⟨wC.heap.size, i, none⟩ = some (.int .i64 (s.getD i 0)) := by rw [← manyC_at s i (by omega)]; simp [World.cell?, hmy]
      have dmf : A.frozen? ⟨wC.heap.size, i, none⟩ = false := by simp [World.frozen?, hmy]
      have hpl := pathL_len p k t i
      have hx : 0 ≤ s.getD i 0 ∧ s.getD i 0 ≤ 256 := by
        have h0 : i < s.length := by omega
        have : s.getD i 0 = s[i] := by simp [h0]
        rw [this]; exact hfs.2 _ (List.getElem_mem h0)
      generalize hX : s.getD i 0 = x at *
      generalize hPL : (pathL p k t i).length = pl at *
      generalize hPE : pathE p k t i = pe at *
      have HX := Lib.hid hX
      have HPL := Lib.hid hPL
      have HPE := Lib.hid hPE
      have HI := Lib.hid hI
      have HRB := Lib.hid hrb
      have HMY := Lib.hid hmy
      have HCT := Lib.hid hct
      have HWR : Hid (IntKind.i64.wrap ((i : Int) + 1) = (i : Int) + 1) := IntWalk.i64_in _ (by omega)
      have hi64 : (i : Int) < 64 := by omega
      clear hX hPL hPE hI hrb hmy hct hfs
      by_cases hgd : pe = 0 ∧ x + pl ≤ 256
      · obtain ⟨rfl, hle'⟩ := hgd
        gi_wp2_with (rw [Oper.semAt_eq _ _ _ (fun c h => by cases h)]; go_simp)
        obtain ⟨A1, hA1⟩ : ∃ A1, A1 = A.setCell ⟨wC.heap.size, i, none⟩ (.int .i64 (x + pl)) := ⟨_, rfl⟩
        obtain ⟨A2, hA2⟩ : ∃ A2, A2 = A1.setCell ⟨wr.heap.size + 1, 0, none⟩ (.int .i64 ((i : Int) + 1)) := ⟨_, rfl⟩
        (try rw [HWR.out])
        rw [← hA1, ← hA2]
        have hk1 : KeepP (fun b => b = w.heap.size + 1 ∨ b = wC.heap.size ∨ b = wr.heap.size + 1) A A1 := by rw [hA1]; exact KeepP.setCell _ _ _ (.inr (.inl rfl))
        have hk2 : KeepP (fun b => b = w.heap.size + 1 ∨ b = wC.heap.size ∨ b = wr.heap.size + 1) A1 A2 := by rw [hA2]; exact KeepP.setCell _ _ _ (.inr (.inr rfl))
        have m1 : A1.heap[wC.heap.size]? = some (.cells (manyC (s.set i (x + pl))) 3 (0, 0)) := by rw [hA1, heap_setCell_same _ _ _ _ _ _ _ HMY.out, manyC_set]
        have c1 : A1.heap[wr.heap.size + 1]? = some (.cells #[.int .i64 (i : Nat)] 3 (0, 0)) := by rw [hA1, Below.heap_setCell _ _ _ _ (by show _ ≠ wC.heap.size; omega)]; exact HCT.out
        have r1 : A1.heap[w.heap.size + 1]? = some (.cells #[.bool rb] 4 (0, 0)) := by rw [hA1, Below.heap_setCell _ _ _ _ (by show _ ≠ wC.heap.size; omega)]; exact HRB.out
        refine ⟨?_, hk1.trans hk2, s.set i (x + pl), ⟨?_, HI.out.keep.trans (hk1.trans hk2), ?_, ?_, rb, ?_⟩, fun b hb => .inl hb⟩
        · rw [hA2, hA1]; exact (KeepsOthers.setCell _ _ _).trans (KeepsOthers.setCell _ _ _)
        · have := manyAt_good HI.out.eq (i := i) (by rw [HX.out, HPL.out, HPE.out]; exact ⟨rfl, hle'⟩)
          rw [HX.out, HPL.out] at this; exact this
        · rw [hA2, Below.heap_setCell _ _ _ _ (by show _ ≠ wr.heap.size + 1; omega)]; exact m1
        · rw [hA2, heap_setCell_same _ _ _ _ _ _ _ c1]; simp
        · rw [hA2, Below.heap_setCell _ _ _ _ (by show _ ≠ wr.heap.size + 1; omega)]; exact r1
      · have hno : Hid (manyAt p k t m p.names.length = none) := manyAt_none (i := i + 1) (manyAt_bad HI.out.eq (by rw [HX.out, HPL.out, HPE.out]; exact hgd)) _ hi
        have FIN2 : Hid (KeepsOthers A ((A.setCell ⟨wC.heap.size, i, none⟩ (.int .i64 (x + pl))).setCell ⟨w.heap.size + 1, 0, none⟩ (.bool false)) ∧ Code.ret = Code.ret ∧ manyAt p k t m p.names.length = none ∧ VOut wP (w.heap.size + 1) wC.heap.size (wr.heap.size + 1) ((A.setCell ⟨wC.heap.size, i, none⟩ (.int .i64 (x + pl))).setCell ⟨w.heap.size + 1, 0, none⟩ (.bool false))) := by
          refine ⟨(KeepsOthers.setCell _ _ _).trans (KeepsOthers.setCell _ _ _), rfl, hno.out, HI.out.keep.trans ((KeepP.setCell _ _ _ (.inr (.inl rfl))).trans (KeepP.setCell _ _ _ (.inl rfl))), ?_⟩
          have r1 : (A.setCell ⟨wC.heap.size, i, none⟩ (.int .i64 (x + pl))).heap[w.heap.size + 1]? = some (.cells #[.bool rb] 4 (0, 0)) := by rw [Below.heap_setCell _ _ _ _ (by show _ ≠ wC.heap.size; omega)]; exact HRB.out
          rw [heap_setCell_same _ _ _ _ _ _ _ r1]; simp
        by_cases hpe : pe = 0
        · subst hpe
          have hgt : ¬ x + pl ≤ 256 := fun h => hgd ⟨rfl, h⟩
          clear hgd
          gi_wp2_with (rw [Oper.semAt_eq _ _ _ (fun c h => by cases h)]; go_simp)
          exact ⟨FIN2.out.1, rfl, FIN2.out.2.2.1, FIN2.out.2.2.2⟩
        · clear hgd
          gi_wp2_with (rw [Oper.semAt_eq _ _ _ (fun c h => by cases h)]; go_simp)
          exact ⟨FIN2.out.1, rfl, FIN2.out.2.2.1, FIN2.out.2.2.2⟩
    case hdone =>
      rintro D s A hD hI hdA
      have hka := hI.keep
      have hsA := hka.size
      have b1 : A.cell? ⟨wr.heap.size, 1, none⟩ = some (.int .i64 ac.len) := by
        have h1 := hka.block wr.heap.size (by omega) (by omega)
        have h2 := hbP.block wr.heap.size (by omega)
        have h3 := hbB.block wr.heap.size (by omega)
        have h4 := h1.trans (h2.trans (h3.trans HA0.out))
        simp [World.cell?, h4]
      have HI := Lib.hid hI
      have HKA := Lib.hid hka
      clear hI hka
      go_wp2_with fail
      refine ⟨⟨rfl, D :: rs, k + 1, t + ac.len, s, ?_, rfl, rfl, rfl, rfl, rfl, rfl, rfl, rfl⟩, ?_⟩
      · have hup := upTo_good HL.out.up (m' := s) (by rw [gA.out]; exact ⟨H1.out, h2, h3, H4.out⟩) HI.out.eq
        rw [gA.out] at hup
        have hk2 : KeepP (fun b => b = w.heap.size + 1 ∨ b = wC.heap.size) W0 A := by
          have hk0 := HL.out.keep
          have hk1 := HKA.out
          have hk3 := HRP.out
          refine ⟨hk1.os.trans (hk3.os.trans hk0.os), hk1.tape.trans (hk3.tape.trans hk0.tape), hk1.output.trans (hk3.output.trans hk0.output), by have := hk3.size; omega, fun b hb hn => ?_⟩
          have := hk3.size
          exact (hk1.block b (by omega) (by omega)).trans ((hk3.block b (by omega)).trans (hk0.block b hb hn))
        refine ⟨hup, hk, hk2, HI.out.many, HI.out.res, ?_, ?_⟩
        · refine List.nodup_cons.2 ⟨fun h => ?_, HL.out.nodup⟩
          have := (Array.getElem?_eq_some_iff.1 (HMK.out D h).2).1
          have := HRP.out.size
          omega
        · intro r hr
          rcases List.mem_cons.1 hr with rfl | hr
          · exact ⟨by have := HRP.out.size; omega, hdA⟩
          · have h1 := HMK.out r hr
            have h2 := (Array.getElem?_eq_some_iff.1 h1.2).1
            have h3 := (HL.out.marks r hr).1
            have h4 := HRP.out.size
            exact ⟨h3, (HKA.out.block r (by omega) (by omega)).trans ((HRP.out.block r h2).trans h1.2)⟩
      · simp [intOf]; omega
    case hstop =>
      rintro D c A hD ⟨rfl, hno, ho⟩ hdA
      have hv : validB p = false := valid_no (j := k + 1) (upTo_many HL.out.up hno) hk
      go_wp2_with fail
      rw [hv]
      have hka := ho.keep
      have hsA := hka.size
      refine valid_end (rs := D :: rs) rfl ?_ (by omega) ?_ ?_ ?_
      · simp [World.cell?, ho.res]
      · have hbw : Below w.heap.size w wP := HBR.out.trans (HRP.out.mono HBR.out.size)
        exact ⟨hka.os.trans hbw.os, hka.tape.trans hbw.tape, hka.output.trans hbw.output, by omega, fun b hb => (hka.block b (by omega) (by omega)).trans (hbw.block b hb)⟩
      · refine List.nodup_cons.2 ⟨fun h => ?_, HL.out.nodup⟩
        have := (Array.getElem?_eq_some_iff.1 (HMK.out D h).2).1
        have := HRP.out.size
        omega
      · intro r hr
        rcases List.mem_cons.1 hr with rfl | hr
        · exact ⟨by omega, hdA⟩
        · have h1 := HMK.out r hr
          have h2 := (Array.getElem?_eq_some_iff.1 h1.2).1
          have h3 := (HL.out.marks r hr).1
          have h4 := HRP.out.size
          exact ⟨h1.1, (hka.block r (by omega) (by omega)).trans ((HRP.out.block r h2).trans h1.2)⟩
end Go.Proofs.YtolmehmglgmanaaGreatDoor
