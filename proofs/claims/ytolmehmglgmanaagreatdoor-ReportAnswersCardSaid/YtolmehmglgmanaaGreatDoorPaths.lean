/- The paths of an act, one after the other: the iterator of program's paths. -/
import Derived.Test.YtolmehmglgmanaaGreatDoorForm
import Derived.Test.YtolmehmglgmanaaGreatDoorTPath2
import Derived.Test.YtolmehmglgmanaaGreatDoorRegionIn
namespace Go.Proofs.YtolmehmglgmanaaGreatDoor
open Go.RowKit

def Ac.none : Ac := ⟨ByteArray.empty, 0, []⟩
def Mv.none : Mv := ⟨V3.zero, 0, 0, 0⟩
/-- The path of aircraft i in act k that begins at a time, and its error. -/
def pathL (p : Pr) (k : Nat) (start : Int) (i : Nat) : List Sg :=
  tpL ((formL p k).getD i V3.zero) (((p.acts.getD k Ac.none).moves.getD i Mv.none).to) ((p.acts.getD k Ac.none).moves.getD i Mv.none).wait ((p.acts.getD k Ac.none).moves.getD i Mv.none).flight ((p.acts.getD k Ac.none).moves.getD i Mv.none).rise start (p.acts.getD k Ac.none).len
def pathE (p : Pr) (k : Nat) (start : Int) (i : Nat) : Int :=
  tpE ((formL p k).getD i V3.zero) (((p.acts.getD k Ac.none).moves.getD i Mv.none).to) ((p.acts.getD k Ac.none).moves.getD i Mv.none).wait ((p.acts.getD k Ac.none).moves.getD i Mv.none).flight ((p.acts.getD k Ac.none).moves.getD i Mv.none).rise start (p.acts.getD k Ac.none).len
def PathItem (lo : Nat) (p : Pr) (k : Nat) (start : Int) (i : Nat) (W : World) (args : Array Value) : Prop :=
  ∃ A c, args = #[.slice A (pathL p k start i).length c, .int .i64 (pathE p k start i)] ∧ PathAt W lo W.heap.size (.slice A (pathL p k start i).length c) (pathL p k start i)
def PathW (lo : Nat) (L : List Sg) : Value → World → Prop := fun v w => ∃ A c, v = .slice A L.length c ∧ PathAt w lo w.heap.size (.slice A L.length c) L
def TupW (lo : Nat) (L : List Sg) (E : Int) : Value → World → Prop := fun v w => ∃ u, v = .tuple #[u, .int .i64 E] ∧ PathW lo L u w
theorem pathW_stable (lo : Nat) (L : List Sg) : Stable (PathW lo L) := fun _ _ _ hb ⟨A, c, e, h⟩ => ⟨A, c, e, h.up hb⟩
theorem tupW_stable (lo : Nat) (L : List Sg) (E : Int) : Stable (TupW lo L E) := fun _ _ _ hb ⟨u, e, h⟩ => ⟨u, e, pathW_stable lo L _ _ _ hb h⟩
theorem ok_ext0 {P : Program} {ops : Array Oper} {n : Nat} {C : World → Prop} {R : Nat → Value → World → Prop} {a0 : Act} {Q : Exit → Act → World → Prop} {i : Nat} {o : Oper} (t lo : Nat) (L : List Sg) (E : Int) (ho : o.op = .extract (.tmp t) 0) (hx : preOf ops n R a0 (.tmp t) = TupW lo L E) (hr : R i = PathW lo L) : OpOk P ops n C R a0 Q i o :=
  ok_value fun a w hC hpre => by
    have := hpre (.tmp t) (by rw [ho]; simp [Op.operands])
    rw [hx] at this
    obtain ⟨u, e, h⟩ := this
    exact ⟨u, by simp [execOp, ho, e, Instr.extract], by rw [hr]; exact h⟩
theorem ok_ext1 {P : Program} {ops : Array Oper} {n : Nat} {C : World → Prop} {R : Nat → Value → World → Prop} {a0 : Act} {Q : Exit → Act → World → Prop} {i : Nat} {o : Oper} (t lo : Nat) (L : List Sg) (E : Int) (ho : o.op = .extract (.tmp t) 1) (hx : preOf ops n R a0 (.tmp t) = TupW lo L E) (hr : R i = is (.int .i64 E)) : OpOk P ops n C R a0 Q i o :=
  ok_value fun a w hC hpre => by
    have := hpre (.tmp t) (by rw [ho]; simp [Op.operands])
    rw [hx] at this
    obtain ⟨u, e, h⟩ := this
    exact ⟨.int .i64 E, by simp [execOp, ho, e, Instr.extract], by rw [hr]; rfl⟩
theorem mv_size (w : World) : (sizeOf 97).run Tryz.prog w = .ok 6 w := by kernel_rfl
set_option maxRecDepth 100000 in
set_option maxHeartbeats 4000000 in
theorem paths_iter (w0 : World) (Bp Ba Bt : Nat) (vn vh va : Value) (p : Pr) (k : Nat) (start : Int) (T : Nat → Prop) (hTw : ∀ b, T b → b < w0.heap.size) (lo : Nat) (hlo : lo ≤ w0.heap.size) (hT0 : ∀ b, b < lo → T b) (hTp : T Bp) (hTa : T Ba) (hTt : T Bt)
    (hcp : w0.heap[Bp]? = some (.cells #[vn, vh, va] 26 (0, 0))) (hca : w0.cell? ⟨Ba, 0, none⟩ = some (.int .i64 (k : Nat))) (hct : w0.cell? ⟨Bt, 0, none⟩ = some (.int .i64 start))
    (hp : ProgAt w0 lo vn vh va p) (hk : k < p.acts.length) (hh : 0 < p.homes.length) (hm : p.homes.length ≤ 1000000) (hb : p.acts.length ≤ 1000000) (hmv : ∀ a ∈ p.acts, a.moves.length ≤ 1000000)
    (hlen : (p.acts.getD k Ac.none).moves.length = (formL p k).length) :
    Iter 34 #[.pointer (some ⟨Bp, 0, none⟩), .pointer (some ⟨Ba, 0, none⟩), .pointer (some ⟨Bt, 0, none⟩)] (formL p k).length (fun lo => PathItem lo p k start) T w0 := by
  intro l σ J Pv Jx W s0 hbW hJg hlt hTP hY hJ0
  refine callsIn_wide.2 ?_
  have hpW := hp.below (hbW.mono hlo)
  obtain ⟨cs, ha, hacts⟩ := hpW.acts
  obtain ⟨ba, oa, ca, ea, _, hba, hcac⟩ := ha.pos (by omega)
  obtain ⟨vm, hvm, hcm⟩ := hacts.at_ hk
  have a0 := hcac _ _ (hcm 0 _ rfl)
  have a1 := hcac _ _ (hcm 1 _ rfl)
  have a2 := hcac _ _ (hcm 2 _ rfl)
  have gA : p.acts.getD k Ac.none = p.acts[k] := by simp [hk]
  obtain ⟨An, cn, rfl⟩ := hpW.names.slice
  obtain ⟨Ah, ch, rfl⟩ := hpW.homes.slice
  obtain ⟨Am, cm, rfl⟩ := hvm.slice
  cases ea
  rw [← Nat.add_assoc] at a1 a2
  simp only [Nat.add_zero] at a0
  have hBpl := hTw _ hTp
  have hbp : W.heap[Bp]? = some (.cells #[.slice An p.names.length cn, .slice Ah p.homes.length ch, .slice (some ⟨ba, oa, none⟩) p.acts.length ca] 26 (0, 0)) := (hbW.block _ hBpl).trans hcp
  have q0 : W.cell? ⟨Bp, 0, none⟩ = some (.slice An p.names.length cn) := by simp [World.cell?, hbp]
  have q1 : W.cell? ⟨Bp, 1, none⟩ = some (.slice Ah p.homes.length ch) := by simp [World.cell?, hbp]
  have q2 : W.cell? ⟨Bp, 2, none⟩ = some (.slice (some ⟨ba, oa, none⟩) p.acts.length ca) := by simp [World.cell?, hbp]
  have q3 : W.cell? ⟨Ba, 0, none⟩ = some (.int .i64 (k : Nat)) := (hbW.cell (p := ⟨Ba, 0, none⟩) (hTw _ hTa)).trans hca
  have q4 : W.cell? ⟨Bt, 0, none⟩ = some (.int .i64 start) := (hbW.cell (p := ⟨Bt, 0, none⟩) (hTw _ hTt)).trans hct
  have hN : (formL p k).length ≤ 1000000 := by rw [← hlen, gA]; exact hmv _ (List.getElem_mem hk)
  have HGA := Lib.hid gA
  have HL := Lib.hid hlen
  have HJg := Lib.hid hJg
  have Hlt := Lib.hid hlt
  have HTP := Lib.hid hTP
  have HY := Lib.hid hY
  have HTw := Lib.hid hTw
  have HT0 := Lib.hid hT0
  have HMV := Lib.hid hmv
  clear hlen hJg hlt hTP hY hTw hT0 hcac hcm hcp hca hct gA hbp hmv
  show Calls Tryz.prog 34 #[.func (.yield l) #[] #[], .pointer (some ⟨Bp, 0, none⟩), .pointer (some ⟨Ba, 0, none⟩), .pointer (some ⟨Bt, 0, none⟩)] W _
  go_enter Tryz.func34, Tryz.ntmps34
  have hWz := hbW.size
  have z1 : Bp < W.heap.size := by omega
  have z2 : Ba < W.heap.size := by have := HTw.out _ hTa; omega
  have z3 : Bt < W.heap.size := by have := HTw.out _ hTt; omega
  have z4 : ba < W.heap.size := by omega
  go_wp2_with fail
  refine (formation_any p k _ _ _ _ ?_ hh hm (by omega) hb HMV.out).mono ?_
  · exact (hpW.more (Nat.le_trans hlo hWz)).below ((Below.refl _ _).alloc (Nat.le_refl _) _) |>.more (by simp)
  rintro e wF ⟨vf, rfl, hvf, hbF⟩
  obtain ⟨Af, cf, rfl⟩ := hvf.slice
  have hzF := hbF.size
  simp only [World.size_alloc] at hzF
  have hbF0 : Below W.heap.size W wF := ((Below.refl _ _).alloc (Nat.le_refl _) _).trans (hbF.mono (by simp))
  have hJF : J s0 0 wF := HJg.out s0 0 W wF hJ0 ⟨hbF0.os, hbF0.tape, hbF0.output, hbF0.size, fun i hi _ => hbF0.block i hi⟩
  have HKS0 : Hid (∀ b, b < wF.heap.size → (T b ∨ W.heap.size ≤ b) → ¬ Pv s0 b) := fun b hb hor hpv => by
    rcases hor with h | h
    · exact HTP.out s0 0 W b hJ0 h hpv
    · have := Hlt.out s0 0 W b hJ0 hpv; omega
  go_wp2_with fail
  go_loopw [6, 7, 17] (fun _ _ q wr => ∃ (i : Nat) (s : σ), i ≤ (formL p k).length ∧ q = .int .i64 (i : Nat) ∧ J s i wr ∧ Hid (∀ b, b < wF.heap.size → (T b ∨ W.heap.size ≤ b) → wr.heap[b]? = wF.heap[b]? ∧ ¬ Pv s b) ∧ wF.heap.size ≤ wr.heap.size) (fun _ _ q _ => (formL p k).length - (intOf q).toNat)
  case atStart => exact ⟨0, s0, Nat.zero_le _, rfl, hJF, fun b hb hor => ⟨rfl, HKS0.out b hb hor⟩, Nat.le_refl _⟩
  case round =>
    obtain ⟨i, s, hi, rfl, hJ, HK, hwz⟩ := hrel
    by_cases hlt : i < (formL p k).length
    · obtain ⟨bf, of, cf', ef, hbf1, hbf2, hcf⟩ := hvf.pos (by omega)
      have hcfw : ∀ j u, (vecs (formL p k))[j]? = some u → wr.cell? ⟨bf, of + j, none⟩ = some u := fun j u hu => (World.cell?_of_block (a := ⟨bf, of + j, none⟩) (HK.out bf hbf2 (.inr (by simp at hbf1; omega))).1).trans (hcf j u hu)
      have v0 := hcfw _ _ (vecs_at _ i hlt 0 _ rfl)
      have v1 := hcfw _ _ (vecs_at _ i hlt 1 _ rfl)
      have v2 := hcfw _ _ (vecs_at _ i hlt 2 _ rfl)
      rw [← Nat.add_assoc] at v1 v2
      simp only [Nat.add_zero] at v0
      have gF : (formL p k)[i] = (formL p k).getD i V3.zero := by simp [hlt]
      rw [gF] at v0 v1 v2
      have HLM : Hid (p.acts[k].moves.length = (formL p k).length) := by have := HL.out; rw [HGA.out] at this; exact this
      have hiM : i < p.acts[k].moves.length := by have := HLM.out; omega
      obtain ⟨bm, om, cm', em, hbm1, hbm2, hcm⟩ := Sees.pos hvm (by omega)
      have KW : Hid (∀ b o, T b → wr.cell? ⟨b, o, none⟩ = W.cell? ⟨b, o, none⟩) := fun b o hb => by
        have hb' := HTw.out b hb
        have h1 := (HK.out b (by omega) (.inl hb)).1
        exact (World.cell?_of_block (a := ⟨b, o, none⟩) h1).trans (hbF0.cell (p := ⟨b, o, none⟩) (show b < _ by omega))
      have KA : Hid (∀ o, wr.cell? ⟨W.heap.size, o, none⟩ = (W.alloc (.cells #[.string p.acts[k].name, .int .i64 p.acts[k].len, .slice Am p.acts[k].moves.length cm] 50)).cell? ⟨W.heap.size, o, none⟩) := fun o => by
        have h1 := (HK.out W.heap.size (by omega) (.inr (Nat.le_refl _))).1
        exact (World.cell?_of_block (a := ⟨W.heap.size, o, none⟩) h1).trans (hbF.cell (p := ⟨W.heap.size, o, none⟩) (show W.heap.size < _ by simp))
      have gM : p.acts[k].moves[i] = p.acts[k].moves.getD i Mv.none := by simp [hiM]
      obtain ⟨L, hLd⟩ : ∃ L, L = pathL p k start i := ⟨_, rfl⟩
      obtain ⟨E, hEd⟩ : ∃ E, E = pathE p k start i := ⟨_, rfl⟩
      have HLd := Lib.hid hLd
      have HEd := Lib.hid hEd
      have hL2 : Hid (L = tpL ((formL p k).getD i V3.zero) (p.acts[k].moves.getD i Mv.none).to (p.acts[k].moves.getD i Mv.none).wait (p.acts[k].moves.getD i Mv.none).flight (p.acts[k].moves.getD i Mv.none).rise start p.acts[k].len) := by unfold Hid; rw [hLd, pathL, HGA.out]
      have hE2 : Hid (E = tpE ((formL p k).getD i V3.zero) (p.acts[k].moves.getD i Mv.none).to (p.acts[k].moves.getD i Mv.none).wait (p.acts[k].moves.getD i Mv.none).flight (p.acts[k].moves.getD i Mv.none).rise start p.acts[k].len) := by unfold Hid; rw [hEd, pathE, HGA.out]
      have MC0 : Hid (∀ j u, [Value.int .i64 (p.acts[k].moves.getD i Mv.none).to.x, .int .i64 (p.acts[k].moves.getD i Mv.none).to.y, .int .i64 (p.acts[k].moves.getD i Mv.none).to.z, .int .i64 (p.acts[k].moves.getD i Mv.none).wait, .int .i64 (p.acts[k].moves.getD i Mv.none).flight, .int .i64 (p.acts[k].moves.getD i Mv.none).rise][j]? = some u → wr.cell? ⟨bm, om + i * 6 + j, none⟩ = some u) := fun j u hu => by
        rw [KW.out bm _ (HT0.out bm hbm2), Nat.add_assoc]
        refine hcm _ u (mvs_at _ i hiM j u ?_)
        rw [gM]; exact hu
      cases em
      clear hcm hcf hcfw hLd hEd gF gM hvm hacts hpW ha hp hvf
      generalize hMM : p.acts[k].moves = M at *
      generalize hLn : p.acts[k].len = Ln at *
      generalize hNm : p.acts[k].name = Nm at *
      generalize hFV : (formL p k).getD i V3.zero = fv at *
      generalize hMV : M.getD i Mv.none = mv at *
      have HFV := Lib.hid hFV
      have HMV2 := Lib.hid hMV
      have HMM := Lib.hid hMM
      have HLn := Lib.hid hLn
      have HNm := Lib.hid hNm
      clear hFV hMV hMM hLn hNm
      have HB : Hid (bm < w0.heap.size) := Nat.lt_of_lt_of_le hbm2 hlo
      obtain ⟨WR, hWR⟩ : ∃ WR, WR = wr.alloc (.cells #[.int .i64 fv.x, .int .i64 fv.y, .int .i64 fv.z] 95) := ⟨_, rfl⟩
      have hzR : WR.heap.size = wr.heap.size + 1 := by rw [hWR]; simp
      have old : Hid (∀ wa, Below WR.heap.size WR wa → ∀ b o, b < wr.heap.size → wa.cell? ⟨b, o, none⟩ = wr.cell? ⟨b, o, none⟩) := fun wa hC b o hb => by
        refine (hC.cell (p := ⟨b, o, none⟩) (show b < _ by omega)).trans ?_
        rw [hWR]; exact World.cell?_alloc_lt wr _ ⟨b, o, none⟩ hb
      have VC : Hid (∀ wa, Below WR.heap.size WR wa → ∀ j u, [Value.int .i64 fv.x, .int .i64 fv.y, .int .i64 fv.z][j]? = some u → wa.cell? ⟨wr.heap.size, 0 + j, none⟩ = some u) := fun wa hC j u hu => by
        refine (hC.cell (p := ⟨wr.heap.size, 0 + j, none⟩) (show wr.heap.size < _ by omega)).trans ?_
        rw [hWR]; simp [hu]
      have AC1 : Hid (∀ wa, Below WR.heap.size WR wa → wa.cell? ⟨W.heap.size, 1, none⟩ = some (.int .i64 Ln)) := fun wa hC => by rw [old.out wa hC _ _ (by omega), KA.out]; simp
      have AC2 : Hid (∀ wa, Below WR.heap.size WR wa → wa.cell? ⟨W.heap.size, 2, none⟩ = some (.slice (some ⟨bm, om, none⟩) M.length cm)) := fun wa hC => by rw [old.out wa hC _ _ (by omega), KA.out]; simp
      have MC : Hid (∀ wa, Below WR.heap.size WR wa → ∀ j u, [Value.int .i64 mv.to.x, .int .i64 mv.to.y, .int .i64 mv.to.z, .int .i64 mv.wait, .int .i64 mv.flight, .int .i64 mv.rise][j]? = some u → wa.cell? ⟨bm, om + i * 6 + j, none⟩ = some u) := fun wa hC j u hu => by
        rw [old.out wa hC _ _ (by have := HB.out; omega)]; exact MC0.out j u hu
      have TC : Hid (∀ wa, Below WR.heap.size WR wa → wa.cell? ⟨Bt, 0, none⟩ = some (.int .i64 start)) := fun wa hC => by
        have := HTw.out _ hTt
        rw [old.out wa hC _ _ (by omega), KW.out _ _ hTt]; exact q4
      have CALL : Hid (∀ wa, Below WR.heap.size WR wa → Calls Tryz.prog 36 #[.agg #[.int .i64 fv.x, .int .i64 fv.y, .int .i64 fv.z], .agg #[.int .i64 mv.to.x, .int .i64 mv.to.y, .int .i64 mv.to.z, .int .i64 mv.wait, .int .i64 mv.flight, .int .i64 mv.rise], .int .i64 start, .int .i64 Ln] wa fun e w' => ∃ v, e = .returned v ∧ Below WR.heap.size WR w' ∧ Below wa.heap.size wa w' ∧ TupW wr.heap.size L E v w') := fun wa hC => by
        refine (tPath_any _ _ _ _ _ _ _ _ _ _ _ wa).mono ?_
        rintro e w' ⟨A, c, he, hpa, hbb⟩
        rw [hL2.out, hE2.out]
        have := hC.size
        exact ⟨_, he, hC.trans (hbb.mono hC.size), hbb, _, rfl, A, c, rfl, hpa.more (by omega) (Nat.le_refl _)⟩
      have HzR := Lib.hid hzR
      have HWR := Lib.hid hWR
      clear hzR hWR
      go_wp2
      rw [← HWR.out]
      --REGION
      refine region_listIn 13 38 (fun w' => Below WR.heap.size WR w') [is (.func (.yield l) #[] #[]), is (.agg #[.int .i64 fv.x, .int .i64 fv.y, .int .i64 fv.z]), is (.pointer (some ⟨W.heap.size, 2, none⟩)), is (.slice (some ⟨bm, om, none⟩) M.length cm), is (.int .i64 (i : Nat)), is (.pointer (some ⟨bm, om + (i) * 6, none⟩)), is (.agg #[.int .i64 mv.to.x, .int .i64 mv.to.y, .int .i64 mv.to.z, .int .i64 mv.wait, .int .i64 mv.flight, .int .i64 mv.rise]), is (.int .i64 start), is (.pointer (some ⟨W.heap.size, 1, none⟩)), is (.int .i64 Ln), TupW wr.heap.size L E, PathW wr.heap.size L, is (.int .i64 E)] (by kernel_rfl) (by kernel_rfl) rfl (by decide) ?hst ?h0 ?hop ?htail
      case hst =>
        simp only [List.mem_cons, List.mem_nil_iff, or_false, forall_eq_or_imp, forall_eq]
        exact ⟨is_stable _, is_stable _, is_stable _, is_stable _, is_stable _, is_stable _, is_stable _, is_stable _, is_stable _, is_stable _, tupW_stable _ _ _, pathW_stable _ _, is_stable _⟩
      case h0 => exact (Below.refl _ _).drew
      case hop =>
        refine ⟨?_, ?_, ?_, ?_, ?_, ?_, ?_, ?_, ?_, ?_, ?_, ?_, ?_, trivial⟩
        · exact ok_move (.tmp 0) (is (.func (.yield l) #[] #[])) rfl (by kernel_rfl) (fun _ _ _ h => h)
        · exact ok_load 95 (.tmp 7) (.pointer (some ⟨wr.heap.size, 0, none⟩)) (.agg #[.int .i64 fv.x, .int .i64 fv.y, .int .i64 fv.z]) rfl (by kernel_rfl) (fun wa hC => run_loadN [.int .i64 fv.x, .int .i64 fv.y, .int .i64 fv.z] wa (Tryz.isAgg95 wa) (by kernel_rfl) (VC.out wa hC)) rfl
        · exact ok_field 50 (.tmp 5) 2 (.pointer (some ⟨W.heap.size, 0, none⟩)) (.pointer (some ⟨W.heap.size, 2, none⟩)) rfl (by kernel_rfl) (fun w => by kernel_rfl) rfl
        · exact ok_load 48 (.tmp 24) (.pointer (some ⟨W.heap.size, 2, none⟩)) (.slice (some ⟨bm, om, none⟩) M.length cm) rfl (by kernel_rfl) (fun wa hC => run_load1 wa (Tryz.isAgg48 wa) (AC2.out wa hC)) rfl
        · exact ok_move (.tmp 6) (is (.int .i64 (i : Nat))) rfl (by kernel_rfl) (fun _ _ _ h => h)
        · exact ok_index 48 97 25 26 (bm) (om) (M.length) (cm) 6 (((i : Nat) : Int)) (i) rfl (by kernel_rfl) (by kernel_rfl) Tryz.underlying48 mv_size (rfl) (by omega) rfl
        · exact ok_load 97 (.tmp 27) (.pointer (some ⟨bm, om + i * 6, none⟩)) (.agg #[.int .i64 mv.to.x, .int .i64 mv.to.y, .int .i64 mv.to.z, .int .i64 mv.wait, .int .i64 mv.flight, .int .i64 mv.rise]) rfl (by kernel_rfl) (fun wa hC => run_loadN [.int .i64 mv.to.x, .int .i64 mv.to.y, .int .i64 mv.to.z, .int .i64 mv.wait, .int .i64 mv.flight, .int .i64 mv.rise] wa (Tryz.isAgg97 wa) (by kernel_rfl) (MC.out wa hC)) rfl
        · exact ok_load 3 (.tmp 3) (.pointer (some ⟨Bt, 0, none⟩)) (.int .i64 start) rfl (by kernel_rfl) (fun wa hC => run_load1 wa (Tryz.isAgg3 wa) (TC.out wa hC)) rfl
        · exact ok_field 50 (.tmp 5) 1 (.pointer (some ⟨W.heap.size, 0, none⟩)) (.pointer (some ⟨W.heap.size, 1, none⟩)) rfl (by kernel_rfl) (fun w => by kernel_rfl) rfl
        · exact ok_load 3 (.tmp 30) (.pointer (some ⟨W.heap.size, 1, none⟩)) (.int .i64 Ln) rfl (by kernel_rfl) (fun wa hC => run_load1 wa (Tryz.isAgg3 wa) (AC1.out wa hC)) rfl
        · exact ok_callF 36 [.tmp 23, .tmp 28, .tmp 29, .tmp 31] _ [.agg #[.int .i64 fv.x, .int .i64 fv.y, .int .i64 fv.z], .agg #[.int .i64 mv.to.x, .int .i64 mv.to.y, .int .i64 mv.to.z, .int .i64 mv.wait, .int .i64 mv.flight, .int .i64 mv.rise], .int .i64 start, .int .i64 Ln] rfl (fun _ _ => by kernel_rfl) ⟨by kernel_rfl, by kernel_rfl, by kernel_rfl, by kernel_rfl, trivial⟩ (CALL.out)
        · exact ok_ext0 32 wr.heap.size L E rfl (by kernel_rfl) rfl
        · exact ok_ext1 32 wr.heap.size L E rfl (by kernel_rfl) rfl
      --END
      case htail =>
        intro τ w2 hC hR
        have r0 : τ 0 = .func (.yield l) #[] #[] := hR 0 (by decide)
        have r12 : τ 12 = .int .i64 E := hR 12 (by decide)
        obtain ⟨A, c, ep, hpth⟩ : PathW wr.heap.size L (τ 11) w2 := hR 11 (by decide)
        have hz2 := hC.size
        have hzW := HzR.out
        have hbb : Below wr.heap.size wr w2 := by
          have h1 : Below wr.heap.size wr WR := by rw [HWR.out]; exact (Below.refl _ _).alloc (Nat.le_refl _) _
          exact h1.trans (hC.mono (by omega))
        have hJ2 : J s i w2 := HJg.out s i wr w2 hJ ⟨hbb.os, hbb.tape, hbb.output, hbb.size, fun i hi _ => hbb.block i hi⟩
        have hitem : PathItem wr.heap.size p k start i w2 #[τ 11, τ 12] := ⟨A, c, by rw [ep, r12, HLd.out, HEd.out], by rw [← HLd.out]; exact hpth⟩
        simp only [putAll, List.getElem?_toArray, List.getElem?_cons_succ, List.getElem?_cons_zero, Option.bind_some, Act.put, List.setIfInBounds_toArray, List.set_cons_succ, List.set_cons_zero, List.drop_succ_cons, List.drop_zero]
        refine wpListIn_yield rfl (.tmp 22) #[.tmp 33, .tmp 34] _ l #[τ 11, τ 12] rfl (show τ 0 = _ from r0) (by simp [Act.eval]) (HY.out s i wr w2 _ (by omega) (by omega) hJ hbb hJ2 hitem) ?_
        intro e w3 hE
        rcases hE with ⟨rfl, s', hJ3, hkp, hpv⟩ | ⟨rfl, hJx⟩
        · refine ⟨_, rfl, wpListIn_val rfl (.bool false) (by simp [execOp, go_sem, Act.eval, Act.put]) ?_⟩
          have hK3 : Hid (∀ b, b < wF.heap.size → (T b ∨ W.heap.size ≤ b) → w3.heap[b]? = wF.heap[b]? ∧ ¬ Pv s' b) := fun b hb hor => by
            have hk := HK.out b hb hor
            refine ⟨(hkp.block b (by omega) hk.2).trans ((hbb.block b (by omega)).trans hk.1), fun hp' => ?_⟩
            rcases hpv b hp' with h | h
            · exact hk.2 h
            · omega
          have hz3 : wF.heap.size ≤ w3.heap.size := Nat.le_trans hwz (Nat.le_trans hbb.size hkp.size)
          clear hJ hJ2 hitem hR hC hkp hpv HK VC AC1 AC2 MC TC CALL KW KA old
          simp only [Act.put, List.setIfInBounds_toArray, List.set_cons_succ, List.set_cons_zero, wpListIn]
          go_wp2
          go_roundw
          case rel => exact ⟨i + 1, s', by omega, by go_num, hJ3, hK3, hz3⟩
          case measure => simp [intOf]; omega
        · refine ⟨_, rfl, wpListIn_val rfl (.bool true) (by simp [execOp, go_sem, Act.eval, Act.put]) ?_⟩
          clear hJ hJ2 hitem hR hC HK VC AC1 AC2 MC TC CALL KW KA old
          simp only [Act.put, List.setIfInBounds_toArray, List.set_cons_succ, List.set_cons_zero, wpListIn]
          go_wp2
          refine bodyPost_ret (results_none rfl _ _ _) rfl ?_
          exact ⟨⟨_, rfl⟩, .inr hJx⟩
    · have hkN : i = (formL p k).length := by omega
      have HKN := Lib.hid hkN
      clear hkN
      go_wp2
      go_end0
      exact ⟨⟨_, rfl⟩, .inl ⟨s, by rw [← HKN.out]; exact hJ⟩⟩
end Go.Proofs.YtolmehmglgmanaaGreatDoor
