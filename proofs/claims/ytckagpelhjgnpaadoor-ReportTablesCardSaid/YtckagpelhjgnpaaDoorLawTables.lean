/- The law ReportTables: the walk. -/
import Derived.Test.YtckagpelhjgnpaaDoorKnown
namespace Go.Proofs.YtckagpelhjgnpaaDoor
open Go.RowKit

def goB : ByteArray := ⟨#[32, 103, 111]⟩
def holdB : ByteArray := ⟨#[32, 104, 111, 108, 100]⟩
def stopB : ByteArray := ⟨#[32, 115, 116, 111, 112]⟩
theorem lineT0 (step : Int) (k : Nat) : ita ((k : Int) * step) ++ goB = lineT step k 0 := by
  unfold lineT; rw [ByteArray.append_assoc]; rfl
theorem lineT1 (step : Int) (k : Nat) : ita ((k : Int) * step) ++ holdB = lineT step k 1 := by
  unfold lineT; rw [ByteArray.append_assoc]; rfl
theorem lineT2 (step : Int) (k : Nat) : ita ((k : Int) * step) ++ stopB = lineT step k 2 := by
  unfold lineT; rw [ByteArray.append_assoc]; rfl
def TabRes (w1 : World) (l : List Int) (step : Int) (A : Option Addr) (n c : Nat) (ev : Int) : Prop :=
  if okT l step = true then n = l.length ∧ ev = 0 ∧ Sees w1 0 w1.heap.size 1 (.slice A n c) l.length (strs (tabTo step l l.length)) else A = none ∧ n = 0 ∧ c = 0 ∧ ev = 2
theorem tab_res {w w1 : World} {l : List Int} {step : Int} {e : Ending} (h : TablePost w l step e w1) : Below w.heap.size w w1 ∧ ∃ A n c ev, e = .returned (.tuple #[.slice A n c, .int .i64 ev]) ∧ TabRes w1 l step A n c ev := by
  obtain ⟨hb, h⟩ := h
  refine ⟨hb, ?_⟩
  cases hok : okT l step with
  | true =>
    rw [hok] at h
    obtain ⟨v, rfl, hs⟩ := h
    obtain ⟨A, c, rfl⟩ := hs.slice
    exact ⟨A, _, c, 0, rfl, by unfold TabRes; rw [hok]; exact ⟨rfl, rfl, hs.more (Nat.zero_le _) (Nat.le_refl _)⟩⟩
  | false =>
    rw [hok] at h
    exact ⟨none, 0, 0, 2, h, by unfold TabRes; rw [hok]; exact ⟨rfl, rfl, rfl, rfl⟩⟩
structure TLoop (w1 : World) (l : List Int) (step : Int) (g : Bool) (v : Value) (k : Nat) (wr : World) : Prop where
  le : k ≤ l.length
  below : Below w1.heap.size w1 wr
  good : g = true → wr.ownsRow w1.heap.size 9 1 v k (strs (tabTo step l k)) ∧ ∀ j, j < k → 0 ≤ l.getD j 0 ∧ l.getD j 0 ≤ 2
  bad : g = false → okT l step = false
set_option maxRecDepth 100000 in
set_option maxHeartbeats 2000000 in
theorem tables_any (l : List Int) (step : Int) (vl : Value) (w : World) (hl : Sees w 0 w.heap.size 1 vl l.length (ints l)) (ht : Tab w) (hm : l.length ≤ maxLen) :
    Calls Tryd.prog 3 #[vl, .int .i64 step] w fun e w' => e = .returned (.bool true) ∧ Below w.heap.size w w' := by
  unfold maxLen at hm
  obtain ⟨A0, c0, rfl⟩ := hl.slice
  have HL := Lib.hid hl
  clear hl
  by_cases hbig : 102 < l.length
  · go_enter Tryd.func3, Tryd.ntmps3
    go_wp2_with fail
    refine (known_any _ ht).mono ?_
    rintro e w1 ⟨rfl, hb1⟩
    go_wp2_with fail
    go_ret
    exact ⟨rfl, hb1⟩
  have hle : l.length ≤ 102 := by omega
  clear hbig
  obtain ⟨i0, hi0, hz0, hz1, hz2⟩ := info_parts str_info
  by_cases hg : 1 ≤ step ∧ step ≤ 3600000 ∧ l.length ≤ 100
  case neg =>
    have HN := Lib.hid (okT_step hg)
    have hcase : (¬ 1 ≤ step) ∨ (1 ≤ step ∧ decide (step ≤ 3600000) = false) ∨ (1 ≤ step ∧ step ≤ 3600000 ∧ decide (l.length ≤ 100) = false) := by simp only [decide_eq_false_iff_not]; omega
    clear hg
    rcases hcase with h1 | ⟨h1, h2⟩ | ⟨h1, h2, h3⟩
    all_goals
      go_enter Tryd.func3, Tryd.ntmps3
      go_wp2_with fail
      refine (table_any l step _ 0 w.heap.size _ HL.out (Nat.le_refl _) ht (by omega)).mono ?_
      intro e w1 hpost
      obtain ⟨hb1, A, n, c, ev, rfl, HC⟩ := tab_res hpost
      clear hpost
      unfold TabRes at HC
      rw [HN.out] at HC
      obtain ⟨rfl, rfl, rfl, rfl⟩ := HC
      go_wp2_with fail
      go_loopw [7, 8, 9] (fun g v i wr => g = .bool false ∧ i = .int .i64 0 ∧ wr = w1) (fun _ _ _ _ => 0)
      case atStart => first | exact ⟨rfl, rfl, rfl⟩ | exact ⟨by simp at h3; simp; omega, rfl, rfl⟩
      case round =>
        obtain ⟨rfl, rfl, rfl⟩ := hrel
        go_wp2_with fail
        all_goals
          refine (known_any _ (ht.up hb1)).mono ?_
          rintro e w2 ⟨rfl, hb2⟩
          go_wp2_with fail
          go_ret
          exact ⟨rfl, hb1.trans (hb2.mono hb1.size)⟩
  case pos =>
  obtain ⟨h1, h2, h3⟩ := hg
  have h3b : decide (l.length ≤ 100) = true := decide_eq_true h3
  go_enter Tryd.func3, Tryd.ntmps3
  go_wp2_with fail
  refine (table_any l step _ 0 w.heap.size _ HL.out (Nat.le_refl _) ht (by omega)).mono ?_
  intro e w1 hpost
  obtain ⟨hb1, A, n, c, ev, rfl, HC⟩ := tab_res hpost
  clear hpost
  go_wp2_with fail
  go_loopw [7, 8, 9] (fun g v i wr => ∃ (gb : Bool) (k : Nat), g = .bool gb ∧ i = .int .i64 k ∧ TLoop w1 l step gb v k wr) (fun _ _ i _ => l.length - (intOf i).toNat)
  case atStart => exact ⟨true, 0, by simp; omega, rfl, Nat.zero_le _, Below.refl _ _, fun _ => ⟨⟨rfl, .inl ⟨rfl, rfl⟩⟩, fun j hj => by omega⟩, fun h => by cases h⟩
  case round =>
    obtain ⟨gb, k, rfl, rfl, HT⟩ := hrel
    have hkl := HT.le
    have hB := hb1.trans (HT.below.mono hb1.size)
    have htr := ht.up hB
    cases gb with
    | false =>
      have HO := HT.bad rfl
      unfold TabRes at HC
      rw [HO] at HC
      obtain ⟨rfl, rfl, rfl, rfl⟩ := HC
      have HB := Lib.hid hB
      clear HO hB HT
      go_wp2_with fail
      all_goals
        refine (known_any _ htr).mono ?_
        rintro e w2 ⟨rfl, hb2⟩
        go_wp2_with fail
        go_ret
        exact ⟨rfl, HB.out.trans (hb2.mono HB.out.size)⟩
    | true =>
      obtain ⟨hown, hj⟩ := HT.good rfl
      have HJ := Lib.hid hj
      have HO := Lib.hid hown
      have HBE := Lib.hid HT.below
      clear hj hown HT
      by_cases hlt : k < l.length
      case neg =>
        obtain rfl : k = l.length := by omega
        have hok := okT_yes h1 h2 h3 HJ.out
        unfold TabRes at HC
        rw [hok] at HC
        obtain ⟨rfl, rfl, hs⟩ := HC
        have HS := Lib.hid (hs.up HBE.out)
        have HB := Lib.hid hB
        obtain ⟨Aw, cw, rfl⟩ := (Sees.own HO.out).slice
        clear hok hs hB
        go_wp2_with fail
        refine (same_any (tabTo step l l.length) (tabTo step l l.length) _ _ 0 wr.heap.size w1.heap.size wr.heap.size _ (by rw [tabTo_len]; exact HS.out) (by rw [tabTo_len]; exact Sees.own HO.out) (by rw [tabTo_len]; omega) (by rw [tabTo_len]; omega)).mono ?_
        rintro e w2 ⟨he, n2, hw⟩
        rw [same_refl] at he
        subst he
        have hb2 : Below wr.heap.size wr w2 := by rw [hw]; exact below_drawn (Below.refl _ _) _
        have htr2 := htr.up hb2
        clear hw
        go_wp2_with fail
        refine (known_any _ htr2).mono ?_
        rintro e w3 ⟨rfl, hb3⟩
        go_wp2_with fail
        go_ret
        exact ⟨rfl, (HB.out.trans (hb2.mono HB.out.size)).trans (hb3.mono (Nat.le_trans HB.out.size hb2.size))⟩
      case pos =>
        obtain ⟨ba, oa, ca', ea, _, hb2, hca⟩ := HL.out.pos (by omega)
        cases ea
        have g1 : wr.cell? ⟨ba, oa + k, none⟩ = some (.int .i64 (l.getD k 0)) := (hB.cell (p := ⟨ba, oa + k, none⟩) (show ba < _ by omega)).trans (hca k _ (by rw [ints_at l k hlt]; simp [hlt]))
        have hbad := fun h => okT_at (step := step) hlt h
        have hsucc := tabTo_succ step l k
        clear hca
        generalize hx : l.getD k 0 = d at *
        have HX := Lib.hid hx
        have HS := Lib.hid hsucc
        have HBAD := Lib.hid hbad
        clear hx hsucc hbad
        have hm1 : 0 ≤ (k : Int) * step := Int.mul_nonneg (by omega) (by omega)
        have hm2 : (k : Int) * step ≤ 100 * 3600000 := Int.mul_le_mul (by omega) h2 (by omega) (by omega)
        have hd4 : d = 0 ∨ d = 1 ∨ d = 2 ∨ ((d == 0) = false ∧ (d == 1) = false ∧ (d == 2) = false ∧ ¬ (0 ≤ d ∧ d ≤ 2)) := by
          simp only [beq_eq_false_iff_ne]; omega
        rcases hd4 with hd | hd | hd | ⟨hd0, hd1, hd2, hd3⟩
        · subst hd
          go_wp2_with fail
          refine (decimal_any _ _ (by omega) (by omega)).mono ?_
          rintro e w2 ⟨rfl, hb2⟩
          have ho2 := HO.out.kept (row := none) (w' := w2.alloc (.cells #[.string (ita ((k : Int) * step) ++ goB)] 9)) ⟨hb2.os, hb2.tape, hb2.output, by have := hb2.size; simp; omega, fun i hi _ => (Below.heap_alloc _ _ _ (by have := hb2.size; omega)).trans (hb2.block i hi)⟩ (by cases u8.ownBlock with | none => exact .inl rfl | some k => exact .inr (by simp))
          have HO2 := Lib.hid ho2
          have h2s := hb2.size
          have h1s := HBE.out.size
          clear ho2
          have HLN := Lib.hid (lineT0 step k)
          have hzz : (ita ((k : Int) * step)).size ≤ 21 := ita_size _ (by omega) (by omega)
          generalize hp : (k : Int) * step = pr at *
          have HPR := Lib.hid hp
          clear hp
          go_wp2_with (at_builtin; refine wpList_append_sees rfl (.tmp 46) (.tmp 52) 24 rfl w1.heap.size 9 i0 _ 1 16 Tryd.underlying24 hi0 hz0 hz1 hz2 rfl (by decide) _ _ _ rfl HO2.out _ _ _ _ rfl (Sees.new1 w2 [.string (ita pr ++ goB)] 1 _ w2.heap.size (w2.heap.size + 1) 1 _ rfl rfl (Nat.le_refl _) (by omega)) ?c1 ?c2 ?c3 ?c4 ?_)
          case c1 => intro u hu; simp only [List.mem_singleton] at hu; subst hu; rfl
          case c2 => unfold maxLen; omega
          case c3 => omega
          case c4 => simp; omega
          intro v' w3 hown3 hg3 _
          have hb3 : Below w1.heap.size w1 w3 := ((HBE.out.trans (hb2.mono h1s)).alloc (by omega) _).grown hg3 (by simp; omega) (fun g hg => (HO2.out.lt g hg).1)
          have H3 := Lib.hid hown3
          clear hown3 hg3
          go_wp2_with fail
          go_roundw
          case rel =>
            refine ⟨true, k + 1, rfl, by go_num, by omega, hb3, fun _ => ⟨?_, fun j hj => ?_⟩, fun h => by cases h⟩
            · rw [HS.out, ← strs_append, ← HLN.out]
              exact H3.out
            · by_cases hjk : j = k
              · rw [hjk, HX.out]; omega
              · exact HJ.out j (by omega)
          case measure => simp [intOf]; omega
        · subst hd
          go_wp2_with fail
          refine (decimal_any _ _ (by omega) (by omega)).mono ?_
          rintro e w2 ⟨rfl, hb2⟩
          have ho2 := HO.out.kept (row := none) (w' := w2.alloc (.cells #[.string (ita ((k : Int) * step) ++ holdB)] 9)) ⟨hb2.os, hb2.tape, hb2.output, by have := hb2.size; simp; omega, fun i hi _ => (Below.heap_alloc _ _ _ (by have := hb2.size; omega)).trans (hb2.block i hi)⟩ (by cases u8.ownBlock with | none => exact .inl rfl | some k => exact .inr (by simp))
          have HO2 := Lib.hid ho2
          have h2s := hb2.size
          have h1s := HBE.out.size
          clear ho2
          have HLN := Lib.hid (lineT1 step k)
          have hzz : (ita ((k : Int) * step)).size ≤ 21 := ita_size _ (by omega) (by omega)
          generalize hp : (k : Int) * step = pr at *
          have HPR := Lib.hid hp
          clear hp
          go_wp2_with (at_builtin; refine wpList_append_sees rfl (.tmp 56) (.tmp 62) 24 rfl w1.heap.size 9 i0 _ 1 16 Tryd.underlying24 hi0 hz0 hz1 hz2 rfl (by decide) _ _ _ rfl HO2.out _ _ _ _ rfl (Sees.new1 w2 [.string (ita pr ++ holdB)] 1 _ w2.heap.size (w2.heap.size + 1) 1 _ rfl rfl (Nat.le_refl _) (by omega)) ?c1 ?c2 ?c3 ?c4 ?_)
          case c1 => intro u hu; simp only [List.mem_singleton] at hu; subst hu; rfl
          case c2 => unfold maxLen; omega
          case c3 => omega
          case c4 => simp; omega
          intro v' w3 hown3 hg3 _
          have hb3 : Below w1.heap.size w1 w3 := ((HBE.out.trans (hb2.mono h1s)).alloc (by omega) _).grown hg3 (by simp; omega) (fun g hg => (HO2.out.lt g hg).1)
          have H3 := Lib.hid hown3
          clear hown3 hg3
          go_wp2_with fail
          go_roundw
          case rel =>
            refine ⟨true, k + 1, rfl, by go_num, by omega, hb3, fun _ => ⟨?_, fun j hj => ?_⟩, fun h => by cases h⟩
            · rw [HS.out, ← strs_append, ← HLN.out]
              exact H3.out
            · by_cases hjk : j = k
              · rw [hjk, HX.out]; omega
              · exact HJ.out j (by omega)
          case measure => simp [intOf]; omega
        · subst hd
          go_wp2_with fail
          refine (decimal_any _ _ (by omega) (by omega)).mono ?_
          rintro e w2 ⟨rfl, hb2⟩
          have ho2 := HO.out.kept (row := none) (w' := w2.alloc (.cells #[.string (ita ((k : Int) * step) ++ stopB)] 9)) ⟨hb2.os, hb2.tape, hb2.output, by have := hb2.size; simp; omega, fun i hi _ => (Below.heap_alloc _ _ _ (by have := hb2.size; omega)).trans (hb2.block i hi)⟩ (by cases u8.ownBlock with | none => exact .inl rfl | some k => exact .inr (by simp))
          have HO2 := Lib.hid ho2
          have h2s := hb2.size
          have h1s := HBE.out.size
          clear ho2
          have HLN := Lib.hid (lineT2 step k)
          have hzz : (ita ((k : Int) * step)).size ≤ 21 := ita_size _ (by omega) (by omega)
          generalize hp : (k : Int) * step = pr at *
          have HPR := Lib.hid hp
          clear hp
          go_wp2_with (at_builtin; refine wpList_append_sees rfl (.tmp 66) (.tmp 72) 24 rfl w1.heap.size 9 i0 _ 1 16 Tryd.underlying24 hi0 hz0 hz1 hz2 rfl (by decide) _ _ _ rfl HO2.out _ _ _ _ rfl (Sees.new1 w2 [.string (ita pr ++ stopB)] 1 _ w2.heap.size (w2.heap.size + 1) 1 _ rfl rfl (Nat.le_refl _) (by omega)) ?c1 ?c2 ?c3 ?c4 ?_)
          case c1 => intro u hu; simp only [List.mem_singleton] at hu; subst hu; rfl
          case c2 => unfold maxLen; omega
          case c3 => omega
          case c4 => simp; omega
          intro v' w3 hown3 hg3 _
          have hb3 : Below w1.heap.size w1 w3 := ((HBE.out.trans (hb2.mono h1s)).alloc (by omega) _).grown hg3 (by simp; omega) (fun g hg => (HO2.out.lt g hg).1)
          have H3 := Lib.hid hown3
          clear hown3 hg3
          go_wp2_with fail
          go_roundw
          case rel =>
            refine ⟨true, k + 1, rfl, by go_num, by omega, hb3, fun _ => ⟨?_, fun j hj => ?_⟩, fun h => by cases h⟩
            · rw [HS.out, ← strs_append, ← HLN.out]
              exact H3.out
            · by_cases hjk : j = k
              · rw [hjk, HX.out]; omega
              · exact HJ.out j (by omega)
          case measure => simp [intOf]; omega
        · have HBB := Lib.hid (HBAD.out hd3)
          clear hd3
          go_wp2_with fail
          go_roundw
          case rel => exact ⟨false, k + 1, rfl, by go_num, by omega, HBE.out, (fun h => by cases h), fun _ => HBB.out⟩
          case measure => simp [intOf]; omega
end Go.Proofs.YtckagpelhjgnpaaDoor
