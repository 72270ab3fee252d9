/- The chapter's example: the walk of Example. -/
import Derived.Test.YtolmehmglgmanaaGreatDoorAnswer
import Derived.Test.YtolmehmglgmanaaGreatDoorRegionS
namespace Go.Proofs.YtolmehmglgmanaaGreatDoor
open Go.RowKit

def exAc (k : Nat) : Ac := ⟨⟨#[117, 112]⟩, 2000, [⟨⟨0, 0, 500 + 500 * (k : Int)⟩, 0, 1600, 0⟩]⟩
def exActs (k : Nat) : List Ac := (List.range k).map exAc
def exP : Pr := ⟨[⟨#[97]⟩], [V3.zero], exActs 2⟩
theorem act_info : (Tryz.prog.info? 50).map (fun i => (i.zero, i.size, i.bytes)) = some (some (.agg #[.string ByteArray.empty, .int .i64 0, .slice none 0 0]), 3, 48) := by kernel_rfl
theorem Acts.snoc {w : World} {D : Nat → Prop} {a : Ac} {cs : List Value} : ∀ {ss : List Ac} {cs' : List Value}, Acts w D ss cs' → ActAt w D a cs → Acts w D (ss ++ [a]) (cs' ++ cs)
  | [], cs', h, ha => by
    have : cs' = [] := h
    subst this
    exact ⟨cs, [], by simp, ha, rfl⟩
  | s :: ss, _, ⟨a1, b1, e, h1, h2⟩, ha => ⟨a1, b1 ++ cs, by rw [e, List.append_assoc], h1, Acts.snoc h2 ha⟩
theorem exActs_succ (k : Nat) : exActs (k + 1) = exActs k ++ [exAc k] := by simp [exActs, List.range_succ]
def z3 : Array Value := #[.slice none 0 0, .slice none 0 0, .slice none 0 0]
def zS : Array Value := #[.int .i64 0, .int .i64 0, .int .i64 0, .int .i64 0, .int .i64 0, .int .i64 0, .slice none 0 0, .slice none 0 0, .int .i64 0, .int .i64 0, .int .i64 0, .int .i64 0, .int .i64 0, .int .i64 0, .int .i64 0, .slice none 0 0]
def zB : Array Value := #[.slice none 0 0, .int .i64 0, .slice none 0 0, .slice none 0 0, .slice none 0 0, .int .i64 0, .int .i64 0, .int .i64 0]
structure ExBlks (n : Nat) (wr : World) : Prop where
  r0 : wr.heap[n]? = some (.cells z3 26 (0, 0))
  r1 : wr.heap[n + 1]? = some (.cells zS 62 (0, 0))
  r2 : wr.heap[n + 1 + 1]? = some (.cells zB 69 (0, 0))
  n3 : wr.heap[n + 1 + 1 + 1]? = some (.cells #[.string ⟨#[97]⟩] 9 (0, 0))
  n4 : wr.heap[n + 1 + 1 + 1 + 1]? = some (.cells #[.int .i64 0, .int .i64 0, .int .i64 0] 95 (0, 0))
theorem ExBlks.keep {n : Nat} {w w' : World} (h : ExBlks n w) (hk : ∀ b, b < n + 5 → w'.heap[b]? = w.heap[b]?) : ExBlks n w' :=
  ⟨(hk _ (by omega)).trans h.r0, (hk _ (by omega)).trans h.r1, (hk _ (by omega)).trans h.r2, (hk _ (by omega)).trans h.n3, (hk _ (by omega)).trans h.n4⟩
structure ExLoop (w : World) (va : Value) (k : Nat) (wr : World) : Prop where
  le : k ≤ 2
  below : Below w.heap.size w wr
  blks : ExBlks w.heap.size wr
  prog : wr.heap[w.heap.size + 1 + 1 + 1 + 1 + 1]? = some (.cells #[.slice (some ⟨w.heap.size + 1 + 1 + 1, 0, none⟩) 1 1, .slice (some ⟨w.heap.size + 1 + 1 + 1 + 1, 0, none⟩) 1 1, va] 26 (0, 0))
  acts : ∃ cs D, wr.ownsRow (w.heap.size + 6) 50 3 va k cs ∧ Acts wr D (exActs k) cs ∧ ∀ b, D b → w.heap.size + 6 ≤ b ∧ b < wr.heap.size ∧ va.ownBlock ≠ some b
theorem ExLoop.start (w : World) : ExLoop w (.slice none 0 0) 0 ((((((w.alloc (.cells z3 26)).alloc (.cells zS 62)).alloc (.cells zB 69)).alloc (.cells #[.string ⟨#[97]⟩] 9)).alloc (.cells #[.int .i64 0, .int .i64 0, .int .i64 0] 95)).alloc (.cells #[.slice (some ⟨w.heap.size + 1 + 1 + 1, 0, none⟩) 1 1, .slice (some ⟨w.heap.size + 1 + 1 + 1 + 1, 0, none⟩) 1 1, .slice none 0 0] 26)) := by
  refine ⟨by omega, ?_, ⟨?_, ?_, ?_, ?_, ?_⟩, ?_, [], fun _ => False, ⟨rfl, .inl ⟨rfl, rfl⟩⟩, rfl, fun b h => h.elim⟩
  · exact ((((((Below.refl _ _).alloc (Nat.le_refl _) _).alloc (by simp) _).alloc (by simp <;> omega) _).alloc (by simp <;> omega) _).alloc (by simp <;> omega) _).alloc (by simp <;> omega) _
  · rw [Below.heap_alloc _ _ _ (by simp <;> omega), Below.heap_alloc _ _ _ (by simp <;> omega), Below.heap_alloc _ _ _ (by simp <;> omega), Below.heap_alloc _ _ _ (by simp <;> omega), Below.heap_alloc _ _ _ (by simp)]; exact heap_new _ _ _ (by simp)
  · rw [Below.heap_alloc _ _ _ (by simp <;> omega), Below.heap_alloc _ _ _ (by simp <;> omega), Below.heap_alloc _ _ _ (by simp <;> omega), Below.heap_alloc _ _ _ (by simp)]; exact heap_new _ _ _ (by simp)
  · rw [Below.heap_alloc _ _ _ (by simp <;> omega), Below.heap_alloc _ _ _ (by simp <;> omega), Below.heap_alloc _ _ _ (by simp)]; exact heap_new _ _ _ (by simp)
  · rw [Below.heap_alloc _ _ _ (by simp <;> omega), Below.heap_alloc _ _ _ (by simp)]; exact heap_new _ _ _ (by simp)
  · rw [Below.heap_alloc _ _ _ (by simp)]; exact heap_new _ _ _ (by simp)
  · exact heap_new _ _ _ (by simp)
theorem ExLoop.step {w wr w3 : World} {va v' : Value} {k : Nat} {cs : List Value} {D : Nat → Prop} (h : ExLoop w va k wr) (hk : k < 2) (ha : Acts wr D (exActs k) cs) (hD : ∀ b, D b → w.heap.size + 6 ≤ b ∧ b < wr.heap.size ∧ va.ownBlock ≠ some b) (ho : wr.ownsRow (w.heap.size + 6) 50 3 va k cs)
    (ho3 : w3.ownsRow (w.heap.size + 6) 50 3 v' (k + 1) (cs ++ [.string ⟨#[117, 112]⟩, .int .i64 2000, .slice (some ⟨wr.heap.size, 0, none⟩) 1 1]))
    (hg : ((wr.alloc (.cells #[.int .i64 0, .int .i64 0, .int .i64 (500 + 500 * (k : Int)), .int .i64 0, .int .i64 1600, .int .i64 0] 97)).alloc (.cells #[.string ⟨#[117, 112]⟩, .int .i64 2000, .slice (some ⟨wr.heap.size, 0, none⟩) 1 1] 50)).grownBy w3 va.ownBlock)
    (hv : v'.ownBlock = va.ownBlock ∨ v'.ownBlock = some (wr.heap.size + 2)) : ExLoop w v' (k + 1) (w3.setCell ⟨w.heap.size + 1 + 1 + 1 + 1 + 1, 2, none⟩ v') := by
  have hrow : ∀ g, va.ownBlock = some g → w.heap.size + 6 ≤ g ∧ g < wr.heap.size := fun g e => ho.lt g e
  have hps : w.heap.size + 1 + 1 + 1 + 1 + 1 < wr.heap.size := (Array.getElem?_eq_some_iff.1 h.prog).1
  have h23 : ∀ b, b < wr.heap.size → va.ownBlock ≠ some b → w3.heap[b]? = wr.heap[b]? := fun b hb hn => by
    rw [hg.block b (by simp; omega) (fun e => hn e.symm), Below.heap_alloc _ _ _ (by simp; omega), Below.heap_alloc _ _ _ hb]
  have h34 : ∀ b, b ≠ w.heap.size + 1 + 1 + 1 + 1 + 1 → (w3.setCell ⟨w.heap.size + 1 + 1 + 1 + 1 + 1, 2, none⟩ v').heap[b]? = w3.heap[b]? := fun b hb => Below.heap_setCell _ _ _ _ hb
  have hsz : wr.heap.size + 2 ≤ w3.heap.size := by have := hg.size; simpa using this
  have hM : w3.heap[wr.heap.size]? = some (.cells #[.int .i64 0, .int .i64 0, .int .i64 (500 + 500 * (k : Int)), .int .i64 0, .int .i64 1600, .int .i64 0] 97 (0, 0)) := by
    rw [hg.block _ (by simp; omega) (fun e => by have := (hrow _ e.symm).2; omega), Below.heap_alloc _ _ _ (by simp)]; exact heap_new _ _ _ rfl
  refine ⟨by omega, ?_, h.blks.keep fun b hb => ?_, ?_, cs ++ [.string ⟨#[117, 112]⟩, .int .i64 2000, .slice (some ⟨wr.heap.size, 0, none⟩) 1 1], fun b => D b ∨ b = wr.heap.size, ?_, ?_, ?_⟩
  · refine (((h.below.alloc h.below.size _).alloc (by simp; omega) _).grown hg (by simp; omega) (fun g e => by have := (hrow g e).1; omega)).setCell (by simp; omega) _
  · rw [h34 b (by omega), h23 b (by omega) (fun e => by have := (hrow _ e).1; omega)]
  · have := heap_setCell_same w3 (w.heap.size + 1 + 1 + 1 + 1 + 1) 2 _ _ _ v' ((h23 _ hps (fun e => by have := (hrow _ e).1; omega)).trans h.prog)
    exact this
  · refine ho3.kept (grown_set (World.grownBy.refl w3 _) 2 v') ?_
    cases he : v'.ownBlock with
    | none => exact .inl rfl
    | some g => exact .inr (fun e => by
        have := (ho3.lt g he).1
        cases e
        omega)
  · rw [exActs_succ]
    refine Acts.snoc ((ha.keep fun b o hd => ?_).more fun b hd => .inl hd) ⟨_, rfl, rfl, .inr ⟨wr.heap.size, 0, 1, rfl, .inr rfl, fun j u hu => ?_⟩⟩
    · obtain ⟨d1, d2, d3⟩ := hD b hd
      exact World.cell?_of_block ((h34 b (by omega)).trans (h23 b d2 d3))
    · have e1 : (w3.setCell ⟨w.heap.size + 1 + 1 + 1 + 1 + 1, 2, none⟩ v').heap[wr.heap.size]? = _ := (h34 wr.heap.size (by omega)).trans hM
      rw [Nat.zero_add, World.cell?, e1]
      simpa [mvs, exAc, Mv.cells] using hu
  · intro b hb
    have hs4 : (w3.setCell ⟨w.heap.size + 1 + 1 + 1 + 1 + 1, 2, none⟩ v').heap.size = w3.heap.size := by simp [World.setCell]
    rw [hs4]
    have hne : va.ownBlock ≠ some b := by
      rcases hb with hb | rfl
      · exact (hD b hb).2.2
      · exact fun e => by have := (hrow _ e).2; omega
    have hb2 : w.heap.size + 6 ≤ b ∧ b ≤ wr.heap.size := by
      rcases hb with hb | rfl
      · have := hD b hb; omega
      · omega
    refine ⟨hb2.1, by omega, ?_⟩
    rcases hv with hv | hv
    · rw [hv]; exact hne
    · rw [hv]; intro e; cases e; omega
def exS (b : Nat) : Array Value := #[.int .i64 2000, .int .i64 4000, .int .i64 100, .int .i64 100, .int .i64 1, .int .i64 2, .slice (some ⟨b, 0, none⟩) 4 4, .slice none 0 0, .int .i64 0, .int .i64 1500, .int .i64 0, .int .i64 0, .int .i64 0, .int .i64 1, .int .i64 0, .slice none 0 0]
def exB (b1 b2 b3 b4 : Nat) : Array Value := #[.slice (some ⟨b1, 0, none⟩) 1 1, .int .i64 2000, .slice (some ⟨b2, 0, none⟩) 1 1, .slice (some ⟨b3, 0, none⟩) 1 1, .slice (some ⟨b4, 0, none⟩) 1 1, .int .i64 1000, .int .i64 1500, .int .i64 0]
def ExPost (w : World) (e : Ending) (w' : World) : Prop := Below w.heap.size w w' ∧ ∃ vn vh va b b1 b2 b3 b4, e = .returned (.tuple #[.agg #[vn, vh, va], .agg (exS b), .agg (exB b1 b2 b3 b4)]) ∧ ProgAt w' w'.heap.size vn vh va exP
def ExRes (n : Nat) (b : Nat) : Prop := b = n ∨ b = n + 1 ∨ b = n + 1 + 1
structure ExC (n : Nat) (W w' : World) : Prop where
  keep : KeepP (ExRes n) W w'
  r0 : ∃ old, w'.heap[n]? = some (.cells old 26 (0, 0)) ∧ old.size = 3
  r1 : ∃ old, w'.heap[n + 1]? = some (.cells old 62 (0, 0)) ∧ old.size = 16
  r2 : ∃ old, w'.heap[n + 1 + 1]? = some (.cells old 69 (0, 0)) ∧ old.size = 8
theorem row_set {w : World} {B B' k : Nat} {t : TypeId} {cs : Array Value} (hk : B = B' → cs.size = k) (h : ∃ old, w.heap[B]? = some (.cells old t (0, 0)) ∧ old.size = k) : ∃ old, (w.setRow B' cs).heap[B]? = some (.cells old t (0, 0)) ∧ old.size = k := by
  obtain ⟨old, h1, h2⟩ := h
  by_cases e : B = B'
  · subst e; exact ⟨cs, setRow_heap w B old cs t (0, 0) h1, hk rfl⟩
  · exact ⟨old, (setRow_other w B' B cs e).trans h1, h2⟩
theorem ExC.set {n : Nat} {W w' : World} (h : ExC n W w') (B : Nat) (cs : Array Value) (hB : ExRes n B) (h0 : n = B → cs.size = 3) (h1 : n + 1 = B → cs.size = 16) (h2 : n + 1 + 1 = B → cs.size = 8) : ExC n W (w'.setRow B cs) :=
  ⟨⟨h.keep.os, h.keep.tape, h.keep.output, by simpa using h.keep.size, fun b hb hn => (setRow_other _ _ _ _ (fun e => hn (by rw [e]; exact hB))).trans (h.keep.block b hb hn)⟩, row_set h0 h.r0, row_set h1 h.r1, row_set h2 h.r2⟩
theorem load_row {W : World} {g : Nat} {t : TypeId} {cs : Array Value} (hg : W.heap[g]? = some (.cells cs t (0, 0))) (ha : (isAgg t).run Tryz.prog W = .ok true W) (hn : (sizeOf t).run Tryz.prog W = .ok cs.size W) : (loadVar t ⟨g, 0, none⟩).run Tryz.prog W = .ok (.agg cs) W := by
  have := run_loadN (P := Tryz.prog) (T := t) (b := g) (o := 0) cs.toList W ha (by simpa using hn) (fun j u hu => by rw [Nat.zero_add, World.cell?, hg]; simpa using hu)
  simpa [Instr.loadAt, Instr.sureAddr] using this
theorem ex_results {W : World} {n : Nat} {c0 c1 c2 : Array Value} {tmps : Array Value} (t0 : tmps[0]?.getD undef = .pointer (some ⟨n, 0, none⟩)) (t1 : tmps[1]?.getD undef = .pointer (some ⟨n + 1, 0, none⟩)) (t2 : tmps[2]?.getD undef = .pointer (some ⟨n + 1 + 1, 0, none⟩))
    (h0 : W.heap[n]? = some (.cells c0 26 (0, 0))) (h1 : W.heap[n + 1]? = some (.cells c1 62 (0, 0))) (h2 : W.heap[n + 1 + 1]? = some (.cells c2 69 (0, 0))) (s0 : c0.size = 3) (s1 : c1.size = 16) (s2 : c2.size = 8) :
    (results Tryz.f14 tmps).run Tryz.prog W = .ok (.tuple #[.agg c0, .agg c1, .agg c2]) W := by
  have l0 := load_row h0 (by kernel_rfl) (by rw [s0]; kernel_rfl)
  have l1 := load_row h1 (by kernel_rfl) (by rw [s1]; kernel_rfl)
  have l2 := load_row h2 (by kernel_rfl) (by rw [s2]; kernel_rfl)
  simp only [results, Tryz.results14]
  simp [asAddr, t0, t1, t2, l0, l1, l2]
set_option maxRecDepth 100000 in
set_option maxHeartbeats 2000000 in
theorem example_any (w : World) : Calls Tryz.prog 14 #[] w (ExPost w) := by
  obtain ⟨i0, hi0, hz0, hz1, hz2⟩ := info_parts act_info
  go_enter Tryz.func14, Tryz.ntmps14
  go_wp2_with fail
  go_loopw [4] (fun i wr => ∃ k va, i = .int .i64 (k : Nat) ∧ ExLoop w va k wr) (fun i _ => 2 - (intOf i).toNat)
  case atStart => exact ⟨0, _, rfl, ExLoop.start w⟩
  case round =>
    obtain ⟨k, va, rfl, HL⟩ := hrel
    have hk2 := HL.le
    have hp := HL.prog
    have c2 : wr.cell? ⟨w.heap.size + 1 + 1 + 1 + 1 + 1, 2, none⟩ = some va := by rw [World.cell?, hp]; rfl
    have hps : w.heap.size + 1 + 1 + 1 + 1 + 1 < wr.heap.size := (Array.getElem?_eq_some_iff.1 hp).1
    have HP := Lib.hid hp
    clear hp
    by_cases hlt : k < 2
    · obtain ⟨cs, D, ho, hac, hD⟩ := HL.acts
      have HC := Lib.hid (And.intro ho (And.intro hac hD))
      have HO := Lib.hid ((ho.alloc (.cells #[.int .i64 0, .int .i64 0, .int .i64 (500 + 500 * (k : Int)), .int .i64 0, .int .i64 1600, .int .i64 0] 97)).alloc (.cells #[.string ⟨#[117, 112]⟩, .int .i64 2000, .slice (some ⟨wr.heap.size, 0, none⟩) 1 1] 50))
      have HN := Lib.hid (show va.ownBlock ≠ some (w.heap.size + 1 + 1 + 1 + 1 + 1) from fun e => by have := (ho.lt _ e).1; omega)
      clear ho hac hD
      go_wp2_with (at_builtin; refine wpList_append_sees rfl (.tmp 17) (.tmp 25) 24 rfl (w.heap.size + 6) 50 i0 _ 3 48 Tryz.underlying24 hi0 hz0 hz1 hz2 rfl (by decide) _ _ _ rfl HO.out _ _ _ _ rfl (Sees.new1 (wr.alloc (.cells #[.int .i64 0, .int .i64 0, .int .i64 (500 + 500 * (k : Int)), .int .i64 0, .int .i64 1600, .int .i64 0] 97)) [.string ⟨#[117, 112]⟩, .int .i64 2000, .slice (some ⟨wr.heap.size, 0, none⟩) 1 1] 1 _ (wr.heap.size + 1) (wr.heap.size + 2) 3 _ rfl (by simp) (by simp) (by simp)) ?c1 ?c2 ?c3 ?c4 ?_)
      case c1 => simp [Value.oneCell']
      case c2 => unfold maxLen; omega
      case c3 => omega
      case c4 => simp; omega
      intro v' w3 hown3 hg3 hv3
      have p3 : w3.heap[w.heap.size + 1 + 1 + 1 + 1 + 1]? = some (.cells #[.slice (some ⟨w.heap.size + 1 + 1 + 1, 0, none⟩) 1 1, .slice (some ⟨w.heap.size + 1 + 1 + 1 + 1, 0, none⟩) 1 1, va] 26 (0, 0)) := by
        rw [hg3.block _ (by simp; omega) (fun e => HN.out e.symm), Below.heap_alloc _ _ _ (by simp; omega), Below.heap_alloc _ _ _ (by omega)]; exact HP.out
      have c3 : w3.cell? ⟨w.heap.size + 1 + 1 + 1 + 1 + 1, 2, none⟩ = some va := by rw [World.cell?, p3]; rfl
      have f3 : w3.frozen? ⟨w.heap.size + 1 + 1 + 1 + 1 + 1, 2, none⟩ = false := by simp [World.frozen?, p3]
      have HST := Lib.hid (HL.step hlt HC.out.2.1 HC.out.2.2 HC.out.1 hown3 hg3 (by simpa using hv3))
      obtain ⟨A3, cc3, rfl⟩ : ∃ A c, v' = .slice A (k + 1) c := by have := (Sees.own hown3).slice; exact this
      clear hown3 hg3 hv3 p3
      go_wp2_with fail
      go_roundw
      case rel => exact ⟨k + 1, _, by go_num, HST.out⟩
      case measure => simp [intOf]; omega
    · obtain rfl : k = 2 := by omega
      have HB := Lib.hid HL.below
      have HX := Lib.hid HL.blks
      have HP2 := Lib.hid HL.acts
      have c0 : wr.cell? ⟨w.heap.size + 1 + 1 + 1 + 1 + 1, 0, none⟩ = some (.slice (some ⟨w.heap.size + 1 + 1 + 1, 0, none⟩) 1 1) := by rw [World.cell?, HP.out]; rfl
      have c1 : wr.cell? ⟨w.heap.size + 1 + 1 + 1 + 1 + 1, 1, none⟩ = some (.slice (some ⟨w.heap.size + 1 + 1 + 1 + 1, 0, none⟩) 1 1) := by rw [World.cell?, HP.out]; rfl
      obtain ⟨A3, cc3, rfl⟩ : ∃ A c, va = .slice A 2 c := by obtain ⟨cs, D, ho, _⟩ := HP2.out; exact (Sees.own ho).slice
      go_wp2_with fail
      obtain ⟨W, hW⟩ : ∃ W, W = (((((((wr.alloc (.cells #[.int .i64 (-900), .int .i64 (-900), .int .i64 0, .int .i64 900, .int .i64 (-900), .int .i64 0, .int .i64 900, .int .i64 900, .int .i64 0, .int .i64 (-900), .int .i64 900, .int .i64 0] 95)).alloc (.cells #[.slice (some ⟨wr.heap.size, 0, none⟩) 4 4, .slice none 0 0, .int .i64 0, .int .i64 1500] 57)).alloc (.cells (exS wr.heap.size) 62)).alloc (.cells #[.int .i64 0, .int .i64 (-500), .int .i64 0] 95)).alloc (.cells #[.int .i64 0] 3)).alloc (.cells #[.int .i64 0] 3)).alloc (.cells #[.int .i64 200, .int .i64 0, .int .i64 0] 95)).alloc (.cells (exB (wr.heap.size + 1 + 1 + 1) (wr.heap.size + 1 + 1 + 1 + 1) (wr.heap.size + 1 + 1 + 1 + 1 + 1) (wr.heap.size + 1 + 1 + 1 + 1 + 1 + 1)) 69) := ⟨_, rfl⟩
      unfold exS exB at hW
      rw [← hW]
      have hbW : Below wr.heap.size wr W := by rw [hW]; exact ((((((((Below.refl _ _).alloc (Nat.le_refl _) _).alloc (by simp) _).alloc (by simp <;> omega) _).alloc (by simp <;> omega) _).alloc (by simp <;> omega) _).alloc (by simp <;> omega) _).alloc (by simp <;> omega) _).alloc (by simp <;> omega) _
      have hS : W.heap[wr.heap.size + 1 + 1]? = some (.cells (exS wr.heap.size) 62 (0, 0)) := by
        rw [hW, Below.heap_alloc _ _ _ (by simp <;> omega), Below.heap_alloc _ _ _ (by simp <;> omega), Below.heap_alloc _ _ _ (by simp <;> omega), Below.heap_alloc _ _ _ (by simp <;> omega), Below.heap_alloc _ _ _ (by simp <;> omega)]; exact heap_new _ _ _ (by simp)
      have hB : W.heap[wr.heap.size + 1 + 1 + 1 + 1 + 1 + 1 + 1]? = some (.cells (exB (wr.heap.size + 1 + 1 + 1) (wr.heap.size + 1 + 1 + 1 + 1) (wr.heap.size + 1 + 1 + 1 + 1 + 1) (wr.heap.size + 1 + 1 + 1 + 1 + 1 + 1)) 69 (0, 0)) := by rw [hW]; exact heap_new _ _ _ (by simp)
      clear hW
      have hbs := hbW.size
      have hP : W.heap[w.heap.size + 1 + 1 + 1 + 1 + 1]? = some (.cells #[.slice (some ⟨w.heap.size + 1 + 1 + 1, 0, none⟩) 1 1, .slice (some ⟨w.heap.size + 1 + 1 + 1 + 1, 0, none⟩) 1 1, .slice A3 2 cc3] 26 (0, 0)) := (hbW.block _ hps).trans HP.out
      have hX : ExBlks w.heap.size W := HX.out.keep fun b hb => hbW.block b (by omega)
      have LOAD : ∀ (g : Nat) (cs : Array Value) (t : TypeId), W.heap[g]? = some (.cells cs t (0, 0)) → ¬ ExRes w.heap.size g → ∀ wa, ExC w.heap.size W wa → ∀ j u, cs.toList[j]? = some u → wa.cell? ⟨g, 0 + j, none⟩ = some u := fun g cs t hg hn wa hC j u hu => by
        rw [Nat.zero_add, World.cell?, hC.keep.block g (Array.getElem?_eq_some_iff.1 hg).1 hn, hg]
        simpa using hu
      have nR : ∀ g, w.heap.size + 5 ≤ g → ¬ ExRes w.heap.size g := fun g hg h => by rcases h with h | h | h <;> omega
      generalize hcP : (#[.slice (some ⟨w.heap.size + 1 + 1 + 1, 0, none⟩) 1 1, .slice (some ⟨w.heap.size + 1 + 1 + 1 + 1, 0, none⟩) 1 1, .slice A3 2 cc3] : Array Value) = cP at hP
      generalize hcS : exS wr.heap.size = cS at hS
      generalize hcB : exB (wr.heap.size + 1 + 1 + 1) (wr.heap.size + 1 + 1 + 1 + 1) (wr.heap.size + 1 + 1 + 1 + 1 + 1) (wr.heap.size + 1 + 1 + 1 + 1 + 1 + 1) = cB at hB
      have sP : cP.size = 3 := by rw [← hcP]; rfl
      have sS : cS.size = 16 := by rw [← hcS]; rfl
      have sB : cB.size = 8 := by rw [← hcB]; rfl
      have oP : cP.all (·.oneCell') = true := by rw [← hcP]; simp [Value.oneCell']
      have oS : cS.all (·.oneCell') = true := by rw [← hcS]; simp [exS, Value.oneCell']
      have oB : cB.all (·.oneCell') = true := by rw [← hcB]; simp [exB, Value.oneCell']
      refine region_stores 3 3 51 (ExC w.heap.size W) [is (.agg cP), is (.agg cS), is (.agg cB)] (fun j => w.heap.size + j) (fun j => if j = 0 then RowIs w.heap.size 26 cP else if j = 1 then RowIs (w.heap.size + 1) 62 cS else RowIs (w.heap.size + 1 + 1) 69 cB) (by kernel_rfl) (by kernel_rfl) rfl (by decide) ?hst ?hst' ?hS ?hS' ?h0 ?hop ?hstore ?hend
      case hst =>
        simp only [List.mem_cons, List.mem_nil_iff, or_false, forall_eq_or_imp, forall_eq]
        exact ⟨is_stable _, is_stable _, is_stable _⟩
      case hst' =>
        simp only [List.mem_cons, List.mem_nil_iff, or_false, forall_eq_or_imp, forall_eq]
        exact ⟨fun _ _ => is_stableAt _ _, fun _ _ => is_stableAt _ _, fun _ _ => is_stableAt _ _⟩
      case hS =>
        intro j hj x x' hb
        have : j = 0 ∨ j = 1 ∨ j = 2 := by omega
        rcases this with rfl | rfl | rfl
        · exact RowIs.up hb
        · exact RowIs.up hb
        · exact RowIs.up hb
      case hS' =>
        intro i j hi hj hij x x' hb
        have : i = 0 ∨ i = 1 ∨ i = 2 := by omega
        rcases this with rfl | rfl | rfl
        · exact RowIs.other hb (by omega)
        · exact RowIs.other hb (by omega)
        · exact RowIs.other hb (by omega)
      case h0 => exact ⟨⟨rfl, rfl, rfl, Nat.le_refl _, fun _ _ _ => rfl⟩, ⟨_, hX.r0, rfl⟩, ⟨_, hX.r1, rfl⟩, ⟨_, hX.r2, rfl⟩⟩
      case hop =>
        refine ⟨?_, ?_, ?_, trivial⟩
        · exact ok_load 26 (.tmp 3) (.pointer (some ⟨w.heap.size + 1 + 1 + 1 + 1 + 1, 0, none⟩)) _ rfl (by kernel_rfl) (fun wa hC => run_loadN cP.toList wa (by kernel_rfl) (by simp only [Array.length_toList, sP]; kernel_rfl) (LOAD _ _ _ hP (nR _ (by omega)) wa hC)) rfl
        · exact ok_load 62 (.tmp 6) (.pointer (some ⟨wr.heap.size + 1 + 1, 0, none⟩)) _ rfl (by kernel_rfl) (fun wa hC => run_loadN cS.toList wa (by kernel_rfl) (by simp only [Array.length_toList, sS]; kernel_rfl) (LOAD _ _ _ hS (nR _ (by omega)) wa hC)) rfl
        · exact ok_load 69 (.tmp 7) (.pointer (some ⟨wr.heap.size + 1 + 1 + 1 + 1 + 1 + 1 + 1, 0, none⟩)) _ rfl (by kernel_rfl) (fun wa hC => run_loadN cB.toList wa (by kernel_rfl) (by simp only [Array.length_toList, sB]; kernel_rfl) (LOAD _ _ _ hB (nR _ (by omega)) wa hC)) rfl
      case hstore =>
        intro j o hj ho
        have : j = 0 ∨ j = 1 ∨ j = 2 := by omega
        rcases this with rfl | rfl | rfl
        · cases ho
          exact store_row 26 (.tmp 0) (.tmp 48) cP 3 rfl (by kernel_rfl) (by kernel_rfl) (by kernel_rfl) sP oP (fun _ h => h.r0) (fun _ h => h.set _ _ (.inl rfl) (fun _ => sP) (by omega) (by omega))
        · cases ho
          exact store_row 62 (.tmp 1) (.tmp 49) cS 16 rfl (by kernel_rfl) (by kernel_rfl) (by kernel_rfl) sS oS (fun _ h => h.r1) (fun _ h => h.set _ _ (.inr (.inl rfl)) (by omega) (fun _ => sS) (by omega))
        · cases ho
          exact store_row 69 (.tmp 2) (.tmp 50) cB 8 rfl (by kernel_rfl) (by kernel_rfl) (by kernel_rfl) sB oB (fun _ h => h.r2) (fun _ h => h.set _ _ (.inr (.inr rfl)) (by omega) (by omega) (fun _ => sB))
      case hend =>
        intro τ w2 hC hR hS2
        have s0 : w2.heap[w.heap.size]? = some (.cells cP 26 (0, 0)) := hS2 0 (by omega)
        have s1 : w2.heap[w.heap.size + 1]? = some (.cells cS 62 (0, 0)) := hS2 1 (by omega)
        have s2 : w2.heap[w.heap.size + 1 + 1]? = some (.cells cB 69 (0, 0)) := hS2 2 (by omega)
        simp only [putAll, List.getElem?_toArray, List.getElem?_cons_succ, List.getElem?_cons_zero, Option.bind_some, Act.put, List.setIfInBounds_toArray, List.set_cons_succ, List.set_cons_zero, List.drop_succ_cons, List.drop_zero]
        go_wp2_with fail
        refine bodyPost_ret (ex_results rfl rfl rfl s0 s1 s2 sP sS sB) rfl ?_
        have hWb : Below w.heap.size w W := HB.out.trans (hbW.mono HB.out.size)
        have hws := hC.keep.size
        refine ⟨⟨hC.keep.os.trans hWb.os, hC.keep.tape.trans hWb.tape, hC.keep.output.trans hWb.output, Nat.le_trans hWb.size hws, fun i hi => (hC.keep.block i (Nat.lt_of_lt_of_le hi hWb.size) (fun h => by rcases h with h | h | h <;> omega)).trans (hWb.block i hi)⟩, ?_⟩
        have hkeep : ∀ b, w.heap.size + 3 ≤ b → b < wr.heap.size → w2.heap[b]? = wr.heap[b]? := fun b h1 h2 => (hC.keep.block b (by omega) (fun h => by rcases h with h | h | h <;> omega)).trans (hbW.block b h2)
        rw [← hcP, ← hcS, ← hcB]
        refine ⟨_, _, _, _, _, _, _, _, rfl, ?_, ?_, ?_⟩
        · refine ⟨rfl, .inr ⟨_, _, _, rfl, ⟨Nat.zero_le _, by omega⟩, fun j u hu => ?_⟩⟩
          rw [Nat.zero_add, World.cell?, hkeep (w.heap.size + 1 + 1 + 1) (by omega) (by omega), HX.out.n3]
          simpa [strs, exP] using hu
        · refine ⟨rfl, .inr ⟨_, _, _, rfl, ⟨Nat.zero_le _, by omega⟩, fun j u hu => ?_⟩⟩
          rw [Nat.zero_add, World.cell?, hkeep (w.heap.size + 1 + 1 + 1 + 1) (by omega) (by omega), HX.out.n4]
          simpa [vecs, exP, V3.zero] using hu
        · obtain ⟨cs, D, ho, hac, hD⟩ := HP2.out
          refine ⟨cs, ?_, ?_⟩
          · have h1 := Sees.own ho
            exact (h1.keep fun b o g1 g2 => World.cell?_of_block (hkeep b (by omega) g2)).more (Nat.zero_le _) (by omega)
          · refine (hac.keep fun b o hd => ?_).more fun b hd => ⟨Nat.zero_le _, ?_⟩
            · obtain ⟨d1, d2, _⟩ := hD b hd
              exact World.cell?_of_block (hkeep b (by omega) d2)
            · have := (hD b hd).2.1
              omega
end Go.Proofs.YtolmehmglgmanaaGreatDoor
