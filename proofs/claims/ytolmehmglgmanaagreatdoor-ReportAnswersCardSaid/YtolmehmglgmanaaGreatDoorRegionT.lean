/- A region with guarded operations that draws its order, and whose last operations come last in one forced order. No condition. -/
import Derived.Test.YtolmehmglgmanaaGreatDoorRegionG
namespace Go.Proofs.YtolmehmglgmanaaGreatDoor
open Go.RowKit

variable {P : Program} {ops : Array Oper} {n N : Nat} {C : World → Prop} {R : Nat → Value → World → Prop} {a0 : Act} {Q : Exit → Act → World → Prop}
def guardTB (ops : Array Oper) (n N : Nat) : Bool :=
  ((List.range n).all fun i => match ops[i]? with
    | some o => (match o.guard with | none => true | some (j, _) => Region.waitsFor .any ops i j && decide (j < n) && (match ops[j]? with | some oj => (match oj.dst with | some d => srcOf ops n d == some j | none => false) | none => false)) &&
        (o.op.operands.all fun x => match x with | .tmp t => (match srcOf ops n t with | some j => Region.waitsFor .any ops i j | none => true) | _ => true) &&
        (match o.dst with | some d => srcOf ops n d == some i && decide (d < N) | none => true) && (o.after.all fun e => !Region.binds .any e || decide (e.on < i))
    | none => false) && (decide (n < ops.size) && Region.sinkB .any ops n && Region.chainB .any ops n && Region.seqB .any ops (ops.size - n) n ((List.range ops.size).map fun i => decide (i < n)).toArray)
theorem guardTG {ops : Array Oper} {n N : Nat} (h : guardTB ops n N = true) : GrowG ops n N ∧ (n < ops.size ∧ Region.sinkB .any ops n = true ∧ Region.chainB .any ops n = true) ∧ Region.seqB .any ops (ops.size - n) n ((List.range ops.size).map fun i => decide (i < n)).toArray = true := by
  unfold guardTB at h
  simp only [Bool.and_eq_true, decide_eq_true_eq] at h
  obtain ⟨h1, ⟨⟨h2, h3⟩, h4⟩, h5⟩ := h
  refine ⟨⟨fun i hi => ?_⟩, ⟨h2, h3, h4⟩, h5⟩
  have h := List.all_eq_true.1 h1 i (List.mem_range.2 hi)
  cases ho : ops[i]? with
  | none => simp [ho] at h
  | some o =>
    simp only [ho, Bool.and_eq_true] at h
    obtain ⟨⟨⟨a1, a2⟩, a3⟩, a4⟩ := h
    refine ⟨o, rfl, fun j b hg => ?_, fun t j ht hj => ?_, fun d hd => ?_, fun e he hb => ?_⟩
    · rw [hg] at a1
      simp only [Bool.and_eq_true, decide_eq_true_eq] at a1
      obtain ⟨⟨b1, b2⟩, b3⟩ := a1
      refine ⟨b1, b2, ?_⟩
      cases hoj : ops[j]? with
      | none => rw [hoj] at b3; cases b3
      | some oj =>
        rw [hoj] at b3
        cases hd : oj.dst with
        | none => simp only [hd] at b3; cases b3
        | some d => simp only [hd] at b3; exact ⟨oj, d, rfl, hd, by simpa using b3⟩
    · have := Array.all_eq_true_iff_forall_mem.1 a2 _ ht
      simpa [hj] using this
    · simpa [hd] using a3
    · have := Array.all_eq_true_iff_forall_mem.1 a4 e he
      simpa [hb] using this
theorem grow_endT (hS : GrowG ops n N) (hN : a0.tmps.size = N) (hn : n ≤ ops.size) {listed : Array Bool} {σ : Nat → Value} {a : Act} {w : World} (hl : left n listed = 0) (inv : HeadInv .any ops n listed) (h : Mid ops n C R a0 listed σ a w) :
    listed = ((List.range ops.size).map fun i => decide (i < n)).toArray ∧ a = putAll ops a0 σ n := by
  have hall := left_zero hl
  have hlist : listed = ((List.range ops.size).map fun i => decide (i < n)).toArray := by
    apply Array.ext
    · simp [inv.size]
    · intro i h1 h2
      have hi : i < ops.size := by rw [← inv.size]; exact h1
      by_cases hin : i < n
      · have := hall i hin
        simp [h1] at this
        simp [this, hin]
      · have := inv.tail i (by omega) hi
        simp [h1] at this
        simp [this, hin]
  have ha : a = putAll ops a0 σ n := by
    obtain ⟨tm, df⟩ := a
    have hd := h.d
    have hz := h.z
    have htt := h.t
    simp only at hd hz htt
    have e1 : (putAll ops a0 σ n).defers = df := by rw [putAll_defers, hd]
    have e2 : tm = (putAll ops a0 σ n).tmps := by
      apply Array.ext
      · rw [hz, putAll_size]
      · intro i h1 h2
        have x1 := htt i
        have x2 := putAll_atG hS a0 hN σ n (Nat.le_refl _) i
        have x3 : tm.getD i undef = (putAll ops a0 σ n).tmps.getD i undef := by
          rw [x1, x2]
          cases hs : srcOf ops n i with
          | none => rfl
          | some j =>
            have hj := (srcOf_some hs).1
            simp only [hall j hj, if_true, hj]
        simpa [h1, h2] using x3
    rw [e2, ← e1]
  exact ⟨hlist, ha⟩
theorem grow_readyT (hS : GrowG ops n N) (htl : n < ops.size ∧ Region.sinkB .any ops n = true ∧ Region.chainB .any ops n = true) (hn : n ≤ ops.size) {listed : Array Bool} {c : Nat} (hl : left n listed = c + 1) (inv : HeadInv .any ops n listed) : Region.ready .any ops listed ≠ [] ∧ ∀ i ∈ Region.ready .any ops listed, i < n := by
  obtain ⟨i0, hi0, hf0, hlow⟩ := left_pos (n := n) (listed := listed) (by omega)
  have hsz0 : i0 < listed.size := by rw [inv.size]; omega
  have hr0 : i0 ∈ Region.ready .any ops listed := by
    obtain ⟨o, ho, _, _, _, hed⟩ := hS.op i0 hi0
    exact mem_ready.2 ⟨getD_in hsz0 hf0, o, ho, fun e he hb => hlow _ (hed e he hb)⟩
  refine ⟨fun h0 => absurd hr0 (by rw [h0]; simp), fun i hi => ?_⟩
  rcases Nat.lt_or_ge i n with hlt | hge
  · exact hlt
  · obtain ⟨hlt, hs, hc⟩ := htl
    exact absurd hi (tail_waits hs hc hlt inv _ i0 rfl hi0 (getD_in hsz0 hf0) i hge)
theorem guardT_any (hS : GrowG ops n N) (htl : n < ops.size ∧ Region.sinkB .any ops n = true ∧ Region.chainB .any ops n = true) (hseq : Region.seqB .any ops (ops.size - n) n ((List.range ops.size).map fun i => decide (i < n)).toArray = true) (hN : a0.tmps.size = N) (hst : ∀ j v w w', Below w.heap.size w w' → R j v w → R j v w') (hop : ∀ i o, i < n → ops[i]? = some o → OpG P ops n C R a0 Q i o)
    (htail : ∀ σ w, C w → (∀ j, j < n → R j (σ j) w) → wpList P ops Q (ops.toList.drop n) (putAll ops a0 σ n) w) (hn : n ≤ ops.size) :
    ∀ (c : Nat) (listed : Array Bool) (σ : Nat → Value) (a : Act) (w : World), left n listed = c → HeadInv .any ops n listed → Mid ops n C R a0 listed σ a w → wpAny P .any ops Q (c + (ops.size - n)) listed a w
  | 0, listed, σ, a, w, hl, inv, h => by
    have hall := left_zero hl
    obtain ⟨hlist, ha⟩ := grow_endT hS hN hn hl inv h
    rw [Nat.zero_add]
    have hlen : (ops.toList.drop n).length = ops.size - n := by simp
    have := wpAny_of_seq (P := P) (ops := ops) (md := .any) (Q' := Q) (ops.toList.drop n) n listed a w (fun j => by simp [List.getElem?_drop]) (by rw [hlen, hlist]; exact hseq) (by rw [ha]; exact htail σ w h.c fun j hj => h.r j hj (hall j hj))
    rwa [hlen] at this
  | c + 1, listed, σ, a, w, hl, inv, h => by
    rw [show c + 1 + (ops.size - n) = (c + (ops.size - n)) + 1 by omega]
    obtain ⟨hne, hsm⟩ := grow_readyT hS htl hn hl inv
    refine ⟨fun h0 => absurd h0 hne, fun i hi => ?_⟩
    have hin := hsm i hi
    have hun := (mem_ready.1 hi).1
    have hisz : i < listed.size := by rw [inv.size]; omega
    obtain ⟨_, o, ho, _⟩ := mem_ready.1 hi
    refine wpOp_mono (fun a' w' h' => ?_) (stepG hS hN hst inv.size h hi hin ho (hop i o hin ho))
    obtain ⟨_, σ', hm'⟩ := h'
    exact guardT_any hS htl hseq hN hst hop htail hn c _ σ' a' w' (by have := left_set hin hisz (getD_both hun); omega) (inv.set hi hin) hm'
/-- **The rule**, guards and a forced tail. -/
theorem region_guardT {id : Nat} {w : World} {l : List Oper} (n N : Nat) (C : World → Prop) (Rs : List (Value → World → Prop)) (hm : P.follows .mixedOrders = true) (hB : guardTB l.toArray n N = true) (hN : a0.tmps.size = N)
    (hst : ∀ r ∈ Rs, Stable r) (h0 : C w.drew) (hop : OpsG P l.toArray n C (Rtab Rs) a0 Q 0 (l.take n))
    (htail : ∀ σ w, C w → (∀ j, j < n → Rtab Rs j (σ j) w) → wpList P l.toArray Q (l.drop n) (putAll l.toArray a0 σ n) w) : (Code.region id l.toArray true).wp P Q a0 w := by
  obtain ⟨hO, htl, hseq⟩ := guardTG hB
  have hn : n ≤ l.toArray.size := by have := htl.1; omega
  refine wp_region_any hm ?_
  have inv0 : HeadInv .any l.toArray n (Array.replicate l.toArray.size false) :=
    ⟨by simp, fun j oj _ hl => (by rw [getD_replicate_false] at hl; cases hl), fun t _ ht => getD_in (by simpa using ht) (getD_replicate_false _ _)⟩
  have hl : left n (Array.replicate l.toArray.size false) = n := by
    unfold left
    rw [List.filter_eq_self.2 (fun i _ => by rw [getD_replicate_false]; rfl), List.length_range]
  have hop' : ∀ i o, i < n → l.toArray[i]? = some o → OpG P l.toArray n C (Rtab Rs) a0 Q i o := fun i o hi ho => by
    have := opsG_at 0 (l.take n) hop i o (by rw [List.getElem?_take]; simp only [hi, if_true]; simpa using ho)
    rwa [Nat.zero_add] at this
  have := guardT_any (P := P) (Q := Q) hO htl hseq hN (rtab_stable hst) hop' (by simpa using htail) hn n _ (fun _ => undef) a0 w.drew hl inv0 ⟨h0, rfl, rfl, fun t => by
    cases srcOf l.toArray n t with
    | none => rfl
    | some j => simp only [getD_replicate_false, Bool.false_eq_true, if_false], fun j _ hl => by rw [getD_replicate_false] at hl; cases hl⟩
  rwa [show n + (l.toArray.size - n) = l.toArray.size by omega] at this
end Go.Proofs.YtolmehmglgmanaaGreatDoor
