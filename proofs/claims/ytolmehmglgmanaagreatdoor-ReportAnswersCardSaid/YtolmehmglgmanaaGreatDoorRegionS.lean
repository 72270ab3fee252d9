/- A region that draws its order, some of whose operations store into blocks of their own (results that lie in memory): one proof for all orders. No condition. -/
import Derived.Test.YtolmehmglgmanaaGreatDoorRow
namespace Go.Proofs.YtolmehmglgmanaaGreatDoor
open Go.RowKit

variable {P : Program} {ops : Array Oper} {n m N : Nat} {C : World → Prop} {R : Nat → Value → World → Prop} {a0 : Act} {Q : Exit → Act → World → Prop}

/-- The induction: an invariant of what has run. -/
theorem any_inv (I : Array Bool → Act → World → Prop) (hsz : ∀ listed a w, I listed a w → listed.size = ops.size) (hg : ∀ (i : Nat) (o : Oper), ops[i]? = some o → o.guard = none) (hlow : ∀ (i : Nat) (o : Oper), ops[i]? = some o → ∀ e ∈ o.after, Region.binds .any e = true → e.on < i)
    (hstep : ∀ (listed : Array Bool) (a : Act) (w : World) (i : Nat) (o : Oper), I listed a w → i ∈ Region.ready .any ops listed → ops[i]? = some o → o.wp P a w (fun a' w' => I (listed.setIfInBounds i true) a' w') Q)
    (hend : ∀ listed a w, I listed a w → (∀ i, i < ops.size → listed.getD i false = true) → Q .normal a w) :
    ∀ (c : Nat) (listed : Array Bool) (a : Act) (w : World), left ops.size listed = c → I listed a w → wpAny P .any ops Q c listed a w
  | 0, listed, a, w, hl, h => by
    have hall := left_zero hl
    refine ⟨?_, hend listed a w h hall⟩
    rw [List.eq_nil_iff_forall_not_mem]
    intro i hi
    obtain ⟨hun, o, ho, _⟩ := mem_ready.1 hi
    have h1 := hall i (Array.getElem?_eq_some_iff.1 ho).1
    rw [getD_both hun] at h1
    cases h1
  | c + 1, listed, a, w, hl, h => by
    have hs := hsz listed a w h
    obtain ⟨i0, hi0, hf0, hlow0⟩ := left_pos (n := ops.size) (listed := listed) (by omega)
    have hr0 : i0 ∈ Region.ready .any ops listed := mem_ready.2 ⟨getD_in (by omega) hf0, ops[i0], by simp [hi0], fun e he hb => hlow0 _ (hlow i0 _ (by simp [hi0]) e he hb)⟩
    refine ⟨fun h0 => absurd hr0 (by rw [h0]; simp), fun i hi => ?_⟩
    obtain ⟨hun, o, ho, _⟩ := mem_ready.1 hi
    have hw : Region.wanted o (yielded ops a.tmps) = true := by simp [Region.wanted, hg i o ho]
    unfold wpOp
    simp only [ho, hw, if_true]
    have hio := (Array.getElem?_eq_some_iff.1 ho).1
    refine .inl (Oper.wp_mono (fun a' w' h' => ?_) (hstep listed a w i o h hi ho))
    exact any_inv I hsz hg hlow hstep hend c _ a' w' (by have := left_set (n := ops.size) (listed := listed) (i := i) hio (by omega) (getD_both hun); omega) h'

/-- Only block B has changed. -/
structure OnlyB (B : Nat) (w w' : World) : Prop where
  os : w'.os = w.os
  tape : w'.tape = w.tape
  output : w'.output = w.output
  size : w'.heap.size = w.heap.size
  block : ∀ b, b ≠ B → w'.heap[b]? = w.heap[b]?
def StableAt (B : Nat) (r : Value → World → Prop) : Prop := ∀ v w w', OnlyB B w w' → r v w → r v w'
theorem is_stableAt (B : Nat) (x : Value) : StableAt B (is x) := fun _ _ _ _ h => h
/-- What is asked of a store, the j-th: it stores into block B. -/
def StoreOk (P : Program) (ops : Array Oper) (n : Nat) (C : World → Prop) (R : Nat → Value → World → Prop) (a0 : Act) (Q : Exit → Act → World → Prop) (B : Nat) (S : World → Prop) (o : Oper) : Prop :=
  ∀ (a : Act) (w : World), C w → (∀ x, x ∈ o.op.operands → preOf ops n R a0 x (a.eval x) w) → o.wp P a w (fun a' w' => a' = a.put o.dst undef ∧ C w' ∧ OnlyB B w w' ∧ S w') Q
def storeB (md : Region.Mode) (ops : Array Oper) (n N : Nat) : Bool :=
  ((List.range n).all fun i => match ops[i]? with
    | some o => o.guard.isNone && (o.op.operands.all fun x => match x with | .tmp t => (match srcOf ops n t with | some j => Region.waitsFor md ops i j | none => true) | _ => true) &&
        (match o.dst with | some d => srcOf ops n d == some i && decide (d < N) | none => true) && (o.after.all fun e => !Region.binds md e || decide (e.on < i))
    | none => false) &&
  ((List.range ops.size).all fun i => match ops[i]? with
    | some o => o.guard.isNone && (o.op.operands.all fun x => match x with | .tmp t => (match srcOf ops n t with | some j => Region.waitsFor md ops i j | none => true) | _ => true) && (decide (i < n) || o.dst.isNone) && (o.after.all fun e => !Region.binds md e || decide (e.on < i))
    | none => false)
theorem storeS {md : Region.Mode} (h : storeB md ops n N = true) : GrowO md ops n N ∧ ∀ i o, ops[i]? = some o → o.guard = none ∧ (∀ t j, Operand.tmp t ∈ o.op.operands → srcOf ops n t = some j → Region.waitsFor md ops i j = true) ∧ (n ≤ i → o.dst = none) ∧ (∀ e ∈ o.after, Region.binds md e = true → e.on < i) := by
  unfold storeB at h
  simp only [Bool.and_eq_true] at h
  obtain ⟨h1, h2⟩ := h
  refine ⟨⟨fun i hi => ?_⟩, fun i o ho => ?_⟩
  · have h := List.all_eq_true.1 h1 i (List.mem_range.2 hi)
    cases ho : ops[i]? with
    | none => simp [ho] at h
    | some o =>
      simp only [ho, Bool.and_eq_true] at h
      obtain ⟨⟨⟨a1, a2⟩, a3⟩, a4⟩ := h
      refine ⟨o, rfl, by simpa using a1, fun t j ht hj => ?_, fun d hd => ?_, fun e he hb => ?_⟩
      · have := Array.all_eq_true_iff_forall_mem.1 a2 _ ht
        simpa [hj] using this
      · simpa [hd] using a3
      · have := Array.all_eq_true_iff_forall_mem.1 a4 e he
        simpa [hb] using this
  · have h := List.all_eq_true.1 h2 i (List.mem_range.2 (Array.getElem?_eq_some_iff.1 ho).1)
    simp only [ho, Bool.and_eq_true] at h
    obtain ⟨⟨⟨a1, a2⟩, a3⟩, a4⟩ := h
    refine ⟨by simpa using a1, fun t j ht hj => ?_, fun hn => ?_, fun e he hb => ?_⟩
    · have := Array.all_eq_true_iff_forall_mem.1 a2 _ ht
      simpa [hj] using this
    · have : ¬ i < n := by omega
      simpa [this] using a3
    · have := Array.all_eq_true_iff_forall_mem.1 a4 e he
      simpa [hb] using this
/-- How it stands: as 'Mid', and what the stores that have run have left. -/
structure MidS (ops : Array Oper) (n m : Nat) (C : World → Prop) (R : Nat → Value → World → Prop) (S : Nat → World → Prop) (a0 : Act) (listed : Array Bool) (a : Act) (w : World) : Prop where
  size : listed.size = ops.size
  mid : ∃ σ, Mid ops n C R a0 listed σ a w
  st : ∀ j, j < m → listed.getD (n + j) false = true → S j w
theorem region_stores {id : Nat} {w : World} {l : List Oper} (n m N : Nat) (C : World → Prop) (Rs : List (Value → World → Prop)) (B : Nat → Nat) (S : Nat → World → Prop) (hm : P.follows .mixedOrders = true) (hB : storeB .any l.toArray n N = true) (hN : a0.tmps.size = N) (hn : n + m = l.length)
    (hst : ∀ r ∈ Rs, Stable r) (hst' : ∀ r ∈ Rs, ∀ j, j < m → StableAt (B j) r) (hS : ∀ j, j < m → ∀ w w', Below w.heap.size w w' → S j w → S j w') (hS' : ∀ i j, i < m → j < m → i ≠ j → ∀ w w', OnlyB (B j) w w' → S i w → S i w')
    (h0 : C w.drew) (hop : OpsOk P l.toArray n C (Rtab Rs) a0 Q n 0 l) (hstore : ∀ (j : Nat) (o : Oper), j < m → l[n + j]? = some o → StoreOk P l.toArray n C (Rtab Rs) a0 Q (B j) (S j) o)
    (hend : ∀ (σ : Nat → Value) (w : World), C w → (∀ j, j < n → Rtab Rs j (σ j) w) → (∀ j, j < m → S j w) → Q .normal (putAll l.toArray a0 σ n) w) : (Code.region id l.toArray true).wp P Q a0 w := by
  obtain ⟨hO, hall⟩ := storeS hB
  refine wp_region_any hm ?_
  have hop' : ∀ (i : Nat) (o : Oper), i < n → l.toArray[i]? = some o → OpOk P l.toArray n C (Rtab Rs) a0 Q i o := fun i o hi ho => by
    have := opsOk_at n 0 l hop i o hi (by simpa using ho); rwa [Nat.zero_add] at this
  have hl : left l.toArray.size (Array.replicate l.toArray.size false) = l.toArray.size := by
    unfold left
    rw [List.filter_eq_self.2 (fun i _ => by rw [getD_replicate_false]; rfl), List.length_range]
  refine any_inv (MidS l.toArray n m C (Rtab Rs) S a0) (fun _ _ _ h => h.size) (fun i o ho => (hall i o ho).1) (fun i o ho => (hall i o ho).2.2.2) ?_ ?_ _ _ a0 w.drew hl ?_
  · intro listed a w i o h hi ho
    obtain ⟨σ, hmid⟩ := h.mid
    by_cases hin : i < n
    · refine grow_wpB hO hN (rtab_stable hst) hop' h.size hmid hi hin (fun σ' a' w' h' hb => ⟨by simp [h.size], ⟨σ', h'⟩, fun j hj hlj => ?_⟩) ho
      rw [getD_set_ne false (by omega)] at hlj
      exact hS j hj w w' hb (h.st j hj hlj)
    · obtain ⟨hun, o', ho', hbefore⟩ := mem_ready.1 hi
      obtain rfl : o' = o := Option.some.inj (ho'.symm.trans ho)
      obtain ⟨hg, hw, hd, _⟩ := hall i o' ho
      obtain ⟨j, rfl⟩ : ∃ j, i = n + j := ⟨i - n, by omega⟩
      have hlt : n + j < l.length := by simpa using (Array.getElem?_eq_some_iff.1 ho).1
      have hjm : j < m := by omega
      have hpre : ∀ x, x ∈ o'.op.operands → preOf l.toArray n (Rtab Rs) a0 x (a.eval x) w := by
        intro x hx
        cases x with
        | tmp t =>
          have ht := hmid.t t
          show (match srcOf l.toArray n t with | some j => Rtab Rs j | none => is (a0.eval (.tmp t))) _ w
          cases hs : srcOf l.toArray n t with
          | none => rw [hs] at ht; exact ht
          | some k =>
            rw [hs] at ht
            obtain ⟨oj, hoj, e, he, hb, hon⟩ := Region.waitsFor_spec (hw t k hx hs)
            have hoj' : oj = o' := Option.some.inj (hoj.symm.trans ho)
            have hlk : listed.getD k false = true := by rw [← hon]; exact hbefore e (by rw [← hoj']; exact he) hb
            simp only [hlk, if_true] at ht
            show Rtab Rs k (a.tmps.getD t undef) w
            rw [ht]
            exact hmid.r k (srcOf_some hs).1 hlk
        | const v => rfl
        | global g => rfl
        | func f => rfl
      refine Oper.wp_mono (fun a' w' hh => ?_) (hstore j o' hjm (by simpa using ho) a w hmid.c hpre)
      obtain ⟨rfl, hc', hon, hs'⟩ := hh
      have hd0 : o'.dst = none := hd (by omega)
      rw [hd0]
      refine ⟨by simp [h.size], ⟨σ, hc', hmid.d, hmid.z, fun t => ?_, fun k hk hlk => ?_⟩, fun k hk hlk => ?_⟩
      · show a.tmps.getD t undef = _
        rw [hmid.t t]
        cases hs : srcOf l.toArray n t with
        | none => rfl
        | some k =>
          have hkn := (srcOf_some hs).1
          simp only [getD_set_ne false (show n + j ≠ k by omega)]
      · rw [getD_set_ne false (by omega)] at hlk
        have hr := hmid.r k hk hlk
        unfold Rtab at hr ⊢
        rw [List.getD_eq_getElem?_getD] at hr ⊢
        cases hj : Rs[k]? with
        | none => rw [hj] at hr; exact hr
        | some r => rw [hj] at hr; exact hst' r (List.mem_of_getElem? hj) j hjm _ w w' hon hr
      · by_cases hkj : k = j
        · subst hkj; exact hs'
        · rw [getD_set_ne false (by omega)] at hlk
          exact hS' k j hk hjm hkj w w' hon (h.st k hk hlk)
  · intro listed a w h hfull
    obtain ⟨σ, hmid⟩ := h.mid
    have ha : a = putAll l.toArray a0 σ n := by
      obtain ⟨tm, df⟩ := a
      have hd := hmid.d
      have hz := hmid.z
      have htt := hmid.t
      simp only at hd hz htt
      have e1 : (putAll l.toArray a0 σ n).defers = df := by rw [putAll_defers, hd]
      have e2 : tm = (putAll l.toArray a0 σ n).tmps := by
        apply Array.ext
        · rw [hz, putAll_size]
        · intro i h1 h2
          have x1 := htt i
          have x2 := putAll_at hO a0 hN σ n (Nat.le_refl _) i
          have x3 : tm.getD i undef = (putAll l.toArray a0 σ n).tmps.getD i undef := by
            rw [x1, x2]
            cases hs : srcOf l.toArray n i with
            | none => rfl
            | some j =>
              have hj := (srcOf_some hs).1
              simp only [hfull j (by simp; omega), if_true, hj]
          simpa [h1, h2] using x3
      rw [e2, ← e1]
    rw [ha]
    exact hend σ w hmid.c (fun j hj => hmid.r j hj (hfull j (by simp; omega))) (fun j hj => h.st j hj (hfull (n + j) (by simp; omega)))
  · exact ⟨by simp, ⟨fun _ => undef, h0, rfl, rfl, fun t => by
      cases srcOf l.toArray n t with
      | none => rfl
      | some j => simp only [getD_replicate_false, Bool.false_eq_true, if_false], fun j _ hl => by rw [getD_replicate_false] at hl; cases hl⟩, fun j _ hl => by rw [getD_replicate_false] at hl; cases hl⟩
/-- A block holds just these cells. -/
def RowIs (B : Nat) (t : TypeId) (cs : Array Value) (w : World) : Prop := w.heap[B]? = some (.cells cs t (0, 0))
theorem RowIs.up {B : Nat} {t : TypeId} {cs : Array Value} {w w' : World} (hb : Below w.heap.size w w') (h : RowIs B t cs w) : RowIs B t cs w' := (hb.block B (Array.getElem?_eq_some_iff.1 h).1).trans h
theorem RowIs.other {B B' : Nat} {t : TypeId} {cs : Array Value} {w w' : World} (hb : OnlyB B' w w') (hn : B ≠ B') (h : RowIs B t cs w) : RowIs B t cs w' := (hb.block B hn).trans h
theorem onlyB_setRow (w : World) (B : Nat) (cs : Array Value) : OnlyB B w (w.setRow B cs) := ⟨rfl, rfl, rfl, by simp, fun b hb => setRow_other w B b cs hb⟩
/-- A struct is stored into a block of its own. -/
theorem store_row {o : Oper} {B : Nat} (ty : TypeId) (x y : Operand) (cells : Array Value) (k : Nat) (ho : o.op = .store ty x y) (hx : preOf ops n R a0 x = is (.pointer (some ⟨B, 0, none⟩))) (hy : preOf ops n R a0 y = is (.agg cells))
    (hi : (P.info? ty).map (·.size) = some k) (hk : cells.size = k) (h1 : cells.all (·.oneCell') = true) (hC : ∀ w, C w → ∃ old, w.heap[B]? = some (.cells old ty (0, 0)) ∧ old.size = k) (hC' : ∀ w, C w → C (w.setRow B cells)) : StoreOk P ops n C R a0 Q B (RowIs B ty cells) o := by
  intro a w hc hpre
  obtain ⟨old, hg, hs⟩ := hC w hc
  have e1 := hpre x (by rw [ho]; simp [Op.operands])
  have e2 := hpre y (by rw [ho]; simp [Op.operands])
  rw [hx] at e1
  rw [hy] at e2
  exact wp_store_row ty x y ho B cells e1 e2 ty old hg (by rw [hi, hk]) (by omega) h1 ⟨rfl, hC' w hc, onlyB_setRow w B cells, setRow_heap w B old cells ty (0, 0) hg⟩
end Go.Proofs.YtolmehmglgmanaaGreatDoor
