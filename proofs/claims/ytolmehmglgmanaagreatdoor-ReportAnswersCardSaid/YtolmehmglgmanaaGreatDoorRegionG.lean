/- A region that draws its order and has guarded operations ('a && b'): one proof for all orders, the guards decided ahead. No condition. -/
import Derived.Test.YtolmehmglgmanaaGreatDoorRegionS
namespace Go.Proofs.YtolmehmglgmanaaGreatDoor
open Go.RowKit

/-- What the operations' places and edges must be. -/
structure GrowG (ops : Array Oper) (n N : Nat) : Prop where
  op : ∀ i, i < n → ∃ o, ops[i]? = some o ∧ (∀ j b, o.guard = some (j, b) → Region.waitsFor .any ops i j = true ∧ j < n ∧ ∃ oj d, ops[j]? = some oj ∧ oj.dst = some d ∧ srcOf ops n d = some j) ∧ (∀ t j, Operand.tmp t ∈ o.op.operands → srcOf ops n t = some j → Region.waitsFor .any ops i j = true) ∧ (∀ d, o.dst = some d → srcOf ops n d = some i ∧ d < N) ∧ (∀ e ∈ o.after, Region.binds .any e = true → e.on < i)
def guardB (ops : Array Oper) (n N : Nat) : Bool :=
  ((List.range n).all fun i => match ops[i]? with
    | some o => (match o.guard with | none => true | some (j, _) => Region.waitsFor .any ops i j && decide (j < n) && (match ops[j]? with | some oj => (match oj.dst with | some d => srcOf ops n d == some j | none => false) | none => false)) &&
        (o.op.operands.all fun x => match x with | .tmp t => (match srcOf ops n t with | some j => Region.waitsFor .any ops i j | none => true) | _ => true) &&
        (match o.dst with | some d => srcOf ops n d == some i && decide (d < N) | none => true) && (o.after.all fun e => !Region.binds .any e || decide (e.on < i))
    | none => false) && decide (n = ops.size)
theorem guardG {ops : Array Oper} {n N : Nat} (h : guardB ops n N = true) : GrowG ops n N ∧ n = ops.size := by
  unfold guardB at h
  simp only [Bool.and_eq_true, decide_eq_true_eq] at h
  obtain ⟨h1, h2⟩ := h
  refine ⟨⟨fun i hi => ?_⟩, h2⟩
  have h := List.all_eq_true.1 h1 i (List.mem_range.2 hi)
  cases ho : ops[i]? with
  | none => simp [ho] at h
  | some o =>
    simp only [ho, Bool.and_eq_true] at h
    obtain ⟨⟨⟨a1, a2⟩, a3⟩, a4⟩ := h
    refine ⟨o, rfl, fun j b hg => ?_, fun t j ht hj => ?_, fun d hd => ?_, fun e he hb => ?_⟩
    · rw [hg] at a1
      simp only [Bool.and_eq_true, decide_eq_true_eq] at a1
      obtain ⟨⟨b1, b2⟩, b3⟩ := a1
      refine ⟨b1, b2, ?_⟩
      cases hoj : ops[j]? with
      | none => rw [hoj] at b3; cases b3
      | some oj =>
        rw [hoj] at b3
        cases hd : oj.dst with
        | none => simp only [hd] at b3; cases b3
        | some d => simp only [hd] at b3; exact ⟨oj, d, rfl, hd, by simpa using b3⟩
    · have := Array.all_eq_true_iff_forall_mem.1 a2 _ ht
      simpa [hj] using this
    · simpa [hd] using a3
    · have := Array.all_eq_true_iff_forall_mem.1 a4 e he
      simpa [hb] using this
theorem putAll_atG {ops : Array Oper} {n N : Nat} (hS : GrowG ops n N) (a0 : Act) (hN : a0.tmps.size = N) (σ : Nat → Value) : ∀ k, k ≤ n → ∀ t, (putAll ops a0 σ k).tmps.getD t undef =
    match srcOf ops n t with | some j => if j < k then σ j else a0.tmps.getD t undef | none => a0.tmps.getD t undef
  | 0, _, t => by unfold putAll; split <;> simp
  | k + 1, hk, t => by
    obtain ⟨o, ho, _, _, hd, _⟩ := hS.op k (by omega)
    have ih := putAll_atG hS a0 hN σ k (by omega) t
    have e : putAll ops a0 σ (k + 1) = (putAll ops a0 σ k).put o.dst (σ k) := by show (putAll ops a0 σ k).put ((ops[k]?).bind (·.dst)) (σ k) = _; rw [ho]; rfl
    rw [e]
    cases hdst : o.dst with
    | none =>
      show (putAll ops a0 σ k).tmps.getD t undef = _
      rw [ih]
      cases hs : srcOf ops n t with
      | none => rfl
      | some j =>
        obtain ⟨_, o', ho', hd'⟩ := srcOf_some hs
        have hne : j ≠ k := fun e => by subst e; rw [ho] at ho'; cases ho'; rw [hdst] at hd'; cases hd'
        by_cases hj : j < k
        · simp [hj, show j < k + 1 by omega]
        · simp [hj, show ¬ j < k + 1 by omega]
    | some d =>
      obtain ⟨hsd, hdN⟩ := hd d hdst
      rw [put_at _ d t _ (by rw [putAll_size, hN]; exact hdN)]
      by_cases hdt : d = t
      · subst hdt; rw [if_pos rfl, hsd]; simp
      · rw [if_neg hdt, ih]
        cases hs : srcOf ops n t with
        | none => rfl
        | some j =>
          obtain ⟨_, o', ho', hd'⟩ := srcOf_some hs
          have hne : j ≠ k := fun e => by subst e; rw [ho] at ho'; cases ho'; rw [hdst] at hd'; cases hd'; exact hdt rfl
          by_cases hj : j < k
          · simp [hj, show j < k + 1 by omega]
          · simp [hj, show ¬ j < k + 1 by omega]
variable {P : Program} {ops : Array Oper} {n N : Nat} {C : World → Prop} {R : Nat → Value → World → Prop} {a0 : Act} {Q : Exit → Act → World → Prop}
theorem mid_put (hS : GrowG ops n N) (hN : a0.tmps.size = N) (hst : ∀ j v w w', Below w.heap.size w w' → R j v w → R j v w')
    {listed : Array Bool} {σ : Nat → Value} {a : Act} {w w' : World} {v : Value} (hsz : listed.size = ops.size) (h : Mid ops n C R a0 listed σ a w) {i : Nat} (hin : i < n) {oi' : Oper} (hoi : ops[i]? = some oi') (hc' : C w') (hb' : Below w.heap.size w w') (hr' : R i v w') :
    Mid ops n C R a0 (listed.setIfInBounds i true) (fun j => if j = i then v else σ j) (a.put oi'.dst v) w' := by
  obtain ⟨o, ho, hg, hops, hd, _⟩ := hS.op i hin
  obtain rfl : oi' = o := Option.some.inj (hoi.symm.trans ho)
  refine ⟨hc', ?_, ?_, fun t => ?_, fun j hj hl => ?_⟩
  · unfold Act.put; split <;> exact h.d
  · unfold Act.put; split <;> simp [h.z]
  · have ht := h.t t
    have hset : (listed.setIfInBounds i true).getD i false = true := by
      have : i < listed.size := by rw [hsz]; exact (Array.getElem?_eq_some_iff.1 hoi).1
      simp [this]
    cases hdst : oi'.dst with
    | none =>
      show a.tmps.getD t undef = _
      rw [ht]
      cases hs : srcOf ops n t with
      | none => rfl
      | some j =>
        obtain ⟨_, o', ho', hd'⟩ := srcOf_some hs
        have hne : j ≠ i := fun e => by subst e; rw [hoi] at ho'; cases ho'; rw [hdst] at hd'; cases hd'
        simp only [getD_set_ne false (Ne.symm hne), hne, if_false]
    | some d =>
      obtain ⟨hsd, hdN⟩ := hd d hdst
      rw [put_at _ d t _ (by rw [h.z, hN]; exact hdN)]
      by_cases hdt : d = t
      · subst hdt; rw [if_pos rfl, hsd]; simp only [hset, if_true]
      · rw [if_neg hdt, ht]
        cases hs : srcOf ops n t with
        | none => rfl
        | some j =>
          obtain ⟨_, o', ho', hd'⟩ := srcOf_some hs
          have hne : j ≠ i := fun e => by subst e; rw [hoi] at ho'; cases ho'; rw [hdst] at hd'; cases hd'; exact hdt rfl
          simp only [getD_set_ne false (Ne.symm hne), hne, if_false]
  · by_cases hji : j = i
    · subst hji; simpa using hr'
    · rw [getD_set_ne false (Ne.symm hji)] at hl
      simp only [hji, if_false]
      exact hst j _ w w' hb' (h.r j hj hl)
/-- What is asked of an operation that may be guarded: what its guard is, and, if it runs, what it does. -/
def OpG (P : Program) (ops : Array Oper) (n : Nat) (C : World → Prop) (R : Nat → Value → World → Prop) (a0 : Act) (Q : Exit → Act → World → Prop) (i : Nat) (o : Oper) : Prop :=
  match o.guard with
  | none => OpOk P ops n C R a0 Q i o
  | some (j, want) => (∃ b, R j = is (.bool b) ∧ if b = want then OpOk P ops n C R a0 Q i o else R i = is undef) ∨ (R j = is undef ∧ R i = is undef)
theorem opG_none {i : Nat} {o : Oper} (hg : o.guard = none) (h : OpOk P ops n C R a0 Q i o) : OpG P ops n C R a0 Q i o := by unfold OpG; rw [hg]; exact h
theorem opG_run {i j : Nat} {want : Bool} {o : Oper} (hg : o.guard = some (j, want)) (hR : R j = is (.bool want)) (h : OpOk P ops n C R a0 Q i o) : OpG P ops n C R a0 Q i o := by unfold OpG; rw [hg]; exact .inl ⟨want, hR, by rw [if_pos rfl]; exact h⟩
theorem opG_skip {i j : Nat} {want b : Bool} {o : Oper} (hg : o.guard = some (j, want)) (hR : R j = is (.bool b)) (hb : b ≠ want) (hi : R i = is undef) : OpG P ops n C R a0 Q i o := by unfold OpG; rw [hg]; exact .inl ⟨b, hR, by rw [if_neg hb]; exact hi⟩
theorem opG_skip2 {i j : Nat} {want : Bool} {o : Oper} (hg : o.guard = some (j, want)) (hR : R j = is undef) (hi : R i = is undef) : OpG P ops n C R a0 Q i o := by unfold OpG; rw [hg]; exact .inr ⟨hR, hi⟩
theorem stepG (hS : GrowG ops n N) (hN : a0.tmps.size = N) (hst : ∀ j v w w', Below w.heap.size w w' → R j v w → R j v w')
    {listed : Array Bool} {σ : Nat → Value} {a : Act} {w : World} (hsz : listed.size = ops.size) (h : Mid ops n C R a0 listed σ a w) {i : Nat} (hi : i ∈ Region.ready .any ops listed) (hin : i < n) {oi' : Oper} (hoi : ops[i]? = some oi') (hop : OpG P ops n C R a0 Q i oi') :
    wpOp P ops Q i (fun a' w' => (listed.setIfInBounds i true).size = ops.size ∧ ∃ σ', Mid ops n C R a0 (listed.setIfInBounds i true) σ' a' w') a w := by
  obtain ⟨hun, oj0, hoj0, hall⟩ := mem_ready.1 hi
  obtain rfl : oi' = oj0 := Option.some.inj (hoi.symm.trans hoj0)
  obtain ⟨o, ho, hg, hops, hd, _⟩ := hS.op i hin
  obtain rfl : oi' = o := Option.some.inj (hoi.symm.trans ho)
  have hpre : ∀ x, x ∈ oi'.op.operands → preOf ops n R a0 x (a.eval x) w := by
    intro x hx
    cases x with
    | tmp t =>
      have ht := h.t t
      show (match srcOf ops n t with | some j => R j | none => is (a0.eval (.tmp t))) _ w
      cases hs : srcOf ops n t with
      | none => rw [hs] at ht; exact ht
      | some j =>
        rw [hs] at ht
        obtain ⟨oj, hoj, e, he, hb, hon⟩ := Region.waitsFor_spec (hops t j hx hs)
        have hoj' : oj = oi' := Option.some.inj (hoj.symm.trans hoi)
        have hl : listed.getD j false = true := by
          rw [← hon]; exact hall e (by rw [← hoj']; exact he) hb
        simp only [hl, if_true] at ht
        show R j (a.tmps.getD t undef) w
        rw [ht]
        exact h.r j (srcOf_some hs).1 hl
    | const v => rfl
    | global g => rfl
    | func f => rfl
  have run : OpOk P ops n C R a0 Q i oi' → oi'.wp P a w (fun a' w' => (listed.setIfInBounds i true).size = ops.size ∧ ∃ σ', Mid ops n C R a0 (listed.setIfInBounds i true) σ' a' w') Q := fun hok => by
    refine Oper.wp_mono (fun a' w' hh => ?_) (hok a w ⟨h.d, fun t ht => by have := h.t t; rw [ht] at this; exact this⟩ h.c hpre)
    obtain ⟨v, rfl, hc', hb', hr'⟩ := hh
    exact ⟨by simp [hsz], _, mid_put hS hN hst hsz h hin hoi hc' hb' hr'⟩
  unfold OpG at hop
  unfold wpOp
  simp only [hoi]
  cases hgd : oi'.guard with
  | none =>
    rw [hgd] at hop
    have hw : Region.wanted oi' (yielded ops a.tmps) = true := by simp [Region.wanted, hgd]
    simp only [hw, if_true]
    exact .inl (run hop)
  | some jw =>
    obtain ⟨j, want⟩ := jw
    rw [hgd] at hop
    obtain ⟨hwt, hjn, oj, d, hoj, hdj, hsd⟩ := hg j want hgd
    obtain ⟨ok, hok, e, he, hb, hon⟩ := Region.waitsFor_spec hwt
    have hok' : ok = oi' := Option.some.inj (hok.symm.trans hoi)
    have hl : listed.getD j false = true := by rw [← hon]; exact hall e (by rw [← hok']; exact he) hb
    have ht := h.t d
    rw [hsd] at ht
    simp only [hl, if_true] at ht
    have hr := h.r j hjn hl
    rcases hop with ⟨b, hRj, hop⟩ | ⟨hRj, hop⟩
    case inr =>
      rw [hRj] at hr
      have hv : a.tmps.getD d undef = undef := by rw [ht]; exact hr
      have hy : yielded ops a.tmps j = none := by
        cases hd2 : a.tmps[d]? with
        | none => simp [yielded, hoj, hdj, hd2]
        | some x =>
          have : x = undef := by
            have h1 : a.tmps.getD d undef = x := by simp [hd2]
            rw [← h1]; exact hv
          subst this
          simp [yielded, hoj, hdj, hd2, undef]
      have hw : Region.wanted oi' (yielded ops a.tmps) = false := by simp [Region.wanted, hgd, hy]
      simp only [hw, Bool.false_eq_true, if_false]
      exact ⟨by simp [hsz], _, mid_put hS hN hst hsz h hin hoi h.c (Below.refl _ _) (by rw [hop]; rfl)⟩
    rw [hRj] at hr
    have hv : a.tmps.getD d undef = .bool b := by rw [ht]; exact hr
    have hdz : d < a.tmps.size := by
      rcases Nat.lt_or_ge d a.tmps.size with h1 | h1
      · exact h1
      · rw [Array.getD, dif_neg (by omega)] at hv; cases hv
    have hy : yielded ops a.tmps j = some b := by
      have : a.tmps[d]? = some (.bool b) := by
        rw [Array.getElem?_eq_getElem hdz]
        rw [Array.getD, dif_pos hdz] at hv
        exact congrArg some hv
      simp [yielded, hoj, hdj, this]
    by_cases hbw : b = want
    · rw [if_pos hbw] at hop
      have hw : Region.wanted oi' (yielded ops a.tmps) = true := by simp [Region.wanted, hgd, hy, hbw]
      simp only [hw, if_true]
      exact .inl (run hop)
    · rw [if_neg hbw] at hop
      have hw : Region.wanted oi' (yielded ops a.tmps) = false := by simp [Region.wanted, hgd, hy, hbw]
      simp only [hw, Bool.false_eq_true, if_false]
      exact ⟨by simp [hsz], _, mid_put hS hN hst hsz h hin hoi h.c (Below.refl _ _) (by rw [hop]; rfl)⟩
theorem any_invG (I : Array Bool → Act → World → Prop) (hsz : ∀ listed a w, I listed a w → listed.size = ops.size) (hlow : ∀ (i : Nat) (o : Oper), ops[i]? = some o → ∀ e ∈ o.after, Region.binds .any e = true → e.on < i)
    (hstep : ∀ (listed : Array Bool) (a : Act) (w : World) (i : Nat) (o : Oper), I listed a w → i ∈ Region.ready .any ops listed → ops[i]? = some o → wpOp P ops Q i (fun a' w' => I (listed.setIfInBounds i true) a' w') a w)
    (hend : ∀ listed a w, I listed a w → (∀ i, i < ops.size → listed.getD i false = true) → Q .normal a w) :
    ∀ (c : Nat) (listed : Array Bool) (a : Act) (w : World), left ops.size listed = c → I listed a w → wpAny P .any ops Q c listed a w
  | 0, listed, a, w, hl, h => by
    have hall := left_zero hl
    refine ⟨?_, hend listed a w h hall⟩
    rw [List.eq_nil_iff_forall_not_mem]
    intro i hi
    obtain ⟨hun, o, ho, _⟩ := mem_ready.1 hi
    have h1 := hall i (Array.getElem?_eq_some_iff.1 ho).1
    rw [getD_both hun] at h1
    cases h1
  | c + 1, listed, a, w, hl, h => by
    have hs := hsz listed a w h
    obtain ⟨i0, hi0, hf0, hlow0⟩ := left_pos (n := ops.size) (listed := listed) (by omega)
    have hr0 : i0 ∈ Region.ready .any ops listed := mem_ready.2 ⟨getD_in (by omega) hf0, ops[i0], by simp [hi0], fun e he hb => hlow0 _ (hlow i0 _ (by simp [hi0]) e he hb)⟩
    refine ⟨fun h0 => absurd hr0 (by rw [h0]; simp), fun i hi => ?_⟩
    obtain ⟨hun, o, ho, _⟩ := mem_ready.1 hi
    have hio := (Array.getElem?_eq_some_iff.1 ho).1
    refine wpOp_mono (fun a' w' h' => ?_) (hstep listed a w i o h hi ho)
    exact any_invG I hsz hlow hstep hend c _ a' w' (by have := left_set (n := ops.size) (listed := listed) (i := i) hio (by omega) (getD_both hun); omega) h'
def OpsG (P : Program) (ops : Array Oper) (n : Nat) (C : World → Prop) (R : Nat → Value → World → Prop) (a0 : Act) (Q : Exit → Act → World → Prop) : Nat → List Oper → Prop
  | _, [] => True
  | i, o :: l => OpG P ops n C R a0 Q i o ∧ OpsG P ops n C R a0 Q (i + 1) l
theorem opsG_at : ∀ (i : Nat) (l : List Oper), OpsG P ops n C R a0 Q i l → ∀ j o, l[j]? = some o → OpG P ops n C R a0 Q (i + j) o
  | i, [], _, j, o, h => by simp at h
  | i, o' :: l, h, 0, o, hl => by
    have : o' = o := by simpa using hl
    rw [← this]
    exact h.1
  | i, o' :: l, h, j + 1, o, hl => by
    have := opsG_at (i + 1) l h.2 j o (by simpa using hl)
    rwa [show i + 1 + j = i + (j + 1) by omega] at this
/-- **The rule**, guards and all. -/
theorem region_guard {id : Nat} {w : World} {l : List Oper} (n N : Nat) (C : World → Prop) (Rs : List (Value → World → Prop)) (hm : P.follows .mixedOrders = true) (hB : guardB l.toArray n N = true) (hN : a0.tmps.size = N)
    (hst : ∀ r ∈ Rs, Stable r) (h0 : C w.drew) (hop : OpsG P l.toArray n C (Rtab Rs) a0 Q 0 l)
    (hend : ∀ (σ : Nat → Value) (w : World), C w → (∀ j, j < n → Rtab Rs j (σ j) w) → Q .normal (putAll l.toArray a0 σ n) w) : (Code.region id l.toArray true).wp P Q a0 w := by
  obtain ⟨hO, hn⟩ := guardG hB
  refine wp_region_any hm ?_
  have hl : left l.toArray.size (Array.replicate l.toArray.size false) = l.toArray.size := by
    unfold left
    rw [List.filter_eq_self.2 (fun i _ => by rw [getD_replicate_false]; rfl), List.length_range]
  refine any_invG (fun listed a w => listed.size = l.toArray.size ∧ ∃ σ, Mid l.toArray n C (Rtab Rs) a0 listed σ a w) (fun _ _ _ h => h.1) (fun i o ho => ?_) ?_ ?_ _ _ a0 w.drew hl ?_
  · obtain ⟨o', ho', _, _, _, hlow⟩ := hO.op i (by rw [hn]; exact (Array.getElem?_eq_some_iff.1 ho).1)
    obtain rfl : o' = o := Option.some.inj (ho'.symm.trans ho)
    exact hlow
  · rintro listed a w i o ⟨hs, σ, hmid⟩ hi ho
    have := opsG_at 0 l hop i o (by simpa using ho)
    rw [Nat.zero_add] at this
    exact stepG hO hN (rtab_stable hst) hs hmid hi (by rw [hn]; exact (Array.getElem?_eq_some_iff.1 ho).1) ho this
  · rintro listed a w ⟨hs, σ, hmid⟩ hfull
    have ha : a = putAll l.toArray a0 σ n := by
      obtain ⟨tm, df⟩ := a
      have hd := hmid.d
      have hz := hmid.z
      have htt := hmid.t
      simp only at hd hz htt
      have e1 : (putAll l.toArray a0 σ n).defers = df := by rw [putAll_defers, hd]
      have e2 : tm = (putAll l.toArray a0 σ n).tmps := by
        apply Array.ext
        · rw [hz, putAll_size]
        · intro i h1 h2
          have x1 := htt i
          have x2 := putAll_atG hO a0 hN σ n (Nat.le_refl _) i
          have x3 : tm.getD i undef = (putAll l.toArray a0 σ n).tmps.getD i undef := by
            rw [x1, x2]
            cases hs : srcOf l.toArray n i with
            | none => rfl
            | some j =>
              have hj := (srcOf_some hs).1
              simp only [hfull j (by omega), if_true, hj]
          simpa [h1, h2] using x3
      rw [e2, ← e1]
    rw [ha]
    exact hend σ w hmid.c (fun j hj => hmid.r j hj (hfull j (by omega)))
  · exact ⟨by simp, fun _ => undef, h0, rfl, rfl, fun t => by
      cases srcOf l.toArray n t with
      | none => rfl
      | some j => simp only [getD_replicate_false, Bool.false_eq_true, if_false], fun j _ hl => by rw [getD_replicate_false] at hl; cases hl⟩
end Go.Proofs.YtolmehmglgmanaaGreatDoor
