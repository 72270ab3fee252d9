/- A region that draws its order, whose operations may also write what the caller allows: a relation G says what each may turn, each word abides it. One proof for all orders. No condition. -/
import Derived.Test.YtolmehmglgmanaaGreatDoorRegionS
namespace Go.Proofs.YtolmehmglgmanaaGreatDoor
open Go.RowKit

variable {P : Program} {ops : Array Oper} {n N : Nat} {C : World → Prop} {R : Nat → Value → World → Prop} {a0 : Act} {Q : Exit → Act → World → Prop} {G : World → World → Prop}
/-- What is asked of an operation; G: what it may turn. -/
def OpOkG (P : Program) (ops : Array Oper) (n : Nat) (C : World → Prop) (R : Nat → Value → World → Prop) (a0 : Act) (Q : Exit → Act → World → Prop) (G : World → World → Prop) (i : Nat) (o : Oper) : Prop :=
  ∀ (a : Act) (w : World), SameF ops n a0 a → C w → (∀ x, x ∈ o.op.operands → preOf ops n R a0 x (a.eval x) w) →
    o.wp P a w (fun a' w' => ∃ v, a' = a.put o.dst v ∧ C w' ∧ G w w' ∧ R i v w') Q
theorem opG_of {i : Nat} {o : Oper} (hG : ∀ w w', C w → Below w.heap.size w w' → G w w') (h : OpOk P ops n C R a0 Q i o) : OpOkG P ops n C R a0 Q G i o := fun a w hd hC hpre =>
  Oper.wp_mono (fun a' w' ⟨v, e, hc, hb, hr⟩ => ⟨v, e, hc, hG w w' hC hb, hr⟩) (h a w hd hC hpre)
theorem growG_wp (hS : GrowO .any ops n N) (hN : a0.tmps.size = N) (hst : ∀ j v w w', G w w' → R j v w → R j v w') (hop : ∀ i o, i < n → ops[i]? = some o → OpOkG P ops n C R a0 Q G i o)
    {listed : Array Bool} {σ : Nat → Value} {a : Act} {w : World} (hsz : listed.size = ops.size) (h : Mid ops n C R a0 listed σ a w) {i : Nat} (hi : i ∈ Region.ready .any ops listed) (hin : i < n) {K : Act → World → Prop}
    (hK : ∀ σ' a' w', Mid ops n C R a0 (listed.setIfInBounds i true) σ' a' w' → K a' w') {oi : Oper} (hoi : ops[i]? = some oi) : oi.wp P a w K Q := by
  obtain ⟨hun, oi', hoi', hall⟩ := mem_ready.1 hi
  obtain rfl : oi' = oi := Option.some.inj (hoi'.symm.trans hoi)
  obtain ⟨o, ho, hg, hops, hd, _⟩ := hS.op i hin
  obtain rfl : oi' = o := Option.some.inj (hoi.symm.trans ho)
  have hunf := getD_both hun
  have hpre : ∀ x, x ∈ oi'.op.operands → preOf ops n R a0 x (a.eval x) w := by
    intro x hx
    cases x with
    | tmp t =>
      have ht := h.t t
      show (match srcOf ops n t with | some j => R j | none => is (a0.eval (.tmp t))) _ w
      cases hs : srcOf ops n t with
      | none => rw [hs] at ht; exact ht
      | some j =>
        rw [hs] at ht
        obtain ⟨oj, hoj, e, he, hb, hon⟩ := Region.waitsFor_spec (hops t j hx hs)
        have hoj' : oj = oi' := Option.some.inj (hoj.symm.trans hoi)
        have hl : listed.getD j false = true := by
          rw [← hon]; exact hall e (by rw [← hoj']; exact he) hb
        simp only [hl, if_true] at ht
        show R j (a.tmps.getD t undef) w
        rw [ht]
        exact h.r j (srcOf_some hs).1 hl
    | const v => rfl
    | global g => rfl
    | func f => rfl
  refine Oper.wp_mono (fun a' w' hh => ?_) (hop i oi' hin hoi a w ⟨h.d, fun t ht => by have := h.t t; rw [ht] at this; exact this⟩ h.c hpre)
  obtain ⟨v, rfl, hc', hb', hr'⟩ := hh
  refine hK (fun j => if j = i then v else σ j) _ w' ⟨hc', ?_, ?_, fun t => ?_, fun j hj hl => ?_⟩
  · unfold Act.put; split <;> exact h.d
  · unfold Act.put; split <;> simp [h.z]
  · have ht := h.t t
    have hset : (listed.setIfInBounds i true).getD i false = true := by
      have : i < listed.size := by rw [hsz]; exact (Array.getElem?_eq_some_iff.1 hoi).1
      simp [this]
    cases hdst : oi'.dst with
    | none =>
      show a.tmps.getD t undef = _
      rw [ht]
      cases hs : srcOf ops n t with
      | none => rfl
      | some j =>
        obtain ⟨_, o', ho', hd'⟩ := srcOf_some hs
        have hne : j ≠ i := fun e => by subst e; rw [hoi] at ho'; cases ho'; rw [hdst] at hd'; cases hd'
        simp only [getD_set_ne false (Ne.symm hne), hne, if_false]
    | some d =>
      obtain ⟨hsd, hdN⟩ := hd d hdst
      rw [put_at _ d t _ (by rw [h.z, hN]; exact hdN)]
      by_cases hdt : d = t
      · subst hdt; rw [if_pos rfl, hsd]; simp only [hset, if_true]
      · rw [if_neg hdt, ht]
        cases hs : srcOf ops n t with
        | none => rfl
        | some j =>
          obtain ⟨_, o', ho', hd'⟩ := srcOf_some hs
          have hne : j ≠ i := fun e => by subst e; rw [hoi] at ho'; cases ho'; rw [hdst] at hd'; cases hd'; exact hdt rfl
          simp only [getD_set_ne false (Ne.symm hne), hne, if_false]
  · by_cases hji : j = i
    · subst hji; simpa using hr'
    · rw [getD_set_ne false (Ne.symm hji)] at hl
      simp only [hji, if_false]
      exact hst j _ w w' hb' (h.r j hj hl)

def OpsOkG (P : Program) (ops : Array Oper) (C : World → Prop) (R : Nat → Value → World → Prop) (a0 : Act) (Q : Exit → Act → World → Prop) (G : World → World → Prop) (n : Nat) : Nat → List Oper → Prop
  | _, [] => True
  | i, o :: l => OpOkG P ops n C R a0 Q G i o ∧ OpsOkG P ops C R a0 Q G n (i + 1) l
theorem opsOkG_at : ∀ (k : Nat) (l : List Oper), OpsOkG P ops C R a0 Q G n k l → ∀ (i : Nat) (o : Oper), l[i]? = some o → OpOkG P ops n C R a0 Q G (k + i) o
  | _, [], _, i, o, h => by simp at h
  | k, o :: l, ⟨h1, h2⟩, 0, o', h => by simp at h; subst h; exact h1
  | k, o :: l, ⟨h1, h2⟩, i + 1, o', h => by have := opsOkG_at (k + 1) l h2 i o' (by simpa using h); rwa [show k + 1 + i = k + (i + 1) by omega] at this
structure MidG (ops : Array Oper) (C : World → Prop) (R : Nat → Value → World → Prop) (a0 : Act) (listed : Array Bool) (a : Act) (w : World) : Prop where
  size : listed.size = ops.size
  mid : ∃ σ, Mid ops ops.size C R a0 listed σ a w
/-- The rule: in whatever order; no tail. -/
theorem region_all {id : Nat} {w : World} {l : List Oper} (N : Nat) (C : World → Prop) (G : World → World → Prop) (Rs : List (Value → World → Prop)) (hm : P.follows .mixedOrders = true) (hB : growB .any l.toArray l.length N = true) (hN : a0.tmps.size = N)
    (hst : ∀ r ∈ Rs, ∀ v w w', G w w' → r v w → r v w') (h0 : C w.drew) (hop : OpsOkG P l.toArray C (Rtab Rs) a0 Q G l.length 0 l)
    (hend : ∀ (σ : Nat → Value) (w : World), C w → (∀ j, j < l.length → Rtab Rs j (σ j) w) → Q .normal (putAll l.toArray a0 σ l.length) w) : (Code.region id l.toArray true).wp P Q a0 w := by
  have hO := (growS hB).toGrowO
  have hsz : l.toArray.size = l.length := by simp
  refine wp_region_any hm ?_
  have hl : left l.toArray.size (Array.replicate l.toArray.size false) = l.toArray.size := by
    unfold left
    rw [List.filter_eq_self.2 (fun i _ => by rw [getD_replicate_false]; rfl), List.length_range]
  have hst' : ∀ j v w w', G w w' → Rtab Rs j v w → Rtab Rs j v w' := by
    intro j v w w' hG hr
    unfold Rtab at hr ⊢
    rw [List.getD_eq_getElem?_getD] at hr ⊢
    cases hj : Rs[j]? with
    | none => rw [hj] at hr; exact hr
    | some r => rw [hj] at hr; exact hst r (List.mem_of_getElem? hj) _ w w' hG hr
  have hop' : ∀ (i : Nat) (o : Oper), i < l.toArray.size → l.toArray[i]? = some o → OpOkG P l.toArray l.toArray.size C (Rtab Rs) a0 Q G i o := fun i o hi ho => by
    have := opsOkG_at 0 l hop i o (by simpa using ho); rw [Nat.zero_add] at this; rw [hsz]; exact this
  refine any_inv (MidG l.toArray C (Rtab Rs) a0) (fun _ _ _ h => h.size) (fun i o ho => ?_) (fun i o ho => ?_) ?_ ?_ _ _ a0 w.drew hl ?_
  · obtain ⟨o', ho', hg, _⟩ := hO.op i (by have := (Array.getElem?_eq_some_iff.1 ho).1; omega)
    obtain rfl : o' = o := Option.some.inj (ho'.symm.trans ho)
    exact hg
  · obtain ⟨o', ho', _, _, _, hlow⟩ := hO.op i (by have := (Array.getElem?_eq_some_iff.1 ho).1; omega)
    obtain rfl : o' = o := Option.some.inj (ho'.symm.trans ho)
    exact hlow
  · intro listed a w i o h hi ho
    obtain ⟨σ, hmid⟩ := h.mid
    have hin : i < l.toArray.size := (Array.getElem?_eq_some_iff.1 ho).1
    exact growG_wp (n := l.toArray.size) (N := N) (by rw [hsz]; exact hO) hN hst' hop' h.size hmid hi hin (fun σ' a' w' h' => ⟨by simp [h.size], σ', h'⟩) ho
  · intro listed a w h hfull
    obtain ⟨σ, hmid⟩ := h.mid
    have ha : a = putAll l.toArray a0 σ l.length := by
      obtain ⟨tm, df⟩ := a
      have hd := hmid.d
      have hz := hmid.z
      have htt := hmid.t
      simp only at hd hz htt
      have e1 : (putAll l.toArray a0 σ l.length).defers = df := by rw [putAll_defers, hd]
      have e2 : tm = (putAll l.toArray a0 σ l.length).tmps := by
        apply Array.ext
        · rw [hz, putAll_size]
        · intro i h1 h2
          have x1 := htt i
          have x2 := putAll_at hO a0 hN σ l.length (Nat.le_refl _) i
          have x3 : tm.getD i undef = (putAll l.toArray a0 σ l.length).tmps.getD i undef := by
            rw [x1, x2, hsz]
            cases hs : srcOf l.toArray l.length i with
            | none => rfl
            | some j =>
              have hj := (srcOf_some hs).1
              simp only [hfull j (by rw [hsz]; exact hj), if_true, hj]
          simpa [h1, h2] using x3
      rw [e2, ← e1]
    rw [ha]
    exact hend σ w hmid.c (fun j hj => hmid.r j (by rw [hsz]; exact hj) (hfull j (by rw [hsz]; exact hj)))
  · exact ⟨by simp, fun _ => undef, h0, rfl, rfl, fun t => by
      cases srcOf l.toArray l.toArray.size t with
      | none => rfl
      | some j => simp only [getD_replicate_false, Bool.false_eq_true, if_false], fun j _ hl => by rw [getD_replicate_false] at hl; cases hl⟩
end Go.Proofs.YtolmehmglgmanaaGreatDoor
