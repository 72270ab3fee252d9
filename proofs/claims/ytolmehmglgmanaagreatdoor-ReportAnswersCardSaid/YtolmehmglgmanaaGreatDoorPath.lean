/- How paths lie in memory: segments, each with three lists of coefficients; no condition. -/
import Derived.Test.YtolmehmglgmanaaGreatDoorBase
namespace Go.Proofs.YtolmehmglgmanaaGreatDoor
open Go.RowKit

structure V3 where
  x : Int
  y : Int
  z : Int
deriving DecidableEq
structure Sg where
  f : Int
  t : Int
  o : Int
  x : List Int
  y : List Int
  z : List Int
deriving DecidableEq

def SegAt (w : World) (D : Nat → Prop) (s : Sg) (cs : List Value) : Prop :=
  ∃ vx vy vz, cs = [.int .i64 s.f, .int .i64 s.t, .int .i64 s.o, vx, vy, vz] ∧ SeesD w D 1 vx s.x.length (ints s.x) ∧ SeesD w D 1 vy s.y.length (ints s.y) ∧ SeesD w D 1 vz s.z.length (ints s.z)
def Segs (w : World) (D : Nat → Prop) : List Sg → List Value → Prop
  | [], cs => cs = []
  | s :: ss, cs => ∃ a b, cs = a ++ b ∧ SegAt w D s a ∧ Segs w D ss b
def PathD (w : World) (D : Nat → Prop) (v : Value) (ss : List Sg) : Prop := ∃ cs, SeesD w D 6 v ss.length cs ∧ Segs w D ss cs
def PathAt (w : World) (lo hi : Nat) (v : Value) (ss : List Sg) : Prop := PathD w (rg lo hi) v ss

section
variable {w w' : World} {D D' : Nat → Prop} {lo lo' hi hi' : Nat} {v : Value} {ss ss' : List Sg} {s : Sg} {cs cs' : List Value}
theorem SegAt.keep (h : SegAt w D s cs) (hk : ∀ b o, D b → w'.cell? ⟨b, o, none⟩ = w.cell? ⟨b, o, none⟩) : SegAt w' D s cs := by
  obtain ⟨vx, vy, vz, e, h1, h2, h3⟩ := h
  exact ⟨vx, vy, vz, e, h1.keep hk, h2.keep hk, h3.keep hk⟩
theorem SegAt.more (h : SegAt w D s cs) (hD : ∀ b, D b → D' b) : SegAt w D' s cs := by
  obtain ⟨vx, vy, vz, e, h1, h2, h3⟩ := h
  exact ⟨vx, vy, vz, e, h1.more hD, h2.more hD, h3.more hD⟩
theorem Segs.keep (hk : ∀ b o, D b → w'.cell? ⟨b, o, none⟩ = w.cell? ⟨b, o, none⟩) : ∀ {ss : List Sg} {cs : List Value}, Segs w D ss cs → Segs w' D ss cs
  | [], _, h => h
  | _ :: _, _, ⟨a, b, e, h1, h2⟩ => ⟨a, b, e, h1.keep hk, Segs.keep hk h2⟩
theorem Segs.more (hD : ∀ b, D b → D' b) : ∀ {ss : List Sg} {cs : List Value}, Segs w D ss cs → Segs w D' ss cs
  | [], _, h => h
  | _ :: _, _, ⟨a, b, e, h1, h2⟩ => ⟨a, b, e, h1.more hD, Segs.more hD h2⟩
theorem Segs.length : ∀ {ss : List Sg} {cs : List Value}, Segs w D ss cs → cs.length = ss.length * 6
  | [], _, h => by rw [h]; rfl
  | _ :: _, _, ⟨a, b, e, ⟨_, _, _, e1, _⟩, h2⟩ => by rw [e, e1, List.length_append, Segs.length h2]; simp; omega
theorem Segs.append : ∀ {ss ss' : List Sg} {cs cs' : List Value}, Segs w D ss cs → Segs w D ss' cs' → Segs w D (ss ++ ss') (cs ++ cs')
  | [], _, _, _, h, h' => by rw [h]; exact h'
  | _ :: _, _, _, _, ⟨a, b, e, h1, h2⟩, h' => ⟨a, b ++ _, by rw [e, List.append_assoc], h1, Segs.append h2 h'⟩
theorem Segs.one (h : SegAt w D s cs) : Segs w D [s] cs := ⟨cs, [], by simp, h, rfl⟩
theorem Segs.oneCell : ∀ {ss : List Sg} {cs : List Value}, Segs w D ss cs → ∀ u ∈ cs, u.oneCell' = true
  | [], _, h, u, hu => by rw [h] at hu; cases hu
  | _ :: _, _, ⟨a, b, e, ⟨vx, vy, vz, e1, h1, h2, h3⟩, hr⟩, u, hu => by
    obtain ⟨_, _, rfl⟩ := h1.slice
    obtain ⟨_, _, rfl⟩ := h2.slice
    obtain ⟨_, _, rfl⟩ := h3.slice
    rw [e, List.mem_append] at hu
    rcases hu with hu | hu
    · rw [e1] at hu; simp at hu; rcases hu with rfl | rfl | rfl | rfl | rfl | rfl <;> rfl
    · exact Segs.oneCell hr u hu
theorem Segs.at_ : ∀ {ss : List Sg} {cs : List Value}, Segs w D ss cs → ∀ {k : Nat} (hk : k < ss.length), ∃ a, SegAt w D ss[k] a ∧ ∀ j u, a[j]? = some u → cs[k * 6 + j]? = some u
  | s :: ss, _, ⟨a, b, e, h1, h2⟩, 0, _ => ⟨a, h1, fun j u hu => by
      rw [e, Nat.zero_mul, Nat.zero_add, List.getElem?_append_left]
      · exact hu
      · exact (List.getElem?_eq_some_iff.1 hu).1⟩
  | s :: ss, _, ⟨a, b, e, ⟨vx, vy, vz, e1, hh⟩, h2⟩, k + 1, hk => by
    obtain ⟨c, hc, hcell⟩ := Segs.at_ h2 (k := k) (by simpa using hk)
    refine ⟨c, hc, fun j u hu => ?_⟩
    rw [e, List.getElem?_append_right (by rw [e1]; simp; omega), ← hcell j u hu, e1]
    congr 1
    simp
    omega
theorem PathAt.keep (h : PathAt w lo hi v ss) (hk : ∀ b o, lo ≤ b → b < hi → w'.cell? ⟨b, o, none⟩ = w.cell? ⟨b, o, none⟩) : PathAt w' lo hi v ss := by
  obtain ⟨cs, h1, h2⟩ := h
  exact ⟨cs, SeesD.keep h1 fun b o hd => hk b o hd.1 hd.2, h2.keep fun b o hd => hk b o hd.1 hd.2⟩
theorem PathAt.more (h : PathAt w lo hi v ss) (hl : lo' ≤ lo) (hh : hi ≤ hi') : PathAt w lo' hi' v ss := by
  obtain ⟨cs, h1, h2⟩ := h
  have hD : ∀ b, rg lo hi b → rg lo' hi' b := fun b hd => ⟨Nat.le_trans hl hd.1, Nat.lt_of_lt_of_le hd.2 hh⟩
  exact ⟨cs, h1.more hD, h2.more hD⟩
theorem PathAt.below (h : PathAt w lo hi v ss) (hb : Below hi w w') : PathAt w' lo hi v ss := h.keep fun b o _ hlt => hb.cell (p := ⟨b, o, none⟩) hlt
theorem PathAt.up (h : PathAt w lo w.heap.size v ss) (hb : Below w.heap.size w w') : PathAt w' lo w'.heap.size v ss := (h.below hb).more (Nat.le_refl _) hb.size
theorem PathAt.keepG {row : Option Nat} (h : PathAt w lo hi v ss) (hg : w.grownBy w' row) (hB : hi ≤ w.heap.size) (hr : ∀ b, row = some b → b < lo ∨ hi ≤ b) : PathAt w' lo hi v ss :=
  h.keep fun b o h1 h2 => World.cell?_of_block (hg.block b (by omega) (fun e => by have := hr b e.symm; omega))
theorem PathAt.nil (A : Option Addr) (c : Nat) : PathAt w lo hi (.slice A 0 c) [] := ⟨[], SeesD.nil A c, rfl⟩
theorem PathAt.slice (h : PathAt w lo hi v ss) : ∃ A c, v = .slice A ss.length c := by
  obtain ⟨cs, h1, _⟩ := h
  exact h1.slice
end
/-- Points as cells. -/
def vecs (l : List V3) : List Value := l.flatMap fun v => [.int .i64 v.x, .int .i64 v.y, .int .i64 v.z]
theorem vecs_length : ∀ l : List V3, (vecs l).length = l.length * 3
  | [] => rfl
  | v :: l => by show ([Value.int .i64 v.x, .int .i64 v.y, .int .i64 v.z] ++ vecs l).length = _; rw [List.length_append, vecs_length l]; simp; omega
theorem vecs_at : ∀ (l : List V3) (k : Nat) (h : k < l.length) (j : Nat) (u : Value), [Value.int .i64 l[k].x, .int .i64 l[k].y, .int .i64 l[k].z][j]? = some u → (vecs l)[k * 3 + j]? = some u
  | v :: l, 0, _, j, u, hu => by
    show ([Value.int .i64 v.x, .int .i64 v.y, .int .i64 v.z] ++ vecs l)[0 * 3 + j]? = some u
    rw [Nat.zero_mul, Nat.zero_add, List.getElem?_append_left]
    · exact hu
    · exact (List.getElem?_eq_some_iff.1 hu).1
  | v :: l, k + 1, h, j, u, hu => by
    have := vecs_at l k (by simpa using h) j u hu
    show ([Value.int .i64 v.x, .int .i64 v.y, .int .i64 v.z] ++ vecs l)[(k + 1) * 3 + j]? = some u
    rw [List.getElem?_append_right (by simp; omega), ← this]
    congr 1
    simp
    omega
theorem vecs_append (a b : List V3) : vecs a ++ vecs b = vecs (a ++ b) := by simp [vecs]
def V3.zero : V3 := ⟨0, 0, 0⟩
end Go.Proofs.YtolmehmglgmanaaGreatDoor
