/- Words on memory that all walks of this seat share; no condition. -/
import Derived.Below
import Derived.Laws.OwnMore
import Derived.Deep.AppendLies
import Derived.Deep.Draws
import Derived.Laws.Rows
import Derived.Maps.AppendAt
import Derived.RegionTactic
import Derived.OwnWalk
import Derived.Deep.QuietTactic
import Derived.WalkKit
import Derived.WalkSpells
import Derived.WalkLawsBesides
import Derived.Lib.Hide
import Derived.Deep.Light
import Derived.Test.YtolmehmglgmanaaGreatDoorProg
namespace Go.Proofs.YtolmehmglgmanaaGreatDoor
open Go.RowKit

/-- A slice value 'v' of n elements, 'size' cells each, whose cells are xs; they lie in a block of D. -/
def SeesD (w : World) (D : Nat → Prop) (size : Nat) (v : Value) (n : Nat) (xs : List Value) : Prop :=
  xs.length = n * size ∧ ((∃ A c, v = .slice A 0 c ∧ n = 0) ∨
    ∃ b o c, v = .slice (some ⟨b, o, none⟩) n c ∧ D b ∧ ∀ j u, xs[j]? = some u → w.cell? ⟨b, o + j, none⟩ = some u)
/-- The blocks from lo on and below hi. -/
def rg (lo hi : Nat) : Nat → Prop := fun b => lo ≤ b ∧ b < hi
def Sees (w : World) (lo hi size : Nat) (v : Value) (n : Nat) (xs : List Value) : Prop := SeesD w (rg lo hi) size v n xs

section
variable {w w' : World} {D D' : Nat → Prop} {lo lo' hi hi' size n : Nat} {v : Value} {xs : List Value}
theorem SeesD.keep (h : SeesD w D size v n xs) (hk : ∀ b o, D b → w'.cell? ⟨b, o, none⟩ = w.cell? ⟨b, o, none⟩) : SeesD w' D size v n xs := by
  refine ⟨h.1, ?_⟩
  rcases h.2 with h0 | ⟨b, o, c, rfl, hd, hc⟩
  · exact .inl h0
  · exact .inr ⟨b, o, c, rfl, hd, fun j u hu => (hk b _ hd).trans (hc j u hu)⟩
theorem SeesD.more (h : SeesD w D size v n xs) (hD : ∀ b, D b → D' b) : SeesD w D' size v n xs := by
  refine ⟨h.1, ?_⟩
  rcases h.2 with h0 | ⟨b, o, c, rfl, hd, hc⟩
  · exact .inl h0
  · exact .inr ⟨b, o, c, rfl, hD b hd, hc⟩
theorem SeesD.slice (h : SeesD w D size v n xs) : ∃ A c, v = .slice A n c := by
  rcases h.2 with ⟨A, c, rfl, rfl⟩ | ⟨b, o, c, rfl, _⟩
  · exact ⟨A, c, rfl⟩
  · exact ⟨_, c, rfl⟩
theorem SeesD.nil (A : Option Addr) (c : Nat) : SeesD w D size (.slice A 0 c) 0 [] := ⟨by simp, .inl ⟨A, c, rfl, rfl⟩⟩
theorem Sees.keep (h : Sees w lo hi size v n xs) (hk : ∀ b o, lo ≤ b → b < hi → w'.cell? ⟨b, o, none⟩ = w.cell? ⟨b, o, none⟩) : Sees w' lo hi size v n xs :=
  SeesD.keep h fun b o hd => hk b o hd.1 hd.2
theorem Sees.more (h : Sees w lo hi size v n xs) (hl : lo' ≤ lo) (hB : hi ≤ hi') : Sees w lo' hi' size v n xs :=
  SeesD.more h fun b hd => ⟨Nat.le_trans hl hd.1, Nat.lt_of_lt_of_le hd.2 hB⟩
theorem Sees.below (h : Sees w lo hi size v n xs) (hb : Below hi w w') : Sees w' lo hi size v n xs :=
  h.keep fun b o _ hlt => hb.cell (p := ⟨b, o, none⟩) hlt
/-- Into a world that a call has only made greater. -/
theorem Sees.up (h : Sees w lo w.heap.size size v n xs) (hb : Below w.heap.size w w') : Sees w' lo w'.heap.size size v n xs :=
  (h.below hb).more (Nat.le_refl _) hb.size
theorem Sees.set (h : Sees w lo hi size v n xs) (p : Addr) (u : Value) (hp : p.block < lo ∨ hi ≤ p.block) : Sees (w.setCell p u) lo hi size v n xs :=
  h.keep fun b o h1 h2 => World.cell?_setCell_other w p ⟨b, o, none⟩ u (fun e => by subst e; simp at hp; omega)
theorem Sees.new (h : Sees w lo hi size v n xs) (hh : hi ≤ w.heap.size) (o : Obj) : Sees (w.alloc o) lo hi size v n xs :=
  h.below ((Below.refl _ _).alloc hh o)
theorem Sees.slice (h : Sees w lo hi size v n xs) : ∃ A c, v = .slice A n c := SeesD.slice h
theorem Sees.pos (h : Sees w lo hi size v n xs) (hn : 0 < n) :
    ∃ b o c, v = .slice (some ⟨b, o, none⟩) n c ∧ lo ≤ b ∧ b < hi ∧ ∀ j u, xs[j]? = some u → w.cell? ⟨b, o + j, none⟩ = some u := by
  rcases h.2 with ⟨A, c, rfl, rfl⟩ | ⟨b, o, c, e, hd, hc⟩
  · omega
  · exact ⟨b, o, c, e, hd.1, hd.2, hc⟩
theorem Sees.nil (A : Option Addr) (c : Nat) : Sees w lo hi size (.slice A 0 c) 0 [] := SeesD.nil A c
theorem Sees.keepG {row : Option Nat} (h : Sees w lo hi size v n xs) (hg : w.grownBy w' row) (hB : hi ≤ w.heap.size) (hr : ∀ b, row = some b → b < lo ∨ hi ≤ b) : Sees w' lo hi size v n xs :=
  h.keep fun b o h1 h2 => World.cell?_of_block (hg.block b (by omega) (fun e => by have := hr b e.symm; omega))
end
theorem ret_bool {a b : Bool} (h : a = b) : Ending.returned (.bool a) = .returned (.bool b) := by rw [h]
theorem Sees.new1 (w : World) (cs : List Value) (n b lo hi size : Nat) (t : TypeId) (hn : cs.length = n * size) (hb : w.heap.size = b) (hl : lo ≤ b) (hB : b < hi) :
    Sees (w.alloc (.cells cs.toArray t)) lo hi size (.slice (some ⟨b, 0, none⟩) n n) n cs := by
  subst hb
  refine ⟨by omega, .inr ⟨w.heap.size, 0, n, rfl, ⟨hl, hB⟩, fun j u hu => ?_⟩⟩
  simp [hu]
theorem own_new (w : World) (cs : List Value) (n b size : Nat) (e : TypeId) (hn : cs.length = n * size) (hb : w.heap.size = b) (hm : n ≤ maxLen) :
    (w.alloc (.cells cs.toArray e)).ownsRow b e size (.slice (some ⟨b, 0, none⟩) n n) n cs := by
  subst hb
  refine ⟨hn, .inr ⟨w.heap.size, n, cs.toArray, rfl, Nat.le_refl _, ?_, Nat.le_refl _, hm, by simpa using hn, by simp [← hn]⟩⟩
  exact heap_alloc_new w _
theorem Sees.own {w : World} {base size : Nat} {e : TypeId} {v : Value} {n : Nat} {xs : List Value} (h : w.ownsRow base e size v n xs) : Sees w base w.heap.size size v n xs := by
  refine ⟨h.1, ?_⟩
  rcases h.2 with ⟨rfl, rfl⟩ | ⟨g, cap, cur, rfl, hb, hg, hnc, hcm, hcs, htk⟩
  · exact .inl ⟨none, 0, rfl, rfl⟩
  · refine .inr ⟨g, 0, cap, rfl, ⟨hb, (Array.getElem?_eq_some_iff.1 hg).1⟩, fun j u hu => ?_⟩
    rw [Nat.zero_add, cell_of_row w g j cur e (0, 0) hg, ← Array.getElem?_toList]
    rw [← htk, List.getElem?_take] at hu
    split at hu
    · exact hu
    · cases hu
def ints (xs : List Int) : List Value := xs.map (.int .i64)
theorem ints_length (xs : List Int) : (ints xs).length = xs.length := by simp [ints]
theorem ints_at (xs : List Int) (k : Nat) (h : k < xs.length) : (ints xs)[k]? = some (.int .i64 xs[k]) := by simp [ints, h]
theorem ints_append (xs ys : List Int) : ints xs ++ ints ys = ints (xs ++ ys) := by simp [ints]
theorem int_info : (Tryz.prog.info? 3).map (fun i => (i.zero, i.size, i.bytes)) = some (some (.int .i64 0), 1, 8) := by kernel_rfl
theorem ret_int {k : IntKind} {a b : Int} (h : a = b) : Ending.returned (.int k a) = .returned (.int k b) := by rw [h]
/-- What a call that only makes new memory keeps. -/
theorem bcell {W w1 : World} {B : Nat} (hb : Below B W w1) : (∀ b o, b < B → w1.cell? ⟨b, o, none⟩ = W.cell? ⟨b, o, none⟩) ∧ (∀ b o, b < B → w1.frozen? ⟨b, o, none⟩ = W.frozen? ⟨b, o, none⟩) :=
  ⟨fun b o h => hb.cell (p := ⟨b, o, none⟩) h, fun b o h => hb.frozen (p := ⟨b, o, none⟩) h⟩
theorem heap_new (w : World) (o : Obj) (b : Nat) (hb : w.heap.size = b) : (w.alloc o).heap[b]? = some o := by subst hb; exact heap_alloc_new w o
theorem add_none (b o j : Nat) : (⟨b, o, none⟩ : Addr).add j = ⟨b, o + j, none⟩ := by unfold Addr.add; split <;> simp_all
/-- append onto a row of the call's own; the source may be nil or empty. -/
theorem run_append_sees (w : World) (base : Nat) (t ty e : TypeId) (i : TypeInfo) (z : Value) (size bytes : Nat) (ht : Tryz.prog.underlying t = some (.slice e)) (hi : Tryz.prog.info? e = some i) (hz : i.zero = some z)
    (hsize : i.size = size) (hby : i.bytes = bytes) (hzs : z.cells.size = size) (hsz : 0 < size) (v : Value) (n : Nat) (xs : List Value) (hown : w.ownsRow base e size v n xs)
    (D : Nat → Prop) (x : Value) (m : Nat) (news : List Value) (hr : SeesD w D size x m news) (h1 : ∀ u ∈ news, u.oneCell' = true) (h63 : n + m ≤ maxLen) (hbytes : (n + m) * bytes ≤ 140737488355328) (hbase : base ≤ w.heap.size) :
    ∃ v' w', (Builtin.append_ #[t, t] ty #[v, x]).run Tryz.prog w = .ok v' w' ∧ w'.ownsRow base e size v' (n + m) (xs ++ news) ∧ w.grownBy w' v.ownBlock ∧ (v'.ownBlock = v.ownBlock ∨ v'.ownBlock = some w.heap.size) := by
  rcases hr.2 with ⟨A, c, rfl, rfl⟩ | ⟨b, o, c, rfl, _, hc⟩
  · have hn : news = [] := List.eq_nil_of_length_eq_zero (by simpa using hr.1)
    subst hn
    cases A with
    | none =>
      refine ⟨v, w, ?_, by simpa using hown, ⟨rfl, rfl, rfl, Nat.le_refl _, fun _ _ _ => rfl⟩, .inl rfl⟩
      rcases hown.2 with ⟨rfl, rfl⟩ | ⟨g, cap, cur, rfl, _, _, hnc, _⟩
      · simp [Builtin.append_, run_underlying ht, sizeOf, typeInfo, hi, Builtin.lenOf, Builtin.firstCells]
      · simp [Builtin.append_, run_underlying ht, sizeOf, typeInfo, hi, Builtin.lenOf, Builtin.firstCells, hnc, storeCells]
    | some ad =>
      obtain ⟨v', w', hrun, h2, h3, _, h5⟩ := run_append_own_at (P := Tryz.prog) w base t ty e i z size bytes ht hi hz hsize hby hzs hsz v n xs hown ad 0 c [] (by simp) (by simp) h1 h63 hbytes hbase
      exact ⟨v', w', hrun, h2, h3, h5⟩
  · obtain ⟨v', w', hrun, h2, h3, _, h5⟩ := run_append_own_at (P := Tryz.prog) w base t ty e i z size bytes ht hi hz hsize hby hzs hsz v n xs hown ⟨b, o, none⟩ m c news hr.1 (fun j u hu => by rw [add_none]; exact hc j u hu) h1 h63 hbytes hbase
    exact ⟨v', w', hrun, h2, h3, h5⟩
theorem wpList_append_sees {w : World} {ops : Array Oper} {rest : List Oper} {o : Oper} {a : Act} {Q : Exit → Act → World → Prop} (hgd : o.guard = none) (s x : Operand) (t : TypeId)
    (ho : o.op = .call { callee := .builtin .append, args := #[s, x], argTypes := #[t, t] }) (base : Nat) (e : TypeId) (i : TypeInfo) (z : Value) (size bytes : Nat) (ht : Tryz.prog.underlying t = some (.slice e)) (hi : Tryz.prog.info? e = some i) (hz : i.zero = some z)
    (hsize : i.size = size) (hby : i.bytes = bytes) (hzs : z.cells.size = size) (hsz : 0 < size) (v : Value) (n : Nat) (xs : List Value) (hs : a.eval s = v) (hown : w.ownsRow base e size v n xs)
    (D : Nat → Prop) (u : Value) (m : Nat) (news : List Value) (hx : a.eval x = u) (hr : SeesD w D size u m news) (h1 : ∀ u ∈ news, u.oneCell' = true) (h63 : n + m ≤ maxLen) (hbytes : (n + m) * bytes ≤ 140737488355328) (hbase : base ≤ w.heap.size)
    (h : ∀ v' w', w'.ownsRow base e size v' (n + m) (xs ++ news) → w.grownBy w' v.ownBlock → (v'.ownBlock = v.ownBlock ∨ v'.ownBlock = some w.heap.size) → wpList Tryz.prog ops Q rest (a.put o.dst v') w') : wpList Tryz.prog ops Q (o :: rest) a w := by
  refine wpList_plain hgd fun K hK => ?_
  obtain ⟨v', w', hrun, h2, h3, h4⟩ := run_append_sees w base t o.type e i z size bytes ht hi hz hsize hby hzs hsz v n xs hown D u m news hr h1 h63 hbytes hbase
  unfold Oper.wp
  simp [execOp, ho, resolve, invoke, builtin, hs, hx, hrun, Result.andThen]
  exact hK _ _ (h v' w' h2 h3 h4)
end Go.Proofs.YtolmehmglgmanaaGreatDoor
