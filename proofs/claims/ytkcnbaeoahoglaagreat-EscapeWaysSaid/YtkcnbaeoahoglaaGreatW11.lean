/- Part 11 of the proof of EW.row_holds, joined by program: no condition beyond the row's own. -/
import Derived.Test.YtkcnbaeoahoglaaGreatW10
set_option maxRecDepth 100000
set_option maxHeartbeats 40000000
namespace Go.Proofs.YtkcnbaeoahoglaaGreat
open Go.RowKit
def chooseN : Nat → Nat → Nat
 | _, 0 => 1
 | 0, _ + 1 => 0
 | n + 1, k + 1 => chooseN n k + chooseN n (k + 1)
def chL (n k : Nat) : List Int := (List.range 36).map fun i => if i / 6 < n ∨ (i / 6 = n ∧ i % 6 < k) then (chooseN (i / 6) (i % 6) : Int) else 0
theorem chL_length (n k : Nat) : (chL n k).length = 36 := by simp [chL]
theorem chL_start : chL 0 0 = List.replicate 36 0 := by decide
theorem chL_set : ∀ n, n < 6 → ∀ k, k < 6 → (chL n k).set (n * 6 + k) (chooseN n k) = chL n (k + 1) := by decide
theorem chL_get : ∀ n, n < 6 → ∀ k, k < 6 → ∀ m, m < n → ∀ j, j < 6 → (chL n k).getD (m * 6 + j) 0 = chooseN m j := by decide
theorem chL_end (n : Nat) (h : n < 6) : ∀ d, n + 1 + d = 6 → chL n (n + 1) = chL (n + 1) 0 := by
 intro d hd
 have : ∀ n, n < 6 → chL n (n + 1) = chL (n + 1) 0 := by decide
 exact this n h
def IntsAt (w : World) (b : Nat) (t : TypeId) (l : List Int) : Prop := w.heap[b]? = some (.cells (ints l).toArray t (0, 0))
theorem IntsAt.cell {w : World} {b : Nat} {t : TypeId} {l : List Int} (h : IntsAt w b t l) {i : Nat} (hi : i < l.length) : w.cell? ⟨b, i, none⟩ = some (.int .i64 (l.getD i 0)) := by
  simp [World.cell?, show w.heap[b]? = _ from h, ints, hi]
theorem IntsAt.frozen {w : World} {b : Nat} {t : TypeId} {l : List Int} (h : IntsAt w b t l) (i : Nat) : w.frozen? ⟨b, i, none⟩ = false := by
  simp [World.frozen?, show w.heap[b]? = _ from h]
theorem IntsAt.set {w : World} {b : Nat} {t : TypeId} {l : List Int} (h : IntsAt w b t l) (i : Nat) (x : Int) : IntsAt (w.setCell ⟨b, i, none⟩ (.int .i64 x)) b t (l.set i x) := by
 unfold IntsAt at *
 simp [World.setCell, Array.getElem?_modify, h, ints, List.map_set]
theorem IntsAt.other {w : World} {b : Nat} {t : TypeId} {l : List Int} (h : IntsAt w b t l) (p : Addr) (u : Value) (hp : b ≠ p.block) : IntsAt (w.setCell p u) b t l := (Below.heap_setCell w p u b hp).trans h
theorem run_loadVarN {P : Program} {T : TypeId} {b o : Nat} (cs : List Value) (w : World) (hT : (isAgg T).run P w = .ok true w) (hn : (sizeOf T).run P w = .ok cs.length w) (hc : ∀ j u, cs[j]? = some u → w.cell? ⟨b, o + j, none⟩ = some u) :
  (loadVar T ⟨b, o, none⟩).run P w = .ok (.agg cs.toArray) w := by
 have := run_loadFrom (P := P) (w := w) (b := b) (o := o) cs 0 #[] (fun j u hu => by rw [Nat.zero_add]; exact hc j u hu)
 simp [loadVar, hT, hn, loadCells, this]
theorem run_storeN {P : Program} {T : TypeId} {b : Nat} (cs : List Value) (w : World) (hn : (sizeOf T).run P w = .ok cs.length w) (hc : ∀ j, j < cs.length → (w.cell? ⟨b, j, none⟩).isSome = true) (hf : ∀ j, j < cs.length → w.frozen? ⟨b, j, none⟩ = false) (h1 : ∀ v ∈ cs, v.oneCell' = true) :
  (Instr.storeAt T (.pointer (some ⟨b, 0, none⟩)) (.agg cs.toArray)).run P w = .ok () (w.setCells b 0 cs) := by
 have hs := run_storeCells_cells (P := P) b 0 cs 0 w (by simpa using hc) (by simpa using hf) h1
 simp [Instr.storeAt, Instr.sureAddr, storeVar, hn, Value.cells, hs]
theorem wpList_load_agg {P : Program} {w : World} {ops : Array Oper} {rest : List Oper} {o : Oper} {a : Act} {Q : Exit → Act → World → Prop} (hgd : o.guard = none) (T : TypeId) (x : Operand) (ho : o.op = .load T x) (b : Nat) (cs : List Value) (hx : a.eval x = .pointer (some ⟨b, 0, none⟩))
  (hT : (isAgg T).run P w = .ok true w) (hn : (sizeOf T).run P w = .ok cs.length w) (hc : ∀ j u, cs[j]? = some u → w.cell? ⟨b, 0 + j, none⟩ = some u) (h : wpList P ops Q rest (a.put o.dst (.agg cs.toArray)) w) : wpList P ops Q (o :: rest) a w := by
 refine wpList_plain hgd fun K hK => ?_
 have hrun := run_loadN (P := P) (T := T) (b := b) (o := 0) cs w hT hn hc
 unfold Oper.wp
 simp [execOp, ho, hx, hrun, Result.andThen]
 exact hK _ _ h
theorem wpList_store_agg {P : Program} {w : World} {ops : Array Oper} {rest : List Oper} {o : Oper} {a : Act} {Q : Exit → Act → World → Prop} (hgd : o.guard = none) (hd : o.dst = none) (T : TypeId) (x y : Operand) (ho : o.op = .store T x y) (b : Nat) (cs : List Value) (hx : a.eval x = .pointer (some ⟨b, 0, none⟩)) (hy : a.eval y = .agg cs.toArray)
  (hn : (sizeOf T).run P w = .ok cs.length w) (hc : ∀ j, j < cs.length → (w.cell? ⟨b, j, none⟩).isSome = true) (hf : ∀ j, j < cs.length → w.frozen? ⟨b, j, none⟩ = false) (h1 : ∀ v ∈ cs, v.oneCell' = true) (h : wpList P ops Q rest a (w.setCells b 0 cs)) : wpList P ops Q (o :: rest) a w := by
 refine wpList_plain hgd fun K hK => ?_
 have hrun := run_storeN (P := P) (T := T) (b := b) cs w hn hc hf h1
 unfold Oper.wp
 simp [execOp, ho, hx, hy, hrun, Result.andThen]
 have e : a.put o.dst undef = a := by rw [hd]; rfl
 have h2 := hK _ _ h
 rw [← e] at h2
 exact h2
theorem IntsAt.load {w : World} {b : Nat} {t : TypeId} {l : List Int} (h : IntsAt w b t l) : ∀ j u, (ints l)[j]? = some u → w.cell? ⟨b, 0 + j, none⟩ = some u := fun j u hu => by
 rw [Nat.zero_add]
 simp only [World.cell?, show w.heap[b]? = _ from h]
 simpa using hu
theorem ints_one (l : List Int) : ∀ v ∈ ints l, v.oneCell' = true := by
 intro v hv
 obtain ⟨x, _, rfl⟩ := List.mem_map.1 hv
 rfl
theorem tab_size (w : World) : (sizeOf 180).run Tryz.prog w = .ok (ints (chL 6 0)).length w := by kernel_rfl
theorem tab_agg (w : World) : (isAgg 180).run Tryz.prog w = .ok true w := by kernel_rfl
structure ChJ (w : World) (n k : Nat) (wr : World) : Prop where
 tab : IntsAt wr (w.heap.size + 1) 180 (chL n k)
 res : IntsAt wr w.heap.size 180 (chL 0 0)
 below : Below w.heap.size w wr
def tabV : Value := .agg (ints (chL 6 0)).toArray
theorem choices_any (w : World) : Calls Tryz.prog 110 #[] w fun e w' => e = .returned tabV ∧ Below w.heap.size w w' := by
 go_enter Tryz.func110, Tryz.ntmps110
 go_upto_region 2 with fail
 obtain ⟨W, hW⟩ : ∃ W, W = (w.alloc (.cells (ints (chL 0 0)).toArray 180)).alloc (.cells (ints (chL 0 0)).toArray 180) := ⟨_, rfl⟩
 have h2 := two_new w (.cells (ints (chL 0 0)).toArray 180) (.cells (ints (chL 0 0)).toArray 180)
 rw [← hW] at h2
 have HJ0 : Hid (ChJ w 0 0 W) := ⟨h2.2, h2.1, by rw [hW]; exact ((Below.refl _ _).alloc (Nat.le_refl _) _).alloc (by simp) _⟩
 have hlit : ((ints (chL 0 0)).toArray : Array Value) = #[.int .i64 0, .int .i64 0, .int .i64 0, .int .i64 0, .int .i64 0, .int .i64 0, .int .i64 0, .int .i64 0, .int .i64 0, .int .i64 0, .int .i64 0, .int .i64 0, .int .i64 0, .int .i64 0, .int .i64 0, .int .i64 0, .int .i64 0, .int .i64 0, .int .i64 0, .int .i64 0, .int .i64 0, .int .i64 0, .int .i64 0, .int .i64 0, .int .i64 0, .int .i64 0, .int .i64 0, .int .i64 0, .int .i64 0, .int .i64 0, .int .i64 0, .int .i64 0, .int .i64 0, .int .i64 0, .int .i64 0, .int .i64 0] := by rw [chL_start]; rfl
 rw [hlit] at hW
 rw [← hW]
 clear hW h2 hlit
 go_wp2_with fail
 go_loopw [2, 3, 4] (fun _ _ iv wr => ∃ n : Nat, n ≤ 6 ∧ iv = .int .i64 (n : Int) ∧ Hid (ChJ w n 0 wr)) (fun _ _ iv _ => 6 - (intOf iv).toNat)
 case atStart => exact ⟨0, by omega, rfl, HJ0⟩
 case round =>
  obtain ⟨n, hn, rfl, HJ⟩ := hrel
  clear HJ0
  by_cases hn6 : n = 6
  ·
   subst hn6
   have HT := Lib.hid HJ.out.tab
   have HR := Lib.hid HJ.out.res
   have HBW := Lib.hid HJ.out.below
   clear HJ
   go_wp2_with (first
    | (refine wpList_load_agg rfl 180 (.tmp 1) rfl (w.heap.size + 1) (ints (chL 6 0)) rfl (tab_agg _) (tab_size _) HT.out.load ?_)
    | (refine wpList_store_agg rfl rfl 180 (.tmp 0) (.tmp 34) rfl w.heap.size (ints (chL 6 0)) rfl rfl (tab_size _) ?_ ?_ (ints_one _) ?_))
   ·
    intro j hj
    rw [HR.out.cell (by simpa [ints, chL_length] using hj)]; rfl
   · intro j _; exact HR.out.frozen j
   ·
    have hcell : ∀ j u, (ints (chL 6 0))[j]? = some u → (wr.setCells w.heap.size 0 (ints (chL 6 0))).cell? ⟨w.heap.size, 0 + j, none⟩ = some u := by
     intro j u hu
     have hj := (List.getElem?_eq_some_iff.1 hu).1
     have := World.cell?_setCells_in w.heap.size (ints (chL 6 0)) 0 wr (fun j hj => by rw [Nat.zero_add, HR.out.cell (by simpa [ints, chL_length] using hj)]; rfl) j hj
     rw [this, ← hu, List.getElem?_eq_getElem hj]
    have hl := run_loadVarN (P := Tryz.prog) (T := 180) (b := w.heap.size) (o := 0) (ints (chL 6 0)) _ (tab_agg _) (tab_size _) hcell
    refine bodyPost_ret (v := tabV) (by simp [results, Tryz.results110, Act.put, asAddr, hl, tabV]) rfl ?_
    exact ⟨rfl, below_setCells (Nat.le_refl _) _ _ HBW.out⟩
  ·
   have hnl : n < 6 := by omega
   have hni : (n : Int) < 6 := by omega
   have c0 := HJ.out.tab.cell (i := n * 6) (by rw [chL_length]; omega)
   have f0 := HJ.out.tab.frozen (n * 6)
   have HJ1 : Hid (ChJ w n 1 (wr.setCell ⟨w.heap.size + 1, n * 6, none⟩ (.int .i64 1))) := by
    refine ⟨?_, HJ.out.res.other _ _ (by show w.heap.size ≠ w.heap.size + 1; omega), HJ.out.below.setCell (by show w.heap.size ≤ w.heap.size + 1; omega) _⟩
    have := HJ.out.tab.set (n * 6) 1
    have h3 := chL_set n hnl 0 (by omega)
    rw [Nat.add_zero, show ((chooseN n 0 : Nat) : Int) = 1 by cases n <;> rfl] at h3
    rw [h3] at this
    exact this
   generalize (chL n 0).getD (n * 6) 0 = z at *
   go_wp2_with fail
   clear HJ c0 f0
   go_loopw [3] (fun kv wr => ∃ k : Nat, 1 ≤ k ∧ k ≤ n + 1 ∧ kv = .int .i64 (k : Int) ∧ Hid (ChJ w n k wr)) (fun kv _ => n + 1 - (intOf kv).toNat)
   case atStart => exact ⟨1, by omega, by omega, rfl, HJ1⟩
   case round =>
    obtain ⟨k, hk1, hkn, rfl, HJ⟩ := hrel
    clear HJ1
    by_cases hkk : k = n + 1
    ·
     subst hkk
     have HNX : Hid (ChJ w (n + 1) 0 wr) := by
      have h1 := HJ.out
      refine ⟨?_, h1.res, h1.below⟩
      rw [← chL_end n hnl (5 - n) (by omega)]; exact h1.tab
     have hle : ¬ ((n : Int) + 1) ≤ (n : Int) := by omega
     clear HJ
     go_wp2_with fail
     exact ⟨⟨n + 1, by omega, rfl, HNX⟩, by simp only [intOf]; omega⟩
    ·
     have hkl : k ≤ n := by omega
     have hki : (k : Int) ≤ (n : Int) := by omega
     obtain ⟨m, hm⟩ : ∃ m, n = m + 1 := ⟨n - 1, by omega⟩
     obtain ⟨j, hj⟩ : ∃ j, k = j + 1 := ⟨k - 1, by omega⟩
     have hmw : IntKind.i64.wrap ((n : Int) - 1) = (m : Int) := by rw [IntWalk.i64_in _ (by omega)]; omega
     have hjw : IntKind.i64.wrap ((k : Int) - 1) = (j : Int) := by rw [IntWalk.i64_in _ (by omega)]; omega
     have hmi : (m : Int) < 6 := by omega
     have hji : (j : Int) < 6 := by omega
     have hki6 : (k : Int) < 6 := by omega
     have ga : wr.cell? ⟨w.heap.size + 1, m * 6 + j, none⟩ = some (.int .i64 ((chooseN m j : Nat) : Int)) := by
      rw [HJ.out.tab.cell (by rw [chL_length]; omega), chL_get n hnl k (by omega) m (by omega) j (by omega)]
     have gb : wr.cell? ⟨w.heap.size + 1, m * 6 + k, none⟩ = some (.int .i64 ((chooseN m k : Nat) : Int)) := by
      rw [HJ.out.tab.cell (by rw [chL_length]; omega), chL_get n hnl k (by omega) m (by omega) k (by omega)]
     have gc := HJ.out.tab.cell (i := n * 6 + k) (by rw [chL_length]; omega)
     have gf := HJ.out.tab.frozen (n * 6 + k)
     have HNX : Hid (ChJ w n (k + 1) (wr.setCell ⟨w.heap.size + 1, n * 6 + k, none⟩ (.int .i64 ((chooseN n k : Nat) : Int))).drew) := by
      refine ⟨?_, (HJ.out.res.other _ _ (by show w.heap.size ≠ w.heap.size + 1; omega) : IntsAt _ _ _ _), (HJ.out.below.setCell (by show w.heap.size ≤ w.heap.size + 1; omega) _).drew⟩
      have := HJ.out.tab.set (n * 6 + k) ((chooseN n k : Nat) : Int)
      rw [chL_set n hnl k (by omega)] at this
      exact this
     have hsum : IntKind.i64.wrap (((chooseN m j : Nat) : Int) + ((chooseN m k : Nat) : Int)) = ((chooseN n k : Nat) : Int) := by
      have hb : ∀ m, m < 6 → ∀ j, j < 6 → chooseN m j ≤ 100 := by decide
      have h1 := hb m (by omega) j (by omega)
      have h2 := hb m (by omega) k (by omega)
      rw [IntWalk.i64_in _ (by omega), hm, hj]; rfl
     have hk6 : k < 6 := by omega
     have hm6 : m < 6 := by omega
     have hj6 : j < 6 := by omega
     clear hm hj
     generalize (chL n k).getD (n * 6 + k) 0 = zz at *
     generalize chooseN m j = ca at *
     generalize chooseN m k = cb at *
     generalize chooseN n k = cc at *
     clear HJ
     go_wp2_with fail
     go_region
     obtain ⟨w3, hw3⟩ : ∃ w3, w3 = (wr.setCell ⟨w.heap.size + 1, n * 6 + k, none⟩ (.int .i64 (cc : Int))).drew := ⟨_, rfl⟩
     rw [← hw3] at HNX ⊢
     clear hw3 ga gb gc gf
     go_wp2_with fail
     exact ⟨⟨k + 1, by omega, by omega, rfl, HNX⟩, by simp only [intOf]; omega⟩
end Go.Proofs.YtkcnbaeoahoglaaGreat
namespace Go.Proofs.YtkcnbaeoahoglaaGreat
open Go.RowKit
theorem ax_size (w : World) : (sizeOf 151).run Tryz.prog w = .ok 3 w := by kernel_rfl
theorem ax_agg (w : World) : (isAgg 151).run Tryz.prog w = .ok true w := by kernel_rfl
theorem axes_any (f t o : Int) (Ax Ay Az : Option Addr) (nx cx ny cy nz cz : Nat) (w : World) :
  Calls Tryz.prog 84 #[.agg #[.int .i64 f, .int .i64 t, .int .i64 o, .slice Ax nx cx, .slice Ay ny cy, .slice Az nz cz]] w fun e w' => e = .returned (.agg #[.slice Ax nx cx, .slice Ay ny cy, .slice Az nz cz]) ∧ Below w.heap.size w w' := by
 go_enter Tryz.func84, Tryz.ntmps84
 go_upto_region 1 with fail
 go_wp2_with fail
 obtain ⟨V, hV⟩ : ∃ V, V = (w.alloc (.cells #[.int .i64 f, .int .i64 t, .int .i64 o, .slice Ax nx cx, .slice Ay ny cy, .slice Az nz cz] 67)).alloc (.cells #[.slice Ax nx cx, .slice Ay ny cy, .slice Az nz cz] 151) := ⟨_, rfl⟩
 have h2 := (two_new w (.cells #[.int .i64 f, .int .i64 t, .int .i64 o, .slice Ax nx cx, .slice Ay ny cy, .slice Az nz cz] 67) (.cells #[.slice Ax nx cx, .slice Ay ny cy, .slice Az nz cz] 151)).2
 rw [← hV] at h2
 have hb : Below w.heap.size w V := by rw [hV]; exact ((Below.refl _ _).alloc (Nat.le_refl _) _).alloc (by simp) _
 rw [← hV]
 clear hV
 have hl := run_loadVarN (P := Tryz.prog) (T := 151) (b := w.heap.size + 1) (o := 0) [.slice Ax nx cx, .slice Ay ny cy, .slice Az nz cz] V (ax_agg V) (ax_size V) (fun j u hu => by
  rw [Nat.zero_add]
  simp only [World.cell?, h2]
  simpa using hu)
 exact bodyPost_ret (v := .agg #[.slice Ax nx cx, .slice Ay ny cy, .slice Az nz cz]) (by simp [results, Tryz.results84, asAddr, hl]) rfl ⟨rfl, hb⟩
end Go.Proofs.YtkcnbaeoahoglaaGreat
namespace Go.Proofs.YtkcnbaeoahoglaaGreat
open Go.RowKit
def fac (n j k : Nat) : Nat := 60 / chooseN n k * chooseN j k
def sumJ (l : List Int) (j : Nat) : Nat → Int
 | 0 => 0
 | k + 1 => sumJ l j k + l.getD k 0 * (fac (l.length - 1) j k : Int)
def BndN (l : List Int) (o : Int) (n : Nat) : Prop := ∀ j, j < n → ((sumJ l j (j + 1)).natAbs : Int) ≤ 62914560 * o
theorem fac_le : ∀ n, n < 6 → ∀ j, j < 6 → ∀ k, k < 6 → fac n j k ≤ 600 := by decide
theorem choose_pos : ∀ n, n < 6 → ∀ k, k ≤ n → 1 ≤ chooseN n k ∧ chooseN n k ≤ 10 := by
 intro n hn k hk
 have : ∀ n, n < 6 → ∀ k, k < 6 → k ≤ n → 1 ≤ chooseN n k ∧ chooseN n k ≤ 10 := by decide
 exact this n hn k (by omega) hk
theorem choose_le : ∀ n, n < 6 → ∀ k, k < 6 → chooseN n k ≤ 10 := by decide
theorem fit_small {z : Int} (h : z.natAbs < 2 ^ 200) : Fit z := by
 unfold Fit
 exact Nat.le_trans (bitLen_le.2 h) (by decide)
theorem sumJ_le {l : List Int} {j : Nat} (hl : l.length ≤ 6) (hj : j < 6) (h : ∀ i, -9223372036854775808 ≤ l.getD i 0 ∧ l.getD i 0 ≤ 9223372036854775807) : ∀ k, k ≤ 6 → (sumJ l j k).natAbs ≤ k * (9223372036854775808 * 600)
 | 0, _ => by simp [sumJ]
 | k + 1, hk => by
  have h1 := sumJ_le hl hj h k (by omega)
  have h2 := fac_le (l.length - 1) (by omega) j hj k (by omega)
  have h3 := h k
  have h4 : (l.getD k 0).natAbs ≤ 9223372036854775808 := by omega
  have h5 : (l.getD k 0 * (fac (l.length - 1) j k : Int)).natAbs ≤ 9223372036854775808 * 600 := by
   rw [Int.natAbs_mul, Int.natAbs_natCast]
   exact Nat.mul_le_mul h4 h2
  have h6 : (sumJ l j (k + 1)).natAbs ≤ (sumJ l j k).natAbs + (l.getD k 0 * (fac (l.length - 1) j k : Int)).natAbs := by
   show (sumJ l j k + l.getD k 0 * (fac (l.length - 1) j k : Int)).natAbs ≤ _
   exact Int.natAbs_add_le _ _
  omega
theorem sumJ_fit {l : List Int} {j k : Nat} (hl : l.length ≤ 6) (hj : j < 6) (hk : k ≤ 6) (h : ∀ i, -9223372036854775808 ≤ l.getD i 0 ∧ l.getD i 0 ≤ 9223372036854775807) : Fit (sumJ l j k) := by
 refine fit_small ?_
 have := sumJ_le hl hj h k hk
 have h2 : k * (9223372036854775808 * 600) ≤ 6 * (9223372036854775808 * 600) := Nat.mul_le_mul_right _ hk
 exact Nat.lt_of_le_of_lt (Nat.le_trans this h2) (by decide)
theorem term_fit {l : List Int} {n j k : Nat} (hn : n < 6) (hj : j < 6) (hk : k < 6) (h : ∀ i, -9223372036854775808 ≤ l.getD i 0 ∧ l.getD i 0 ≤ 9223372036854775807) : Fit (l.getD k 0 * (fac n j k : Int)) := by
 refine fit_small ?_
 have h2 := fac_le n hn j hj k hk
 have h3 := h k
 have h4 : (l.getD k 0).natAbs ≤ 9223372036854775808 := by omega
 rw [Int.natAbs_mul, Int.natAbs_natCast]
 exact Nat.lt_of_le_of_lt (Nat.mul_le_mul h4 h2) (by decide)
theorem most_fit {o : Int} (h0 : -9223372036854775808 ≤ o) (h1 : o ≤ 9223372036854775807) : Fit (62914560 * o) := by
 refine fit_small ?_
 have h4 : o.natAbs ≤ 9223372036854775808 := by omega
 rw [Int.natAbs_mul]
 exact Nat.lt_of_le_of_lt (Nat.mul_le_mul (Nat.le_refl _) h4) (by decide)
theorem bnd_step {l : List Int} {o : Int} {n : Nat} (h : BndN l o n) (h2 : ((sumJ l n (n + 1)).natAbs : Int) ≤ 62914560 * o) : BndN l o (n + 1) := fun j hj => by
 by_cases e : j = n
 · rw [e]; exact h2
 · exact h j (by omega)
end Go.Proofs.YtkcnbaeoahoglaaGreat
namespace Go.Proofs.YtkcnbaeoahoglaaGreat
open Go.RowKit
theorem tab_lit : ((ints (chL 0 0)).toArray : Array Value) = #[.int .i64 0, .int .i64 0, .int .i64 0, .int .i64 0, .int .i64 0, .int .i64 0, .int .i64 0, .int .i64 0, .int .i64 0, .int .i64 0, .int .i64 0, .int .i64 0, .int .i64 0, .int .i64 0, .int .i64 0, .int .i64 0, .int .i64 0, .int .i64 0, .int .i64 0, .int .i64 0, .int .i64 0, .int .i64 0, .int .i64 0, .int .i64 0, .int .i64 0, .int .i64 0, .int .i64 0, .int .i64 0, .int .i64 0, .int .i64 0, .int .i64 0, .int .i64 0, .int .i64 0, .int .i64 0, .int .i64 0, .int .i64 0] := by rw [chL_start]; rfl
def TabC (w : World) (tb : Nat) : Prop := ∀ i, i < 36 → w.cell? ⟨tb, i, none⟩ = some (.int .i64 ((chL 6 0).getD i 0))
theorem tabC_of {w : World} {tb : Nat} {t : TypeId} {l : List Int} (h : IntsAt w tb t l) (hl : l.length = 36) : TabC (w.setCells tb 0 (ints (chL 6 0))) tb := by
 intro i hi
 have hj : i < (ints (chL 6 0)).length := by simpa [ints, chL_length] using hi
 have := World.cell?_setCells_in tb (ints (chL 6 0)) 0 w (fun j hj => by rw [Nat.zero_add, h.cell (by rw [hl]; simpa [ints, chL_length] using hj)]; rfl) i hj
 rw [Nat.zero_add] at this
 rw [this]
 simp [ints, List.getD_eq_getElem?_getD, chL_length, hi]
theorem TabC.up {w w' : World} {tb B : Nat} (h : TabC w tb) (hb : Below B w w') (hl : tb < B) : TabC w' tb := fun i hi => (hb.cell (p := ⟨tb, i, none⟩) hl).trans (h i hi)
theorem ok_indexA {P : Program} {ops : Array Oper} {n : Nat} {C : World → Prop} {R : Nat → Value → World → Prop} {a0 : Act} {Q : Exit → Act → World → Prop} {i : Nat} {o : Oper} (T e : TypeId) (t t' : Nat) (b off len size : Nat) (j : Int) (k : Nat) (h1 : 1 < len) (ho : o.op = .indexAddr T (.tmp t) (.tmp t')) (hx : preOf ops n R a0 (.tmp t) = is (.pointer (some ⟨b, off, none⟩))) (hx' : preOf ops n R a0 (.tmp t') = is (.int .i64 j))
  (hT : P.underlying T = some (.array len e)) (hsz : ∀ w, (sizeOf e).run P w = .ok size w) (hj : j = (k : Int)) (hk : k < len) (hr : R i = is (.pointer (some ⟨b, off + k * size, none⟩))) : OpOk P ops n C R a0 Q i o :=
 ok_t2 t t' _ _ (.pointer (some ⟨b, off + k * size, none⟩)) (by rw [ho]; rfl) hx hx' (fun a w _ h1 h2 => by
  have e1 : a.eval (.tmp t) = .pointer (some ⟨b, off, none⟩) := by simpa [Act.eval] using h1
  have e2 : a.eval (.tmp t') = .int .i64 j := by simpa [Act.eval] using h2
  have hj2 : (0 : Int) ≤ j ∧ j < (len : Int) := by omega
  have hj3 : j.toNat = k := by omega
  have hl : ¬ len ≤ 1 := by omega
  simp [execOp, ho, e1, e2, Instr.indexAt, Instr.sureAddr, asIntOf, run_underlying hT, hj2, hj3, hsz, hl, add_none]) hr
theorem i64_sz (w : World) : (sizeOf 3).run Tryz.prog w = .ok 1 w := by kernel_rfl
theorem row_size (w : World) : (sizeOf 179).run Tryz.prog w = .ok 6 w := by kernel_rfl
structure BoJ (w : World) (l : List Int) (o mo : Int) (tb sb j : Nat) (wr : World) : Prop where
 tab : TabC wr tb
 most : WBox wr sb mo
 bnd : BndN l o j
 below : Below w.heap.size w wr
structure BoK (w : World) (l : List Int) (mo : Int) (tb sb xb j k : Nat) (wr : World) : Prop where
 tab : TabC wr tb
 most : WBox wr sb mo
 sum : WBox wr xb (sumJ l j k)
 below : Below w.heap.size w wr
theorem chL_all : ∀ m, m < 6 → ∀ j, j < 6 → (chL 6 0).getD (m * 6 + j) 0 = chooseN m j := by decide
theorem TabC.store2 {w : World} {tb xb : Nat} (h : TabC w tb) (hne : tb ≠ xb) (u u' : Value) : TabC ((w.setCell ⟨xb, 0, none⟩ u).setCell ⟨xb, 1, none⟩ u') tb := fun i hi => (World.cell?_of_block (store2_block _ _ hne)).trans (h i hi)
theorem lift_is {P : Program} {f : FuncId} {args : Array Value} {v : Value} {wr : World} (h : ∀ wa, Calls P f args wa fun e w' => e = .returned v ∧ Below wa.heap.size wa w') : ∀ wa, Below wr.heap.size wr wa → Calls P f args wa fun e w' => ∃ v', e = .returned v' ∧ Below wr.heap.size wr w' ∧ Below wa.heap.size wa w' ∧ is v v' w' := fun wa hC => by
 refine (h wa).mono ?_
 rintro e w' ⟨rfl, hb⟩
 exact ⟨_, rfl, hC.trans (hb.mono hC.size), hb, rfl⟩
instance (l : List Int) (o : Int) (n : Nat) : Decidable (BndN l o n) := by unfold BndN; infer_instance
theorem bounded_any (l : List Int) (o : Int) (b q c : Nat) (w : World) (hs : ∀ i, i < l.length → w.cell? ⟨b, q + i * 1, none⟩ = some (.int .i64 (l.getD i 0))) (h1 : 1 ≤ l.length) (h6 : l.length ≤ 6) (hi : ∀ i, -9223372036854775808 ≤ l.getD i 0 ∧ l.getD i 0 ≤ 9223372036854775807)
  (ho0 : -9223372036854775808 ≤ o) (ho1 : o ≤ 9223372036854775807) :
  Calls Tryz.prog 95 #[.slice (some ⟨b, q, none⟩) l.length c, .int .i64 o] w fun e w' => e = .returned (.bool (decide (BndN l o l.length))) ∧ Below w.heap.size w w' := by
 have HCH := Lib.hid choices_any
 have HOM := Lib.hid (fun w => wof_any 62914560 w (by decide) (by decide))
 have HOO := Lib.hid (fun w => wof_any o w ho0 ho1)
 have HMM := Lib.hid (fun w => smul_any 62914560 o w (fit_int (by decide) (by decide)) (fit_int ho0 ho1) (most_fit ho0 ho1))
 have HFM0 := Lib.hid (most_fit ho0 ho1)
 have HS := Lib.hid hs
 have HI := Lib.hid hi
 obtain ⟨n, hn⟩ : ∃ n : Nat, l.length = n + 1 := ⟨l.length - 1, by omega⟩
 have hw : IntKind.i64.wrap ((l.length : Int) - 1) = (n : Int) := by rw [IntWalk.i64_in _ (by omega)]; omega
 have hbw : b < w.heap.size := by
  have := hs 0 (by omega)
  simp only [World.cell?] at this
  cases h : w.heap[b]? with
  | none => rw [h] at this; cases this
  | some x => exact (Array.getElem?_eq_some_iff.1 h).1
 clear hs hi ho0 ho1
 go_enter Tryz.func95, Tryz.ntmps95
 go_upto_region 1 with fail
 go_wp2_with fail
 refine (HCH.out _).mono ?_
 rintro e w1 ⟨rfl, hb1⟩
 have HB1 : Hid (Below w.heap.size w w1) := hb1
 have hs1 : w.heap.size ≤ w1.heap.size := hb1.size
 clear hb1 HCH
 obtain ⟨W, hW⟩ : ∃ W, W = w1.alloc (.cells (ints (chL 0 0)).toArray 180) := ⟨_, rfl⟩
 have HT0 : Hid (IntsAt W w1.heap.size 180 (chL 0 0)) := by unfold Hid IntsAt; rw [hW]; exact heap_alloc_new w1 _
 have HB2 : Hid (Below w.heap.size w W) := by unfold Hid; rw [hW]; exact HB1.out.alloc hs1 _
 have hsW : W.heap.size = w1.heap.size + 1 := by rw [hW]; simp
 rw [tab_lit] at hW
 obtain ⟨tb, htb⟩ : ∃ tb, tb = w1.heap.size := ⟨_, rfl⟩
 rw [← htb] at HT0 hsW hs1
 unfold tabV
 go_upto_region 2 with (first | (rw [← hW]; refine wpList_store_agg rfl rfl 180 (.tmp 5) (.tmp 11) rfl tb (ints (chL 6 0)) (by rw [htb]; rfl) rfl (tab_size _) ?_ ?_ (ints_one _) ?_))
 ·
  intro j hj
  rw [HT0.out.cell (by simpa [ints, chL_length] using hj)]; rfl
 · intro j _; exact HT0.out.frozen j
 rw [← htb]
 obtain ⟨W3, hW3⟩ : ∃ W3, W3 = W.setCells tb 0 (ints (chL 6 0)) := ⟨_, rfl⟩
 have HT : Hid (TabC W3 tb) := by unfold Hid; rw [hW3]; exact tabC_of HT0.out (chL_length _ _)
 have HB3 : Hid (Below w.heap.size w W3) := by unfold Hid; rw [hW3]; exact below_setCells hs1 _ _ HB2.out
 have hs3 : tb < W3.heap.size := by
  have := HT.out 0 (by omega)
  simp only [World.cell?] at this
  cases h : W3.heap[tb]? with
  | none => rw [h] at this; cases this
  | some x => exact (Array.getElem?_eq_some_iff.1 h).1
 rw [← hW3]
 clear hW hW3 HT0 HB1 HB2 hsW htb
 go_wp2_with fail
 refine (HOM.out _).mono ?_
 rintro e w4 ⟨rfl, hb4⟩
 have HB4 : Hid (Below W3.heap.size W3 w4) := hb4
 clear hb4 HOM
 go_wp2_with fail
 refine (HOO.out _).mono ?_
 rintro e w5 ⟨rfl, hb5⟩
 have HB5 : Hid (Below W3.heap.size W3 w5) := HB4.out.trans (hb5.mono HB4.out.size)
 clear hb5 HB4 HOO
 go_wp2_with fail
 refine (HMM.out _).mono ?_
 rintro e w6 ⟨rfl, hb6⟩
 have HB6 : Hid (Below W3.heap.size W3 w6) := HB5.out.trans (hb6.mono HB5.out.size)
 clear hb6 HB5 HMM
 have hs6 : W3.heap.size ≤ w6.heap.size := HB6.out.size
 obtain ⟨mo, hmo⟩ : ∃ mo : Int, mo = 62914560 * o := ⟨_, rfl⟩
 have HMO := Lib.hid hmo
 have HFM : Hid (Fit mo) := by unfold Hid; rw [hmo]; exact HFM0.out
 rw [← hmo]
 clear hmo
 unfold WideV
 obtain ⟨mg, hmg⟩ : ∃ g, g = decide (mo < 0) := ⟨_, rfl⟩
 obtain ⟨ms, hms⟩ : ∃ g, g = beB mo.natAbs := ⟨_, rfl⟩
 rw [← hmg, ← hms]
 obtain ⟨V, hV⟩ : ∃ V, V = w6.alloc (.cells #[.bool mg, .string ms] 96) := ⟨_, rfl⟩
 obtain ⟨sb, hsb⟩ : ∃ sb, sb = w6.heap.size := ⟨_, rfl⟩
 have HV : Hid (WBox V sb mo) := by unfold Hid; rw [hV, hsb, hmg, hms]; exact WBox.new w6 _
 have HTV : Hid (TabC V tb) := by unfold Hid; rw [hV]; exact HT.out.up (HB6.out.alloc hs6 _) hs3
 have HBV : Hid (Below w.heap.size w V) := by unfold Hid; rw [hV]; exact HB3.out.trans ((HB6.out.alloc hs6 _).mono HB3.out.size)
 have hsV : sb < V.heap.size := by rw [hV, hsb]; simp
 have htV : tb < sb := by omega
 clear HT HB3 HB6 hmg hms hs3
 go_upto_region 3 with fail
 rw [← hV, ← hsb]
 clear hV hsb hs6
 go_wp2_with fail
 have HJ0 : Hid (BoJ w l o mo tb sb 0 V) := ⟨HTV.out, HV.out, fun j hj => absurd hj (Nat.not_lt_zero j), HBV.out⟩
 clear HTV HV HBV hsV
 go_loopw [21] (fun jv wr => ∃ j : Nat, j ≤ l.length ∧ jv = .int .i64 (j : Int) ∧ Hid (BoJ w l o mo tb sb j wr)) (fun jv _ => l.length - (intOf jv).toNat)
 case atStart => exact ⟨0, Nat.zero_le _, rfl, HJ0⟩
 case round =>
  obtain ⟨j, hj, rfl, HJ⟩ := hrel
  clear HJ0
  by_cases hjl : j = l.length
  ·
   subst hjl
   have HR : Hid (decide (BndN l o l.length) = true ∧ Below w.heap.size w wr) := ⟨decide_eq_true HJ.out.bnd, HJ.out.below⟩
   clear HJ
   go_wp2_with fail
   exact bodyPost_ret (v := .bool true) (by simp [results, Tryz.results95]) rfl ⟨by rw [HR.out.1], HR.out.2⟩
  ·
   have hjl2 : j < l.length := by omega
   have hji : (j : Int) < (l.length : Int) := by omega
   have HJ1 : Hid (BoK w l mo tb sb wr.heap.size j 0 (wr.alloc (.cells #[.bool false, .string ⟨#[]⟩] 96))) := by
    have h := HJ.out
    have hb : Below wr.heap.size wr (wr.alloc (.cells #[.bool false, .string ⟨#[]⟩] 96)) := (Below.refl _ _).alloc (Nat.le_refl _) _
    have htl : tb < wr.heap.size := Nat.lt_trans htV h.most.lt
    refine ⟨h.tab.up hb htl, h.most.up hb h.most.lt, ?_, h.below.trans (hb.mono h.below.size)⟩
    have := heap_alloc_new wr (.cells #[.bool false, .string ⟨#[]⟩] 96)
    unfold WBox
    rw [this, show sumJ l j 0 = 0 from rfl, show (0 : Int).natAbs = 0 from rfl, beB_zero]
    rfl
   have HBND := Lib.hid HJ.out.bnd
   have hxb0 := HJ.out.below.size
   have hxb1 := HJ.out.most.lt
   obtain ⟨xb, hxb⟩ : ∃ xb, xb = wr.heap.size := ⟨_, rfl⟩
   obtain ⟨X, hX⟩ : ∃ X, X = wr.alloc (.cells #[.bool false, .string ⟨#[]⟩] 96) := ⟨_, rfl⟩
   rw [← hxb] at hxb0 hxb1
   rw [← hxb, ← hX] at HJ1
   clear HJ
   go_upto_region 8 with fail
   rw [← hX, ← hxb]
   clear hX hxb
   have hw1 : IntKind.i64.wrap ((j : Int) + 1) = ((j + 1 : Nat) : Int) := by rw [IntWalk.i64_in _ (by omega)]; omega
   go_wp2_with fail
   have hn6 : n < 6 := by omega
   have hj6 : j < 6 := by omega
   go_loopw [26] (fun kv wr => ∃ k : Nat, k ≤ j + 1 ∧ kv = .int .i64 (k : Int) ∧ Hid (BoK w l mo tb sb xb j k wr)) (fun kv _ => j + 1 - (intOf kv).toNat)
   case atStart => exact ⟨0, Nat.zero_le _, rfl, HJ1⟩
   case round =>
    obtain ⟨k, hk, rfl, HK⟩ := hrel
    clear HJ1
    by_cases hkj : k = j + 1
    ·
     subst hkj
     have htx : tb ≠ xb := by omega
     have hsx : sb ≠ xb := by omega
     obtain ⟨su, hsu⟩ : ∃ su, su = sumJ l j (j + 1) := ⟨_, rfl⟩
     have hfs : Fit su := by rw [hsu]; exact sumJ_fit h6 hj6 (by omega) HI.out
     have hfa : Fit ((su.natAbs : Nat) : Int) := by unfold Fit at hfs ⊢; rw [Int.natAbs_natCast]; exact hfs
     have HK2 := HK.out
     have hKs := HK2.sum
     rw [← hsu] at hKs
     obtain ⟨c0, c1⟩ := hKs.cells
     have f0 := frob hKs 0
     obtain ⟨Y, hY⟩ : ∃ Y, Y = wr.setCell ⟨xb, 0, none⟩ (.bool false) := ⟨_, rfl⟩
     have hYx : Y.heap[xb]? = some (.cells #[.bool false, .string (beB su.natAbs)] 96 (0, 0)) := by
      rw [hY]; simp [World.setCell, Array.getElem?_modify, show wr.heap[xb]? = _ from hKs]
     have hYs : WBox Y sb mo := by unfold WBox; rw [hY, Below.heap_setCell _ ⟨xb, 0, none⟩ _ _ hsx]; exact HK2.most
     have hYt : TabC Y tb := fun i hi => by rw [hY]; exact (World.cell?_of_block (Below.heap_setCell _ ⟨xb, 0, none⟩ _ _ htx)).trans (HK2.tab i hi)
     have hYb : Below w.heap.size w Y := by rw [hY]; exact HK2.below.setCell (p := ⟨xb, 0, none⟩) hxb0 _
     have HJN : Hid (∀ w7, Below Y.heap.size Y w7 → ((su.natAbs : Nat) : Int) ≤ mo → BoJ w l o mo tb sb (j + 1) w7) := fun w7 hb hle => by
      refine ⟨hYt.up hb (Nat.lt_trans htV hYs.lt), hYs.up hb hYs.lt, bnd_step HBND.out ?_, hYb.trans (hb.mono hYb.size)⟩
      rw [← hsu, ← HMO.out]; exact hle
     have HJF : Hid (mo < ((su.natAbs : Nat) : Int) → decide (BndN l o l.length) = false) := fun hlt => decide_eq_false fun h => by
      have := h j hjl2
      rw [← hsu, ← HMO.out] at this
      omega
     have HYB := Lib.hid hYb
     obtain ⟨sg, hsg⟩ : ∃ sg, sg = (((su.natAbs : Nat) : Int) - mo).sign := ⟨_, rfl⟩
     have HCMP := Lib.hid (fun wa => wcompare_any ((su.natAbs : Nat) : Int) mo wa hfa HFM.out)
     rw [← hsg] at HCMP
     obtain ⟨y0, y1⟩ := cellb hYx
     obtain ⟨m0, m1⟩ := hYs.cells
     unfold WideV at HCMP
     rw [Int.natAbs_natCast, show decide (((su.natAbs : Nat) : Int) < 0) = false from decide_eq_false (by omega)] at HCMP
     obtain ⟨us, hus⟩ : ∃ g, g = beB su.natAbs := ⟨_, rfl⟩
     obtain ⟨mg2, hmg2⟩ : ∃ g, g = decide (mo < 0) := ⟨_, rfl⟩
     obtain ⟨ms2, hms2⟩ : ∃ g, g = beB mo.natAbs := ⟨_, rfl⟩
     rw [← hus, ← hmg2, ← hms2] at HCMP
     rw [← hus] at y1
     rw [← hmg2] at m0
     rw [← hms2] at m1
     have HSG : Hid ((((su.natAbs : Nat) : Int) ≤ mo ∧ sg ≤ 0) ∨ (mo < ((su.natAbs : Nat) : Int) ∧ 0 < sg)) := by
      unfold Hid
      obtain ⟨t, ht⟩ : ∃ t, t = ((su.natAbs : Nat) : Int) - mo := ⟨_, rfl⟩
      rw [← ht] at hsg
      rcases Int.lt_trichotomy t 0 with h | h | h
      · exact .inl ⟨by omega, by rw [hsg, Int.sign_eq_neg_one_of_neg h]; decide⟩
      · exact .inl ⟨by omega, by rw [hsg, h]; decide⟩
      · exact .inr ⟨by omega, by rw [hsg, Int.sign_eq_one_of_pos h]; decide⟩
     clear hsg hus hmg2 hms2 hfs hfa HK HK2 hKs hYx hYs hYt hYb hsu HBND
     go_upto_region 14 with fail
     rw [← hY]
     clear hY c0 c1 f0
     go_wp2_with fail
     refine (HCMP.out _).mono ?_
     rintro e w7 ⟨rfl, hb7⟩
     have HB7 : Hid (Below Y.heap.size Y w7) := hb7
     clear hb7 HCMP
     rcases HSG.out with ⟨hle, hs0⟩ | ⟨hlt, hs0⟩
     ·
      have HNX := Lib.hid (HJN.out w7 HB7.out hle)
      have hs1 : ¬ (0 : Int) < sg := by omega
      clear HJN HJF hle HSG
      go_wp2_with fail
      exact ⟨⟨j + 1, by omega, rfl, HNX⟩, by simp only [intOf]; omega⟩
     ·
      have HF2 := Lib.hid (HJF.out hlt)
      have HBW := Lib.hid (HYB.out.trans (HB7.out.mono HYB.out.size))
      clear HJN HJF hlt HSG
      go_wp2_with fail
      exact bodyPost_ret (v := .bool false) (by simp [results, Tryz.results95]) rfl ⟨by rw [HF2.out], HBW.out⟩
    ·
     have hkj2 : k < j + 1 := by omega
     have hki : (k : Int) < ((j + 1 : Nat) : Int) := by omega
     have hkl : k < l.length := by omega
     have hk6 : k < 6 := by omega
     have htx : tb ≠ xb := by omega
     have hsx : sb ≠ xb := by omega
     have hwx : w.heap.size ≤ xb := hxb0
     have HNX : Hid (∀ w2, Below wr.heap.size wr w2 → BoK w l mo tb sb xb j (k + 1) ((w2.setCell ⟨xb, 0, none⟩ (.bool (decide (sumJ l j (k + 1) < 0)))).setCell ⟨xb, 1, none⟩ (.string (beB (sumJ l j (k + 1)).natAbs)))) := fun w2 hb => by
      have h := HK.out
      have hsl := h.sum.lt
      exact ⟨(h.tab.up hb (by have := h.most.lt; omega)).store2 htx _ _, (store2_block _ _ hsx).trans (h.most.up hb h.most.lt), (h.sum.up hb hsl).store _, Below.store2 (h.below.trans (hb.mono h.below.size)) hwx _ _⟩
     obtain ⟨x, hx⟩ : ∃ x, x = l.getD k 0 := ⟨_, rfl⟩
     obtain ⟨fa, hfa⟩ : ∃ fa : Nat, fa = fac n j k := ⟨_, rfl⟩
     have hfle : fa ≤ 600 := by rw [hfa]; exact fac_le n hn6 j hj6 k hk6
     have hxi := HI.out k
     have hsum : sumJ l j (k + 1) = sumJ l j k + x * (fa : Int) := by
      show sumJ l j k + l.getD k 0 * (fac (l.length - 1) j k : Int) = _
      rw [hx, hfa, show l.length - 1 = n by omega]
     have HOX := Lib.hid (lift_is (wr := wr) (fun wa => wof_any x wa (by rw [hx]; exact hxi.1) (by rw [hx]; exact hxi.2)))
     have HOF := Lib.hid (lift_is (wr := wr) (fun wa => wof_any (fa : Int) wa (by omega) (by omega)))
     have hfx : Fit x := by rw [hx]; exact fit_int hxi.1 hxi.2
     have hff : Fit (fa : Int) := fit_int (by omega) (by omega)
     have hfp : Fit (x * (fa : Int)) := by rw [hx, hfa]; exact term_fit hn6 hj6 hk6 HI.out
     have HML := Lib.hid (lift_is (wr := wr) (fun wa => smul_any x (fa : Int) wa hfx hff hfp))
     have HAD := Lib.hid (lift_is (wr := wr) (fun wa => sadd_any (sumJ l j k) (x * (fa : Int)) wa (sumJ_fit h6 hj6 (by omega) HI.out) hfp (by rw [← hsum]; exact sumJ_fit h6 hj6 (by omega) HI.out)))
     rw [← hsum] at HAD
     have CX : Hid (∀ wa, Below wr.heap.size wr wa → wa.heap[xb]? = some (.cells #[.bool (decide (sumJ l j k < 0)), .string (beB (sumJ l j k).natAbs)] 96 (0, 0))) := fun wa hb => HK.out.sum.up hb HK.out.sum.lt
     have CS : Hid (∀ wa, Below wr.heap.size wr wa → wa.cell? ⟨b, q + k * 1, none⟩ = some (.int .i64 x)) := fun wa hb => by
      rw [hx, ← HS.out k hkl]
      exact (HK.out.below.trans (hb.mono HK.out.below.size)).cell (p := ⟨b, q + k * 1, none⟩) hbw
     obtain ⟨cn, hcn⟩ : ∃ z : Nat, z = chooseN n k := ⟨_, rfl⟩
     obtain ⟨cj, hcj⟩ : ∃ z : Nat, z = chooseN j k := ⟨_, rfl⟩
     have hcn1 : 1 ≤ cn ∧ cn ≤ 10 := by rw [hcn]; exact choose_pos n hn6 k (by omega)
     have hcj1 : cj ≤ 10 := by rw [hcj]; exact choose_le j hj6 k hk6
     have CN : Hid (∀ wa, Below wr.heap.size wr wa → wa.cell? ⟨tb, 0 + n * 6 + k * 1, none⟩ = some (.int .i64 (cn : Int))) := fun wa hb => by
      have h := HK.out.tab.up hb (by have := HK.out.most.lt; omega) (n * 6 + k) (by omega)
      rw [Nat.zero_add, Nat.mul_one, h, chL_all n hn6 k hk6, hcn]
     have CJ : Hid (∀ wa, Below wr.heap.size wr wa → wa.cell? ⟨tb, 0 + j * 6 + k * 1, none⟩ = some (.int .i64 (cj : Int))) := fun wa hb => by
      have h := HK.out.tab.up hb (by have := HK.out.most.lt; omega) (j * 6 + k) (by omega)
      rw [Nat.zero_add, Nat.mul_one, h, chL_all j hj6 k hk6, hcj]
     obtain ⟨qa, hqa⟩ : ∃ z : Nat, z = 60 / cn := ⟨_, rfl⟩
     have hqle : qa ≤ 60 := by rw [hqa]; exact Nat.div_le_self _ _
     have HQ : Hid (IntKind.i64.wrap (Int.tdiv 60 (cn : Int)) = (qa : Int)) := by
      unfold Hid
      rw [show Int.tdiv 60 (cn : Int) = ((60 / cn : Nat) : Int) from rfl, ← hqa, IntWalk.i64_in _ (by omega)]
     have HFA : Hid (IntKind.i64.wrap ((qa : Int) * (cj : Int)) = (fa : Int)) := by
      unfold Hid
      have e : (qa : Int) * (cj : Int) = (fa : Int) := by rw [hfa, hqa, hcj, hcn]; unfold fac; rw [Int.natCast_mul]
      rw [e, IntWalk.i64_in _ (by omega)]
     have hcn0 : ¬ ((cn : Int) = 0) := by omega
     unfold WideV at HOX HOF HML HAD
     obtain ⟨xg, hxg⟩ : ∃ g, g = decide (x < 0) := ⟨_, rfl⟩
     obtain ⟨xs, hxs⟩ : ∃ g, g = beB x.natAbs := ⟨_, rfl⟩
     obtain ⟨fg, hfg⟩ : ∃ g, g = decide ((fa : Int) < 0) := ⟨_, rfl⟩
     obtain ⟨fs, hfs⟩ : ∃ g, g = beB (fa : Int).natAbs := ⟨_, rfl⟩
     obtain ⟨pg, hpg⟩ : ∃ g, g = decide (x * (fa : Int) < 0) := ⟨_, rfl⟩
     obtain ⟨ps, hps⟩ : ∃ g, g = beB (x * (fa : Int)).natAbs := ⟨_, rfl⟩
     obtain ⟨ug, hug⟩ : ∃ g, g = decide (sumJ l j k < 0) := ⟨_, rfl⟩
     obtain ⟨us, hus⟩ : ∃ g, g = beB (sumJ l j k).natAbs := ⟨_, rfl⟩
     obtain ⟨vg, hvg⟩ : ∃ g, g = decide (sumJ l j (k + 1) < 0) := ⟨_, rfl⟩
     obtain ⟨vs, hvs⟩ : ∃ g, g = beB (sumJ l j (k + 1)).natAbs := ⟨_, rfl⟩
     rw [← hxg, ← hxs] at HOX HML
     rw [← hfg, ← hfs] at HOF HML
     rw [← hpg, ← hps] at HML HAD
     rw [← hug, ← hus] at HAD CX
     rw [← hvg, ← hvs] at HAD HNX
     clear hxg hxs hfg hfs hpg hps hug hus hvg hvs hfx hff hfp hsum hxi hqa hcn hcj hfa hx HK
     go_wp2_with fail
     refine region_list 21 57 (fun w' => Below wr.heap.size wr w') [is (.agg #[.bool ug, .string us]), is (.slice (some ⟨b, q, none⟩) (n + 1) c), is (.int .i64 (k : Int)), is (.pointer (some ⟨b, q + k * 1, none⟩)), is (.int .i64 x), is (.agg #[.bool xg, .string xs]), is (.int .i64 (n : Int)), is (.int .i64 (k : Int)), is (.pointer (some ⟨tb, 0 + n * 6, none⟩)), is (.pointer (some ⟨tb, 0 + n * 6 + k * 1, none⟩)), is (.int .i64 (cn : Int)), is (.int .i64 (qa : Int)), is (.int .i64 (j : Int)), is (.int .i64 (k : Int)), is (.pointer (some ⟨tb, 0 + j * 6, none⟩)), is (.pointer (some ⟨tb, 0 + j * 6 + k * 1, none⟩)), is (.int .i64 (cj : Int)), is (.int .i64 (fa : Int)), is (.agg #[.bool fg, .string fs]), is (.agg #[.bool pg, .string ps]), is (.agg #[.bool vg, .string vs])] (by kernel_rfl) (by kernel_rfl) rfl (by decide) ?hst ?h0 ?hop ?htail
     case hst =>
      simp only [List.mem_cons, List.mem_nil_iff, or_false, forall_eq_or_imp, forall_eq]
      exact ⟨is_stable _, is_stable _, is_stable _, is_stable _, is_stable _, is_stable _, is_stable _, is_stable _, is_stable _, is_stable _, is_stable _, is_stable _, is_stable _, is_stable _, is_stable _, is_stable _, is_stable _, is_stable _, is_stable _, is_stable _, is_stable _⟩
     case h0 => exact (Below.refl _ _).drew
     case hop =>
      refine ⟨?_, ?_, ?_, ?_, ?_, ?_, ?_, ?_, ?_, ?_, ?_, ?_, ?_, ?_, ?_, ?_, ?_, ?_, ?_, ?_, ?_, trivial⟩
      · exact ok_load 96 (.tmp 9) (.pointer (some ⟨xb, 0, none⟩)) (.agg #[.bool ug, .string us]) rfl (by kernel_rfl) (fun wa hC => run_loadN [.bool ug, .string us] wa (by kernel_rfl) (by kernel_rfl) (cells2 (CX.out wa hC))) rfl
      · exact ok_move (.tmp 0) (is (.slice (some ⟨b, q, none⟩) (n + 1) c)) rfl (by kernel_rfl) (fun _ _ _ h => h)
      · exact ok_move (.tmp 10) (is (.int .i64 (k : Int))) rfl (by kernel_rfl) (fun _ _ _ h => h)
      · exact ok_index 65 3 30 31 (b) (q) ((n + 1)) (c) 1 ((k : Int)) (k) rfl (by kernel_rfl) (by kernel_rfl) Tryz.underlying65 i64_sz (rfl) (by omega) rfl
      · exact ok_load 3 (.tmp 32) (.pointer (some ⟨b, q + k * 1, none⟩)) (.int .i64 x) rfl (by kernel_rfl) (fun wa hC => run_load1 wa (by kernel_rfl) (CS.out wa hC)) rfl
      · exact ok_callF 79 [.tmp 33] _ [.int .i64 x] rfl (fun _ _ => by kernel_rfl) ⟨by kernel_rfl, trivial⟩ (HOX.out)
      · exact ok_move (.tmp 7) (is (.int .i64 (n : Int))) rfl (by kernel_rfl) (fun _ _ _ h => h)
      · exact ok_move (.tmp 10) (is (.int .i64 (k : Int))) rfl (by kernel_rfl) (fun _ _ _ h => h)
      · exact ok_indexA 180 179 5 35 tb (0) 6 6 (n : Int) n (by decide) rfl (by kernel_rfl) (by kernel_rfl) Tryz.underlying180 row_size rfl (by omega) rfl
      · exact ok_indexA 179 3 37 36 tb (0 + n * 6) 6 1 (k : Int) k (by decide) rfl (by kernel_rfl) (by kernel_rfl) Tryz.underlying179 i64_sz rfl (by omega) rfl
      · exact ok_load 3 (.tmp 38) (.pointer (some ⟨tb, 0 + n * 6 + k * 1, none⟩)) (.int .i64 (cn : Int)) rfl (by kernel_rfl) (fun wa hC => run_load1 wa (by kernel_rfl) (CN.out wa hC)) rfl
      · exact ok_ct 39 (.int .i64 60) (.int .i64 (cn : Int)) (.int .i64 (qa : Int)) rfl (by kernel_rfl) (fun a wa _ e1 => by have hq := HQ.out; go_simp; clear hq; omega) rfl
      · exact ok_move (.tmp 8) (is (.int .i64 (j : Int))) rfl (by kernel_rfl) (fun _ _ _ h => h)
      · exact ok_move (.tmp 10) (is (.int .i64 (k : Int))) rfl (by kernel_rfl) (fun _ _ _ h => h)
      · exact ok_indexA 180 179 5 41 tb (0) 6 6 (j : Int) j (by decide) rfl (by kernel_rfl) (by kernel_rfl) Tryz.underlying180 row_size rfl (by omega) rfl
      · exact ok_indexA 179 3 43 42 tb (0 + j * 6) 6 1 (k : Int) k (by decide) rfl (by kernel_rfl) (by kernel_rfl) Tryz.underlying179 i64_sz rfl (by omega) rfl
      · exact ok_load 3 (.tmp 44) (.pointer (some ⟨tb, 0 + j * 6 + k * 1, none⟩)) (.int .i64 (cj : Int)) rfl (by kernel_rfl) (fun wa hC => run_load1 wa (by kernel_rfl) (CJ.out wa hC)) rfl
      · exact ok_t2 40 45 (.int .i64 (qa : Int)) (.int .i64 (cj : Int)) (.int .i64 (fa : Int)) rfl (by kernel_rfl) (by kernel_rfl) (fun a wa _ e1 e2 => by have hq := HFA.out; go_simp) rfl
      · exact ok_callF 79 [.tmp 46] _ [.int .i64 (fa : Int)] rfl (fun _ _ => by kernel_rfl) ⟨by kernel_rfl, trivial⟩ (HOF.out)
      · exact ok_callF 78 [.tmp 34, .tmp 47] _ [.agg #[.bool xg, .string xs], .agg #[.bool fg, .string fs]] rfl (fun _ _ => by kernel_rfl) ⟨by kernel_rfl, by kernel_rfl, trivial⟩ (HML.out)
      · exact ok_callF 49 [.tmp 29, .tmp 48] _ [.agg #[.bool ug, .string us], .agg #[.bool pg, .string ps]] rfl (fun _ _ => by kernel_rfl) ⟨by kernel_rfl, by kernel_rfl, trivial⟩ (HAD.out)
     case htail =>
     intro τ w2 hC hR
     have r20 : τ 20 = .agg #[.bool vg, .string vs] := hR 20 (by decide)
     simp only [putAll, List.getElem?_toArray, List.getElem?_cons_succ, List.getElem?_cons_zero, Option.bind_some, Act.put, List.setIfInBounds_toArray, List.set_cons_succ, List.set_cons_zero, List.drop_succ_cons, List.drop_zero, r20]
     clear hR r20
     have HN2 := Lib.hid (HNX.out w2 hC)
     have h1 := CX.out w2 hC
     obtain ⟨c0, c1⟩ := cellb h1
     have f0 := frob h1 0
     have f1 := frob h1 1
     clear hC h1 CX CS CN CJ HOX HOF HML HAD HNX HQ HFA
     go_wp2_with fail
     exact ⟨⟨k + 1, by omega, rfl, HN2⟩, by simp only [intOf]; omega⟩
end Go.Proofs.YtkcnbaeoahoglaaGreat
namespace Go.Proofs.YtkcnbaeoahoglaaGreat
open Go.RowKit
def AxisOk (c : List Int) (o : Int) : Prop := 1 ≤ c.length ∧ c.length ≤ 6 ∧ (1 < c.length → c.getD (c.length - 1) 0 ≠ 0) ∧ BndN c o c.length
instance (c : List Int) (o : Int) : Decidable (AxisOk c o) := by unfold AxisOk; infer_instance
def gcdL (g : Nat) (l : List Int) : Nat := l.foldl (fun g x => Nat.gcd g x.natAbs) g
def HeadOk (f t o : Int) : Prop := 0 ≤ f ∧ f < t ∧ t ≤ 3600000 ∧ 1 ≤ o ∧ o ≤ 4294967296
instance (f t o : Int) : Decidable (HeadOk f t o) := by unfold HeadOk; infer_instance
def SegOk (s : Sg) : Prop := HeadOk s.f s.t s.o ∧ AxisOk s.x s.o ∧ AxisOk s.y s.o ∧ AxisOk s.z s.o ∧ gcdL (gcdL (gcdL s.o.natAbs s.x) s.y) s.z = 1
instance (s : Sg) : Decidable (SegOk s) := by unfold SegOk; infer_instance
theorem head_bad (f t o : Int) (Ax Ay Az : Option Addr) (nx cx ny cy nz cz : Nat) (w : World) (hh : ¬ HeadOk f t o) :
  Calls Tryz.prog 74 #[.agg #[.int .i64 f, .int .i64 t, .int .i64 o, .slice Ax nx cx, .slice Ay ny cy, .slice Az nz cz]] w fun e w' => e = .returned (.bool false) ∧ Below w.heap.size w w' := by
 have hc : f < 0 ∨ (¬ f < 0 ∧ t ≤ f) ∨ (¬ f < 0 ∧ ¬ t ≤ f ∧ 3600000 < t) ∨ (¬ f < 0 ∧ ¬ t ≤ f ∧ ¬ 3600000 < t ∧ o < 1) ∨ (¬ f < 0 ∧ ¬ t ≤ f ∧ ¬ 3600000 < t ∧ ¬ o < 1 ∧ 4294967296 < o) := by
  unfold HeadOk at hh; omega
 clear hh
 obtain ⟨W, hW⟩ : ∃ W, W = w.alloc (.cells #[.int .i64 f, .int .i64 t, .int .i64 o, .slice Ax nx cx, .slice Ay ny cy, .slice Az nz cz] 67) := ⟨_, rfl⟩
 have hb := heap_alloc_new w (.cells #[.int .i64 f, .int .i64 t, .int .i64 o, .slice Ax nx cx, .slice Ay ny cy, .slice Az nz cz] 67)
 rw [← hW] at hb
 have s0 : W.cell? ⟨w.heap.size, 0, none⟩ = some (.int .i64 f) := by simp [World.cell?, hb]
 have s1 : W.cell? ⟨w.heap.size, 1, none⟩ = some (.int .i64 t) := by simp [World.cell?, hb]
 have s2 : W.cell? ⟨w.heap.size, 2, none⟩ = some (.int .i64 o) := by simp [World.cell?, hb]
 have HB : Hid (Below w.heap.size w W) := by unfold Hid; rw [hW]; exact (Below.refl _ _).alloc (Nat.le_refl _) _
 clear hb
 rcases hc with h | ⟨h, h2⟩ | ⟨h, h2, h3⟩ | ⟨h, h2, h3, h4⟩ | ⟨h, h2, h3, h4, h5⟩
 all_goals
  go_enter Tryz.func74, Tryz.ntmps74
  go_upto_region 1 with fail
  rw [← hW]
  clear hW
  go_wp2_with fail
  exact bodyPost_ret (v := .bool false) (by simp [results, Tryz.results74]) rfl ⟨rfl, HB.out⟩
theorem run_ix0 (v0 v1 v2 : Value) (w : World) : (Instr.index 151 (.agg #[v0, v1, v2]) (.int .i64 ((0 : Nat) : Int))).run Tryz.prog w = .ok v0 w := by
  kernel_rfl
theorem run_ix1 (v0 v1 v2 : Value) (w : World) : (Instr.index 151 (.agg #[v0, v1, v2]) (.int .i64 ((1 : Nat) : Int))).run Tryz.prog w = .ok v1 w := by
  kernel_rfl
theorem run_ix2 (v0 v1 v2 : Value) (w : World) : (Instr.index 151 (.agg #[v0, v1, v2]) (.int .i64 ((2 : Nat) : Int))).run Tryz.prog w = .ok v2 w := by
  kernel_rfl
theorem run_index3 {v0 v1 v2 v : Value} {k : Nat} (hk : k < 3) (h : (#[v0, v1, v2] : Array Value)[k]? = some v) (w : World) : (Instr.index 151 (.agg #[v0, v1, v2]) (.int .i64 (k : Int))).run Tryz.prog w = .ok v w := by
 match k with
 | 0 => simp at h; rw [← h]; exact run_ix0 v0 v1 v2 w
 | 1 => simp at h; rw [← h]; exact run_ix1 v0 v1 v2 w
 | 2 => simp at h; rw [← h]; exact run_ix2 v0 v1 v2 w
theorem wpList_index3 {w : World} {ops : Array Oper} {rest : List Oper} {o : Oper} {a : Act} {Q : Exit → Act → World → Prop} (hgd : o.guard = none) (x y : Operand) (ho : o.op = .index 151 x y) (v0 v1 v2 v : Value) (k : Nat) (hx : a.eval x = .agg #[v0, v1, v2]) (hy : a.eval y = .int .i64 (k : Int)) (hk : k < 3) (hv : (#[v0, v1, v2] : Array Value)[k]? = some v)
  (h : wpList Tryz.prog ops Q rest (a.put o.dst v) w) : wpList Tryz.prog ops Q (o :: rest) a w := by
 refine wpList_plain hgd fun K hK => ?_
 have hrun := run_index3 hk hv w
 unfold Oper.wp
 simp [execOp, ho, hx, hy, hrun, Result.andThen]
 exact hK _ _ h
def CoefAt (w : World) (v : Value) (l : List Int) : Prop := (∃ A c, v = .slice A 0 c ∧ l = []) ∨ ∃ b q c, v = .slice (some ⟨b, q, none⟩) l.length c ∧ ∀ i, i < l.length → w.cell? ⟨b, q + i * 1, none⟩ = some (.int .i64 (l.getD i 0))
def axL (s : Sg) : Nat → List Int
 | 0 => s.x
 | 1 => s.y
 | _ => s.z
def gK (s : Sg) : Nat → Nat
 | 0 => s.o.natAbs
 | k + 1 => gcdL (gK s k) (axL s k)
structure VaJ (w : World) (s : Sg) (gb k : Nat) (wr : World) : Prop where
 over : wr.cell? ⟨w.heap.size, 2, none⟩ = some (.int .i64 s.o)
 box : WBox wr gb (gK s k : Int)
 ok : ∀ i, i < k → AxisOk (axL s i) s.o
 fit : Fit (gK s k : Int)
 below : Below w.heap.size w wr
structure VaK (w : World) (s : Sg) (l : List Int) (gb k i : Nat) (wr : World) : Prop where
 over : wr.cell? ⟨w.heap.size, 2, none⟩ = some (.int .i64 s.o)
 box : WBox wr gb (gcdL (gK s k) (l.take i) : Int)
 fit : Fit (gcdL (gK s k) (l.take i) : Int)
 below : Below w.heap.size w wr
theorem gcdL_step (g : Nat) (l : List Int) {i : Nat} (h : i < l.length) : gcdL g (l.take (i + 1)) = Nat.gcd (gcdL g (l.take i)) (l.getD i 0).natAbs := by
 unfold gcdL
 rw [List.take_succ_eq_append_getElem h, List.foldl_append]
 simp [h]
theorem beB_inj1 {n m : Nat} (h : (beB n).toList = (beB m).toList) : n = m := by
 rw [ByteArray.toList_eq, ByteArray.toList_eq] at h
 exact be_inj h
theorem head_good (s : Sg) (Ax Ay Az : Option Addr) (cx cy cz : Nat) (w : World) (hh : HeadOk s.f s.t s.o)
  (hx : CoefAt w (.slice Ax s.x.length cx) s.x) (hy : CoefAt w (.slice Ay s.y.length cy) s.y) (hz : CoefAt w (.slice Az s.z.length cz) s.z)
  (hi : ∀ k i, -9223372036854775808 ≤ (axL s k).getD i 0 ∧ (axL s k).getD i 0 ≤ 9223372036854775807) :
  Calls Tryz.prog 74 #[.agg #[.int .i64 s.f, .int .i64 s.t, .int .i64 s.o, .slice Ax s.x.length cx, .slice Ay s.y.length cy, .slice Az s.z.length cz]] w fun e w' => e = .returned (.bool (decide (SegOk s))) ∧ Below w.heap.size w w' := by
 have HH := Lib.hid hh
 have HI := Lib.hid hi
 have HX : Hid (∀ k, k < 3 → ∃ A c, (#[.slice Ax s.x.length cx, .slice Ay s.y.length cy, .slice Az s.z.length cz] : Array Value)[k]? = some (.slice A (axL s k).length c) ∧ CoefAt w (.slice A (axL s k).length c) (axL s k)) := by
  intro k hk
  match k with
  | 0 => exact ⟨_, _, rfl, hx⟩
  | 1 => exact ⟨_, _, rfl, hy⟩
  | 2 => exact ⟨_, _, rfl, hz⟩
 clear hx hy hz hi
 obtain ⟨f, hf⟩ : ∃ f, f = s.f := ⟨_, rfl⟩
 obtain ⟨t, ht⟩ : ∃ t, t = s.t := ⟨_, rfl⟩
 obtain ⟨o, ho⟩ : ∃ o, o = s.o := ⟨_, rfl⟩
 have HSO := Lib.hid ho
 obtain ⟨h, h2, h3, h4, h5⟩ := hh
 rw [← hf] at h h2
 rw [← ht] at h2 h3
 rw [← ho] at h4 h5
 have g1 : ¬ f < 0 := by omega
 have g2 : ¬ t ≤ f := by omega
 have g3 : ¬ 3600000 < t := by omega
 have g4 : ¬ o < 1 := by omega
 have g5 : ¬ 4294967296 < o := by omega
 rw [← hf, ← ht, ← ho]
 clear hf ht ho
 have HOO := Lib.hid (fun w => wof_any o w (by omega) (by omega))
 have HAX := Lib.hid (fun w => axes_any f t o Ax Ay Az s.x.length cx s.y.length cy s.z.length cz w)
 obtain ⟨W, hW⟩ : ∃ W, W = w.alloc (.cells #[.int .i64 f, .int .i64 t, .int .i64 o, .slice Ax s.x.length cx, .slice Ay s.y.length cy, .slice Az s.z.length cz] 67) := ⟨_, rfl⟩
 have hb := heap_alloc_new w (.cells #[.int .i64 f, .int .i64 t, .int .i64 o, .slice Ax s.x.length cx, .slice Ay s.y.length cy, .slice Az s.z.length cz] 67)
 rw [← hW] at hb
 have hsW : W.heap.size = w.heap.size + 1 := by rw [hW]; simp
 have s0 : W.cell? ⟨w.heap.size, 0, none⟩ = some (.int .i64 f) := by simp [World.cell?, hb]
 have s1 : W.cell? ⟨w.heap.size, 1, none⟩ = some (.int .i64 t) := by simp [World.cell?, hb]
 have s2 : W.cell? ⟨w.heap.size, 2, none⟩ = some (.int .i64 o) := by simp [World.cell?, hb]
 have HBK := Lib.hid hb
 have HB : Hid (Below w.heap.size w W) := by unfold Hid; rw [hW]; exact (Below.refl _ _).alloc (Nat.le_refl _) _
 clear hb
 go_enter Tryz.func74, Tryz.ntmps74
 go_upto_region 1 with fail
 rw [← hW]
 clear hW
 go_upto_region 3 with fail
 go_wp2_with fail
 refine (HOO.out _).mono ?_
 rintro e w1 ⟨rfl, hb1⟩
 have HB1 : Hid (Below W.heap.size W w1) := hb1
 clear hb1 HOO s0 s1 s2
 have hs1 := HB1.out.size
 unfold WideV
 obtain ⟨og, hog⟩ : ∃ g, g = decide (o < 0) := ⟨_, rfl⟩
 obtain ⟨os, hos⟩ : ∃ g, g = beB o.natAbs := ⟨_, rfl⟩
 rw [← hog, ← hos]
 obtain ⟨V, hV⟩ : ∃ V, V = w1.alloc (.cells #[.bool og, .string os] 96) := ⟨_, rfl⟩
 obtain ⟨gb, hgb⟩ : ∃ gb, gb = w1.heap.size := ⟨_, rfl⟩
 have hVb : Below W.heap.size W V := by rw [hV]; exact HB1.out.alloc hs1 _
 have HF0 : Hid (Fit (gK s 0 : Int)) := by
  unfold Hid
  have e : ((gK s 0 : Nat) : Int) = o := by show ((s.o.natAbs : Nat) : Int) = o; rw [← HSO.out]; omega
  rw [e]; exact fit_int (by omega) (by omega)
 have HV : Hid (WBox V gb (gK s 0 : Int)) := by
  unfold Hid
  have e : ((gK s 0 : Nat) : Int) = o := by show ((s.o.natAbs : Nat) : Int) = o; rw [← HSO.out]; omega
  rw [e, hV, hgb, hog, hos]; exact WBox.new w1 _
 have hsV : gb < V.heap.size := by rw [hV, hgb]; simp
 have hVk : V.heap[w.heap.size]? = some (.cells #[.int .i64 f, .int .i64 t, .int .i64 o, .slice Ax s.x.length cx, .slice Ay s.y.length cy, .slice Az s.z.length cz] 67 (0, 0)) := (hVb.block w.heap.size (by omega)).trans HBK.out
 have HBV : Hid (Below w.heap.size w V) := HB.out.trans (hVb.mono HB.out.size)
 have hgw : w.heap.size < gb := by omega
 have s0 : V.cell? ⟨w.heap.size, 0, none⟩ = some (.int .i64 f) := by simp [World.cell?, hVk]
 have s1 : V.cell? ⟨w.heap.size, 1, none⟩ = some (.int .i64 t) := by simp [World.cell?, hVk]
 have s2 : V.cell? ⟨w.heap.size, 2, none⟩ = some (.int .i64 o) := by simp [World.cell?, hVk]
 have s3 : V.cell? ⟨w.heap.size, 3, none⟩ = some (.slice Ax s.x.length cx) := by simp [World.cell?, hVk]
 have s4 : V.cell? ⟨w.heap.size, 4, none⟩ = some (.slice Ay s.y.length cy) := by simp [World.cell?, hVk]
 have s5 : V.cell? ⟨w.heap.size, 5, none⟩ = some (.slice Az s.z.length cz) := by simp [World.cell?, hVk]
 clear hVb hVk hog hos HB1 HB HBK
 go_upto_region 4 with fail
 rw [← hV, ← hgb]
 clear hV hgb hs1
 go_wp2_with fail
 refine (HAX.out _).mono ?_
 rintro e w2 ⟨rfl, hb2⟩
 have HJ0 : Hid (VaJ w s gb 0 w2) := ⟨by rw [← HSO.out]; exact (hb2.cell (p := ⟨w.heap.size, 2, none⟩) (by show w.heap.size < _; omega)).trans s2, HV.out.up hb2 hsV, fun i hi => absurd hi (Nat.not_lt_zero i), HF0.out, HBV.out.trans (hb2.mono HBV.out.size)⟩
 clear hb2 s0 s1 s2 s3 s4 s5 HV HBV HAX hsV hsW
 go_wp2_with fail
 go_loopw [38] (fun kv wr => ∃ k : Nat, k ≤ 3 ∧ kv = .int .i64 (k : Int) ∧ Hid (VaJ w s gb k wr)) (fun kv _ => 3 - (intOf kv).toNat)
 case atStart => exact ⟨0, Nat.zero_le _, rfl, HJ0⟩
 case round =>
  obtain ⟨k, hk, rfl, HJ⟩ := hrel
  clear HJ0
  by_cases hk3 : k = 3
  ·
   subst hk3
   have CX : Hid (∀ wa, Below wr.heap.size wr wa → wa.heap[gb]? = some (.cells #[.bool (decide ((gK s 3 : Int) < 0)), .string (beB (gK s 3))] 96 (0, 0))) := fun wa hb => HJ.out.box.up hb HJ.out.box.lt
   rw [show decide ((gK s 3 : Int) < 0) = false from decide_eq_false (by omega)] at CX
   have HO1 := Lib.hid (lift_is (wr := wr) (fun wa => wof_any 1 wa (by decide) (by decide)))
   unfold WideV at HO1
   rw [show decide ((1 : Int) < 0) = false from rfl, show (1 : Int).natAbs = 1 from rfl] at HO1
   have HBW := Lib.hid HJ.out.below
   have HSE : Hid (SegOk s ↔ gK s 3 = 1) := by
    constructor
    · exact fun h => h.2.2.2.2
    · exact fun h => ⟨HH.out, HJ.out.ok 0 (by omega), HJ.out.ok 1 (by omega), HJ.out.ok 2 (by omega), h⟩
   obtain ⟨us, hus⟩ : ∃ g, g = beB (gK s 3) := ⟨_, rfl⟩
   obtain ⟨vs, hvs⟩ : ∃ g, g = beB 1 := ⟨_, rfl⟩
   have HUV : Hid ((us = vs ∧ decide (SegOk s) = true) ∨ (¬ us.toList = vs.toList ∧ decide (SegOk s) = false)) := by
    by_cases h : gK s 3 = 1
    · exact .inl ⟨by rw [hus, hvs, h], decide_eq_true (HSE.out.2 h)⟩
    ·
     refine .inr ⟨fun e => ?_, decide_eq_false fun h2 => h (HSE.out.1 h2)⟩
     rw [hus, hvs] at e
     exact h (beB_inj1 e)
   rw [← hus] at CX
   rw [← hvs] at HO1
   clear hus hvs HJ HSE
   go_wp2_with fail
   refine region_list 2 85 (fun w' => Below wr.heap.size wr w') [is (.agg #[.bool false, .string us]), is (.agg #[.bool false, .string vs])] (by kernel_rfl) (by kernel_rfl) rfl (by decide) ?hst ?h0 ?hop ?htail
   case hst =>
    simp only [List.mem_cons, List.mem_nil_iff, or_false, forall_eq_or_imp, forall_eq]
    exact ⟨is_stable _, is_stable _⟩
   case h0 => exact (Below.refl _ _).drew
   case hop =>
    refine ⟨?_, ?_, trivial⟩
    · exact ok_load 96 (.tmp 3) (.pointer (some ⟨gb, 0, none⟩)) (.agg #[.bool false, .string us]) rfl (by kernel_rfl) (fun wa hC => run_loadN [.bool false, .string us] wa (by kernel_rfl) (by kernel_rfl) (cells2 (CX.out wa hC))) rfl
    · exact ok_callF 79 [.const (.int .i64 1)] _ [.int .i64 1] rfl (fun _ _ => by kernel_rfl) ⟨by kernel_rfl, trivial⟩ (HO1.out)
   case htail =>
   intro τ w2 hC hR
   have r0 : τ 0 = .agg #[.bool false, .string us] := hR 0 (by decide)
   have r1 : τ 1 = .agg #[.bool false, .string vs] := hR 1 (by decide)
   simp only [putAll, List.getElem?_toArray, List.getElem?_cons_succ, List.getElem?_cons_zero, Option.bind_some, Act.put, List.setIfInBounds_toArray, List.set_cons_succ, List.set_cons_zero, List.drop_succ_cons, List.drop_zero, r0, r1]
   clear hR r0 r1
   have HBX := Lib.hid (HBW.out.trans (hC.mono HBW.out.size))
   clear hC
   rcases HUV.out with ⟨huv, hd⟩ | ⟨huv, hd⟩
   ·
    subst huv
    have HD := Lib.hid hd
    clear hd
    go_wp2_with fail
    exact bodyPost_ret (v := .bool true) (by simp [results, Tryz.results74]) rfl ⟨by rw [HD.out], HBX.out⟩
   ·
    have HD := Lib.hid hd
    clear hd
    go_wp2_with fail
    exact bodyPost_ret (v := .bool false) (by simp [results, Tryz.results74]) rfl ⟨by rw [HD.out], HBX.out⟩
  ·
   have hkl : k < 3 := by omega
   have hki : (k : Int) < 3 := by omega
   obtain ⟨A, c, hidx, hco⟩ := HX.out k hkl
   have HCO := Lib.hid hco
   have HIX := Lib.hid hidx
   clear hco hidx
   go_upto_region 7 with (refine wpList_index3 rfl (.tmp 37) (.tmp 38) rfl _ _ _ (.slice A (axL s k).length c) k rfl rfl hkl HIX.out ?_)
   obtain ⟨l, hl⟩ : ∃ l, l = axL s k := ⟨_, rfl⟩
   have HLI : Hid (∀ i, -9223372036854775808 ≤ l.getD i 0 ∧ l.getD i 0 ≤ 9223372036854775807) := by unfold Hid; rw [hl]; exact HI.out k
   have HL := Lib.hid hl
   rw [← hl] at HCO ⊢
   have HBAD : Hid (¬ AxisOk l o → decide (SegOk s) = false) := fun hn => decide_eq_false fun h => by
    obtain ⟨_, h0, h1, h2, _⟩ := h
    apply hn
    rw [HSO.out, hl]
    match k with
    | 0 => exact h0
    | 1 => exact h1
    | 2 => exact h2
   have HBW := Lib.hid HJ.out.below
   clear hl
   by_cases l1 : l.length < 1
   ·
    have HF : Hid (decide (SegOk s) = false) := HBAD.out fun h => by have := h.1; omega
    have l1' : (l.length : Int) < 1 := by omega
    clear HBAD HCO HL HJ HLI
    go_wp2_with fail
    exact bodyPost_ret (v := .bool false) (by simp [results, Tryz.results74]) rfl ⟨by rw [HF.out], HBW.out⟩
   by_cases l6 : 6 < l.length
   ·
    have HF : Hid (decide (SegOk s) = false) := HBAD.out fun h => by have := h.2.1; omega
    have l1' : ¬ (l.length : Int) < 1 := by omega
    have l6' : (6 : Int) < (l.length : Int) := by omega
    clear HBAD HCO HL HJ HLI
    go_wp2_with fail
    exact bodyPost_ret (v := .bool false) (by simp [results, Tryz.results74]) rfl ⟨by rw [HF.out], HBW.out⟩
   obtain ⟨b, q, c2, hA, hcell⟩ : ∃ b q c2, (Value.slice A l.length c) = .slice (some ⟨b, q, none⟩) l.length c2 ∧ ∀ i, i < l.length → w.cell? ⟨b, q + i * 1, none⟩ = some (.int .i64 (l.getD i 0)) := by
    rcases HCO.out with ⟨_, _, _, e⟩ | h
    · rw [e] at l1; exact absurd (by decide) l1
    · exact h
   injection hA with hA1 _ hA2
   subst hA1
   subst hA2
   have hbw : b < w.heap.size := by
    have := hcell 0 (by omega)
    simp only [World.cell?] at this
    cases h : w.heap[b]? with
    | none => rw [h] at this; cases this
    | some x => exact (Array.getElem?_eq_some_iff.1 h).1
   have HC : Hid (∀ wa, Below w.heap.size w wa → ∀ i, i < l.length → wa.cell? ⟨b, q + i * 1, none⟩ = some (.int .i64 (l.getD i 0))) := fun wa hb i hi => (hb.cell (p := ⟨b, q + i * 1, none⟩) hbw).trans (hcell i hi)
   have HBD : Hid (∀ wa, Below w.heap.size w wa → Calls Tryz.prog 95 #[.slice (some ⟨b, q, none⟩) l.length c, .int .i64 o] wa fun e w' => e = .returned (.bool (decide (BndN l o l.length))) ∧ Below wa.heap.size wa w') := fun wa hb =>
    bounded_any l o b q c wa (HC.out wa hb) (by omega) (by omega) HLI.out (by omega) (by omega)
   obtain ⟨m, hm⟩ : ∃ m, l.length = m + 1 := ⟨l.length - 1, by omega⟩
   have HM := Lib.hid hm
   have hwm : IntKind.i64.wrap ((l.length : Int) - 1) = (m : Int) := by rw [IntWalk.i64_in _ (by omega)]; omega
   have hml : m < l.length := by omega
   have hmi : (m : Int) < (l.length : Int) := by omega
   have o2 : wr.cell? ⟨w.heap.size, 2, none⟩ = some (.int .i64 o) := by rw [HSO.out]; exact HJ.out.over
   have cm := HC.out wr HBW.out m hml
   rw [Nat.mul_one] at cm
   have l1' : ¬ (l.length : Int) < 1 := by omega
   have l6' : ¬ (6 : Int) < (l.length : Int) := by omega
   obtain ⟨x, hx⟩ : ∃ x, x = l.getD m 0 := ⟨_, rfl⟩
   rw [← hx] at cm
   clear hcell hm
   by_cases lz : 1 < l.length ∧ x = 0
   ·
    have HF : Hid (decide (SegOk s) = false) := HBAD.out fun h => by
     apply h.2.2.1 lz.1
     rw [show l.length - 1 = m by have := HM.out; omega, ← hx]
     exact lz.2
    have lone : (1 : Int) < (l.length : Int) := by omega
    obtain ⟨_, lz⟩ := lz
    clear HBAD HCO HL HJ HLI HBD HC hx
    go_wp2_with fail
    exact bodyPost_ret (v := .bool false) (by simp [results, Tryz.results74]) rfl ⟨by rw [HF.out], HBW.out⟩
   have HLZ := Lib.hid lz
   have lzz : (¬ (1 : Int) < (l.length : Int)) ∨ ((1 : Int) < (l.length : Int) ∧ ¬ x = 0) := by omega
   have HAX2 : Hid (BndN l o l.length → AxisOk l o) := fun h => ⟨by omega, by omega, fun h1 => by
    have := HM.out
    rw [show l.length - 1 = m by omega, ← hx]
    intro e
    exact HLZ.out ⟨h1, e⟩, h⟩
   have HNB : Hid (decide (BndN l o l.length) = false → decide (SegOk s) = false) := fun h => HBAD.out fun h2 => (of_decide_eq_false h) h2.2.2.2
   clear lz HLZ HBAD hx HCO
   obtain ⟨bb, hbb⟩ : ∃ bb, bb = decide (BndN l o l.length) := ⟨_, rfl⟩
   rw [← hbb] at HBD HNB
   have HBB := Lib.hid hbb
   clear hbb
   rcases lzz with lone | ⟨lone, lx⟩
   all_goals
    go_wp2_with fail
    refine (HBD.out _ HBW.out).mono ?_
    rintro e w3 ⟨rfl, hb3⟩
    have HB3 : Hid (Below wr.heap.size wr w3) := hb3
    clear hb3
    cases bb
    ·
     have HF := Lib.hid (HNB.out rfl)
     have HBX := Lib.hid (HBW.out.trans (HB3.out.mono HBW.out.size))
     go_wp2_with fail
     exact bodyPost_ret (v := .bool false) (by simp [results, Tryz.results74]) rfl ⟨by rw [HF.out], HBX.out⟩
    ·
     have HOK : Hid (AxisOk l o) := HAX2.out (of_decide_eq_true HBB.out.symm)
     have HK0 : Hid (VaK w s l gb k 0 w3) := by
      have h := HJ.out
      exact ⟨(HB3.out.cell (p := ⟨w.heap.size, 2, none⟩) (by have := h.box.lt; show w.heap.size < _; omega)).trans h.over, h.box.up HB3.out h.box.lt, h.fit, h.below.trans (HB3.out.mono h.below.size)⟩
     have HJO := Lib.hid HJ.out.ok
     clear HJ HAX2 HNB HBB HB3 HBD cm o2 HBW
     go_wp2_with fail
     go_loopw [72] (fun iv wr => ∃ i : Nat, i ≤ l.length ∧ iv = .int .i64 (i : Int) ∧ Hid (VaK w s l gb k i wr)) (fun iv _ => l.length - (intOf iv).toNat)
     case atStart => exact ⟨0, Nat.zero_le _, rfl, HK0⟩
     case round =>
      obtain ⟨i, hi, rfl, HK⟩ := hrel
      clear HK0
      by_cases hil : i = l.length
      ·
       subst hil
       have HNX : Hid (VaJ w s gb (k + 1) wr) := by
        have h := HK.out
        have e : gcdL (gK s k) (l.take l.length) = gK s (k + 1) := by rw [List.take_length]; show _ = gcdL (gK s k) (axL s k); rw [HL.out]
        refine ⟨h.over, by rw [← e]; exact h.box, fun i hi => ?_, by rw [← e]; exact h.fit, h.below⟩
        by_cases eik : i = k
        · rw [eik, ← HL.out, ← HSO.out]; exact HOK.out
        · exact HJO.out i (by omega)
       clear HK HJO HOK
       go_wp2_with fail
       exact ⟨⟨k + 1, by omega, rfl, HNX⟩, by simp only [intOf]; omega⟩
      ·
       have hil2 : i < l.length := by omega
       have hii : (i : Int) < (l.length : Int) := by omega
       have ci := HC.out wr HK.out.below i hil2
       rw [Nat.mul_one] at ci
       have HNX : Hid (∀ w2, Below wr.heap.size wr w2 → VaK w s l gb k (i + 1) ((w2.setCell ⟨gb, 0, none⟩ (.bool (decide ((gcdL (gK s k) (l.take (i + 1)) : Int) < 0)))).setCell ⟨gb, 1, none⟩ (.string (beB (gcdL (gK s k) (l.take (i + 1)) : Int).natAbs)))) := fun w2 hb => by
        have h := HK.out
        refine ⟨?_, (h.box.up hb h.box.lt).store _, ?_, Below.store2 (h.below.trans (hb.mono h.below.size)) (by omega) _ _⟩
        · exact (World.cell?_of_block (store2_block _ _ (by show w.heap.size ≠ gb; omega))).trans ((hb.cell (p := ⟨w.heap.size, 2, none⟩) (by have := h.box.lt; show w.heap.size < _; omega)).trans h.over)
        ·
         rw [gcdL_step _ _ hil2]
         have := gcd_fit h.fit (fit_int (HLI.out i).1 (HLI.out i).2)
         rw [Int.natAbs_natCast] at this
         exact this
       obtain ⟨x, hx⟩ : ∃ x, x = l.getD i 0 := ⟨_, rfl⟩
       have hxi := HLI.out i
       rw [← hx] at hxi ci
       have HOX := Lib.hid (lift_is (wr := wr) (fun wa => wof_any x wa hxi.1 hxi.2))
       have HGC := Lib.hid (lift_is (wr := wr) (fun wa => sgcd_any (gcdL (gK s k) (l.take i) : Int) x wa HK.out.fit (fit_int hxi.1 hxi.2)))
       rw [Int.natAbs_natCast, hx, ← gcdL_step _ _ hil2, ← hx] at HGC
       have CX : Hid (∀ wa, Below wr.heap.size wr wa → wa.heap[gb]? = some (.cells #[.bool (decide ((gcdL (gK s k) (l.take i) : Int) < 0)), .string (beB (gcdL (gK s k) (l.take i) : Int).natAbs)] 96 (0, 0))) := fun wa hb => HK.out.box.up hb HK.out.box.lt
       unfold WideV at HOX HGC
       obtain ⟨xg, hxg⟩ : ∃ g, g = decide (x < 0) := ⟨_, rfl⟩
       obtain ⟨xs, hxs⟩ : ∃ g, g = beB x.natAbs := ⟨_, rfl⟩
       obtain ⟨ug, hug⟩ : ∃ g, g = decide ((gcdL (gK s k) (l.take i) : Int) < 0) := ⟨_, rfl⟩
       obtain ⟨us, hus⟩ : ∃ g, g = beB (gcdL (gK s k) (l.take i) : Int).natAbs := ⟨_, rfl⟩
       obtain ⟨vg, hvg⟩ : ∃ g, g = decide ((gcdL (gK s k) (l.take (i + 1)) : Int) < 0) := ⟨_, rfl⟩
       obtain ⟨vs, hvs⟩ : ∃ g, g = beB (gcdL (gK s k) (l.take (i + 1)) : Int).natAbs := ⟨_, rfl⟩
       rw [← hxg, ← hxs] at HOX HGC
       rw [← hug, ← hus] at HGC CX
       rw [← hvg, ← hvs] at HGC HNX
       clear hxg hxs hug hus hvg hvs hxi hx HK HJO HOK
       go_wp2_with fail
       refine region_list 4 85 (fun w' => Below wr.heap.size wr w') [is (.agg #[.bool ug, .string us]), is (.int .i64 x), is (.agg #[.bool xg, .string xs]), is (.agg #[.bool vg, .string vs])] (by kernel_rfl) (by kernel_rfl) rfl (by decide) ?hst ?h0 ?hop ?htail
       case hst =>
        simp only [List.mem_cons, List.mem_nil_iff, or_false, forall_eq_or_imp, forall_eq]
        exact ⟨is_stable _, is_stable _, is_stable _, is_stable _⟩
       case h0 => exact (Below.refl _ _).drew
       case hop =>
        refine ⟨?_, ?_, ?_, ?_, trivial⟩
        · exact ok_load 96 (.tmp 3) (.pointer (some ⟨gb, 0, none⟩)) (.agg #[.bool ug, .string us]) rfl (by kernel_rfl) (fun wa hC => run_loadN [.bool ug, .string us] wa (by kernel_rfl) (by kernel_rfl) (cells2 (CX.out wa hC))) rfl
        · exact ok_move (.tmp 7) (is (.int .i64 x)) rfl (by kernel_rfl) (fun _ _ _ h => h)
        · exact ok_callF 79 [.tmp 77] _ [.int .i64 x] rfl (fun _ _ => by kernel_rfl) ⟨by kernel_rfl, trivial⟩ (HOX.out)
        · exact ok_callF 85 [.tmp 76, .tmp 78] _ [.agg #[.bool ug, .string us], .agg #[.bool xg, .string xs]] rfl (fun _ _ => by kernel_rfl) ⟨by kernel_rfl, by kernel_rfl, trivial⟩ (HGC.out)
       case htail =>
       intro τ w2 hC hR
       have r3 : τ 3 = .agg #[.bool vg, .string vs] := hR 3 (by decide)
       simp only [putAll, List.getElem?_toArray, List.getElem?_cons_succ, List.getElem?_cons_zero, Option.bind_some, Act.put, List.setIfInBounds_toArray, List.set_cons_succ, List.set_cons_zero, List.drop_succ_cons, List.drop_zero, r3]
       clear hR r3
       have HN2 := Lib.hid (HNX.out w2 hC)
       have h1 := CX.out w2 hC
       obtain ⟨c0, c1⟩ := cellb h1
       have f0 := frob h1 0
       have f1 := frob h1 1
       clear hC h1 CX HOX HGC HNX
       go_wp2_with fail
       exact ⟨⟨i + 1, by omega, rfl, HN2⟩, by simp only [intOf]; omega⟩
theorem segvalid_any (s : Sg) (Ax Ay Az : Option Addr) (cx cy cz : Nat) (w : World)
  (hx : CoefAt w (.slice Ax s.x.length cx) s.x) (hy : CoefAt w (.slice Ay s.y.length cy) s.y) (hz : CoefAt w (.slice Az s.z.length cz) s.z)
  (hi : ∀ k i, -9223372036854775808 ≤ (axL s k).getD i 0 ∧ (axL s k).getD i 0 ≤ 9223372036854775807) :
  Calls Tryz.prog 74 #[.agg #[.int .i64 s.f, .int .i64 s.t, .int .i64 s.o, .slice Ax s.x.length cx, .slice Ay s.y.length cy, .slice Az s.z.length cz]] w fun e w' => e = .returned (.bool (decide (SegOk s))) ∧ Below w.heap.size w w' := by
 by_cases hh : HeadOk s.f s.t s.o
 · exact head_good s Ax Ay Az cx cy cz w hh hx hy hz hi
 ·
  refine (head_bad s.f s.t s.o Ax Ay Az _ cx _ cy _ cz w hh).mono ?_
  rintro e w' ⟨rfl, hb⟩
  exact ⟨by rw [decide_eq_false (fun h : SegOk s => hh h.1)], hb⟩
end Go.Proofs.YtkcnbaeoahoglaaGreat
namespace Go.Proofs.YtkcnbaeoahoglaaGreat
open Go.RowKit
structure Bd (e : Nat) (z : Int) : Prop where
  le : z.natAbs ≤ 2 ^ e
theorem Bd.fit {e : Nat} {z : Int} (h : Bd e z) (he : e ≤ 60000) : Fit z := by
 unfold Fit
 have h1 : z.natAbs < 2 ^ (e + 1) := by
  have := h.le
  have h2 : 0 < 2 ^ e := Nat.pow_pos (by decide)
  rw [Nat.pow_succ]
  omega
 exact Nat.le_trans (bitLen_le.2 h1) (by omega)
theorem Bd.mono {e f : Nat} {z : Int} (h : Bd e z) (hf : e ≤ f) : Bd f z := ⟨Nat.le_trans h.le (Nat.pow_le_pow_right (by decide) hf)⟩
theorem Bd.add {e : Nat} {x y : Int} (h : Bd e x) (k : Bd e y) : Bd (e + 1) (x + y) := ⟨by
 have := Int.natAbs_add_le x y
 have h1 := h.le
 have h2 := k.le
 rw [Nat.pow_succ]
 omega⟩
theorem Bd.mul {e f : Nat} {x y : Int} (h : Bd e x) (k : Bd f y) : Bd (e + f) (x * y) := ⟨by
 rw [Int.natAbs_mul, Nat.pow_add]
 exact Nat.mul_le_mul h.le k.le⟩
theorem Bd.pow {e : Nat} {x : Int} (h : Bd e x) (k : Nat) : Bd (e * k) (x ^ k) := ⟨by
 rw [Int.natAbs_pow, Nat.pow_mul]
 exact Nat.pow_le_pow_left h.le k⟩
theorem Bd.int {x : Int} (h0 : -9223372036854775808 ≤ x) (h1 : x ≤ 9223372036854775807) : Bd 63 x := ⟨by
 have : (2 : Nat) ^ 63 = 9223372036854775808 := by decide
 omega⟩
theorem Bd.zero (e : Nat) : Bd e 0 := ⟨by simp⟩
theorem Bd.div {e : Nat} {x : Int} (h : Bd e x) (y : Int) : Bd e (x / y) := ⟨Nat.le_trans (Int.natAbs_ediv_le_natAbs x y) h.le⟩
theorem Bd.gcd {e : Nat} {x y : Int} (h : Bd e x) (k : Bd e y) : Bd e ((Nat.gcd x.natAbs y.natAbs : Nat) : Int) := ⟨by
 rw [Int.natAbs_natCast]
 by_cases hx : x.natAbs = 0
 · rw [hx, Nat.gcd_zero_left]; exact k.le
 · exact Nat.le_trans (Nat.gcd_le_left _ (by omega)) h.le⟩
def plS (l : List Int) (a d : Int) : Nat → Int
 | 0 => 0
 | k + 1 => plS l a d k + l.getD k 0 * (a ^ k * d ^ (5 - k))
abbrev In64 (x : Int) : Prop := -9223372036854775808 ≤ x ∧ x ≤ 9223372036854775807
structure SgIn (s : Sg) : Prop where
 f : In64 s.f
 t : In64 s.t
 o : In64 s.o
 x : ∀ i, In64 (s.x.getD i 0)
 y : ∀ i, In64 (s.y.getD i 0)
 z : ∀ i, In64 (s.z.getD i 0)
theorem term_bd {x a d : Int} (hx : In64 x) (ha : In64 a) (hd : In64 d) {k : Nat} (hk : k ≤ 5) : Bd 378 (x * (a ^ k * d ^ (5 - k))) :=
  ((Bd.int hx.1 hx.2).mul (((Bd.int ha.1 ha.2).pow k).mul ((Bd.int hd.1 hd.2).pow (5 - k)))).mono (by omega)
theorem plS_bd {l : List Int} {a d : Int} (hl : ∀ i, In64 (l.getD i 0)) (ha : In64 a) (hd : In64 d) : ∀ k, k ≤ 6 → Bd (378 + k) (plS l a d k)
 | 0, _ => Bd.zero _
 | k + 1, hk => (plS_bd hl ha hd k (by omega)).add ((term_bd (hl k) ha hd (by omega)).mono (by omega))
def plX (s : Sg) (a d : Int) : Int := plS s.x a d s.x.length
def plY (s : Sg) (a d : Int) : Int := plS s.y a d s.y.length
def plZ (s : Sg) (a d : Int) : Int := plS s.z a d s.z.length
def plO (s : Sg) (d : Int) : Int := s.o * d ^ 5
def plG (s : Sg) (a d : Int) : Int := ((Nat.gcd (((Nat.gcd (((Nat.gcd (plO s d).natAbs (plX s a d).natAbs : Nat) : Int)).natAbs (plY s a d).natAbs : Nat) : Int)).natAbs (plZ s a d).natAbs : Nat) : Int)
structure PL where
 x : Int
 y : Int
 z : Int
 o : Int
deriving DecidableEq
def placeL (s : Sg) (a d : Int) : PL := ⟨plX s a d / plG s a d, plY s a d / plG s a d, plZ s a d / plG s a d, plO s d / plG s a d⟩
end Go.Proofs.YtkcnbaeoahoglaaGreat
