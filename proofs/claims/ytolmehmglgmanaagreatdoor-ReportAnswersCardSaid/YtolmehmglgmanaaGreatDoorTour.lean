/- A tour through valid points at growing times: the walks of legs and Tour. -/
import Derived.Test.YtolmehmglgmanaaGreatDoorLegs
import Derived.Test.YtolmehmglgmanaaGreatDoorTPath
import Derived.OwnWalkIn
import Derived.BigFrameIn
import Derived.Maps.OwnIn
namespace Go.Proofs.YtolmehmglgmanaaGreatDoor
open Go.RowKit

/-- The legs of a tour. -/
def legsL (pts : List V3) (ts : List Int) : List Sg := (List.range (pts.length - 1)).map fun k => legS (ptOf pts k) (ptOf pts (k + 1)) (ts.getD k 0) (ts.getD (k + 1) 0) 2
theorem legsL_len (pts : List V3) (ts : List Int) : (legsL pts ts).length = pts.length - 1 := by simp [legsL]
theorem legsL_take (pts : List V3) (ts : List Int) (k : Nat) (h : k < pts.length - 1) : (legsL pts ts).take (k + 1) = (legsL pts ts).take k ++ [legS (ptOf pts k) (ptOf pts (k + 1)) (ts.getD k 0) (ts.getD (k + 1) 0) 2] := by
  rw [List.take_succ_eq_append_getElem (by rw [legsL_len]; exact h)]
  simp [legsL]
set_option maxRecDepth 100000 in
theorem legs_any (v1 v2 : Value) (w : World) (h1 : ∃ A n c, v1 = .slice A n c) (h2 : ∃ A n c, v2 = .slice A n c) :
    Calls Tryz.prog 86 #[v1, v2] w fun e w' => e = .returned (.func (.func 98) #[] #[.pointer (some ⟨w.heap.size, 0, none⟩), .pointer (some ⟨w.heap.size + 1, 0, none⟩)]) ∧ Below w.heap.size w w' ∧ w'.heap.size = w.heap.size + 2 ∧
      w'.heap[w.heap.size]? = some (.cells #[v1] 23 (0, 0)) ∧ w'.heap[w.heap.size + 1]? = some (.cells #[v2] 63 (0, 0)) := by
  obtain ⟨A1, n1, c1, rfl⟩ := h1
  obtain ⟨A2, n2, c2, rfl⟩ := h2
  go_enter Tryz.func86, Tryz.ntmps86
  go_wp2_with fail
  go_ret
  refine ⟨rfl, ((Below.refl _ _).alloc (Nat.le_refl _) _).alloc (by simp) _, by simp, ?_, ?_⟩
  · rw [Below.heap_alloc _ _ _ (by simp)]; exact heap_new _ _ _ rfl
  · exact heap_new _ _ _ (by simp)
theorem SeesD.keepS {w w' : World} {D : Nat → Prop} {size n : Nat} {v : Value} {xs : List Value} (h : SeesD w D size v n xs) (hk : ∀ b o u, D b → w.cell? ⟨b, o, none⟩ = some u → w'.cell? ⟨b, o, none⟩ = some u) : SeesD w' D size v n xs := by
  refine ⟨h.1, ?_⟩
  rcases h.2 with h0 | ⟨b, o, c, rfl, hd, hc⟩
  · exact .inl h0
  · exact .inr ⟨b, o, c, rfl, hd, fun j u hu => hk b _ u hd (hc j u hu)⟩
theorem SegAt.keepS {w w' : World} {D : Nat → Prop} {s : Sg} {cs : List Value} (h : SegAt w D s cs) (hk : ∀ b o u, D b → w.cell? ⟨b, o, none⟩ = some u → w'.cell? ⟨b, o, none⟩ = some u) : SegAt w' D s cs := by
  obtain ⟨vx, vy, vz, e, h1, h2, h3⟩ := h
  exact ⟨vx, vy, vz, e, h1.keepS hk, h2.keepS hk, h3.keepS hk⟩
theorem Segs.keepS {w w' : World} {D : Nat → Prop} (hk : ∀ b o u, D b → w.cell? ⟨b, o, none⟩ = some u → w'.cell? ⟨b, o, none⟩ = some u) : ∀ {ss : List Sg} {cs : List Value}, Segs w D ss cs → Segs w' D ss cs
  | [], _, h => h
  | _ :: _, _, ⟨a, b, e, h1, h2⟩ => ⟨a, b, e, h1.keepS hk, Segs.keepS hk h2⟩
theorem PathAt.keepS {w w' : World} {lo hi : Nat} {v : Value} {ss : List Sg} (h : PathAt w lo hi v ss) (hk : ∀ b o u, lo ≤ b → b < hi → w.cell? ⟨b, o, none⟩ = some u → w'.cell? ⟨b, o, none⟩ = some u) : PathAt w' lo hi v ss := by
  obtain ⟨cs, h1, h2⟩ := h
  exact ⟨cs, SeesD.keepS h1 fun b o u hd => hk b o u hd.1 hd.2, Segs.keepS (fun b o u hd => hk b o u hd.1 hd.2) h2⟩
/-- What grows by blocks that are no cells keeps all cells. -/
theorem grown_cells {A A' : World} {row : Option Nat} (hg : A.grownBy A' row) (hr : ∀ r, row = some r → ∃ o : Obj, A.heap[r]? = some o ∧ o.isCells = false) : ∀ b o u, A.cell? ⟨b, o, none⟩ = some u → A'.cell? ⟨b, o, none⟩ = some u := by
  intro b o u h
  have hb : b < A.heap.size := by
    unfold World.cell? at h
    cases hh : A.heap[b]? with
    | none => simp [hh] at h
    | some _ => exact (Array.getElem?_eq_some_iff.1 hh).1
  by_cases e : row = some b
  · obtain ⟨ob, ho, hc⟩ := hr b e
    unfold World.cell? at h
    simp only [ho] at h
    cases ob <;> simp_all [Obj.isCells]
  · exact (World.cell?_of_block (hg.block b hb (fun e' => e e'.symm))).trans h
theorem PathOwn.kept {A A' : World} {B base lo : Nat} {sv : Value} {ss : List Sg} {row : Option Nat} (h : PathOwn A B base sv ss) (hB : B < lo) (hg : A.grownBy A' row) (hr : ∀ r, row = some r → lo ≤ r ∧ ∃ o : Obj, A.heap[r]? = some o ∧ o.isCells = false) : PathOwn A' B base sv ss := by
  obtain ⟨cs, hrow, hs⟩ := h.row
  refine ⟨grown_heap h.box hg hB (fun r e => (hr r e).1), cs, ?_, ?_⟩
  · refine hrow.kept hg ?_
    by_cases e : sv.ownBlock = none
    · exact .inl e
    · right
      intro e2
      rcases hrow.2 with ⟨rfl, _⟩ | ⟨g', cap, cur, rfl, _, hg', _⟩
      · simp [Value.ownBlock] at e
      · obtain ⟨hx, o, ho, hc⟩ := hr g' (by rw [← e2]; rfl)
        rw [hg'] at ho
        cases ho
        simp [Obj.isCells] at hc
  · exact (hs.keepS fun b o u _ hu => grown_cells hg (fun r e => (hr r e).2) b o u hu).more fun b hd => ⟨hd.1, Nat.lt_of_lt_of_le hd.2.1 hg.size, hd.2.2⟩
/-- How it stands after k legs; w0: the world ahead of the range. -/
structure TIn (pts : List V3) (ts : List Int) (w0 : World) (B k : Nat) (sv : Value) (A : World) : Prop where
  own : PathOwn A B w0.heap.size sv ((legsL pts ts).take k)
  keep : KeepP (fun b => b = B) w0 A
theorem TIn.own_ {pts : List V3} {ts : List Int} {w0 : World} {B k : Nat} {sv : Value} (hB : B < w0.heap.size) : OwnFrom w0.heap.size (fun (_ : Unit) A => TIn pts ts w0 B k sv A) := by
  intro _ A A' row h hg hr
  exact ⟨h.own.kept hB hg hr, grown_keep h.keep hg (fun r e => (hr r e).1)⟩
theorem PathOwn.ltB {A : World} {B base : Nat} {sv : Value} {ss : List Sg} (h : PathOwn A B base sv ss) {b : Nat} (hb : b = B ∨ sv.ownBlock = some b) : b < A.heap.size := by
  rcases hb with rfl | hb
  · exact (Array.getElem?_eq_some_iff.1 h.box).1
  · obtain ⟨_, hr, _⟩ := h.row; exact (hr.lt b hb).2
theorem PathOwn.geB {A : World} {B base : Nat} {sv : Value} {ss : List Sg} (h : PathOwn A B base sv ss) {b : Nat} (hb : sv.ownBlock = some b) : base ≤ b := by
  obtain ⟨_, hr, _⟩ := h.row; exact (hr.lt b hb).1
/-- What stands ahead of a round's body. -/
structure TMid (pts : List V3) (ts : List Int) (w0 : World) (B k : Nat) (sv : Value) (B10 : Nat) (A : World) : Prop where
  tin : TIn pts ts w0 B k sv A
  seg : ∃ cs, A.heap[B10]? = some (.cells cs.toArray 166 (0, 0)) ∧ SegAt A (fun b => w0.heap.size ≤ b ∧ b < A.heap.size ∧ sv.ownBlock ≠ some b) (legS (ptOf pts k) (ptOf pts (k + 1)) (ts.getD k 0) (ts.getD (k + 1) 0) 2) cs
theorem TMid.own_ {pts : List V3} {ts : List Int} {w0 : World} {B k B10 : Nat} {sv : Value} (hB : B < w0.heap.size) : OwnFrom w0.heap.size (fun (_ : Unit) A => TMid pts ts w0 B k sv B10 A) := by
  intro _ A A' row h hg hr
  obtain ⟨cs, hc, hs⟩ := h.seg
  have hk := grown_cells hg (fun r e => (hr r e).2)
  refine ⟨TIn.own_ hB () A A' row h.tin hg hr, cs, ?_, (hs.keepS fun b o u _ hu => hk b o u hu).more fun b hd => ⟨hd.1, Nat.lt_of_lt_of_le hd.2.1 hg.size, hd.2.2⟩⟩
  by_cases e : row = some B10
  · obtain ⟨_, o, ho, hcc⟩ := hr B10 e
    rw [hc] at ho; cases ho; simp [Obj.isCells] at hcc
  · exact (hg.block B10 (Array.getElem?_eq_some_iff.1 hc).1 (fun e' => e e'.symm)).trans hc
/-- The points and the times of a tour are right. -/
def tourB (pts : List V3) (ts : List Int) : Prop := ∀ k, k < pts.length → (ptOf pts k).pt = true ∧ (if k = 0 then -1 else ts.getD (k - 1) 0) < ts.getD k 0 ∧ ts.getD k 0 ≤ 3600000
set_option maxRecDepth 100000 in
set_option maxHeartbeats 4000000 in
theorem tour_any (pts : List V3) (ts : List Int) (v1 v2 : Value) (w : World) (h1 : Sees w 0 w.heap.size 3 v1 pts.length (vecs pts)) (h2 : Sees w 0 w.heap.size 1 v2 pts.length (ints ts)) (hlen : ts.length = pts.length) (hn : 2 ≤ pts.length) (hn2 : pts.length ≤ 257) (ht : tourB pts ts) :
    Calls Tryz.prog 72 #[v1, v2] w fun e w' => ∃ A c, e = .returned (.tuple #[.slice A (pts.length - 1) c, .int .i64 0]) ∧ PathAt w' w.heap.size w'.heap.size (.slice A (pts.length - 1) c) (legsL pts ts) ∧ Below w.heap.size w w' := by
  obtain ⟨b1, o1, c1, rfl, _, hb1, hc1⟩ := h1.pos (by omega)
  obtain ⟨b2, o2, c2, rfl, _, hb2, hc2⟩ := h2.pos (by omega)
  have HT := Lib.hid ht
  have HC1 := Lib.hid hc1
  have HC2 := Lib.hid hc2
  have HL := Lib.hid hlen
  clear ht hc1 hc2 h1 h2 hlen
  refine calls_marks Tryz.func72 rfl ?_
  simp only [Tryz.ntmps72, List.size_toArray, List.length_cons, List.length_nil, Nat.reduceAdd, Nat.reduceSub, Array.replicate_succ,
     Array.replicate_zero, List.push_toArray, List.append_toArray, List.nil_append, List.cons_append]
  go_wp2_with fail
  go_loopw [6, 23] (fun l i wr => ∃ k : Nat, k ≤ pts.length ∧ i = .int .i64 k ∧ l = .int .i64 (if k = 0 then -1 else ts.getD (k - 1) 0) ∧ Below w.heap.size w wr) (fun _ i _ => pts.length - (intOf i).toNat)
  case atStart => exact ⟨0, Nat.zero_le _, rfl, rfl, Below.refl _ _⟩
  case round =>
    obtain ⟨k, hk, rfl, rfl, hbel⟩ := hrel
    by_cases hlt : k < pts.length
    · obtain ⟨g1, g2, g3⟩ := HT.out k hlt
      have hkt : k < ts.length := by rw [HL.out]; exact hlt
      have m0 : wr.cell? ⟨b2, o2 + k, none⟩ = some (.int .i64 (ts.getD k 0)) := (hbel.cell (p := ⟨b2, o2 + k, none⟩) hb2).trans (HC2.out k _ (by rw [ints_at ts k hkt]; simp [hkt]))
      have hv : ∀ j u, [Value.int .i64 (ptOf pts k).x, .int .i64 (ptOf pts k).y, .int .i64 (ptOf pts k).z][j]? = some u → wr.cell? ⟨b1, o1 + k * 3 + j, none⟩ = some u := fun j u hu => by
        rw [Nat.add_assoc]
        refine (hbel.cell (p := ⟨b1, o1 + (k * 3 + j), none⟩) hb1).trans (HC1.out _ u (vecs_at pts k hlt j u ?_))
        have e : ptOf pts k = pts[k] := by unfold ptOf; simp [hlt]
        rw [← e]; exact hu
      have v0 := hv 0 _ rfl
      have v1 := hv 1 _ rfl
      have v2 := hv 2 _ rfl
      simp only [Nat.add_zero] at v0
      have e1 : (if k + 1 = 0 then (-1 : Int) else ts.getD (k + 1 - 1) 0) = ts.getD k 0 := by simp
      generalize (if k = 0 then (-1 : Int) else ts.getD (k - 1) 0) = l at *
      generalize hT : ts.getD k 0 = t at *
      generalize ptOf pts k = q at *
      have G1 := Lib.hid g1
      have HTk := Lib.hid hT
      have E1 := Lib.hid e1
      clear hv g1 hT e1
      go_wp2_with fail
      refine (point_pt _ _ _ _).mono ?_
      rintro e w1 ⟨rfl, hb⟩
      rw [show ptB q.x q.y q.z = true from G1.out]
      have hbel1 := hbel.trans (hb.mono hbel.size)
      clear m0 v0 v1 v2 hbel hb
      go_wp2_with fail
      go_roundw
      case rel => exact ⟨k + 1, by omega, by go_num, by rw [E1.out], hbel1⟩
      case measure => simp [intOf]; omega
    · have hkn : k = pts.length := by omega
      have HK := Lib.hid hkn
      clear hkn
      go_wp2_with fail
      refine (legs_any _ _ _ ⟨_, _, _, rfl⟩ ⟨_, _, _, rfl⟩).mono ?_
      rintro e wL ⟨rfl, hbL, hzL, hL1, hL2⟩
      have hwr := hbel.size
      have hbW : Below w.heap.size w wL := (hbel.alloc hbel.size _).trans (hbL.mono (by simp; omega))
      have HOWN : Hid (PathOwn wL wr.heap.size wL.heap.size (.slice none 0 0) []) := (PathOwn.new wr wr.heap.size wL.heap.size rfl).up hbL
      simp only [World.size_alloc] at hzL hL1 hL2
      have HHL1 := Lib.hid hL1
      have HHL2 := Lib.hid hL2
      have HBW := Lib.hid hbW
      have HZL : Hid (wL.heap.size = wr.heap.size + 1 + 2) := hzL
      have hzL1 : wr.heap.size + 1 + 1 < wL.heap.size := by omega
      have hzL2 : w.heap.size < wL.heap.size := by omega
      clear hL1 hL2 hbL hbel hbW hzL
      have ITER : Hid (Iter 98 #[.pointer (some ⟨wr.heap.size + 1, 0, none⟩), .pointer (some ⟨wr.heap.size + 1 + 1, 0, none⟩)] (pts.length - 1) (fun lo => LegItem lo pts ts) (fun b => b = wr.heap.size + 1 ∨ b = wr.heap.size + 1 + 1 ∨ b = b1 ∨ b = b2) wL) :=
        legs_iter wL (wr.heap.size + 1) (wr.heap.size + 1 + 1) b1 o1 c1 b2 o2 c2 pts ts _ (by intro b hb; omega) (.inl rfl) (.inr (.inl rfl)) (.inr (.inr (.inl rfl))) (.inr (.inr (.inr rfl)))
          (by rw [World.cell?, HHL1.out]; rfl) (by rw [World.cell?, HHL2.out]; rfl) (fun j u hu => (HBW.out.cell (p := ⟨b1, o1 + j, none⟩) hb1).trans (HC1.out j u hu)) (fun j u hu => (HBW.out.cell (p := ⟨b2, o2 + j, none⟩) hb2).trans (HC2.out j u hu)) HL.out (by omega)
          (fun q hq => by obtain ⟨k, hk, rfl⟩ := List.getElem_of_mem hq; have := (HT.out k hk).1; unfold ptOf at this; simpa [hk] using this)
      go_wp2_with fail
      refine range_law (σ := Value) (w0 := wL) (gf := 98) (lb := #[.pointer (some ⟨wr.heap.size + 1, 0, none⟩), .pointer (some ⟨wr.heap.size + 1 + 1, 0, none⟩)]) rfl ?eg ITER.out (Below.refl _ _) (by intro b hb; omega) ?hps
        (fun sv k A => TIn pts ts wL wr.heap.size k sv A) (fun sv b => b = wr.heap.size ∨ sv.ownBlock = some b) (fun _ _ => False) (.slice none 0 0) (fun s k => TIn.own_ (by omega)) (fun c => by intro _ _ _ _ h; exact h.elim) ?hlt ?hTP ?h0
        (fun sv k args a' A => a'.defers = [] ∧ a'.tmps.size = 57 ∧ a'.tmps[9]? = some (.pointer (some ⟨wr.heap.size, 0, none⟩)) ∧ ∃ B10, a'.tmps[10]? = some (.pointer (some ⟨B10, 0, none⟩)) ∧ TMid pts ts wL wr.heap.size k sv B10 A) ?hM ?hassign ?hbody ?hdone ?hstop
      case eg => intro args w; kernel_rfl
      case hps => rintro lo k A args ⟨cs, rfl, _⟩; rfl
      case hlt => intro sv k A b hi hb; exact hi.own.ltB hb
      case hTP =>
        rintro sv k A b hi hT (rfl | hb)
        · omega
        · have := hi.own.geB hb; omega
      case h0 => exact ⟨HOWN.out, KeepP.refl _ _⟩
      case hM =>
        intro sv k args a' _ A A' row h hg hr
        obtain ⟨e1, e2, e3, B10, e4, h⟩ := h
        exact ⟨e1, e2, e3, B10, e4, TMid.own_ (by omega) () A A' row h hg hr⟩
      case hassign =>
        rintro l sv k A0 A args hk hz0 hI0 hbA hI ⟨cs, rfl, hseg⟩
        have hseg1 : SegAt A (fun b => wL.heap.size ≤ b ∧ b < A.heap.size ∧ sv.ownBlock ≠ some b) (legS (ptOf pts k) (ptOf pts (k + 1)) (ts.getD k 0) (ts.getD (k + 1) 0) 2) cs :=
          hseg.more fun b hd => ⟨Nat.le_trans hz0 hd.1, hd.2, fun e => by have := hI0.own.ltB (.inr e); have := hd.1; omega⟩
        obtain ⟨sg, hsg⟩ : ∃ sg, sg = legS (ptOf pts k) (ptOf pts (k + 1)) (ts.getD k 0) (ts.getD (k + 1) 0) 2 := ⟨_, rfl⟩
        rw [← hsg] at hseg hseg1
        obtain ⟨vx, vy, vz, rfl, hx, hy, hz⟩ := hseg
        obtain ⟨Ax, cx, rfl⟩ := hx.slice
        obtain ⟨Ay, cy, rfl⟩ := hy.slice
        obtain ⟨Az, cz, rfl⟩ := hz.slice
        have HI := Lib.hid hI
        have HS := Lib.hid hseg1
        have HSG := Lib.hid hsg
        clear hI hI0 hseg1 hx hy hz hsg
        simp only [List.zip_toArray, List.zip_cons_cons, List.zip_nil_right, List.foldl_toArray, List.foldl_cons, List.foldl_nil, List.setIfInBounds_toArray, List.set_cons_succ, List.set_cons_zero]
        gi_wp2_with (rw [Oper.semAt_eq _ _ _ (fun c h => by cases h)]; go_simp)
        have hal : Below A.heap.size A (A.alloc (.cells #[.int .i64 sg.f, .int .i64 sg.t, .int .i64 sg.o, .slice Ax sg.x.length cx, .slice Ay sg.y.length cy, .slice Az sg.z.length cz] 166)) := (Below.refl _ _).alloc (Nat.le_refl _) _
        refine ⟨⟨trivial, rfl, rfl, A.heap.size, rfl, ⟨⟨HI.out.own.up hal, HI.out.keep.trans (KeepP.of_below hal)⟩, [.int .i64 sg.f, .int .i64 sg.t, .int .i64 sg.o, .slice Ax sg.x.length cx, .slice Ay sg.y.length cy, .slice Az sg.z.length cz], heap_new _ _ _ rfl, ?_⟩⟩, KeepsOthers.alloc _ _, KeepP.of_below hal⟩
        rw [← HSG.out]
        have hzA := hal.size
        exact (HS.out.keep fun b o hd => hal.cell (p := ⟨b, o, none⟩) hd.2.1).more fun b hd => ⟨hd.1, by omega, hd.2.2⟩
      case hbody =>
        rintro l sv k A args ⟨tmps', defers'⟩ size hk ⟨hd, hsz, e9, B10, e10, hM⟩ hsize
        dsimp only at hd hsz e9 e10
        subst hd
        obtain ⟨v, hu, htm⟩ := tmps_lit tmps' 57 hsz
        have f (i : Nat) (x : Value) (hi : i < 57) (h : tmps'[i]? = some x) : v i = x := by rw [hu i hi] at h; exact Option.some.inj h
        have g9 := f _ _ (by decide) e9
        have g10 := f _ _ (by decide) e10
        simp only [List.range, List.range.loop, List.map_cons, List.map_nil, g9, g10] at htm
        subst htm
        clear hsz e9 e10 hu f g9 g10
        obtain ⟨hT, cs, hc10, hseg⟩ := hM
        obtain ⟨i0, hi0, hz0, hz1, hz2⟩ := info_parts seg_info
        have hown := hT.own
        obtain ⟨sA, sc, rfl⟩ := hown.slice
        obtain ⟨csr, hrow, hsegs⟩ := hown.row
        have hcell := hown.cell
        have hfro := hown.frozen 0
        have hbox := hown.box
        have hlk : ((legsL pts ts).take k).length = k := by rw [List.length_take, legsL_len]; omega
        obtain ⟨sg, hsg⟩ : ∃ sg, sg = legS (ptOf pts k) (ptOf pts (k + 1)) (ts.getD k 0) (ts.getD (k + 1) 0) 2 := ⟨_, rfl⟩
        have hnext := legsL_take pts ts k hk
        rw [← hsg] at hseg hnext
        have hseg1 := hseg
        obtain ⟨vx, vy, vz, rfl, hx, hy, hz⟩ := hseg
        obtain ⟨Ax, cx, rfl⟩ := hx.slice
        obtain ⟨Ay, cy, rfl⟩ := hy.slice
        obtain ⟨Az, cz, rfl⟩ := hz.slice
        have d0 : A.cell? ⟨B10, 0, none⟩ = some (.int .i64 sg.f) := by rw [World.cell?, hc10]; rfl
        have d1 : A.cell? ⟨B10, 1, none⟩ = some (.int .i64 sg.t) := by rw [World.cell?, hc10]; rfl
        have d2 : A.cell? ⟨B10, 2, none⟩ = some (.int .i64 sg.o) := by rw [World.cell?, hc10]; rfl
        have d3 : A.cell? ⟨B10, 3, none⟩ = some (.slice Ax sg.x.length cx) := by rw [World.cell?, hc10]; rfl
        have d4 : A.cell? ⟨B10, 4, none⟩ = some (.slice Ay sg.y.length cy) := by rw [World.cell?, hc10]; rfl
        have d5 : A.cell? ⟨B10, 5, none⟩ = some (.slice Az sg.z.length cz) := by rw [World.cell?, hc10]; rfl
        have HT2 := Lib.hid hT
        have HSEGS := Lib.hid hsegs
        have HSG1 := Lib.hid hseg1
        have HNX := Lib.hid hnext
        have HLK := Lib.hid hlk
        have HZA : Hid (wL.heap.size ≤ A.heap.size) := hT.keep.size
        have hBA : wr.heap.size < A.heap.size := by have := HZA.out; omega
        clear hT hsegs hseg1 hx hy hz hnext hsg hown hlk
        obtain ⟨n, hn0⟩ : ∃ n, n = ((legsL pts ts).take k).length := ⟨_, rfl⟩
        rw [← hn0] at hrow hcell hbox
        have HBOX := Lib.hid hbox
        have HN0 := Lib.hid hn0
        have hnk : n ≤ 256 := by rw [hn0, HLK.out]; omega
        have HROW := Lib.hid hrow
        clear hn0 hbox
        gi_wp2_with (first
          | (gi_at_builtin; refine wpListIn_append_own_at _ rfl (.tmp 52) (.tmp 54) 85 rfl wL.heap.size 166 i0 _ 6 96 Tryz.underlying85 hi0 hz0 hz1 hz2 rfl (by decide) _ _ _ rfl (hrow.alloc _) ⟨A.heap.size, 0, none⟩ 1 1 [.int .i64 sg.f, .int .i64 sg.t, .int .i64 sg.o, .slice Ax sg.x.length cx, .slice Ay sg.y.length cy, .slice Az sg.z.length cz] rfl rfl ?c1 ?c2 ?c3 ?c4 ?c5 ?_)
          | (rw [Oper.semAt_eq _ _ _ (fun c h => by cases h)]; go_simp))
        case c1 => intro j u hu; rw [add_none]; simpa using hu
        case c2 => simp [Value.oneCell']
        case c3 => unfold maxLen; omega
        case c4 => omega
        case c5 => have := HZA.out; simp; omega
        intro v' w1 hown1 hg1 _ hat
        clear hcell hfro d0 d1 d2 d3 d4 d5
        have hn0 := HN0.out
        have hal : Below A.heap.size A (A.alloc (.cells #[.int .i64 sg.f, .int .i64 sg.t, .int .i64 sg.o, .slice Ax sg.x.length cx, .slice Ay sg.y.length cy, .slice Az sg.z.length cz] 166)) := (Below.refl _ _).alloc (Nat.le_refl _) _
        obtain ⟨WA, hWA⟩ : ∃ WA, WA = A.alloc (.cells #[.int .i64 sg.f, .int .i64 sg.t, .int .i64 sg.o, .slice Ax sg.x.length cx, .slice Ay sg.y.length cy, .slice Az sg.z.length cz] 166) := ⟨_, rfl⟩
        have hrowA := HROW.out.alloc (.cells #[.int .i64 sg.f, .int .i64 sg.t, .int .i64 sg.o, .slice Ax sg.x.length cx, .slice Ay sg.y.length cy, .slice Az sg.z.length cz] 166)
        rw [← hWA] at hg1 hal hrowA
        have hzW : WA.heap.size = A.heap.size + 1 := by rw [hWA]; simp
        rw [← hzW] at hat
        have hKO : KeepsOthers A WA := by rw [hWA]; exact KeepsOthers.alloc _ _
        have hKP : KeepP (fun b => b = wr.heap.size) A WA := KeepP.of_below hal
        clear hWA
        have hzA := HZA.out
        have hD : ∀ b, (wL.heap.size ≤ b ∧ b < A.heap.size ∧ (Value.slice sA n sc).ownBlock ≠ some b) → wL.heap.size ≤ b ∧ b < WA.heap.size ∧ (Value.slice sA n sc).ownBlock ≠ some b := fun b hd => ⟨hd.1, by omega, hd.2.2⟩
        have hsA := HSEGS.out
        have hgA := HSG1.out
        have hbxA := (hal.block _ hBA).trans HBOX.out
        rw [← hn0] at hsA hgA
        obtain ⟨hb1, hP, hBe⟩ := PathOwn.appendedD (ss := (legsL pts ts).take k) (ss' := [sg]) hbxA (by omega) (by omega) (by rw [← hn0]; exact hrowA) ((hsA.keep fun b o hd => hal.cell (p := ⟨b, o, none⟩) hd.2.1).more hD) (Segs.one ((hgA.keep fun b o hd => hal.cell (p := ⟨b, o, none⟩) hd.2.1).more hD)) (by rw [← hn0]; exact hown1) hg1 hat
        rw [← HNX.out] at hP
        obtain ⟨A2, c2, hv2⟩ := hP.slice
        have hlen1 : ((legsL pts ts).take (k + 1)).length = k + 1 := by rw [List.length_take, legsL_len]; omega
        rw [hlen1] at hv2
        subst hv2
        clear hlen1
        have hrc : ∀ (j : Nat) (o : Obj), (Value.slice sA n sc).ownBlock = some j → WA.heap[j]? = some o → o.isCells = true := by
          intro j o hj ho
          rcases hrowA.2 with ⟨e, _⟩ | ⟨g', cap, cur, e, _, hg', _⟩
          · rw [e] at hj; cases hj
          · rw [e] at hj; simp [Value.ownBlock] at hj; subst hj; rw [hg'] at ho; cases ho; rfl
        have hrl : ∀ r, (Value.slice sA n sc).ownBlock = some r → wL.heap.size ≤ r := fun r hr => (hrowA.lt r hr).1
        have c1 : w1.cell? ⟨wr.heap.size, 0, none⟩ = some (.slice sA n sc) := by simp [World.cell?, hb1]
        have f1 : w1.frozen? ⟨wr.heap.size, 0, none⟩ = false := by simp [World.frozen?, hb1]
        have HP := Lib.hid hP
        have HHAT := Lib.hid hat
        have HGR := Lib.hid hg1
        have HRC := Lib.hid hrc
        have HKO := Lib.hid hKO
        have HKP := Lib.hid hKP
        have HRL := Lib.hid hrl
        have HAL := Lib.hid hal
        clear hP hat hg1 hrc hKO hKP hrl hal hown1 hb1 hrowA hsA hgA hbxA hD hn0 hrow
        gi_wp2_with (rw [Oper.semAt_eq _ _ _ (fun c h => by cases h)]; go_simp)
        refine ⟨(HKO.out.trans (KeepsOthers.of_grownBy HGR.out HRC.out)).trans (KeepsOthers.setCell _ _ _), ?_, _, ⟨HP.out, ?_⟩, ?_⟩
        · have k1 : KeepP (fun b => b = wr.heap.size ∨ (Value.slice sA n sc).ownBlock = some b) A WA := KeepP.of_below HAL.out
          have k2 : KeepP (fun b => b = wr.heap.size ∨ (Value.slice sA n sc).ownBlock = some b) WA w1 := ⟨HGR.out.os, HGR.out.tape, HGR.out.output, HGR.out.size, fun b hb hn => HGR.out.block b hb (fun e => hn (.inr e.symm))⟩
          have := (k1.trans k2).trans (KeepP.setCell w1 ⟨wr.heap.size, 0, none⟩ (.slice A2 (k + 1) c2) (.inl rfl))
          rw [HN0.out] at this
          exact this
        · have k1 := HT2.out.keep.trans HKP.out
          exact (grown_keep k1 HGR.out HRL.out).trans (KeepP.setCell _ _ _ rfl)
        · have h := HHAT.out
          rw [HN0.out] at h
          rintro b (rfl | hb)
          · exact .inl (.inl rfl)
          · rcases h with h | h
            · exact .inl (.inr (h.symm.trans hb))
            · rw [h] at hb
              injection hb with hb
              exact .inr (by omega)
      case hdone =>
        rintro D sv A hD hI hdA
        have hown := hI.own
        have hkeep := hI.keep
        have e1 : (legsL pts ts).take (pts.length - 1) = legsL pts ts := by rw [List.take_of_length_le (by rw [legsL_len]; exact Nat.le_refl _)]
        rw [e1] at hown
        obtain ⟨sA, sc, rfl⟩ := hown.slice
        have hcell := hown.cell
        have hfro := hown.frozen 0
        have hlA := legsL_len pts ts
        rw [hlA] at hcell
        have HOW := Lib.hid hown
        have HKE := Lib.hid hkeep
        have HLA := Lib.hid hlA
        have HDA := Lib.hid hdA
        clear hI hown hkeep e1 hlA hdA
        go_wp2_with fail
        refine marks_ret [D] rfl (by simp) (by simpa using HDA.out) fun W' hk hz => ?_
        refine ⟨.tuple #[.slice sA (pts.length - 1) sc, .int .i64 0], by simp [results, Tryz.results72, go_sem], sA, sc, rfl, ?_, ?_⟩
        · have := HOW.out.at_
          rw [HLA.out] at this
          refine (PathAt.keepS this fun b o u h1 h2 hu => ?_).more ?_ ?_
          · by_cases e : b = D
            · subst e; simp [World.cell?, HDA.out] at hu
            · exact (hk.cell h2 (by simpa using e)).trans hu
          · have := HBW.out.size; omega
          · rw [hz]; exact Nat.le_refl _
        · have k1 := HKE.out
          have k2 := HBW.out
          refine ⟨hk.os.trans (k1.os.trans k2.os), hk.tape.trans (k1.tape.trans k2.tape), hk.output.trans (k1.output.trans k2.output), by rw [hz]; have := k1.size; have := k2.size; omega, fun b hb => ?_⟩
          have := k1.size
          exact (hk.block b (by omega) (by simp; omega)).trans ((k1.block b (by omega) (by omega)).trans (k2.block b hb))
      case hstop => rintro D c A _ h _; exact h.elim
end Go.Proofs.YtolmehmglgmanaaGreatDoor
