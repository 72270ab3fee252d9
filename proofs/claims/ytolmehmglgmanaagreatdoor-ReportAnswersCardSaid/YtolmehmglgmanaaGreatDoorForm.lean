/- How a program lies in memory; where the aircraft are after some acts: the walks of Clone and formation. -/
import Derived.Test.YtolmehmglgmanaaGreatDoorCrew
namespace Go.Proofs.YtolmehmglgmanaaGreatDoor
open Go.RowKit

structure Mv where
  to : V3
  wait : Int
  flight : Int
  rise : Int
structure Ac where
  name : ByteArray
  len : Int
  moves : List Mv
structure Pr where
  names : List ByteArray
  homes : List V3
  acts : List Ac
def Mv.cells (m : Mv) : List Value := [.int .i64 m.to.x, .int .i64 m.to.y, .int .i64 m.to.z, .int .i64 m.wait, .int .i64 m.flight, .int .i64 m.rise]
def mvs (l : List Mv) : List Value := l.flatMap Mv.cells
theorem mvs_at : ∀ (l : List Mv) (k : Nat) (h : k < l.length) (j : Nat) (u : Value), (l[k].cells)[j]? = some u → (mvs l)[k * 6 + j]? = some u
  | v :: l, 0, _, j, u, hu => by
    show (v.cells ++ mvs l)[0 * 6 + j]? = some u
    rw [Nat.zero_mul, Nat.zero_add, List.getElem?_append_left]
    · exact hu
    · exact (List.getElem?_eq_some_iff.1 hu).1
  | v :: l, k + 1, h, j, u, hu => by
    have := mvs_at l k (by simpa using h) j u hu
    show (v.cells ++ mvs l)[(k + 1) * 6 + j]? = some u
    rw [List.getElem?_append_right (by simp [Mv.cells]; omega), ← this]
    congr 1
    simp [Mv.cells]
    omega
def ActAt (w : World) (D : Nat → Prop) (a : Ac) (cs : List Value) : Prop := ∃ vm, cs = [.string a.name, .int .i64 a.len, vm] ∧ SeesD w D 6 vm a.moves.length (mvs a.moves)
def Acts (w : World) (D : Nat → Prop) : List Ac → List Value → Prop
  | [], cs => cs = []
  | s :: ss, cs => ∃ a b, cs = a ++ b ∧ ActAt w D s a ∧ Acts w D ss b
/-- The three fields of a program. -/
structure ProgAt (w : World) (hi : Nat) (vn vh va : Value) (p : Pr) : Prop where
  names : Sees w 0 hi 1 vn p.names.length (strs p.names)
  homes : Sees w 0 hi 3 vh p.homes.length (vecs p.homes)
  acts : ∃ cs, Sees w 0 hi 3 va p.acts.length cs ∧ Acts w (rg 0 hi) p.acts cs
theorem Acts.keep {w w' : World} {D : Nat → Prop} (hk : ∀ b o, D b → w'.cell? ⟨b, o, none⟩ = w.cell? ⟨b, o, none⟩) : ∀ {ss : List Ac} {cs : List Value}, Acts w D ss cs → Acts w' D ss cs
  | [], _, h => h
  | _ :: _, _, ⟨a, b, e, ⟨vm, e1, h1⟩, h2⟩ => ⟨a, b, e, ⟨vm, e1, h1.keep hk⟩, Acts.keep hk h2⟩
theorem Acts.more {w : World} {D D' : Nat → Prop} (hD : ∀ b, D b → D' b) : ∀ {ss : List Ac} {cs : List Value}, Acts w D ss cs → Acts w D' ss cs
  | [], _, h => h
  | _ :: _, _, ⟨a, b, e, ⟨vm, e1, h1⟩, h2⟩ => ⟨a, b, e, ⟨vm, e1, h1.more hD⟩, Acts.more hD h2⟩
theorem Acts.at_ {w : World} {D : Nat → Prop} : ∀ {ss : List Ac} {cs : List Value}, Acts w D ss cs → ∀ {k : Nat} (hk : k < ss.length), ∃ vm, SeesD w D 6 vm ss[k].moves.length (mvs ss[k].moves) ∧ ∀ j u, [Value.string ss[k].name, .int .i64 ss[k].len, vm][j]? = some u → cs[k * 3 + j]? = some u
  | s :: ss, _, ⟨a, b, e, ⟨vm, e1, h1⟩, h2⟩, 0, _ => ⟨vm, h1, fun j u hu => by
      rw [e, e1, Nat.zero_mul, Nat.zero_add, List.getElem?_append_left]
      · exact hu
      · exact (List.getElem?_eq_some_iff.1 hu).1⟩
  | s :: ss, _, ⟨a, b, e, ⟨vm, e1, h1⟩, h2⟩, k + 1, hk => by
    obtain ⟨c, hc, hcell⟩ := Acts.at_ h2 (k := k) (by simpa using hk)
    refine ⟨c, hc, fun j u hu => ?_⟩
    rw [e, List.getElem?_append_right (by rw [e1]; simp; omega), ← hcell j u hu, e1]
    congr 1
    simp
    omega
theorem ProgAt.below {w w' : World} {hi : Nat} {vn vh va : Value} {p : Pr} (h : ProgAt w hi vn vh va p) (hb : Below hi w w') : ProgAt w' hi vn vh va p := by
  obtain ⟨cs, h1, h2⟩ := h.acts
  exact ⟨h.names.below hb, h.homes.below hb, cs, h1.below hb, h2.keep fun b o hd => hb.cell (p := ⟨b, o, none⟩) hd.2⟩
theorem ProgAt.more {w : World} {hi hi' : Nat} {vn vh va : Value} {p : Pr} (h : ProgAt w hi vn vh va p) (hh : hi ≤ hi') : ProgAt w hi' vn vh va p := by
  obtain ⟨cs, h1, h2⟩ := h.acts
  exact ⟨h.names.more (Nat.le_refl _) hh, h.homes.more (Nat.le_refl _) hh, cs, h1.more (Nat.le_refl _) hh, h2.more fun b hd => ⟨hd.1, Nat.lt_of_lt_of_le hd.2 hh⟩⟩

theorem vec_info : (Tryz.prog.info? 95).map (fun i => (i.zero, i.size, i.bytes)) = some (some (.agg #[.int .i64 0, .int .i64 0, .int .i64 0]), 3, 24) := by kernel_rfl
theorem vecs_one (l : List V3) : ∀ u ∈ vecs l, u.oneCell' = true := by
  intro u hu
  unfold vecs at hu
  obtain ⟨v, _, hv⟩ := List.mem_flatMap.1 hu
  simp at hv
  rcases hv with rfl | rfl | rfl <;> rfl
set_option maxRecDepth 100000 in
set_option maxHeartbeats 1000000 in
theorem cloneVec_any (l : List V3) (v : Value) (w : World) (h : Sees w 0 w.heap.size 3 v l.length (vecs l)) (hl : 0 < l.length) (hm : l.length ≤ 1000000) :
    Calls Tryz.prog 44 #[v] w fun e w' => ∃ v', e = .returned v' ∧ Sees w' w.heap.size w'.heap.size 3 v' l.length (vecs l) ∧ Below w.heap.size w w' := by
  obtain ⟨i0, hi0, hz0, hz1, hz2⟩ := info_parts vec_info
  obtain ⟨b, o, c, rfl, _, hb, hc⟩ := h.pos hl
  have hnil := fun W => Lib.run_eql_slice_nil (P := Tryz.prog) W 23 95 (some ⟨b, o, none⟩) l.length c 0 0 Tryz.underlying23
  clear hc
  go_enter Tryz.func44, Tryz.ntmps44
  have hown := own_new w [] 0 w.heap.size 3 95 rfl rfl (by decide)
  have hs1 := h.up ((Below.refl w.heap.size w).alloc (Nat.le_refl _) (.cells #[] 95))
  go_wp2_with (at_builtin; refine wpList_append_sees rfl (.tmp 5) (.tmp 6) 23 rfl w.heap.size 95 i0 _ 3 24 Tryz.underlying23 hi0 hz0 hz1 hz2 rfl (by decide) _ _ _ rfl hown _ _ _ _ rfl hs1 (vecs_one l) ?_ ?_ ?_ ?_)
  · unfold maxLen; omega
  · omega
  · simp
  intro v' w1 hown1 hg1 hat1
  go_wp2
  go_ret
  refine ⟨_, rfl, Sees.own hown1, ((Below.refl _ _).alloc (Nat.le_refl _) _).grown hg1 (by simp) ?_⟩
  rintro j hj
  simp [Value.ownBlock] at hj
  omega
def formL (p : Pr) (k : Nat) : List V3 := if k = 0 then p.homes else (p.acts.getD (k - 1) ⟨ByteArray.empty, 0, []⟩).moves.map (·.to)
def tosTo (l : List Mv) (k : Nat) : List V3 := (l.take k).map (·.to)
theorem tosTo_succ (l : List Mv) (k : Nat) (h : k < l.length) : vecs (tosTo l k) ++ [.int .i64 l[k].to.x, .int .i64 l[k].to.y, .int .i64 l[k].to.z] = vecs (tosTo l (k + 1)) := by
  unfold tosTo; rw [List.take_succ_eq_append_getElem h, List.map_append, ← vecs_append]; rfl
set_option maxRecDepth 100000 in
set_option maxHeartbeats 2000000 in
theorem formation_any (p : Pr) (k : Nat) (vn vh va : Value) (w : World) (h : ProgAt w w.heap.size vn vh va p) (hh : 0 < p.homes.length) (hm : p.homes.length ≤ 1000000) (hk : k ≤ p.acts.length) (hb : p.acts.length ≤ 1000000) (hmv : ∀ a ∈ p.acts, a.moves.length ≤ 1000000) :
    Calls Tryz.prog 35 #[.agg #[vn, vh, va], .int .i64 (k : Nat)] w fun e w' => ∃ v', e = .returned v' ∧ Sees w' w.heap.size w'.heap.size 3 v' (formL p k).length (vecs (formL p k)) ∧ Below w.heap.size w w' := by
  obtain ⟨An, cn, rfl⟩ := h.names.slice
  obtain ⟨bh, oh, ch, rfl, _, _, _⟩ := h.homes.pos hh
  obtain ⟨cs, ha, hacts⟩ := h.acts
  obtain ⟨Aa, ca, rfl⟩ := ha.slice
  by_cases hk0 : k = 0
  · subst hk0
    have HF : Hid (formL p 0 = p.homes) := by unfold Hid formL; rw [if_pos rfl]
    go_enter Tryz.func35, Tryz.ntmps35
    go_wp2_with fail
    refine (cloneVec_any p.homes _ _ ?_ hh hm).mono ?_
    · exact h.homes.up ((Below.refl _ _).alloc (Nat.le_refl _) _)
    rintro e w1 ⟨v', rfl, hs, hb1⟩
    go_wp2
    go_ret
    rw [HF.out]
    exact ⟨_, rfl, hs.more (by simp) (Nat.le_refl _), ((Below.refl _ _).alloc (Nat.le_refl _) _).trans (hb1.mono (by simp))⟩
  · have hkl : k - 1 < p.acts.length := by omega
    obtain ⟨i0, hi0, hz0, hz1, hz2⟩ := info_parts vec_info
    obtain ⟨ba, oa, ca', ea, _, hba, hca⟩ := ha.pos (by omega)
    obtain ⟨vm, hvm, hcm⟩ := hacts.at_ hkl
    have hc2 := hca _ _ (hcm 2 vm rfl)
    have HF : Hid (formL p k = p.acts[k - 1].moves.map (·.to)) := by unfold Hid formL; rw [if_neg hk0]; simp [hkl]
    have hmk := hmv _ (List.getElem_mem hkl)
    generalize hM : p.acts[k - 1].moves = M at *
    obtain ⟨Am, cm, rfl⟩ := hvm.slice
    cases ea
    have hks : (k : Int) - 1 = ((k - 1 : Nat) : Int) := by omega
    have hkb : ((k : Int) == 0) = false := by simp; omega
    clear hca hcm hacts hM hmv
    rw [← Nat.add_assoc] at hc2
    go_enter Tryz.func35, Tryz.ntmps35
    go_wp2
    go_loopw [5, 7, 21] (fun v _ i wr => ∃ q : Nat, q ≤ M.length ∧ i = .int .i64 q ∧ wr.ownsRow w.heap.size 95 3 v q (vecs (tosTo M q)) ∧ Below w.heap.size w wr) (fun _ _ i _ => M.length - (intOf i).toNat)
    case atStart => exact ⟨0, Nat.zero_le _, rfl, ⟨rfl, .inl ⟨rfl, rfl⟩⟩, (Below.refl _ _).alloc (Nat.le_refl _) _⟩
    case round =>
      obtain ⟨q, hq, rfl, hown, hbel⟩ := hrel
      by_cases hlt : q < M.length
      · obtain ⟨bm, om, cm', em, _, hbm, hcm⟩ := (Sees.below hvm hbel).pos (by omega)
        have m0 := hcm _ _ (mvs_at M q hlt 0 _ rfl)
        have m1 := hcm _ _ (mvs_at M q hlt 1 _ rfl)
        have m2 := hcm _ _ (mvs_at M q hlt 2 _ rfl)
        have m3 := hcm _ _ (mvs_at M q hlt 3 _ rfl)
        have m4 := hcm _ _ (mvs_at M q hlt 4 _ rfl)
        have m5 := hcm _ _ (mvs_at M q hlt 5 _ rfl)
        rw [← Nat.add_assoc] at m1 m2 m3 m4 m5
        simp only [Nat.add_zero] at m0
        have HT := Lib.hid (tosTo_succ M q hlt)
        cases em
        clear hcm hvm
        generalize M[q] = mv at *
        have hzr := hbel.size
        go_wp2_with (at_builtin; refine wpList_append_own _ rfl (.tmp 25) (.tmp 28) 23 rfl w.heap.size 95 i0 _ 3 24 Tryz.underlying23 hi0 hz0 hz1 hz2 rfl (by decide) _ _ _ rfl ((hown.alloc _).alloc _) ⟨_, 0, none⟩ 1 1 [.int .i64 mv.to.x, .int .i64 mv.to.y, .int .i64 mv.to.z] rfl rfl ?c1 ?c2 ?c3 ?c4 ?c5 ?_)
        case c1 => intro j u hu; rw [add_none]; simpa using hu
        case c2 => simp [Value.oneCell']
        case c3 => unfold maxLen; omega
        case c4 => omega
        case c5 => simp; omega
        intro v' w1 hown1 hg1 _
        rw [HT.out] at hown1
        have hb1 : Below w.heap.size w w1 := ((hbel.alloc hbel.size _).alloc (by simp; omega) _).grown hg1 (by simp; omega) (fun j hj => (hown.lt j hj).1)
        clear hown hbel hg1 m0 m1 m2 m3 m4 m5
        go_wp2
        go_roundw
        case rel => exact ⟨q + 1, by omega, by go_num, hown1, hb1⟩
        case measure => simp [intOf]; omega
      · have HQ : Hid (q = M.length) := by unfold Hid; omega
        go_wp2
        go_ret
        refine ⟨_, rfl, ?_, hbel⟩
        rw [HF.out]
        have e1 : tosTo M q = M.map (·.to) := by unfold tosTo; rw [List.take_of_length_le (by rw [HQ.out]; exact Nat.le_refl _)]
        have e2 : (M.map (·.to)).length = q := by simp [HQ.out]
        rw [e2, ← e1]
        exact Sees.own hown
end Go.Proofs.YtolmehmglgmanaaGreatDoor
