/- Part 19 of the proof of EW.row_holds, joined by program: no condition beyond the row's own. -/
import Derived.Test.YtkcnbaeoahoglaaGreatW18
import Derived.Laws.MakeOwn
set_option maxRecDepth 100000
set_option maxHeartbeats 40000000
namespace Go.Proofs.YtkcnbaeoahoglaaGreat
open Go.RowKit
variable {P : Program} {R : Option Nat} {B : Nat} {D0 : Env} {o : Oper} {ev : Operand → AV} {pre : Nat → Option ABlk} {s : St} {Q : Exit → St → Prop}
theorem more_vec {E : Env} {id cp : Nat} {arr : Array Value} {t : TypeId} (e n : Nat) (f : Nat → AV) (hle : E.le (E.more id cp (.cells arr t))) (hn : arr.size = cp * e) (hc : n ≤ cp) (hm : cp ≤ maxLen) (hr : ∀ i j, i < n → j < e → VR E ((f i).cell j) (arr.getD (i * e + j) undef)) :
  BR (E.more id cp (.cells arr t)) (.vec t e n f) E.w.heap.size cp ∧ VR (E.more id cp (.cells arr t)) (.osl id e n) (.slice (some ⟨E.w.heap.size, 0, none⟩) n cp) := by
 refine ⟨.vec _ _ _ _ _ _ arr (heap_alloc_new E.w _) hn hc hm fun i j hi hj => (hr i j hi hj).up hle, ?_⟩
 have h1 : (E.more id cp (.cells arr t)).π id = E.w.heap.size := by show (if id = id then _ else _) = _; rw [if_pos rfl]
 have h2 : (E.more id cp (.cells arr t)).cap id = cp := by show (if id = id then _ else _) = _; rw [if_pos rfl]
 have := VR.osl (E.more id cp (.cells arr t)) id e n (.inr rfl)
 rw [h1, h2] at this
 exact this
theorem made_at {z : Array Value} {m i : Nat} (hi : i < m) (hz : 0 < z.size) : (madeCells z m).getD i undef = z.toList.getD (i % z.size) undef := by
 have hm : i % z.size < z.size := Nat.mod_lt _ hz
 simp [madeCells, Array.getD_eq_getD_getElem?, List.getD_eq_getElem?_getD, hi, getElem!_def, hm]
theorem opS_buildSlice (T : TypeId) (len : Nat) (ps : Array (Nat × Operand)) (ho : o.op = .buildSlice T len ps) {el : TypeId} (hu : P.underlying T = some (.slice el)) (e : Nat) (hsz : ∀ w, (sizeOf el).run P w = .ok e w) (z : Value) (hz : ∀ w, (zeroValue el).run P w = .ok z w) (hze : z.cells.size = e) (he : 0 < e) (hlen : 0 < len) (hbig : len * e ≤ 16777216)
  (id : Nat) (out : List AV) (hf : fillA (fun i => some (i * e, e)) ((List.range (len * e)).map fun i => .lit (z.cells.toList.getD (i % e) undef)) (ps.toList.map fun p => (p.1, ev p.2)) = some out) (f : Nat → AV) (hfo : (List.range (len * e)).map (fun q => (f (q / e)).cell (q % e)) = out) : OpS P B D0 o ev pre (.osl id e len) (.new id (.vec el e len f)) := by
 refine opS_new id _ _ fun E a c hh hid hv => ?_
 obtain ⟨arr, h1, h2⟩ := fill_ok (E := E) (fun i => some (i * e, e)) _ (ps.toList.map fun p => (p.1, a.eval p.2)) _ (madeCells z.cells (len * e)) out ⟨by simp [madeCells], fun i => by
  by_cases hi : i < len * e
  ·
   have e1 : ((List.range (len * e)).map fun i => AV.lit (z.cells.toList.getD (i % e) undef)).getD i .top = .lit (z.cells.toList.getD (i % e) undef) := by simp [List.getD_eq_getElem?_getD, hi]
   rw [e1, made_at hi (by omega), hze]; exact .lit _ _
  ·
   have e1 : ((List.range (len * e)).map fun i => AV.lit (z.cells.toList.getD (i % e) undef)).getD i .top = .top := by rw [List.getD_eq_getElem?_getD, List.getElem?_eq_none (by simpa using hi)]; rfl
   rw [e1]; exact .top _ _⟩ (by simp) (fun i p q hp hq => by
  simp only [List.getElem?_map, Option.map_eq_some_iff] at hp hq
  obtain ⟨x, hx, rfl⟩ := hp
  obtain ⟨y, hy, rfl⟩ := hq
  rw [hx] at hy
  cases hy
  exact ⟨rfl, hv _ (by simp only [ho, Op.operands]; exact List.mem_toArray.2 (List.mem_map.2 ⟨x, List.mem_of_getElem? hx, rfl⟩))⟩) hf
 have hasz : arr.size = len * e := by rw [h2.1, ← hfo]; simp
 have hmx : len ≤ maxLen := by
  have : len * 1 ≤ len * e := Nat.mul_le_mul_left len he
  have h3 : (16777216 : Nat) ≤ maxLen := by decide
  omega
 obtain ⟨r1, r2⟩ := more_vec (t := el) e len f (hh.more hid len (.cells arr el)).1 hasz (Nat.le_refl _) hmx fun i j hi hj => by
  have h3 := h2.2 (i * e + j)
  rw [← hfo] at h3
  have hlt : i * e + j < len * e := by
   have := Nat.mul_le_mul_right e (show i + 1 ≤ len from hi)
   rw [Nat.succ_mul] at this; omega
  have e1 : ((List.range (len * e)).map fun q => (f (q / e)).cell (q % e)).getD (i * e + j) .top = (f i).cell j := by
   have d1 : (i * e + j) / e = i := by rw [Nat.mul_comm, Nat.mul_add_div he, Nat.div_eq_of_lt hj, Nat.add_zero]
   have d2 : (i * e + j) % e = j := by rw [Nat.mul_comm, Nat.mul_add_mod, Nat.mod_eq_of_lt hj]
   simp [List.getD_eq_getElem?_getD, hlt, d1, d2]
  rw [e1] at h3
  exact h3
 refine ⟨_, len, .cells arr el, _, ?_, rfl, r1, r2⟩
 have n1 : ¬ len * e > 16777216 := by omega
 have n2 : ¬ len * e = 0 := by
  have : 1 * 1 ≤ len * e := Nat.mul_le_mul hlen he
  omega
 have hm : (Array.range (len * e)).map (z.cells[· % z.cells.size]!) = madeCells z.cells (len * e) := rfl
 simp only [execOp, ho, Instr.buildSlice, run_underlying hu, Sem.run_bind, Sem.run_pure, Result.andThen_ok, hsz, if_neg n1, if_neg n2, hz, hm]
 have e9 : (Array.map (fun x => (x.1, a.eval x.2)) ps).toList = ps.toList.map fun p => (p.1, a.eval p.2) := by simp
 rw [e9, h1]
 rfl
theorem div_lt {q m e : Nat} (h : q < m * e) (he : 0 < e) : q / e < m ∧ q % e < e ∧ q / e * e + q % e = q := by
 refine ⟨(Nat.div_lt_iff_lt_mul he).2 h, Nat.mod_lt _ he, ?_⟩
 rw [Nat.mul_comm]; exact Nat.div_add_mod q e
structure NewsOk (E : Env) (w : World) (e m : Nat) (g : Nat → AV) (v : Value) (news : List Value) : Prop where
 src : ∃ (a : Addr) (c : Nat), v = .slice (some a) m c ∧ ∀ j u, news[j]? = some u → w.cell? (a.add j) = some u
 len : news.length = m * e
 vr : ∀ i j, i < m → j < e → VR E ((g i).cell j) (news.getD (i * e + j) undef)
theorem news_sl {E : Env} {e m : Nat} {g : Nat → AV} {v : Value} (he : 0 < e) (hm : 0 < m) (h : VR E (.sl e m g) v) : ∃ news, NewsOk E E.w e m g v news := by
 cases h with
 | sl0 => omega
 | sl _ _ _ _ b q c us hn hD hc hr =>
  refine ⟨(List.range (m * e)).map fun i => us (i / e) (i % e), ⟨⟨b, q, none⟩, c, rfl, fun j u hu => ?_⟩, by simp, fun i j hi hj => ?_⟩
  ·
   simp only [List.getElem?_map, Option.map_eq_some_iff] at hu
   obtain ⟨x, hx, rfl⟩ := hu
   have hj : j < m * e := by
    rcases Nat.lt_or_ge j (m * e) with h | h
    · exact h
    · rw [List.getElem?_eq_none (by simpa using h)] at hx; cases hx
   have : x = j := by simpa [hj] using hx.symm
   subst this
   obtain ⟨d1, d2, d3⟩ := div_lt hj he
   rw [add_none]
   have := hc _ _ d1 d2
   rw [Nat.add_assoc, d3] at this
   exact this
  ·
   have hlt : i * e + j < m * e := by
    have := Nat.mul_le_mul_right e (show i + 1 ≤ m from hi)
    rw [Nat.succ_mul] at this; omega
   have d1 : (i * e + j) / e = i := by rw [Nat.mul_comm, Nat.mul_add_div he, Nat.div_eq_of_lt hj, Nat.add_zero]
   have d2 : (i * e + j) % e = j := by rw [Nat.mul_comm, Nat.mul_add_mod, Nat.mod_eq_of_lt hj]
   have : ((List.range (m * e)).map fun i => us (i / e) (i % e)).getD (i * e + j) undef = us i j := by simp [List.getD_eq_getElem?_getD, hlt, d1, d2]
   rw [this]
   exact (hr i j hi hj).up E.fz_le
theorem news_osl {E : Env} {c : Nat → Option ABlk} (hh : HR B D0 E c) {id e m : Nat} {t : TypeId} {g : Nat → AV} {v : Value} (h : VR E (.osl id e m) v) (hc : c id = some (.vec t e m g)) : ∃ news, NewsOk E E.w e m g v news := by
 obtain ⟨arr, hb, hn, hcp, hr⟩ := hh.vec hc
 cases h with
 | osl _ _ _ _ hA =>
  refine ⟨arr.toList.take (m * e), ⟨⟨E.π id, 0, none⟩, _, rfl, fun j u hu => ?_⟩, by rw [List.length_take, Array.length_toList]; omega, fun i j hi hj => ?_⟩
  ·
   rw [add_none, Nat.zero_add]
   rw [List.getElem?_take] at hu
   by_cases hj : j < m * e
   ·
    rw [if_pos hj] at hu
    simp [World.cell?, hb]
    simpa using hu
   · rw [if_neg hj] at hu; cases hu
  ·
   have hlt : i * e + j < m * e := by
    have := Nat.mul_le_mul_right e (show i + 1 ≤ m from hi)
    rw [Nat.succ_mul] at this; omega
   have : (arr.toList.take (m * e)).getD (i * e + j) undef = arr.getD (i * e + j) undef := by
    simp [List.getD_eq_getElem?_getD, Array.getD_eq_getD_getElem?, List.getElem?_take, hlt]
   rw [this]
   exact hr i j hi hj
theorem NewsOk.one1 {E : Env} {w : World} {e m : Nat} {g : Nat → AV} {v : Value} {news : List Value} (h : NewsOk E w e m g v news) (he : 0 < e) (h1 : ∀ i, i < m → ∀ j, j < e → ((g i).cell j).one1 = true) : ∀ u ∈ news, u.oneCell' = true := by
 intro u hu
 obtain ⟨q, hq, rfl⟩ := List.getElem_of_mem hu
 obtain ⟨d1, d2, d3⟩ := div_lt (by rw [← h.len]; exact hq) he
 have := h.vr _ _ d1 d2
 rw [d3] at this
 have e1 : news.getD q undef = news[q] := by simp [List.getD_eq_getElem?_getD, hq]
 rw [e1] at this
 exact this.one1 (h1 _ d1 _ d2)
theorem grown_env {E : Env} {c : Nat → Option ABlk} (hh : HR B D0 E c) {nid : Nat} (hnid : ¬ E.A nid) {v v' : Value} {w' : World} {e n : Nat} {t : TypeId} {xs : List Value} (hown : w'.ownsRow B t e v' n xs) (hn : 0 < n) (hg : E.w.grownBy w' v.ownBlock) (hb : v'.ownBlock = v.ownBlock ∨ v'.ownBlock = some E.w.heap.size) (dead : Nat → Bool)
  (hv : v.ownBlock = none ∨ ∃ id blk, v.ownBlock = some (E.π id) ∧ c id = some blk ∧ dead id = true) (F : Nat → AV) (hF : ∀ E' : Env, E.le E' → ∀ i j, i < n → j < e → VR E' ((F i).cell j) (xs.getD (i * e + j) undef)) :
  ∃ E' : Env, E'.w = w' ∧ E.le E' ∧ Below B E.w w' ∧ VR E' (.osl nid e n) v' ∧ HR B D0 E' (fun id => if nid = id then some (.vec t e n F) else if dead id then none else c id) ∧ ∀ id, E'.A id → E.A id ∨ id = nid := by
 rcases hown.2 with ⟨_, h0⟩ | ⟨g, cap, cur, rfl, hg1, hg2, hg3, hg4, hg5, hg6⟩
 · omega
 ·
  have hxs := hown.1
  have keep : ∀ b, b < E.w.heap.size → (∀ id blk, c id = some blk → dead id = true → b ≠ E.π id) → w'.heap[b]? = E.w.heap[b]? := fun b hb1 hb2 => hg.block b hb1 (fun e1 => by
   rcases hv with hv | ⟨id, blk, hv, hc, hd⟩
   · rw [hv] at e1; cases e1
   ·
    rw [hv] at e1
    exact hb2 id blk hc hd (Option.some.inj e1))
  have hgl : g < w'.heap.size := (Array.getElem?_eq_some_iff.1 hg2).1
  have hbl : Below B E.w w' := ⟨hg.os, hg.tape, hg.output, hg.size, fun k hk => keep k (by have := hh.B; omega) fun id blk hc _ e1 => by
   have := (hh.live id blk hc).2.2.2
   omega⟩
  let E' : Env := { π := fun i => if i = nid then g else E.π i, cap := fun i => if i = nid then cap else E.cap i, A := fun i => E.A i ∨ i = nid, D := E.D, w := w' }
  have hπ : ∀ i, E.A i → E'.π i = E.π i := fun i hi => by
   show (if i = nid then _ else _) = _
   rw [if_neg (fun e1 : i = nid => hnid (e1 ▸ hi))]
  have hcap : ∀ i, E.A i → E'.cap i = E.cap i := fun i hi => by
   show (if i = nid then _ else _) = _
   rw [if_neg (fun e1 : i = nid => hnid (e1 ▸ hi))]
  have hπn : E'.π nid = g := by show (if nid = nid then _ else _) = _; rw [if_pos rfl]
  have hcapn : E'.cap nid = cap := by show (if nid = nid then _ else _) = _; rw [if_pos rfl]
  have hle : E.le E' := ⟨fun i hi => .inl hi, hπ, fun b hb1 => hb1, fun b hb1 => keep b (hh.bnd b hb1) fun id blk hc _ e1 => (hh.live id blk hc).2.2.1 (e1 ▸ hb1), hcap⟩
  -- the new block is no living one
  have gne : ∀ i x, c i = some x → dead i = false → E.π i ≠ g := fun i x hc hd e1 => by
   rcases hb with hb | hb
   ·
    rcases hv with hv | ⟨id, blk, hv, hci, hdi⟩
    · rw [hv] at hb; cases hb
    ·
     rw [hv] at hb
     have e2 : g = E.π id := Option.some.inj hb
     by_cases hid : i = id
     · subst hid; rw [hd] at hdi; cases hdi
     · exact hh.inj i id x blk hc hci hid (e1.trans e2)
   ·
    have e2 : g = E.w.heap.size := Option.some.inj hb
    have := (hh.live i x hc).2.1.lt
    omega
  have gD : ¬ E.D g := fun hD => by
   rcases hb with hb | hb
   ·
    rcases hv with hv | ⟨id, blk, hv, hci, hdi⟩
    · rw [hv] at hb; cases hb
    ·
     rw [hv] at hb
     have e2 : g = E.π id := Option.some.inj hb
     exact (hh.live id blk hci).2.2.1 (e2 ▸ hD)
   ·
    have e2 : g = E.w.heap.size := Option.some.inj hb
    have := hh.bnd g hD
    omega
  have hread : ∀ i, (if nid = i then some (ABlk.vec t e n F) else if dead i then none else c i) = if nid = i then some (ABlk.vec t e n F) else if dead i then none else c i := fun _ => rfl
  refine ⟨E', rfl, hle, hbl, ?_, ⟨fun i x hx => ?_, fun i j x y hx hy hne => ?_, fun b hb1 => Nat.lt_of_lt_of_le (hh.bnd b hb1) hg.size, fun i hi => ?_, hh.le0.trans hle, hh.new, Nat.le_trans hh.B hg.size⟩, fun id h => h⟩
  ·
   have := VR.osl E' nid e n (.inr rfl)
   rw [hπn, hcapn] at this
   exact this
  ·
   by_cases e1 : nid = i
   ·
    subst e1
    rw [if_pos rfl] at hx
    cases hx
    rw [hπn, hcapn]
    refine ⟨.inr rfl, .vec _ _ _ _ _ _ cur hg2 hg5 hg3 hg4 fun i j hi hj => ?_, gD, hg1⟩
    have hlt : i * e + j < n * e := by
     have := Nat.mul_le_mul_right e (show i + 1 ≤ n from hi)
     rw [Nat.succ_mul] at this; omega
    have e3 : xs.getD (i * e + j) undef = cur.getD (i * e + j) undef := by
     rw [← hg6]
     simp [List.getD_eq_getElem?_getD, Array.getD_eq_getD_getElem?, List.getElem?_take, hlt]
    rw [← e3]
    exact hF E' hle i j hi hj
   ·
    rw [if_neg e1] at hx
    cases hd : dead i with
    | true => rw [hd] at hx; cases hx
    | false =>
     rw [hd] at hx
     simp only [Bool.false_eq_true, if_false] at hx
     obtain ⟨j1, j2, j3, j4⟩ := hh.live i x hx
     rw [hπ i j1, hcap i j1]
     refine ⟨.inl j1, j2.up hle (keep _ j2.lt fun id blk hc hdi => ?_), j3, j4⟩
     exact hh.inj i id x blk hx hc (fun e2 => by subst e2; rw [hd] at hdi; cases hdi)
  ·
   have real : ∀ k z, nid ≠ k → (if nid = k then some (ABlk.vec t e n F) else if dead k then none else c k) = some z → dead k = false ∧ c k = some z := fun k z e1 hz => by
    rw [if_neg e1] at hz
    cases hd : dead k with
    | true => rw [hd] at hz; cases hz
    | false => rw [hd] at hz; exact ⟨rfl, by simpa using hz⟩
   by_cases e1 : nid = i
   ·
    subst e1
    obtain ⟨d1, d2⟩ := real j y hne hy
    rw [hπn, hπ j (hh.live j y d2).1]
    exact fun e2 => gne j y d2 d1 e2.symm
   ·
    obtain ⟨d1, d2⟩ := real i x e1 hx
    by_cases e2 : nid = j
    ·
     subst e2
     rw [hπn, hπ i (hh.live i x d2).1]
     exact gne i x d2 d1
    ·
     obtain ⟨d3, d4⟩ := real j y e2 hy
     rw [hπ i (hh.live i x d2).1, hπ j (hh.live j y d4).1]
     exact hh.inj i j x y d2 d4 hne
  ·
   rcases hi with hi | hi
   · rw [hπ i hi]; exact Nat.lt_of_lt_of_le (hh.abd i hi) hg.size
   · subst hi; rw [hπn]; exact hgl
theorem opS_appendG (x y : Operand) (t : TypeId) (ho : o.op = .call { callee := .builtin .append, args := #[x, y], argTypes := #[t, t] }) {el : TypeId} (ht : P.underlying t = some (.slice el)) (e bytes : Nat) (z : Value) (hi : (P.info? el).map (fun i => (i.zero, i.size, i.bytes)) = some (some z, e, bytes)) (hze : z.cells.size = e) (he : 0 < e)
  (n m : Nat) (hm : 0 < m) (f g F : Nat → AV) (nid : Nat) (hF1 : ∀ i, i < n → F i = f i) (hF2 : ∀ i, i < m → F (n + i) = g i) (hone : ∀ i, i < m → ∀ j, j < e → ((g i).cell j).one1 = true) (h63 : n + m ≤ maxLen) (hbytes : (n + m) * bytes ≤ 140737488355328) (ef : Eff) (dead : Nat → Bool)
  (hon : ∀ i c, ef.on i c = if nid = i then some (.vec el e (n + m) F) else if dead i then none else c) (hnews : ∀ i, ef.news i = true ↔ i = nid)
  (hbase : (n = 0 ∧ ev x = .lit (.slice none 0 0)) ∨ ∃ id, ev x = .osl id e n ∧ pre id = some (.vec el e n f) ∧ dead id = true ∧ ef.touch id = true)
  (hnew : ev y = .sl e m g ∨ ∃ id2 t2, ev y = .osl id2 e m ∧ pre id2 = some (.vec t2 e m g) ∧ ef.touch id2 = true) : OpS P B D0 o ev pre (.osl nid e (n + m)) ef := by
 intro E a c K Q _ hh htch hn hv k
 obtain ⟨i0, hi0, hz0, hz1, hz2⟩ := info_parts hi
 have hx := hv x (by simp [ho, Op.operands, Call.operands])
 have hy := hv y (by simp [ho, Op.operands, Call.operands])
 have hnid : ¬ E.A nid := hn nid ((hnews nid).2 rfl)
 obtain ⟨news, hnw⟩ : ∃ news, NewsOk E E.w e m g (a.eval y) news := by
  rcases hnew with h | ⟨id2, t2, h, h2, h3⟩
  · rw [h] at hy; exact news_sl he hm hy
  · rw [h] at hy; exact news_osl hh hy ((htch id2 h3).trans h2)
 obtain ⟨⟨ad, cp, hy2, hsrc⟩, hlen, hnv⟩ := id hnw
 have hbs : ∃ xs, E.w.ownsRow B el e (a.eval x) n xs ∧ (∀ i j, i < n → j < e → VR E ((f i).cell j) (xs.getD (i * e + j) undef)) ∧ ((a.eval x).ownBlock = none ∨ ∃ id blk, (a.eval x).ownBlock = some (E.π id) ∧ c id = some blk ∧ dead id = true) := by
  rcases hbase with ⟨rfl, h⟩ | ⟨id, h, h2, h3, h4⟩
  ·
   rw [h] at hx
   have hx := hx.lit_inv
   refine ⟨[], ⟨by simp, .inl ⟨hx, rfl⟩⟩, fun i j hi => absurd hi (Nat.not_lt_zero i), .inl (by rw [hx]; rfl)⟩
  ·
   rw [h] at hx
   have hc := (htch id h4).trans h2
   obtain ⟨arr, hb, hna, hcp, hr⟩ := hh.vec hc
   obtain ⟨j1, j2, j3, j4⟩ := hh.live id _ hc
   generalize hzz : a.eval x = zz at hx
   cases hx with
   | osl _ _ _ _ hA =>
    refine ⟨arr.toList.take (n * e), ⟨by rw [List.length_take, Array.length_toList]; omega, .inr ⟨E.π id, E.cap id, arr, rfl, j4, hb, hcp.2.1, hcp.2.2, hcp.1, rfl⟩⟩, fun i j hi hj => ?_, .inr ⟨id, _, rfl, hc, h3⟩⟩
    have hlt : i * e + j < n * e := by
     have := Nat.mul_le_mul_right e (show i + 1 ≤ n from hi)
     rw [Nat.succ_mul] at this; omega
    have : (arr.toList.take (n * e)).getD (i * e + j) undef = arr.getD (i * e + j) undef := by
     simp [List.getD_eq_getElem?_getD, Array.getD_eq_getD_getElem?, List.getElem?_take, hlt]
    rw [this]
    exact hr i j hi hj
 obtain ⟨xs, hown, hxv, hvb⟩ := hbs
 obtain ⟨v', w', hrun, hown', hg, _, hb⟩ := run_append_own_at (P := P) E.w B t o.type el i0 z e bytes ht hi0 hz0 hz1 hz2 hze he (a.eval x) n xs hown ad m cp news hlen hsrc (hnw.one1 he hone) h63 hbytes hh.B
 obtain ⟨E', rfl, hle, hbl, hV, hH, hA⟩ := grown_env hh hnid hown' (by omega) hg hb dead hvb F fun E' hE' i j hi hj => by
  have hxl := hown.1
  by_cases hin : i < n
  ·
   rw [hF1 i hin]
   have hlt : i * e + j < n * e := by
    have := Nat.mul_le_mul_right e (show i + 1 ≤ n from hin)
    rw [Nat.succ_mul] at this; omega
   have : (xs ++ news).getD (i * e + j) undef = xs.getD (i * e + j) undef := by simp [List.getD_eq_getElem?_getD, List.getElem?_append, hxl, hlt]
   rw [this]
   exact (hxv i j hin hj).up hE'
  ·
   obtain ⟨q, rfl⟩ : ∃ q, i = n + q := ⟨i - n, by omega⟩
   rw [hF2 q (by omega)]
   have e1 : (n + q) * e + j = xs.length + (q * e + j) := by rw [hxl, Nat.add_mul]; omega
   have : (xs ++ news).getD ((n + q) * e + j) undef = news.getD (q * e + j) undef := by
    rw [e1, List.getD_eq_getElem?_getD, List.getElem?_append_right (by omega), Nat.add_sub_cancel_left, ← List.getD_eq_getElem?_getD]
   rw [this]
   exact (hnv q j (by omega) hj).up hE'
 unfold Oper.wp
 have hexec : (execOp a.eval o).run P E.w = .ok (.value v') E'.w := by
  simp [execOp, ho, resolve, invoke, builtin, hy2, hrun]
 rw [hexec]
 refine k v' E' hle hbl hV ?_ fun id hid => ?_
 ·
  have : (fun id => ef.on id (c id)) = fun id => if nid = id then some (.vec el e (n + m) F) else if dead id then none else c id := funext fun id => hon id (c id)
  rw [this]; exact hH
 ·
  rcases hA id hid with h | h
  · exact .inl h
  · exact .inr ((hnews id).2 h)
section
variable (x y : Operand) (t : TypeId) (ho : o.op = .call { callee := .builtin .append, args := #[x, y], argTypes := #[t, t] }) {el : TypeId} (ht : P.underlying t = some (.slice el)) (e bytes : Nat) (z : Value) (hi : (P.info? el).map (fun i => (i.zero, i.size, i.bytes)) = some (some z, e, bytes)) (hze : z.cells.size = e) (he : 0 < e)
    (n m : Nat) (hm : 0 < m) (f g F : Nat → AV) (nid : Nat) (h63 : n + m ≤ maxLen) (hbytes : (n + m) * bytes ≤ 140737488355328)
include ho ht hi hze he hm hbytes
omit hbytes in
theorem opS_append_nil_sl (hF : ∀ i, i < m → F i = g i) (hone : ∀ i, i < m → ∀ j, j < e → ((g i).cell j).one1 = true) (h63 : m ≤ maxLen) (hb : m * bytes ≤ 140737488355328) (hx : ev x = .lit (.slice none 0 0)) (hy : ev y = .sl e m g) : OpS P B D0 o ev pre (.osl nid e m) (.new nid (.vec el e m F)) := by
 have := opS_appendG (B := B) (D0 := D0) (pre := pre) x y t ho ht e bytes z hi hze he 0 m hm g g F nid (fun i hi => absurd hi (Nat.not_lt_zero i)) (fun i hi => by rw [Nat.zero_add]; exact hF i hi) hone (by omega) (by rw [Nat.zero_add]; exact hb) (.new nid (.vec el e m F)) (fun _ => false) (fun i c => by simp [Eff.on]) (fun i => by simp [Eff.news]; exact eq_comm) (.inl ⟨rfl, hx⟩) (.inl hy)
 rwa [Nat.zero_add] at this
omit hbytes in
theorem opS_append_nil_osl (hF : ∀ i, i < m → F i = g i) (hone : ∀ i, i < m → ∀ j, j < e → ((g i).cell j).one1 = true) (h63 : m ≤ maxLen) (hb : m * bytes ≤ 140737488355328) (hx : ev x = .lit (.slice none 0 0)) (id2 : Nat) (t2 : TypeId) (hy : ev y = .osl id2 e m) (hp : pre id2 = some (.vec t2 e m g)) : OpS P B D0 o ev pre (.osl nid e m) (.newr id2 nid (.vec el e m F)) := by
 have := opS_appendG (B := B) (D0 := D0) (pre := pre) x y t ho ht e bytes z hi hze he 0 m hm g g F nid (fun i hi => absurd hi (Nat.not_lt_zero i)) (fun i hi => by rw [Nat.zero_add]; exact hF i hi) hone (by omega) (by rw [Nat.zero_add]; exact hb) (.newr id2 nid (.vec el e m F)) (fun _ => false) (fun i c => by simp [Eff.on]) (fun i => by simp [Eff.news]; exact eq_comm) (.inl ⟨rfl, hx⟩) (.inr ⟨id2, t2, hy, hp, by simp [Eff.touch]⟩)
 rwa [Nat.zero_add] at this
theorem opS_append_sl (h63 : n + m ≤ maxLen) (hF1 : ∀ i, i < n → F i = f i) (hF2 : ∀ i, i < m → F (n + i) = g i) (hone : ∀ i, i < m → ∀ j, j < e → ((g i).cell j).one1 = true) (id : Nat) (hx : ev x = .osl id e n) (hp : pre id = some (.vec el e n f)) (hy : ev y = .sl e m g) : OpS P B D0 o ev pre (.osl nid e (n + m)) (.grow id nid (.vec el e (n + m) F)) :=
  opS_appendG x y t ho ht e bytes z hi hze he n m hm f g F nid hF1 hF2 hone h63 hbytes (.grow id nid (.vec el e (n + m) F)) (fun i => id == i) (fun i c => by simp [Eff.on]) (fun i => by simp [Eff.news]; exact eq_comm) (.inr ⟨id, hx, hp, by simp, by simp [Eff.touch]⟩) (.inl hy)
theorem opS_append_osl (h63 : n + m ≤ maxLen) (hF1 : ∀ i, i < n → F i = f i) (hF2 : ∀ i, i < m → F (n + i) = g i) (hone : ∀ i, i < m → ∀ j, j < e → ((g i).cell j).one1 = true) (id : Nat) (hx : ev x = .osl id e n) (hp : pre id = some (.vec el e n f)) (id2 : Nat) (t2 : TypeId) (hy : ev y = .osl id2 e m) (hp2 : pre id2 = some (.vec t2 e m g)) : OpS P B D0 o ev pre (.osl nid e (n + m)) (.grow2 id id2 nid (.vec el e (n + m) F)) :=
  opS_appendG x y t ho ht e bytes z hi hze he n m hm f g F nid hF1 hF2 hone h63 hbytes (.grow2 id id2 nid (.vec el e (n + m) F)) (fun i => id == i) (fun i c => by simp [Eff.on]) (fun i => by simp [Eff.news]; exact eq_comm) (.inr ⟨id, hx, hp, by simp, by simp [Eff.touch]⟩) (.inr ⟨id2, t2, hy, hp2, by simp [Eff.touch]⟩)
end
end Go.Proofs.YtkcnbaeoahoglaaGreat
namespace Go.Proofs.YtkcnbaeoahoglaaGreat
open Go.RowKit
variable {P : Program} {R : Option Nat} {B : Nat} {D0 : Env} {o : Oper} {ev : Operand → AV} {pre : Nat → Option ABlk} {s : St} {Q : Exit → St → Prop}
def AV.map1 (g : AV → AV) : AV → AV
 | .agg l => .agg (l.map g)
 | .tup l => .tup (l.map g)
 | .fn f l => .fn f (l.map g)
 | x => g x
theorem VR.map1 {E E' : Env} {g : AV → AV} (hg : ∀ x v, VR E x v → VR E' (g x) v) {x : AV} {v : Value} (h : VR E x v) : VR E' (x.map1 g) v := by
 have lst : ∀ (l : List AV) (vs : Array Value), (∀ i, i < l.length → VR E (l.getD i .top) (vs.getD i undef)) → ∀ i, i < (l.map g).length → VR E' ((l.map g).getD i .top) (vs.getD i undef) := fun l vs h i hi => by
  have hi2 : i < l.length := by simpa using hi
  have e1 : (l.map g).getD i .top = g (l.getD i .top) := by simp [List.getD_eq_getElem?_getD, hi2]
  rw [e1]; exact hg _ _ (h i hi2)
 cases h with
 | agg _ l vs hn h => exact .agg _ _ _ (by simpa using hn) (lst l vs h)
 | tup _ l vs hn h => exact .tup _ _ _ (by simpa using hn) (lst l vs h)
 | fn _ f l vs hn h => exact .fn _ _ _ _ (by simpa using hn) (lst l vs h)
 | lit _ v => exact hg _ _ (.lit _ _)
 | sl0 => exact hg _ _ (.sl0 ..)
 | slc _ _ _ _ _ _ hnc h => exact hg _ _ (.slc _ _ _ _ _ _ hnc h)
 | sl _ _ _ _ _ _ _ us hn hD hc hr => exact hg _ _ (.sl _ _ _ _ _ _ _ us hn hD hc hr)
 | elt _ _ _ _ _ us hD hc hr => exact hg _ _ (.elt _ _ _ _ _ us hD hc hr)
 | ptr _ _ _ hA => exact hg _ _ (.ptr _ _ _ hA)
 | yld _ _ hA => exact hg _ _ (.yld _ _ hA)
 | osl _ _ _ _ hA => exact hg _ _ (.osl _ _ _ _ hA)
 | top _ v => exact hg _ _ (.top _ _)
def mapT (g : AV → AV) (t : ASlots) : ASlots := t.map fun p => (p.1, p.2.map1 g)
theorem VR.mapT {E E' : Env} {g : AV → AV} (hg : ∀ x v, VR E x v → VR E' (g x) v) : ∀ (t : ASlots) (i : Nat) (v : Value), VR E (tget t i) v → VR E' (tget (YtkcnbaeoahoglaaGreat.mapT g t) i) v
 | [], _, _, _ => .top _ _
 | (k, x) :: t, i, v, h => by
  show VR E' (tget ((k, x.map1 g) :: YtkcnbaeoahoglaaGreat.mapT g t) i) v
  rw [tget_cons] at h ⊢
  by_cases e : k = i
  · rw [if_pos e] at h ⊢; exact VR.map1 hg h
  · rw [if_neg e] at h ⊢; exact VR.mapT hg t i v h
def ABlk.mapB (g : AV → AV) : ABlk → ABlk
 | .box t cs => .box t (cs.map g)
 | .vec t e n f => .vec t e n f
 | .loop st pe sp t n => .loop st pe sp (mapT g t) n
def frzB (id : Nat) (cs : List AV) : AV → AV
 | .ptr id' off => if id' = id then .elt (cs.length - off) (fun i => cs.getD (off + i) .top) else .ptr id' off
 | .osl id' e' m => if id' = id then .top else .osl id' e' m
 | x => x
def Env.fr (E : Env) (id : Nat) : Env := { E with D := fun b => E.D b ∨ b = E.π id }
theorem Env.le_fr (E : Env) (id : Nat) : E.le (E.fr id) := ⟨fun _ h => h, fun _ _ => rfl, fun _ h => .inl h, fun _ _ => rfl, fun _ _ => rfl⟩
theorem mapHeap (g : AV → AV) : ∀ (h : AHeap) (id : Nat), hget (h.map fun p => (p.1, p.2.mapB g)) id = (hget h id).map (ABlk.mapB g)
 | [], _ => rfl
 | (i, b) :: h, id => by
  simp only [List.map_cons, hget]
  by_cases e : i = id
  · rw [if_pos e, if_pos e]; rfl
  · rw [if_neg e, if_neg e]; exact mapHeap g h id
theorem BR.mapB {E E' : Env} {g : AV → AV} (hg : ∀ x v, VR E x v → VR E' (g x) v) (hle : E.le E') (hw : E'.w = E.w) {b : ABlk} {k cap : Nat} (h : BR E b k cap) : BR E' (b.mapB g) k cap := by
 cases h with
 | box t cs _ _ arr hb hn h =>
  refine .box _ _ _ _ arr (by rw [hw]; exact hb) (by simpa using hn) fun i hi => ?_
  have hi2 : i < cs.length := by simpa using hi
  have e1 : (cs.map g).getD i .top = g (cs.getD i .top) := by simp [List.getD_eq_getElem?_getD, hi2]
  rw [e1]; exact hg _ _ (h i hi2)
 | vec t e n f _ _ arr hb hn hc hm h => exact .vec _ _ _ _ _ _ arr (by rw [hw]; exact hb) hn hc hm fun i j hi hj => (h i j hi hj).up hle
 | loop st pe sp t n _ _ m tm hb hn h => exact .loop _ _ _ _ _ _ _ m tm (by rw [hw]; exact hb) hn fun i => VR.mapT hg t i _ (h i)
theorem AC_freeze_aux {c : Code} (id : Nat) (g : AV → AV) (s' : St) (hs' : (⟨mapT g s.t, (hdel s.h id).map fun p => (p.1, p.2.mapB g), s.nx, s.n⟩ : St) = s') {blk : ABlk} (hc : hget s.h id = some blk) (hg : ∀ E x v, HR B D0 E (hget s.h) → VR E x v → VR (E.fr id) (g x) v) (h : AC P R B D0 c s' Q) : AC P R B D0 c s Q := by
 refine AC_know (s' := s') (fun E a hs => ⟨E.fr id, rfl, ?_⟩) h
 subst hs'
 have hh := hs.h
 obtain ⟨j1, j2, j3, j4⟩ := hh.live id _ hc
 refine ⟨hs.size, hs.df.up (E.le_fr id).D (E.le_fr id).blk, fun i => VR.mapT (hg E · · hh) s.t i _ (hs.t i), ⟨fun k x hx => ?_, fun i j x y hx hy hne => ?_, fun b hb => ?_, hh.abd, hh.le0.trans (E.le_fr id), fun b hb => ?_, hh.B⟩, hs.A⟩
 all_goals
  try (have hm := mapHeap g (hdel s.h id))
 ·
  rw [hm, hget_hdel] at hx
  by_cases e : id = k
  · rw [if_pos e] at hx; cases hx
  ·
   rw [if_neg e] at hx
   simp only [Option.map_eq_some_iff] at hx
   obtain ⟨x', hx', rfl⟩ := hx
   obtain ⟨l1, l2, l3, l4⟩ := hh.live k x' hx'
   refine ⟨l1, BR.mapB (fun x v => hg E x v hh) (E.le_fr id) rfl l2, fun hd => ?_, l4⟩
   rcases hd with hd | hd
   · exact l3 hd
   · exact hh.inj k id x' _ hx' hc (fun e2 => e e2.symm) hd
 ·
  rw [hm, hget_hdel] at hx hy
  by_cases e : id = i
  · rw [if_pos e] at hx; cases hx
  ·
   rw [if_neg e] at hx
   by_cases e2 : id = j
   · rw [if_pos e2] at hy; cases hy
   ·
    rw [if_neg e2] at hy
    simp only [Option.map_eq_some_iff] at hx hy
    obtain ⟨x', hx', rfl⟩ := hx
    obtain ⟨y', hy', rfl⟩ := hy
    exact hh.inj i j x' y' hx' hy' hne
 ·
  rcases hb with hb | hb
  · exact hh.bnd b hb
  · rw [hb]; exact j2.lt
 ·
  rcases hb with hb | hb
  · exact hh.new b hb
  · rw [hb]; exact .inr j4
theorem AC_freezeB {c : Code} (id : Nat) (t : TypeId) (cs : List AV) (s' : St) (hc : hget s.h id = some (.box t cs)) (hs' : (⟨mapT (frzB id cs) s.t, (hdel s.h id).map fun p => (p.1, p.2.mapB (frzB id cs)), s.nx, s.n⟩ : St) = s') (hf : cs.all AV.flat = true) (h : AC P R B D0 c s' Q) : AC P R B D0 c s Q := by
 refine AC_freeze_aux id (frzB id cs) s' hs' hc (fun E x v hh hv => ?_) h
 have up := hv.up (E.le_fr id)
 obtain ⟨arr, hb, hvs⟩ := hh.box hc
 cases hv with
 | osl _ id' e' m hA =>
  unfold frzB
  simp only
  by_cases e1 : id' = id
  · rw [if_pos e1]; exact .top _ _
  · rw [if_neg e1]; exact up
 | ptr _ id' off hA =>
  unfold frzB
  simp only
  by_cases e1 : id' = id
  ·
   subst e1
   rw [if_pos rfl]
   refine .elt _ _ _ _ _ (fun j => arr.getD (off + j) undef) (.inr rfl) (fun j hj => cell_at hb (by rw [hvs.1]; omega)) fun j hj => ?_
   have := hvs.2 (off + j)
   have e2 : cs.getD (off + j) .top = cs[off + j] := by simp [List.getD_eq_getElem?_getD, show off + j < cs.length by omega]
   refine (this.flat ?_).up (E.le_fr id').fz
   rw [e2]
   exact List.all_eq_true.1 hf _ (List.getElem_mem _)
  · rw [if_neg e1]; exact up
 | _ => exact up
def lookN : List (Nat × Nat) → Nat → Option Nat
 | [], _ => none
 | (i, j) :: l, id => if i = id then some j else lookN l id
def renV (ρ : List (Nat × Nat)) : AV → AV
 | .ptr id off => match lookN ρ id with | some j => .ptr j off | none => .top
 | .osl id e n => match lookN ρ id with | some j => .osl j e n | none => .top
 | .yld id => match lookN ρ id with | some j => .yld j | none => .top
 | .agg l => if l.all AV.flat then .agg l else .top
 | .tup l => if l.all AV.flat then .tup l else .top
 | .fn f l => if l.all AV.flat then .fn f l else .top
 | x => x
def renH (ρ : List (Nat × Nat)) (h : AHeap) : AHeap := ρ.filterMap fun p => (hget h p.1).map fun b => (p.2, b.mapB (renV ρ))
theorem lookN_mem : ∀ {ρ : List (Nat × Nat)} {i j : Nat}, lookN ρ i = some j → (i, j) ∈ ρ
 | [], _, _, h => by cases h
 | (a, b) :: ρ, i, j, h => by
  simp only [lookN] at h
  by_cases e : a = i
  · rw [if_pos e] at h; cases h; subst e; exact List.mem_cons_self
  · rw [if_neg e] at h; exact List.mem_cons_of_mem _ (lookN_mem h)
def distN : List Nat → Bool
 | [] => true
 | a :: l => (l.all fun b => !Nat.beq a b) && distN l
theorem distN_inj : ∀ {ρ : List (Nat × Nat)}, distN (ρ.map (·.2)) = true → ∀ {i i' j : Nat}, (i, j) ∈ ρ → (i', j) ∈ ρ → i = i'
 | [], _, _, _, _, h, _ => by cases h
 | (a, b) :: ρ, hd, i, i', j, h, h' => by
  simp only [List.map_cons, distN, Bool.and_eq_true] at hd
  obtain ⟨h1, h2⟩ := hd
  have no : ∀ k, (k, b) ∈ ρ → False := fun k hk => by
   have := List.all_eq_true.1 h1 b (List.mem_map.2 ⟨_, hk, rfl⟩)
   have e9 : Nat.beq b b = true := Nat.beq_refl b
   rw [e9] at this
   cases this
  cases h with
  | head =>
   cases h' with
   | head => rfl
   | tail _ h' => exact (no _ h').elim
  | tail _ h =>
   cases h' with
   | head => exact (no _ h).elim
   | tail _ h' => exact distN_inj h2 h h'
theorem distN_inj1 {ρ : List (Nat × Nat)} (hd : distN (ρ.map (·.1)) = true) {i j j' : Nat} (h : (i, j) ∈ ρ) (h' : (i, j') ∈ ρ) : j = j' :=
  distN_inj (ρ := ρ.map fun p => (p.2, p.1)) (by simpa [Function.comp_def] using hd) (List.mem_map.2 ⟨_, h, rfl⟩) (List.mem_map.2 ⟨_, h', rfl⟩)
theorem hget_mem : ∀ {h : AHeap} {id : Nat} {b : ABlk}, hget h id = some b → (id, b) ∈ h
 | [], _, _, h => by cases h
 | (i, c) :: h, id, b, hh => by
  simp only [hget] at hh
  by_cases e : i = id
  · rw [if_pos e] at hh; cases hh; subst e; exact List.mem_cons_self
  · rw [if_neg e] at hh; exact List.mem_cons_of_mem _ (hget_mem hh)
def flatH : AHeap → Prop
 | [] => True
 | (_, .vec _ e n f) :: h => (∀ i, i < n → ∀ j, j < e → ((f i).cell j).flat = true) ∧ flatH h
 | (_, .box _ _) :: h => flatH h
 | (_, .loop ..) :: h => flatH h
theorem flatH_at : ∀ {h : AHeap} {id : Nat} {t : TypeId} {e n : Nat} {f : Nat → AV}, flatH h → hget h id = some (.vec t e n f) → ∀ i, i < n → ∀ j, j < e → ((f i).cell j).flat = true
 | [], _, _, _, _, _, _, h => by cases h
 | (k, .vec t' e' n' f') :: h, id, t, e, n, f, hf, hh => by
  simp only [hget] at hh
  by_cases e1 : k = id
  · rw [if_pos e1] at hh; cases hh; exact hf.1
  · rw [if_neg e1] at hh; exact flatH_at hf.2 hh
 | (k, .box t' cs) :: h, id, t, e, n, f, hf, hh => by
  simp only [hget] at hh
  by_cases e1 : k = id
  · rw [if_pos e1] at hh; cases hh
  · rw [if_neg e1] at hh; exact flatH_at (h := h) hf hh
 | (k, .loop _ _ _ _ _) :: h, id, t, e, n, f, hf, hh => by
  simp only [hget] at hh
  by_cases e1 : k = id
  · rw [if_pos e1] at hh; cases hh
  · rw [if_neg e1] at hh; exact flatH_at (h := h) hf hh
theorem hget_renH (ρ : List (Nat × Nat)) (h : AHeap) {j : Nat} {b : ABlk} (hb : hget (renH ρ h) j = some b) : ∃ i b0, (i, j) ∈ ρ ∧ hget h i = some b0 ∧ b = b0.mapB (renV ρ) := by
 have := hget_mem hb
 simp only [renH, List.mem_filterMap, Option.map_eq_some_iff] at this
 obtain ⟨⟨i, j'⟩, hm, b0, h1, h2⟩ := this
 cases h2
 exact ⟨i, b0, hm, h1, rfl⟩
theorem AC_ren {c : Code} (ρ : List (Nat × Nat)) (nx' k0 : Nat) (hA0 : ∀ id, D0.A id → id < k0) (s' : St) (hs' : (⟨mapT (renV ρ) s.t, renH ρ s.h, nx', s.n⟩ : St) = s') (hd : distN (ρ.map (·.2)) = true) (hd1 : distN (ρ.map (·.1)) = true) (hl : (ρ.all fun p => (hget s.h p.1).isSome && Nat.blt p.2 nx') = true) (hk0 : (Nat.ble k0 nx' && ρ.all fun p => Nat.beq p.1 p.2 || Nat.ble k0 p.2) = true) (hfl : flatH s.h) (h : AC P R B D0 c s' Q) : AC P R B D0 c s Q := by
 refine AC_know (s' := s') (fun E a hs => ?_) h
 subst hs'
 have hh := hs.h
 let inv : Nat → Nat := fun j => ((ρ.find? fun p => Nat.beq p.2 j).map (·.1)).getD j
 have hinv : ∀ i j, (i, j) ∈ ρ → inv j = i := fun i j hm => by
  show ((ρ.find? fun p => Nat.beq p.2 j).map (·.1)).getD j = i
  cases hf : ρ.find? fun p => Nat.beq p.2 j with
  | none =>
   have := List.find?_eq_none.1 hf _ hm
   simp at this
  | some q =>
   have h1 := List.find?_some hf
   have h2 := List.mem_of_find?_eq_some hf
   have h3 : q.2 = j := Nat.eq_of_beq_eq_true h1
   obtain ⟨q1, q2⟩ := q
   simp only at h3
   subst h3
   exact distN_inj hd h2 hm
 have hlive : ∀ i j, (i, j) ∈ ρ → ∃ b, hget s.h i = some b ∧ j < nx' := fun i j hm => by
  have := List.all_eq_true.1 hl _ hm
  simp only [Bool.and_eq_true, Nat.blt_eq] at this
  exact ⟨_, (Option.isSome_iff_exists.1 this.1).choose_spec, this.2⟩
 have hk1 := Bool.and_eq_true_iff.1 hk0
 have hinv0 : ∀ j, D0.A j → inv j = j := fun j hj => by
  show ((ρ.find? fun p => Nat.beq p.2 j).map (·.1)).getD j = j
  cases hf : ρ.find? fun p => Nat.beq p.2 j with
  | none => rfl
  | some q =>
   have h1 := List.find?_some hf
   have h2 := List.mem_of_find?_eq_some hf
   have h3 : q.2 = j := Nat.eq_of_beq_eq_true h1
   have h4 := List.all_eq_true.1 hk1.2 q h2
   rw [Bool.or_eq_true, Nat.ble_eq] at h4
   have h5 := hA0 j hj
   rcases h4 with h4 | h4
   ·
    show q.1 = j
    rw [Nat.eq_of_beq_eq_true h4, h3]
   · omega
 let E' : Env := { π := fun j => E.π (inv j), cap := fun j => E.cap (inv j), A := fun j => (∃ i, (i, j) ∈ ρ) ∨ D0.A j, D := E.D, w := E.w }
 have hle0 : D0.le E' := ⟨fun j hj => .inr hj, fun j hj => by show E.π (inv j) = _; rw [hinv0 j hj]; exact hh.le0.π j hj, hh.le0.D, hh.le0.blk, fun j hj => by show E.cap (inv j) = _; rw [hinv0 j hj]; exact hh.le0.cap j hj⟩
 have hren : ∀ x v, VR E x v → VR E' (renV ρ x) v := fun x v hv => by
  have sl : E.fz.le E' := Env.fz_le_of (fun _ h => h) fun _ _ => rfl
  cases hv with
  | ptr _ id off hA =>
   unfold renV
   simp only
   cases hj : lookN ρ id with
   | none => exact .top _ _
   | some j =>
    have hm := lookN_mem hj
    have := VR.ptr E' j off (.inl ⟨id, hm⟩)
    rw [show E'.π j = E.π id from by show E.π (inv j) = _; rw [hinv id j hm]] at this
    exact this
  | osl _ id e n hA =>
   unfold renV
   simp only
   cases hj : lookN ρ id with
   | none => exact .top _ _
   | some j =>
    have hm := lookN_mem hj
    have := VR.osl E' j e n (.inl ⟨id, hm⟩)
    rw [show E'.π j = E.π id from by show E.π (inv j) = _; rw [hinv id j hm], show E'.cap j = E.cap id from by show E.cap (inv j) = _; rw [hinv id j hm]] at this
    exact this
  | yld _ id hA =>
   unfold renV
   simp only
   cases hj : lookN ρ id with
   | none => exact .top _ _
   | some j =>
    have hm := lookN_mem hj
    have := VR.yld E' j (.inl ⟨id, hm⟩)
    rw [show E'.π j = E.π id from by show E.π (inv j) = _; rw [hinv id j hm]] at this
    exact this
  | agg _ l vs hn h =>
   unfold renV
   simp only
   by_cases hf : l.all AV.flat = true
   · rw [if_pos hf]; exact ((VR.agg E l vs hn h).free hf).up sl
   · rw [if_neg hf]; exact .top _ _
  | tup _ l vs hn h =>
   unfold renV
   simp only
   by_cases hf : l.all AV.flat = true
   · rw [if_pos hf]; exact ((VR.tup E l vs hn h).free hf).up sl
   · rw [if_neg hf]; exact .top _ _
  | fn _ f l vs hn h =>
   unfold renV
   simp only
   by_cases hf : l.all AV.flat = true
   · rw [if_pos hf]; exact ((VR.fn E f l vs hn h).free hf).up sl
   · rw [if_neg hf]; exact .top _ _
  | lit _ v => exact .lit _ _
  | sl0 => exact .sl0 _ _ _ _ _
  | slc _ _ _ _ _ _ hnc h => exact .slc _ _ _ _ _ _ hnc (by cases h with
   | sl0 => exact .sl0 _ _ _ _ _
   | sl _ _ _ _ _ _ _ us hn hD hc hr => exact .sl _ _ _ _ _ _ _ us hn hD hc fun i j hi hj => (hr i j hi hj).up sl.fz)
  | sl _ _ _ _ _ _ _ us hn hD hc hr => exact .sl _ _ _ _ _ _ _ us hn hD hc fun i j hi hj => (hr i j hi hj).up sl.fz
  | elt _ _ _ _ _ us hD hc hr => exact .elt _ _ _ _ _ us hD hc fun j hj => (hr j hj).up sl.fz
  | top => exact .top _ _
 refine ⟨E', rfl, hs.size, hs.df, fun i => VR.mapT hren s.t i _ (hs.t i), ⟨fun j x hx => ?_, fun i j x y hx hy hne => ?_, hh.bnd, fun j hj => ?_, hle0, hh.new, hh.B⟩, fun j hj => ?_⟩
 ·
  obtain ⟨i, b0, hm, h1, rfl⟩ := hget_renH ρ s.h hx
  obtain ⟨l1, l2, l3, l4⟩ := hh.live i b0 h1
  have e1 : E'.π j = E.π i := by show E.π (inv j) = _; rw [hinv i j hm]
  have e2 : E'.cap j = E.cap i := by show E.cap (inv j) = _; rw [hinv i j hm]
  rw [e1, e2]
  refine ⟨.inl ⟨i, hm⟩, ?_, l3, l4⟩
  cases l2 with
  | box t cs _ _ arr hb hn h =>
   refine .box _ _ _ _ arr hb (by simpa using hn) fun k hk => ?_
   have hk2 : k < cs.length := by simpa using hk
   have e1 : (cs.map (renV ρ)).getD k .top = renV ρ (cs.getD k .top) := by simp [List.getD_eq_getElem?_getD, hk2]
   rw [e1]; exact hren _ _ (h k hk2)
  | vec t e n f _ _ arr hb hn hc hm2 h =>
   exact .vec _ _ _ _ _ _ arr hb hn hc hm2 fun k q hk hq => ((h k q hk hq).flat (flatH_at hfl h1 k hk q hq)).up (Env.fz_le_of (fun _ h => h) fun _ _ => rfl)
  | loop st pe sp t n _ _ m tm hb hn h => exact .loop _ _ _ _ _ _ _ m tm hb hn fun i => VR.mapT hren t i _ (h i)
 ·
  obtain ⟨i1, b1, m1, h1, rfl⟩ := hget_renH ρ s.h hx
  obtain ⟨i2, b2, m2, h2, rfl⟩ := hget_renH ρ s.h hy
  show E.π (inv i) ≠ E.π (inv j)
  rw [hinv _ _ m1, hinv _ _ m2]
  refine hh.inj i1 i2 b1 b2 h1 h2 fun e => hne ?_
  subst e
  exact distN_inj1 hd1 m1 m2
 ·
  show E.π (inv j) < _
  rcases hj with ⟨i, hm⟩ | hj
  ·
   obtain ⟨b, hb, _⟩ := hlive i j hm
   rw [hinv i j hm]
   exact hh.abd i (hh.live i b hb).1
  ·
   rw [hinv0 j hj]
   exact hh.abd j (hh.le0.A j hj)
 ·
  rcases hj with ⟨i, hm⟩ | hj
  · exact (hlive i j hm).choose_spec.2
  ·
   have := hA0 j hj
   have h6 : k0 ≤ nx' := by simpa using hk1.1
   exact Nat.lt_of_lt_of_le this h6
def resSem (rv : ResultVar) (tmps : Array Value) : Sem Value := match rv with | .tmp t => pure (tmps.getD t undef) | .cell q t => do loadVar t (← asAddr (tmps.getD q undef))
def ResV (P : Program) (B : Nat) (D0 : Env) (s : St) (rv : ResultVar) (x : AV) : Prop := ∀ E a, Sim B D0 E s a → ∃ v, (resSem rv a.tmps).run P E.w = .ok v E.w ∧ VR E.fz x v
theorem resV_tmp {t : Tmp} {x : AV} (h : tget s.t t = x) (hf : x.free = true) : ResV P B D0 s (.tmp t) x := fun E a hs => ⟨_, rfl, by rw [← h]; exact (hs.t t).free (by rw [h]; exact hf)⟩
theorem resV_cell {q : Tmp} {T : TypeId} {x : AV} (id : Nat) (hT : ∀ w, (isAgg T).run P w = .ok true w) (n : Nat) (hn : ∀ w, (sizeOf T).run P w = .ok n w) (off : Nat) (cs : List AV) (h : tget s.t q = .ptr id off) (t : TypeId) (hb : hget s.h id = some (.box t cs)) (hl : off + n ≤ cs.length) (hx : mkAgg ((cs.drop off).take n) = x) (hf : x.free = true) : ResV P B D0 s (.cell q T) x := fun E a hs => by
 have h1 := hs.t q
 rw [h] at h1
 obtain ⟨arr, h2, h3⟩ := hs.h.box hb
 generalize hy : a.tmps.getD q undef = y at h1
 cases h1 with
 | ptr _ _ _ hA =>
  have h5 := h3.drop off n hl
  have h6 := VR.mkAgg h5.1 h5.2
  rw [hx] at h6
  refine ⟨_, ?_, h6.free hf⟩
  have h4 := run_loadArr (P := P) (T := T) (hT E.w) (hn E.w) h2 (by rw [h3.1]; exact hl)
  simp only [Instr.loadAt, Instr.sureAddr, Sem.run_bind, Sem.run_pure, Result.andThen_ok] at h4
  simp [resSem, hy, asAddr, h4]
theorem ResOk.cast {fn : Func} {r0 r : AV} (h : ResOk P B D0 fn s r0) (e : r0 = r) : ResOk P B D0 fn s r := e ▸ h
theorem results_eq (fn : Func) (tmps : Array Value) : results fn tmps = (do let vs ← fn.results.mapM fun rv => resSem rv tmps; pure (if h : vs.size = 1 then vs[0] else .tuple vs)) := by
 unfold results resSem
 rfl
theorem resOk1 {fn : Func} {rv : ResultVar} {x : AV} (hr : fn.results = #[rv]) (h : ResV P B D0 s rv x) : ResOk P B D0 fn s x := fun E a hs => by
 obtain ⟨v, h1, h2⟩ := h E a hs
 exact ⟨v, by simp [results_eq, hr, h1], h2⟩
theorem VR.tupl {E : Env} (l : List AV) (vs : Array Value) (hn : vs.size = l.length) (h : ∀ i, i < l.length → VR E (l.getD i .top) (vs.getD i undef)) (r : AV) (hr : YtkcnbaeoahoglaaGreat.mkTup l = r) : VR E r (.tuple vs) := by
  rw [← hr]; exact VR.mkTup hn fun i => VR.tops h i
theorem resOk2 {fn : Func} {r1 r2 : ResultVar} {x y : AV} (hr : fn.results = #[r1, r2]) (h1 : ResV P B D0 s r1 x) (h2 : ResV P B D0 s r2 y) : ResOk P B D0 fn s (mkTup [x, y]) := fun E a hs => by
 obtain ⟨v1, e1, f1⟩ := h1 E a hs
 obtain ⟨v2, e2, f2⟩ := h2 E a hs
 refine ⟨.tuple #[v1, v2], by simp [results_eq, hr, e1, e2], VR.tupl [x, y] _ rfl (fun i hi => ?_) _ rfl⟩
 match i with
 | 0 => exact f1
 | 1 => exact f2
 | i + 2 => simp at hi; omega
theorem resOk3 {fn : Func} {r1 r2 r3 : ResultVar} {x y z : AV} (hr : fn.results = #[r1, r2, r3]) (h1 : ResV P B D0 s r1 x) (h2 : ResV P B D0 s r2 y) (h3 : ResV P B D0 s r3 z) : ResOk P B D0 fn s (mkTup [x, y, z]) := fun E a hs => by
 obtain ⟨v1, e1, f1⟩ := h1 E a hs
 obtain ⟨v2, e2, f2⟩ := h2 E a hs
 obtain ⟨v3, e3, f3⟩ := h3 E a hs
 refine ⟨.tuple #[v1, v2, v3], by simp [results_eq, hr, e1, e2, e3], VR.tupl [x, y, z] _ rfl (fun i hi => ?_) _ rfl⟩
 match i with
 | 0 => exact f1
 | 1 => exact f2
 | 2 => exact f3
 | i + 3 => simp at hi; omega
theorem opS_pick_t (c x y : Operand) (ho : o.op = .pick c x y) (hc : ev c = .bool true) : OpS P B D0 o ev pre (ev x) .none :=
 opS_val (.inl rfl) fun E a _ _ _ hv => by
  have h := hv c (by simp [ho, Op.operands])
  rw [hc] at h
  have h := h.lit_inv
  exact ⟨a.eval x, by simp [execOp, ho, h, asBool], hv x (by simp [ho, Op.operands])⟩
theorem opS_pick_f (c x y : Operand) (ho : o.op = .pick c x y) (hc : ev c = .bool false) : OpS P B D0 o ev pre (ev y) .none :=
 opS_val (.inl rfl) fun E a _ _ _ hv => by
  have h := hv c (by simp [ho, Op.operands])
  rw [hc] at h
  have h := h.lit_inv
  exact ⟨a.eval y, by simp [execOp, ho, h, asBool], hv y (by simp [ho, Op.operands])⟩
def AV.isPtr : AV → Bool | .ptr .. | .elt .. | .fn .. => true | _ => false
theorem opS_nilCheck (x : Operand) (ho : o.op = .nilCheck x) (X : AV) (hx : ev x = X) (hp : X.isPtr = true) : OpS P B D0 o ev pre X .none := by
 subst hx
 refine opS_val (.inl rfl) fun E a _ _ _ hv => ?_
 have h := hv x (by simp [ho, Op.operands])
 refine ⟨a.eval x, ?_, h⟩
 generalize hX : ev x = X at h hp
 generalize hy : a.eval x = y at h
 cases h <;> first | (simp [execOp, ho, hy]; done) | cases hp
theorem opS_index_agg (T : TypeId) (x y : Operand) (ho : o.op = .index T x y) {el : TypeId} {len : Nat} (hu : P.underlying T = some (.array len el)) (e : Nat) (hsz : ∀ w, (sizeOf el).run P w = .ok e w) (k : Nat) (b : Bool) (hb : ∀ w, (isAgg el).run P w = .ok b w) (l : List AV) (j : Int) (hx : ev x = .agg l) (hy : ev y = .int j) (hj : j = (k : Int)) (hk : k < len) (hl : k * e + e ≤ l.length) (h1 : b = false → e = 1) (V : AV) (hV : V = if b then mkAgg ((l.drop (k * e)).take e) else l.getD (k * e) .top) :
  OpS P B D0 o ev pre V .none := by
 refine opS_val (.inl rfl) fun E a c _ _ hv => ?_
 have h := hv x (by simp [ho, Op.operands])
 have h2 := hv y (by simp [ho, Op.operands])
 rw [hx] at h
 rw [hy] at h2
 have e2 := h2.lit_inv
 have hj2 : (0 : Int) ≤ j ∧ j < (len : Int) := by omega
 have hj3 : j.toNat = k := by omega
 generalize hz : a.eval x = z at h
 cases h with
 | agg _ _ vs hs hr =>
  have hvs : VRs E l vs := ⟨hs, fun i => VR.tops hr i⟩
  cases b with
  | true =>
   refine ⟨.agg (vs.extract (k * e) (k * e + e)), ?_, ?_⟩
   · simp [execOp, ho, hz, e2, Instr.index, asIntOf, run_underlying hu, part, hb, hsz, hj2, hj3]
   · rw [hV]; exact VR.mkAgg (hvs.drop (k * e) e hl).1 (hvs.drop (k * e) e hl).2
  | false =>
   have := h1 rfl
   subst this
   refine ⟨vs.getD (k * 1) undef, ?_, by rw [hV]; exact hvs.2 (k * 1)⟩
   have h3 : k < vs.size := by omega
   simp [execOp, ho, hz, e2, Instr.index, asIntOf, run_underlying hu, part, hb, hsz, hj2, hj3, h3]
theorem opS_slice_sl (T : TypeId) (x : Operand) (lo hi : Option Operand) (ho : o.op = .slice T x lo hi none) {el : TypeId} (hu : P.underlying T = some (.slice el)) (e n : Nat) (hsz : ∀ w, (sizeOf el).run P w = .ok e w) (f : Nat → AV) (hx : ev x = .slc e n f) (l h : Nat) (hl : (lo = none ∧ l = 0) ∨ ∃ y k, lo = some y ∧ ev y = .int k ∧ k = (l : Int)) (hh : (hi = none ∧ h = n) ∨ ∃ y k, hi = some y ∧ ev y = .int k ∧ k = (h : Int)) (h1 : l ≤ h) (h2 : h ≤ n) :
  OpS P B D0 o ev pre (.sl e (h - l) fun i => f (l + i)) .none := by
 refine opS_val (.inl rfl) fun E a c _ _ hv => ?_
 have hvx := hv x (by simp [ho, Op.operands])
 rw [hx] at hvx
 have key : ∀ A cp, n ≤ cp → a.eval x = .slice A n cp → (execOp a.eval o).run P E.w = .ok (.value (.slice (if cp = l then A else A.map (·.add (l * e))) (h - l) (cp - l))) E.w := fun A cp hcp hz => by
  rcases hl with ⟨rfl, rfl⟩ | ⟨y, k, rfl, hk, rfl⟩
  ·
   rcases hh with ⟨rfl, rfl⟩ | ⟨y', k', rfl, hk', rfl⟩
   · simp [execOp, ho, hz, Instr.sliceAt, run_underlying hu, Instr.slice, Instr.sliceBounds, hsz]
   ·
    have e2 := hv y' (by simp [ho, Op.operands])
    rw [hk'] at e2
    have e2 := e2.lit_inv
    simp [execOp, ho, hz, e2, Instr.sliceAt, run_underlying hu, Instr.slice, Instr.sliceBounds, Instr.sliceBound, asIntOf, hsz, show h ≤ cp by omega]
  ·
   have e1 := hv y (by simp [ho, Op.operands])
   rw [hk] at e1
   have e1 := e1.lit_inv
   rcases hh with ⟨rfl, rfl⟩ | ⟨y', k', rfl, hk', rfl⟩
   · simp [execOp, ho, hz, e1, Instr.sliceAt, run_underlying hu, Instr.slice, Instr.sliceBounds, Instr.sliceBound, asIntOf, hsz, h1]
   ·
    have e2 := hv y' (by simp [ho, Op.operands])
    rw [hk'] at e2
    have e2 := e2.lit_inv
    simp [execOp, ho, hz, e1, e2, Instr.sliceAt, run_underlying hu, Instr.slice, Instr.sliceBounds, Instr.sliceBound, asIntOf, hsz, h1, show h ≤ cp by omega]
 generalize hz : a.eval x = z at hvx
 cases hvx with
 | slc _ _ _ _ A0 cp hnc hv0 => cases hv0 with
 | sl0 =>
  obtain rfl : h = 0 := by omega
  obtain rfl : l = 0 := by omega
  exact ⟨_, key _ cp (Nat.zero_le _) hz, .sl0 _ _ _ _ _⟩
 | sl _ _ _ _ b q _ us hn hD hc hr =>
  refine ⟨_, key _ cp hnc hz, ?_⟩
  by_cases hlh : l = h
  ·
   subst hlh
   rw [Nat.sub_self]
   exact .sl0 _ _ _ _ _
  ·
   rw [if_neg (by omega)]
   simp only [Option.map_some, add_none]
   refine .sl _ _ _ _ _ _ _ (fun i j => us (l + i) j) (by omega) hD (fun i j hi hj => ?_) fun i j hi hj => hr (l + i) j (by omega) hj
   have := hc (l + i) j (by omega) hj
   rw [← this, Nat.add_mul, ← Nat.add_assoc]
end Go.Proofs.YtkcnbaeoahoglaaGreat
namespace Go.Proofs.YtkcnbaeoahoglaaGreat
open Go.RowKit
variable {P : Program} {R : Option Nat} {B : Nat} {D0 : Env} {o : Oper} {s : St} {Q : Exit → St → Prop}
def ResI (P : Program) (B : Nat) (D0 : Env) (fn : Func) (s : St) (r : AV) : Prop :=
  ∀ E a, Sim B D0 E s a → ∃ v, (results fn a.tmps).run P E.w = .ok v E.w ∧ VR E r v
def Ends (P : Program) (B : Nat) (D1 : Env) (fn : Func) (K : AV → AHeap → Nat → Prop) : Exit → St → Prop := fun e s' => (e = .ret ∨ e = .normal) ∧ ∃ r, ResI P B D1 fn s' r ∧ K r s'.h s'.nx
theorem HR.turn {E : Env} {c : Nat → Option ABlk} (h : HR B D0 E c) : HR B E E c := ⟨h.live, h.inj, h.bnd, h.abd, Env.le.refl _, fun _ h => .inl h, h.B⟩
theorem HR.back {E E' : Env} {c c' : Nat → Option ABlk} (h0 : HR B D0 E c) (h : HR B E E' c') : HR B D0 E' c' := ⟨h.live, h.inj, h.bnd, h.abd, h0.le0.trans h.le0, fun b hb => by
 rcases h.new b hb with hb | hb
 · exact h0.new b hb
 · exact .inr hb, h.B⟩
theorem inline_calls {f : FuncId} {fn : Func} {c : Code} {args : List AV} {h : AHeap} {nx : Nat} {K : AV → AHeap → Nat → Prop} (hf : Tryz.prog.funcs[f]? = some fn) (hc : fn.body = some c) (n : Nat) (hn : fn.ntmps = n) (hle : args.length ≤ n)
  (hbody : ∀ D1, (∀ id, D1.A id → id < nx) → AC Tryz.prog none B D1 c ⟨args0 args 0, h, nx, n⟩ (Ends Tryz.prog B D1 fn K))
  {E : Env} {vs : Array Value} (hh : HR B D0 E (hget h)) (hA : ∀ id, E.A id → id < nx) (hsz : vs.size = args.length) (hv : ∀ i, i < args.length → VR E (args.getD i .top) (vs.getD i undef)) :
  Calls Tryz.prog f vs E.w fun e w' => ∃ v r h' nx' E', e = .returned v ∧ E'.w = w' ∧ VR E' r v ∧ K r h' nx' ∧ E.le E' ∧ HR B D0 E' (hget h') ∧ (∀ id, E'.A id → id < nx') ∧ Below B E.w w' := by
 subst hn
 have hsim : Sim B E E ⟨args0 args 0, h, nx, fn.ntmps⟩ { tmps := vs ++ Array.replicate (fn.ntmps - vs.size) undef, defers := [] } := by
  refine ⟨by simp [hsz]; omega, Marks.nil _ _ _, fun i => ?_, hh.turn, hA⟩
  have e0 := tget_args0 args 0 i
  rw [Nat.zero_add] at e0
  show VR E (tget (args0 args 0) i) _
  rw [e0]
  by_cases hi : i < args.length
  ·
   have h2 : (vs ++ Array.replicate (fn.ntmps - vs.size) undef).getD i undef = vs.getD i undef := by
    simp only [Array.getD_eq_getD_getElem?, Array.getElem?_append_left (show i < vs.size by omega)]
   rw [h2]
   exact (hv i hi)
  ·
   rw [List.getD_eq_getElem?_getD, List.getElem?_eq_none (by omega)]
   exact .top _ _
 refine calls_marks hf hc (wpIn_wide.1 (wpIn_monoQ ?_ ((hbody E hA).run E _ hsim)))
 rintro e a' w' ⟨s', E', rfl, ⟨he, r, hr, hK⟩, hs, hb⟩
 obtain ⟨ms, m1, m2, m3⟩ := hs.df
 have fin : bodyPostM Fence.wide 0 Tryz.prog fn (fun e w' => ∃ v r h' nx' E', e = .returned v ∧ E'.w = w' ∧ VR E' r v ∧ K r h' nx' ∧ E.le E' ∧ HR B D0 E' (hget h') ∧ (∀ id, E'.A id → id < nx') ∧ Below B E.w w') .ret a' E'.w := by
  refine marks_ret ms m1 m2 (fun m hm => (m3 m hm).2.2.2) fun W hk hz => ?_
  obtain ⟨k1, k2⟩ := hs.unmark m3 hk hz
  obtain ⟨v, hv, hrv⟩ := hr _ _ k1
  exact ⟨v, hv, v, r, s'.h, s'.nx, _, rfl, rfl, hrv, hK, k1.h.le0, hh.back k1.h, k1.A, hb.trans k2⟩
 rcases he with rfl | rfl
 · exact fin
 · exact fin
theorem Sim.cont {E E' : Env} {a : Act} (hs : Sim B D0 E s a) {r : AV} {v : Value} {h' : AHeap} {nx' : Nat} {d : Option Tmp} (hle : E.le E') (hv : VR E' r v) (hh : HR B D0 E' (hget h')) (hA : ∀ id, E'.A id → id < nx') (hdn : ∀ k, d = some k → k < s.n) :
  Sim B D0 E' ⟨putA s.t d r, h', nx', s.n⟩ (a.put d v) := by
 refine ⟨by rw [put_size]; exact hs.size, by rw [put_defers]; exact hs.df.up hle.D hle.blk, fun i => ?_, hh, hA⟩
 cases d with
 | none => exact (hs.t i).up hle
 | some d =>
  show VR E' (tget ((d, r) :: s.t) i) _
  rw [tget_cons, put_at _ d i _ (by rw [hs.size]; exact hdn d rfl)]
  by_cases e : d = i
  · rw [if_pos e, if_pos e]; exact hv
  · rw [if_neg e, if_neg e]; exact (hs.t i).up hle
theorem AL_inline {ops : Array Oper} {rest : List Oper} (f : FuncId) {fn : Func} {c : Code} (args : List AV) (n : Nat) (hg : o.guard = none) (hdn : dstB o s.n = true)
  (hrun : ∀ (E : Env) (a : Act), (∀ x, VR E (s.ev x) (a.eval x)) → ∃ vs : Array Value, (∀ w, (execOp a.eval o).run Tryz.prog w = .ok (.enter f vs) w) ∧ vs.size = args.length ∧ ∀ i, i < args.length → VR E (args.getD i .top) (vs.getD i undef))
  (hf : Tryz.prog.funcs[f]? = some fn) (hc : fn.body = some c) (hn : fn.ntmps = n) (hle : Nat.ble args.length n = true)
  (hbody : ∀ D1, (∀ id, D1.A id → id < s.nx) → AC Tryz.prog none B D1 c ⟨args0 args 0, s.h, s.nx, n⟩ (Ends Tryz.prog B D1 fn fun r h' nx' => AL Tryz.prog R B D0 ops rest ⟨putA s.t o.dst r, h', nx', s.n⟩ Q)) : AL Tryz.prog R B D0 ops (o :: rest) s Q := by
 intro E a w0 hs hb
 refine wpListIn_plain hg fun K hK => wpIn_ofD (dstB_nd hdn) ?_
 obtain ⟨vs, h1, h2, h3⟩ := hrun E a hs.ev
 unfold Oper.wp
 rw [h1]
 show Calls Tryz.prog f vs E.w _
 refine (inline_calls hf hc n hn (by simpa using hle) hbody hs.h hs.A h2 h3).mono ?_
 rintro e w' ⟨v, r, h', nx', E', rfl, rfl, hr, hk, k1, k2, k3, k4⟩
 exact hK _ _ (hk E' _ w0 (hs.cont k1 hr k2 k3 (dstB_of hdn)) (hb.trans k4))
theorem run_inl (f : FuncId) (xs : Array Operand) (ts : Array TypeId) (ho : o.op = .call { callee := .value (.func f), args := xs, argTypes := ts }) (hcall : ∀ (vs : Array Value) w, (callFunc f vs).run P w = .ok (.enter f vs) w) (args : List AV) (hargs : xs.toList.map s.ev = args) (E : Env) (a : Act) (hv : ∀ x, VR E (s.ev x) (a.eval x)) :
  ∃ vs : Array Value, (∀ w, (execOp a.eval o).run P w = .ok (.enter f vs) w) ∧ vs.size = args.length ∧ ∀ i, i < args.length → VR E (args.getD i .top) (vs.getD i undef) := by
 subst hargs
 refine ⟨xs.map a.eval, fun w => by simp [execOp, ho, resolve, Deferred.ofValue, Act.eval, invoke, hcall], by simp, fun i hi => ?_⟩
 have hi2 : i < xs.size := by simpa using hi
 have e1 : (xs.toList.map s.ev).getD i .top = s.ev xs[i] := by simp [List.getD_eq_getElem?_getD, hi2]
 have e2 : (xs.map a.eval).getD i undef = a.eval xs[i] := by simp [hi2]
 rw [e1, e2]
 exact hv _
theorem run_inlV (x : Operand) (f : FuncId) (xs : Array Operand) (ts : Array TypeId) (ho : o.op = .call { callee := .value x, args := xs, argTypes := ts }) (caps : List AV) (hx : s.ev x = .fn f caps) (hcall : ∀ (vs : Array Value) w, (callFunc f vs).run P w = .ok (.enter f vs) w) (args : List AV) (hargs : xs.toList.map s.ev ++ caps = args) (E : Env) (a : Act) (hv : ∀ x, VR E (s.ev x) (a.eval x)) :
  ∃ vs : Array Value, (∀ w, (execOp a.eval o).run P w = .ok (.enter f vs) w) ∧ vs.size = args.length ∧ ∀ i, i < args.length → VR E (args.getD i .top) (vs.getD i undef) := by
 subst hargs
 have h := hv x
 rw [hx] at h
 generalize hz : a.eval x = z at h
 cases h with
 | fn _ _ _ vs hn hr =>
  refine ⟨xs.map a.eval ++ vs, fun w => by simp [execOp, ho, resolve, Deferred.ofValue, hz, invoke, hcall], by simp [hn], fun i hi => ?_⟩
  by_cases hi1 : i < xs.size
  ·
   have e1 : (xs.toList.map s.ev ++ caps).getD i .top = s.ev xs[i] := by simp [List.getD_eq_getElem?_getD, List.getElem?_append, hi1]
   have e2 : (xs.map a.eval ++ vs).getD i undef = a.eval xs[i] := by simp [Array.getD_eq_getD_getElem?, Array.getElem?_append, hi1]
   rw [e1, e2]
   exact hv _
  ·
   have hi3 : i - xs.size < caps.length := by simp at hi; omega
   have e1 : (xs.toList.map s.ev ++ caps).getD i .top = caps.getD (i - xs.size) .top := by simp [List.getD_eq_getElem?_getD, List.getElem?_append, hi1]
   have e2 : (xs.map a.eval ++ vs).getD i undef = vs.getD (i - xs.size) undef := by simp [Array.getD_eq_getD_getElem?, Array.getElem?_append, hi1]
   rw [e1, e2]
   exact hr _ hi3
end Go.Proofs.YtkcnbaeoahoglaaGreat
namespace Go.Proofs.YtkcnbaeoahoglaaGreat
open Go.RowKit
variable {P : Program} {R : Option Nat} {B : Nat} {D0 : Env} {o : Oper} {ev : Operand → AV} {pre : Nat → Option ABlk} {s : St} {Q : Exit → St → Prop}
theorem AL_know {ops : Array Oper} {l : List Oper} {s' : St} (hw : ∀ E a, Sim B D0 E s a → ∃ E', E'.w = E.w ∧ Sim B D0 E' s' a) (h : AL P R B D0 ops l s' Q) : AL P R B D0 ops l s Q := by
 intro E a w0 hs hb
 obtain ⟨E', he, hs'⟩ := hw E a hs
 have := h E' a w0 hs' (by rw [he]; exact hb)
 rw [he] at this
 exact this
theorem known_sim (d : Nat) (b v : Bool) (hb : b = v) (hd : tget s.t d = .bool b) (E : Env) (a : Act) (h : Sim B D0 E s a) : ∃ E', E'.w = E.w ∧ Sim B D0 E' ⟨(d, .bool v) :: s.t, s.h, s.nx, s.n⟩ a := by
 subst hb
 refine ⟨E, rfl, h.size, h.df, fun i => ?_, h.h, h.A⟩
 show VR E (tget ((d, .bool b) :: s.t) i) _
 rw [tget_cons]
 by_cases e : d = i
 · subst e; rw [if_pos rfl, ← hd]; exact h.t d
 · rw [if_neg e]; exact h.t i
theorem AC_known {c : Code} (d : Nat) (b v : Bool) (hb : b = v) (hd : tget s.t d = .bool b) (h : AC P R B D0 c ⟨(d, .bool v) :: s.t, s.h, s.nx, s.n⟩ Q) : AC P R B D0 c s Q := AC_know (fun E a hs => known_sim d b v hb hd E a hs) h
theorem AL_known {ops : Array Oper} {l : List Oper} (d : Nat) (b v : Bool) (hb : b = v) (hd : tget s.t d = .bool b) (h : AL P R B D0 ops l ⟨(d, .bool v) :: s.t, s.h, s.nx, s.n⟩ Q) : AL P R B D0 ops l s Q := AL_know (fun E a hs => known_sim d b v hb hd E a hs) h
theorem bool_split {G : Prop} (b : Bool) (h1 : b = true → G) (h2 : b = false → G) : G := by cases b; exact h2 rfl; exact h1 rfl
theorem run_eqnil {t el : TypeId} (hu : P.underlying t = some (.slice el)) (A : Option Addr) (n c : Nat) (w : World) : (Op.equal t (.slice A n c) (.slice none 0 0)).run P w = .ok A.isNone w := by
 unfold Op.equal
 rw [show Op.maxDepth = 9999 + 1 from rfl]
 unfold Op.equalIn
 cases A <;> simp [run_underlying hu]
theorem run_binnil {t el : TypeId} (hu : P.underlying t = some (.slice el)) (A : Option Addr) (n c : Nat) (w : World) : (binOp .eql t (.slice A n c) (.slice none 0 0)).run P w = .ok (.bool A.isNone) w := by
 show (do pure (Value.bool (← Op.equal t (.slice A n c) (.slice none 0 0))) : Sem Value).run P w = _
 simp [run_eqnil hu]
theorem run_exnil {t t' el : TypeId} {x : Operand} {a : Act} (ho : o.op = .binOp .eql t x (.const (.slice none 0 0)) t') (hu : P.underlying t = some (.slice el)) {A : Option Addr} {n c : Nat} (hz : a.eval x = .slice A n c) (w : World) : (execOp a.eval o).run P w = .ok (.value (.bool A.isNone)) w := by
 have h0 : execOp a.eval o = (do eqGuard .eql t x (.const (.slice none 0 0)) (.slice A n c) (.slice none 0 0); pure (.value (← binOp .eql t (.slice A n c) (.slice none 0 0))) : Sem Next) := by
  unfold execOp
  rw [ho]
  simp only [hz]
  rfl
 have h1 : (eqGuard .eql t x (.const (.slice none 0 0)) (.slice A n c) (.slice none 0 0)).run P w = .ok () w := rfl
 rw [h0]
 simp [Sem.run_bind, h1, run_binnil hu]
theorem opS_eqnil (t t' : TypeId) (x : Operand) (ho : o.op = .binOp .eql t x (.const (.slice none 0 0)) t') {el : TypeId} (hu : P.underlying t = some (.slice el)) (e n : Nat) (f : Nat → AV) (hx : ev x = .sl e n f) (hn : 0 < n) : OpS P B D0 o ev pre (.bool false) .none := by
 refine opS_val (.inl rfl) fun E a c _ _ hv => ⟨.bool false, ?_, .lit _ _⟩
 have h := hv x (by simp [ho, Op.operands])
 rw [hx] at h
 generalize hz : a.eval x = z at h
 cases h with
 | sl0 => omega
 | sl _ _ _ _ b q c' us hn hD hc hr => exact run_exnil ho hu hz _
theorem opS_eqnil0 (t t' : TypeId) (x : Operand) (ho : o.op = .binOp .eql t x (.const (.slice none 0 0)) t') {el : TypeId} (hu : P.underlying t = some (.slice el)) (hx : ev x = .lit (.slice none 0 0)) : OpS P B D0 o ev pre (.bool true) .none := by
 refine opS_val (.inl rfl) fun E a c _ _ hv => ⟨.bool true, ?_, .lit _ _⟩
 have h := hv x (by simp [ho, Op.operands])
 rw [hx] at h
 exact run_exnil ho hu h.lit_inv _
theorem opS_max (x y : Operand) (ts : Array TypeId) (ho : o.op = .call { callee := .builtin .max, args := #[x, y], argTypes := ts }) (a b : Int) (hx : ev x = .int a) (hy : ev y = .int b) : OpS P B D0 o ev pre (.int (max a b)) .none := by
 refine opS_val (.inl rfl) fun E ac c _ _ hv => ⟨.int .i64 (max a b), ?_, .lit _ _⟩
 have h1 := hv x (by simp [ho, Op.operands, Call.operands])
 have h2 := hv y (by simp [ho, Op.operands, Call.operands])
 rw [hx] at h1
 rw [hy] at h2
 have h1 := h1.lit_inv
 have h2 := h2.lit_inv
 have h3 : (Builtin.max2 (.int .i64 a) (.int .i64 b)).run P E.w = .ok (.int .i64 (max a b)) E.w := by
  unfold Builtin.max2
  rw [Sem.run_pure]
  congr 2
  by_cases hab : a < b <;> by_cases hba : b < a <;> simp [hab, hba] <;> omega
 simp [execOp, ho, resolve, h1, h2, invoke, builtin, Builtin.max_, h3]
theorem flatH_nil : flatH [] := trivial
theorem flatH_box {i : Nat} {t : TypeId} {cs : List AV} {h : AHeap} (k : flatH h) : flatH ((i, .box t cs) :: h) := k
theorem flatH_vec {i : Nat} {t : TypeId} {e n : Nat} {f : Nat → AV} {h : AHeap} (hf : ∀ i, i < n → ∀ j, j < e → ((f i).cell j).flat = true) (k : flatH h) : flatH ((i, .vec t e n f) :: h) := ⟨hf, k⟩
theorem AC_norm {c : Code} (keep : List Nat) (s' : St) (hs' : (⟨keep.map fun t => (t, tget s.t t), s.h, s.nx, s.n⟩ : St) = s') (h : AC P R B D0 c s' Q) : AC P R B D0 c s Q := AC_know (fun E a hs => ⟨E, rfl, by
 rw [← hs']
 refine ⟨hs.size, hs.df, fun i => ?_, hs.h, hs.A⟩
 rcases tget_map (fun t => tget s.t t) keep i with e | e
 ·
  show VR E (tget (keep.map fun t => (t, tget s.t t)) i) _
  rw [e]; exact hs.t i
 ·
  show VR E (tget (keep.map fun t => (t, tget s.t t)) i) _
  rw [e]; exact .top _ _⟩) h
theorem opS_len_slc (x : Operand) (t : TypeId) (ts : Array TypeId) (ho : o.op = .call { callee := .builtin .len, args := #[x], argTypes := ts }) (ht : ts[0]? = some t) {el : TypeId} (hu : P.underlying t = some (.slice el)) (e n : Nat) (f : Nat → AV) (hx : ev x = .slc e n f) : OpS P B D0 o ev pre (.lit (.int .i64 (n : Int))) .none := by
 refine opS_val (.inl rfl) fun E a c _ _ hv => ?_
 have h := hv x (by simp [ho, Op.operands, Call.operands])
 rw [hx] at h
 generalize hy : a.eval x = y at h
 cases h with
 | slc _ _ _ _ A cp hnc _ =>
  refine ⟨_, ?_, .lit _ _⟩
  simp [execOp, ho, resolve, invoke, builtin, hy, Builtin.len_, ht, run_underlying hu, goInt]
theorem opS_slice_hi (T : TypeId) (x y : Operand) (ho : o.op = .slice T x none (some y) none) {el : TypeId} (hu : P.underlying T = some (.slice el)) (e n : Nat) (hsz : ∀ w, (sizeOf el).run P w = .ok e w) (f : Nat → AV) (hx : ev x = .slc e n f) (h : Nat) (hh : ((some y : Option Operand) = none ∧ h = n) ∨ ∃ y' k, (some y : Option Operand) = some y' ∧ ev y' = .int k ∧ k = (h : Int)) (h2 : h ≤ n) :
  OpS P B D0 o ev pre (.sl e h f) .none := by
 have := opS_slice_sl T x none (some y) ho hu e n hsz f hx 0 h (.inl ⟨rfl, rfl⟩) hh (Nat.zero_le _) h2 (B := B) (D0 := D0) (pre := pre)
 rw [Nat.sub_zero] at this
 have e1 : (fun i => f (0 + i)) = f := funext fun i => by rw [Nat.zero_add]
 rw [e1] at this
 exact this
noncomputable def bP (p : Prop) : Bool := @decide p (Classical.propDecidable p)
theorem bP_true {p : Prop} (h : p) : bP p = true := by unfold bP; exact @decide_eq_true p (Classical.propDecidable p) h
theorem bP_false {p : Prop} (h : ¬ p) : bP p = false := by unfold bP; exact @decide_eq_false p (Classical.propDecidable p) h
theorem bP_of {p : Prop} (h : bP p = true) : p := by unfold bP at h; exact @of_decide_eq_true p (Classical.propDecidable p) h
theorem bP_not {p : Prop} (h : bP p = false) : ¬ p := by unfold bP at h; exact @of_decide_eq_false p (Classical.propDecidable p) h
theorem bP_congr {p q : Prop} (h : p ↔ q) : bP p = bP q := by rw [propext h]
def ResVI (P : Program) (B : Nat) (D0 : Env) (s : St) (rv : ResultVar) (x : AV) : Prop := ∀ E a, Sim B D0 E s a → ∃ v, (resSem rv a.tmps).run P E.w = .ok v E.w ∧ VR E x v
theorem resVI_tmp {t : Tmp} {x : AV} (h : tget s.t t = x) : ResVI P B D0 s (.tmp t) x := fun E a hs => ⟨_, rfl, by rw [← h]; exact hs.t t⟩
theorem ResI.castI {fn : Func} {r0 r : AV} (h : ResI P B D0 fn s r0) (e : r0 = r) : ResI P B D0 fn s r := e ▸ h
theorem resI_none {fn : Func} (hr : fn.results = #[]) : ResI P B D0 fn s (.lit (.tuple #[])) := fun E a hs => ⟨_, results_none hr _ _ _, .lit _ _⟩
theorem resI1 {fn : Func} {rv : ResultVar} {x : AV} (hr : fn.results = #[rv]) (h : ResVI P B D0 s rv x) : ResI P B D0 fn s x := fun E a hs => by
 obtain ⟨v, h1, h2⟩ := h E a hs
 exact ⟨v, by simp [results_eq, hr, h1], h2⟩
theorem resI3 {fn : Func} {r1 r2 r3 : ResultVar} {x y z : AV} (hr : fn.results = #[r1, r2, r3]) (h1 : ResVI P B D0 s r1 x) (h2 : ResVI P B D0 s r2 y) (h3 : ResVI P B D0 s r3 z) : ResI P B D0 fn s (mkTup [x, y, z]) := fun E a hs => by
 obtain ⟨v1, e1, f1⟩ := h1 E a hs
 obtain ⟨v2, e2, f2⟩ := h2 E a hs
 obtain ⟨v3, e3, f3⟩ := h3 E a hs
 refine ⟨.tuple #[v1, v2, v3], by simp [results_eq, hr, e1, e2, e3], VR.tupl [x, y, z] _ rfl (fun i hi => ?_) _ rfl⟩
 match i with
 | 0 => exact f1
 | 1 => exact f2
 | 2 => exact f3
 | i + 3 => simp at hi; omega
end Go.Proofs.YtkcnbaeoahoglaaGreat
namespace Go.Proofs.YtkcnbaeoahoglaaGreat
open Go.RowKit
variable {P : Program} {R : Option Nat} {B : Nat} {D0 : Env} {o : Oper} {ev : Operand → AV} {pre : Nat → Option ABlk} {s : St} {Q : Exit → St → Prop}
theorem qop {ops : Array Oper} {rest : List Oper} (V : AV) (f : Eff) {V0 : AV} {f0 : Eff} (h : OpS P B D0 o s.ev (hget s.h) V0 f0) (hk : AL P R B D0 ops rest ⟨putA s.t o.dst V, f.ap s.h, f.nx s.nx, s.n⟩ Q) (hg : o.guard = none := by rfl) (hlow : f.low s.nx = true := by kernel_rfl) (hdn : dstB o s.n = true := by kernel_rfl) (hV : V0 = V := by kernel_rfl) (hf : f0 = f := by kernel_rfl) : AL P R B D0 ops (o :: rest) s Q := AL_op V f hg hlow hdn (OpS.cast h hV hf) hk
theorem qopn {ops : Array Oper} {rest : List Oper} (V : AV) {V0 : AV} {f0 : Eff} (h : OpS P B D0 o s.ev (hget s.h) V0 f0) (hk : AL P R B D0 ops rest ⟨putA s.t o.dst V, s.h, s.nx, s.n⟩ Q) (hg : o.guard = none := by rfl) (hdn : dstB o s.n = true := by kernel_rfl) (hV : V0 = V := by kernel_rfl) (hf : f0 = .none := by kernel_rfl) : AL P R B D0 ops (o :: rest) s Q := AL_op V .none hg rfl hdn (OpS.cast h hV hf) hk
theorem qopg {ops : Array Oper} {rest : List Oper} (V : AV) (f : Eff) {V0 : AV} {f0 : Eff} {j d : Nat} {b : Bool} (h : OpS P B D0 o s.ev (hget s.h) V0 f0) (hk : AL P R B D0 ops rest ⟨putA s.t o.dst V, f.ap s.h, f.nx s.nx, s.n⟩ Q) (hg : o.guard = some (j, b) := by rfl) (hj : (ops[j]?).bind (·.dst) = some d := by rfl) (hv : tget s.t d = .bool b := by kernel_rfl) (hlow : f.low s.nx = true := by kernel_rfl) (hdn : dstB o s.n = true := by kernel_rfl) (hV : V0 = V := by kernel_rfl) (hf : f0 = f := by kernel_rfl) : AL P R B D0 ops (o :: rest) s Q := AL_run V f hg hj hv hlow hdn (OpS.cast h hV hf) hk
theorem qcast {V V0 : AV} {f f0 : Eff} (h : OpS P B D0 o ev pre V0 f0) (hV : V0 = V := by kernel_rfl) (hf : f0 = f := by kernel_rfl) : OpS P B D0 o ev pre V f := h.cast hV hf
theorem qend {ops : Array Oper} {y : Code} (keep : List Nat) (h : AC P R B D0 y ⟨keep.map fun t => (t, tget s.t t), s.h, s.nx, s.n⟩ Q) : AL P R B D0 ops [] s (Thn (fun s1 => AC P R B D0 y s1 Q) Q) := AL_end_seq keep _ rfl h
theorem qend1 {ops : Array Oper} (keep : List Nat) (h : Q .normal ⟨keep.map fun t => (t, tget s.t t), s.h, s.nx, s.n⟩) : AL P R B D0 ops [] s Q := AL_end keep _ rfl h
theorem qlit {v v' : Value} (hv : v = v') (us : Operand → Value) (hx : (o.op.operands.toList.all fun x => (ev x).isLit) = true := by kernel_rfl) (hu : us = fun x => (ev x).val := by rfl) (hs : noSel o = true := by kernel_rfl) (hrun : ∀ w, (execOp us o).run P w = .ok (.value v) w := by intro w; kernel_rfl) : OpS P B D0 o ev pre (.lit v') .none := opS_lit' us hx hu hs hrun hv
theorem qCfalse {c : Operand} {x : Code} {y : Code} {b : Bool} (h : AC P R B D0 y s Q) (hc : s.ev c = .bool b := by kernel_rfl) (hb : b = false := by rfl) : AC P R B D0 (.cond c x y) s Q := AC_false hc hb h
theorem qCfreezeB {c : Code} (id : Nat) (t : TypeId) (cs : List AV) (s' : St) (h : AC P R B D0 c s' Q) (hc : hget s.h id = some (.box t cs) := by kernel_rfl) (hs' : (⟨mapT (frzB id cs) s.t, (hdel s.h id).map fun p => (p.1, p.2.mapB (frzB id cs)), s.nx, s.n⟩ : St) = s' := by rfl) (hf : cs.all AV.flat = true := by kernel_rfl) : AC P R B D0 c s Q := AC_freezeB id t cs s' hc hs' hf h
theorem qCnorm {c : Code} (keep : List Nat) (s' : St) (h : AC P R B D0 c s' Q) (hs' : (⟨keep.map fun t => (t, tget s.t t), s.h, s.nx, s.n⟩ : St) = s' := by kernel_rfl) : AC P R B D0 c s Q := AC_norm keep s' hs' h
theorem qCren {c : Code} (ρ : List (Nat × Nat)) (nx' : Nat) (k0 : Nat) (hA0 : ∀ id, D0.A id → id < k0) (s' : St) (hfl : flatH s.h) (h : AC P R B D0 c s' Q) (hs' : (⟨mapT (renV ρ) s.t, renH ρ s.h, nx', s.n⟩ : St) = s' := by rfl) (hd : distN (ρ.map (·.2)) = true := by kernel_rfl) (hd1 : distN (ρ.map (·.1)) = true := by kernel_rfl) (hl : (ρ.all fun p => (hget s.h p.1).isSome && Nat.blt p.2 nx') = true := by kernel_rfl) (hk0 : (Nat.ble k0 nx' && ρ.all fun p => Nat.beq p.1 p.2 || Nat.ble k0 p.2) = true := by kernel_rfl) : AC P R B D0 c s Q := AC_ren ρ nx' k0 hA0 s' hs' hd hd1 hl hk0 hfl h
theorem qCtrue {c : Operand} {x : Code} {y : Code} {b : Bool} (h : AC P R B D0 x s Q) (hc : s.ev c = .bool b := by kernel_rfl) (hb : b = true := by rfl) : AC P R B D0 (.cond c x y) s Q := AC_true hc hb h
theorem qLknown {ops : Array Oper} {l : List Oper} (d : Nat) (b : Bool) (v : Bool) (hb : b = v) (h : AL P R B D0 ops l ⟨(d, .bool v) :: s.t, s.h, s.nx, s.n⟩ Q) (hd : tget s.t d = .bool b := by kernel_rfl) : AL P R B D0 ops l s Q := AL_known d b v hb hd h
theorem qbuildSlice (T : TypeId) (len : Nat) (ps : Array (Nat × Operand)) {el : TypeId} (hu : P.underlying T = some (.slice el)) (e : Nat) (hsz : ∀ w, (sizeOf el).run P w = .ok e w) (z : Value) (hz : ∀ w, (zeroValue el).run P w = .ok z w) (id : Nat) (out : List AV) (f : Nat → AV) (ho : o.op = .buildSlice T len ps := by kernel_rfl) (hze : z.cells.size = e := by kernel_rfl) (he : 0 < e := by exact Nat.le_of_ble_eq_true (by kernel_rfl)) (hlen : 0 < len := by exact Nat.le_of_ble_eq_true (by kernel_rfl)) (hbig : len * e ≤ 16777216 := by exact Nat.le_of_ble_eq_true (by kernel_rfl)) (hf : fillA (fun i => some (i * e, e)) ((List.range (len * e)).map fun i => .lit (z.cells.toList.getD (i % e) undef)) (ps.toList.map fun p => (p.1, ev p.2)) = some out := by kernel_rfl) (hfo : (List.range (len * e)).map (fun q => (f (q / e)).cell (q % e)) = out := by kernel_rfl) : OpS P B D0 o ev pre (.osl id e len) (.new id (.vec el e len f)) := opS_buildSlice T len ps ho hu e hsz z hz hze he hlen hbig id out hf f hfo
theorem qbuild_array (t : TypeId) (ps : Array (Nat × Operand)) (z : Value) (hz : ∀ w, (zeroValue t).run P w = .ok z w) {n : Nat} {e : TypeId} (hu : P.underlying t = some (.array n e)) (size : Nat) (hsz : ∀ w, (sizeOf e).run P w = .ok size w) (out : List AV) (ho : o.op = .build t ps := by kernel_rfl) (hf : fillA (fun i => some (i * size, size)) (z.cells.toList.map .lit) (ps.toList.map fun p => (p.1, ev p.2)) = some out := by kernel_rfl) : OpS P B D0 o ev pre (mkAgg out) .none := opS_build_array t ps ho z hz hu size hsz out hf
theorem qbuild_struct (t : TypeId) (ps : Array (Nat × Operand)) (z : Value) (hz : ∀ w, (zeroValue t).run P w = .ok z w) {fields : Array Field} (hu : P.underlying t = some (.struct fields)) (pl : Array (Nat × Nat)) (out : List AV) (ho : o.op = .build t ps := by kernel_rfl) (hpl : ∀ w, Sem.run P (Array.mapM (fun f => Prod.mk f.offset <$> sizeOf f.type) fields) w = .ok pl w := by intro w; kernel_rfl) (hf : fillA (pl[·]?) (z.cells.toList.map .lit) (ps.toList.map fun p => (p.1, ev p.2)) = some out := by kernel_rfl) : OpS P B D0 o ev pre (mkAgg out) .none := opS_build_struct t ps ho z hz hu pl hpl out hf
theorem qcall (f : FuncId) (xs : Array Operand) (ts : Array TypeId) (args : List AV) (r : AV) (hf : AF P f args r) (ho : o.op = .call { callee := .value (.func f), args := xs, argTypes := ts } := by kernel_rfl) (hcall : ∀ (vs : Array Value) w, (callFunc f vs).run P w = .ok (.enter f vs) w := by intro _ _; kernel_rfl) (hargs : xs.toList.map ev = args := by kernel_rfl) (hfree : args.all AV.free = true := by kernel_rfl) : OpS P B D0 o ev pre r .none := opS_call f xs ts ho hcall args hargs hfree r hf
theorem qcallV (x : Operand) (f : FuncId) (xs : Array Operand) (ts : Array TypeId) (caps : List AV) (args : List AV) (r : AV) (hf : AF P f args r) (ho : o.op = .call { callee := .value x, args := xs, argTypes := ts } := by kernel_rfl) (hx : ev x = .fn f caps := by kernel_rfl) (hcall : ∀ (vs : Array Value) w, (callFunc f vs).run P w = .ok (.enter f vs) w := by intro _ _; kernel_rfl) (hargs : xs.toList.map ev ++ caps = args := by kernel_rfl) (hfree : args.all AV.free = true := by kernel_rfl) : OpS P B D0 o ev pre r .none := opS_callV x f xs ts ho caps hx hcall args hargs hfree r hf
theorem qeqnil (t : TypeId) (t' : TypeId) (x : Operand) {el : TypeId} (hu : P.underlying t = some (.slice el)) (e : Nat) (n : Nat) (f : Nat → AV) (ho : o.op = .binOp .eql t x (.const (.slice none 0 0)) t' := by kernel_rfl) (hx : ev x = .sl e n f := by kernel_rfl) (hn : 0 < n := by omega) : OpS P B D0 o ev pre (.bool false) .none := opS_eqnil t t' x ho hu e n f hx hn
theorem qeqnil0 (t : TypeId) (t' : TypeId) (x : Operand) {el : TypeId} (hu : P.underlying t = some (.slice el)) (ho : o.op = .binOp .eql t x (.const (.slice none 0 0)) t' := by kernel_rfl) (hx : ev x = .lit (.slice none 0 0) := by kernel_rfl) : OpS P B D0 o ev pre (.bool true) .none := opS_eqnil0 t t' x ho hu hx
theorem qfunc (g : FuncId) (xs : Array Operand) (l : List AV) (ho : o.op = .makeFunc (.func g) #[] xs := by kernel_rfl) (hl : xs.toList.map ev = l := by kernel_rfl) : OpS P B D0 o ev pre (.fn g l) .none := opS_func g xs ho l hl
theorem qindex_agg (T : TypeId) (x : Operand) (y : Operand) {el : TypeId} {len : Nat} (hu : P.underlying T = some (.array len el)) (e : Nat) (hsz : ∀ w, (sizeOf el).run P w = .ok e w) (k : Nat) (b : Bool) (hb : ∀ w, (isAgg el).run P w = .ok b w) (l : List AV) (j : Int) (V : AV) (ho : o.op = .index T x y := by kernel_rfl) (hx : ev x = .agg l := by kernel_rfl) (hy : ev y = .int j := by kernel_rfl) (hj : j = (k : Int) := by omega) (hk : k < len := by decide) (hl : k * e + e ≤ l.length := by exact Nat.le_of_ble_eq_true (by kernel_rfl)) (h1 : b = false → e = 1 := by decide) (hV : V = if b then mkAgg ((l.drop (k * e)).take e) else l.getD (k * e) .top := by kernel_rfl) :
    OpS P B D0 o ev pre V .none := opS_index_agg T x y ho hu e hsz k b hb l j hx hy hj hk hl h1 V hV
theorem qindex_ptr (T : TypeId) (x : Operand) (y : Operand) {el : TypeId} {len : Nat} (hu : P.underlying T = some (.array len el)) (id : Nat) (off : Nat) (e : Nat) (k : Nat) (j : Int) (hsz : ∀ w, (sizeOf el).run P w = .ok e w) (ho : o.op = .indexAddr T x y := by kernel_rfl) (hx : ev x = .ptr id off := by kernel_rfl) (hy : ev y = .int j := by kernel_rfl) (h1 : 1 < len := by decide) (hj : j = (k : Int) := by omega) (hk : k < len := by decide) :
    OpS P B D0 o ev pre (.ptr id (off + k * e)) .none := opS_index_ptr T x y ho hu id off e k j hx hy hsz h1 hj hk
theorem qindex_sl (T : TypeId) (x : Operand) (y : Operand) {el : TypeId} (hu : P.underlying T = some (.slice el)) (e : Nat) (n : Nat) (k : Nat) (f : Nat → AV) (j : Int) (hsz : ∀ w, (sizeOf el).run P w = .ok e w) (ho : o.op = .indexAddr T x y := by kernel_rfl) (hx : ev x = .sl e n f := by kernel_rfl) (hy : ev y = .int j := by kernel_rfl) (hj : j = (k : Int) := by omega) (hk : k < n := by omega) :
    OpS P B D0 o ev pre (.elt e fun q => (f k).cell q) .none := opS_index_sl T x y ho hu e n k f j hx hy hsz hj hk
theorem qlen (x : Operand) (t : TypeId) (ts : Array TypeId) {e : TypeId} (hu : P.underlying t = some (.slice e)) (n : Nat) (hx : (∃ e f, ev x = .sl e n f) ∨ ∃ id e, ev x = .osl id e n) (ho : o.op = .call { callee := .builtin .len, args := #[x], argTypes := ts } := by kernel_rfl) (ht : ts[0]? = some t := by kernel_rfl) : OpS P B D0 o ev pre (.lit (.int .i64 (n : Int))) .none := opS_len x t ts ho ht hu n hx
theorem qlen_slc (x : Operand) (t : TypeId) (ts : Array TypeId) {el : TypeId} (hu : P.underlying t = some (.slice el)) (e : Nat) (n : Nat) (f : Nat → AV) (ho : o.op = .call { callee := .builtin .len, args := #[x], argTypes := ts } := by kernel_rfl) (ht : ts[0]? = some t := by kernel_rfl) (hx : ev x = .slc e n f := by kernel_rfl) : OpS P B D0 o ev pre (.lit (.int .i64 (n : Int))) .none := opS_len_slc x t ts ho ht hu e n f hx
theorem qslice_hi (T : TypeId) (x : Operand) (y : Operand) {el : TypeId} (hu : P.underlying T = some (.slice el)) (e : Nat) (n : Nat) (hsz : ∀ w, (sizeOf el).run P w = .ok e w) (f : Nat → AV) (h : Nat) (hh : ((some y : Option Operand) = none ∧ h = n) ∨ ∃ y' k, (some y : Option Operand) = some y' ∧ ev y' = .int k ∧ k = (h : Int)) (ho : o.op = .slice T x none (some y) none := by kernel_rfl) (hx : ev x = .slc e n f := by kernel_rfl) (h2 : h ≤ n := by omega) :
    OpS P B D0 o ev pre (.sl e h f) .none := opS_slice_hi T x y ho hu e n hsz f hx h hh h2
end Go.Proofs.YtkcnbaeoahoglaaGreat
namespace Go.Proofs.YtkcnbaeoahoglaaGreat
open Go.RowKit
variable {P : Program} {R : Option Nat} {B : Nat} {D0 : Env} {o : Oper} {ev : Operand → AV} {pre : Nat → Option ABlk} {s : St} {Q : Exit → St → Prop}
def tyAgg (P : Program) (T : TypeId) : Option Bool := (P.underlying T).map fun | .struct _ => true | .array _ _ => true | _ => false
def tySize (P : Program) (T : TypeId) : Option Nat := (P.info? T).map (·.size)
def tyZero (P : Program) (T : TypeId) : Option Value := (P.info? T).bind (·.zero)
theorem tyAgg_run {T : TypeId} {b : Bool} (h : tyAgg P T = some b) : ∀ w, (isAgg T).run P w = .ok b w := fun w => by
 unfold tyAgg at h
 cases hu : P.underlying T with
 | none => rw [hu] at h; cases h
 | some d =>
  rw [hu] at h
  unfold isAgg
  rw [Sem.run_bind, run_underlying hu w]
  cases d <;> cases h <;> rfl
theorem tySize_run {T : TypeId} {n : Nat} (h : tySize P T = some n) : ∀ w, (sizeOf T).run P w = .ok n w := fun w => by
 unfold tySize at h
 cases hu : P.info? T with
 | none => rw [hu] at h; cases h
 | some d => rw [hu] at h; cases h; simp [sizeOf, typeInfo, hu]
theorem tyZero_run {T : TypeId} {z : Value} (h : tyZero P T = some z) : ∀ w, (zeroValue T).run P w = .ok z w := fun w => by
 unfold tyZero at h
 cases hu : P.info? T with
 | none => rw [hu] at h; cases h
 | some d => rw [hu] at h; have h : d.zero = some z := h; simp [zeroValue, typeInfo, hu, h]
def fieldOf (P : Program) (T : TypeId) (k : Nat) : Option (Nat × Nat) :=
 match P.underlying T with
 | some (.struct fs) => match fs[k]? with
  | some f => match tySize P f.type with
   | some (n + 1) => some (f.offset, n + 1)
   | _ => none
  | none => none
 | _ => none
theorem fieldOf_spec {T : TypeId} {k d m : Nat} (h : fieldOf P T k = some (d, m)) : ∃ fields f, P.underlying T = some (.struct fields) ∧ fields[k]? = some f ∧ (∀ w, ∃ n, (sizeOf f.type).run P w = .ok (n + 1) w) ∧ f.offset = d := by
 unfold fieldOf at h
 split at h
 ·
  rename_i fs hu
  split at h
  ·
   rename_i f hf
   split at h
   ·
    rename_i n hn
    cases h
    exact ⟨fs, f, hu, hf, fun w => ⟨n, tySize_run hn w⟩, rfl⟩
   · cases h
  · cases h
 · cases h
def evLoadP (P : Program) (T : TypeId) (pre : Nat → Option ABlk) (id off : Nat) : Option (AV × Eff) :=
 match pre id with
 | some (.box _ cs) => match tyAgg P T with
  | some false => bif Nat.blt off cs.length then some (cs.getD off .top, .read id) else none
  | some true => match tySize P T with
   | some n => bif Nat.ble (off + n) cs.length then some (mkAgg ((cs.drop off).take n), .read id) else none
   | none => none
  | none => none
 | _ => none
def evLoadE (P : Program) (T : TypeId) (n : Nat) (g : Nat → AV) : Option (AV × Eff) :=
 match tyAgg P T with
 | some false => match n with
  | _ + 1 => some (g 0, .none)
  | 0 => none
 | some true => match tySize P T with
  | some k => bif Nat.ble k n then some (mkAgg ((List.range k).map g), .none) else none
  | none => none
 | none => none
def evStore (P : Program) (T : TypeId) (pre : Nat → Option ABlk) (id off : Nat) (y : AV) : Option (AV × Eff) :=
 match pre id with
 | some (.box t cs) => match tySize P T with
  | some n => bif y.notTop && Nat.beq y.cells.length n && Nat.ble (off + n) cs.length && y.cells.all AV.one1 then some (.undef, .set id (.box t (putL cs off y.cells))) else none
  | none => none
 | _ => none
def evField (P : Program) (T : TypeId) (k : Nat) (x : AV) : Option (AV × Eff) :=
 match fieldOf P T k with
 | some (d, m) => match x with
  | .ptr id off => some (.ptr id (off + d), .none)
  | .elt n g => bif Nat.ble (d + m) n then some (.elt m fun i => g (d + i), .none) else none
  | _ => none
 | none => none
def evOp (P : Program) (o : Oper) (ev : Operand → AV) (pre : Nat → Option ABlk) (nid : Nat) : Option (AV × Eff) :=
 match o.op with
 | .move x => some (ev x, .none)
 | .assign x => some (ev x, .none)
 | .fieldAddr T x k => evField P T k (ev x)
 | .load T x => match ev x with
  | .ptr id off => evLoadP P T pre id off
  | .elt n g => evLoadE P T n g
  | _ => none
 | .store T x y => match ev x with
  | .ptr id off => evStore P T pre id off (ev y)
  | _ => none
 | .nilCheck x => bif (ev x).isPtr then some (ev x, .none) else none
 | .pick c x y => match ev c with
  | .lit (.bool true) => some (ev x, .none)
  | .lit (.bool false) => some (ev y, .none)
  | _ => none
 | .box T x => bif (ev x).notTop then some (.ptr nid 0, .new nid (.box T (ev x).cells)) else none
 | .extract x k => match ev x with
  | .tup l => bif Nat.blt k l.length then some (l.getD k .top, .none) else none
  | .lit (.tuple a) => match a[k]? with
   | some v => some (.lit v, .none)
   | none => none
  | _ => none
 | .alloc T => match tyZero P T with
  | some z => some (.ptr nid 0, .new nid (.box T (z.cells.toList.map .lit)))
  | none => none
 | _ => none
theorem evField_ok {T : TypeId} {x : Operand} {k : Nat} {V : AV} {f : Eff} (ho : o.op = .fieldAddr T x k) (h : evField P T k (ev x) = some (V, f)) : OpS P B D0 o ev pre V f := by
 unfold evField at h
 split at h
 ·
  rename_i d m hf
  obtain ⟨fields, fl, h1, h2, h3, h4⟩ := fieldOf_spec hf
  split at h
  ·
   rename_i id off hx
   cases h
   exact opS_fieldA_ptr T x k ho h1 h2 h3 d h4 id off hx
  ·
   rename_i n g hx
   cases hb : Nat.ble (d + m) n with
   | false => rw [hb] at h; cases h
   | true => rw [hb] at h; cases h; exact opS_fieldA_elt T x k ho h1 h2 h3 d h4 n m g hx (Nat.le_of_ble_eq_true hb)
  · cases h
 · cases h
theorem evLoadP_ok {T : TypeId} {x : Operand} {id off : Nat} {V : AV} {f : Eff} (ho : o.op = .load T x) (hx : ev x = .ptr id off) (h : evLoadP P T pre id off = some (V, f)) : OpS P B D0 o ev pre V f := by
 unfold evLoadP at h
 split at h
 ·
  rename_i t cs hp
  split at h
  ·
   rename_i ha
   cases hb : Nat.blt off cs.length with
   | false => rw [hb] at h; cases h
   | true => rw [hb] at h; cases h; exact opS_load_box1 T x ho (tyAgg_run ha) id off hx t cs hp (by simpa [Nat.blt_eq] using hb)
  ·
   rename_i ha
   split at h
   ·
    rename_i n hn
    cases hb : Nat.ble (off + n) cs.length with
    | false => rw [hb] at h; cases h
    | true => rw [hb] at h; cases h; exact opS_load_box T x ho (tyAgg_run ha) n (tySize_run hn) id off hx t cs hp (Nat.le_of_ble_eq_true hb)
   · cases h
  · cases h
 · cases h
theorem evLoadE_ok {T : TypeId} {x : Operand} {n : Nat} {g : Nat → AV} {V : AV} {f : Eff} (ho : o.op = .load T x) (hx : ev x = .elt n g) (h : evLoadE P T n g = some (V, f)) : OpS P B D0 o ev pre V f := by
 unfold evLoadE at h
 split at h
 ·
  rename_i ha
  split at h
  · cases h; exact opS_load_elt1 T x ho (tyAgg_run ha) _ g hx
  · cases h
 ·
  rename_i ha
  split at h
  ·
   rename_i k hk
   cases hb : Nat.ble k n with
   | false => rw [hb] at h; cases h
   | true => rw [hb] at h; cases h; exact opS_load_elt T x ho (tyAgg_run ha) k (tySize_run hk) n g hx (Nat.le_of_ble_eq_true hb)
  · cases h
 · cases h
theorem evStore_ok {T : TypeId} {x y : Operand} {id off : Nat} {V : AV} {f : Eff} (ho : o.op = .store T x y) (hx : ev x = .ptr id off) (h : evStore P T pre id off (ev y) = some (V, f)) : OpS P B D0 o ev pre V f := by
 unfold evStore at h
 split at h
 ·
  rename_i t cs hp
  split at h
  ·
   rename_i n hn
   cases hb : (ev y).notTop && Nat.beq (ev y).cells.length n && Nat.ble (off + n) cs.length && (ev y).cells.all AV.one1 with
   | false => rw [hb] at h; cases h
   | true =>
    rw [hb] at h; cases h
    simp only [Bool.and_eq_true] at hb
    obtain ⟨⟨⟨b1, b2⟩, b3⟩, b4⟩ := hb
    exact opS_store_box T x y ho n (tySize_run hn) id off hx t cs _ _ hp rfl b1 (Nat.eq_of_beq_eq_true b2) (Nat.le_of_ble_eq_true b3) b4 rfl
  · cases h
 · cases h
theorem evOp_ok {nid : Nat} {V : AV} {f : Eff} (h : evOp P o ev pre nid = some (V, f)) : OpS P B D0 o ev pre V f := by
 unfold evOp at h
 split at h
 · rename_i x ho; cases h; exact opS_move x (.inl ho)
 · rename_i x ho; cases h; exact opS_move x (.inr ho)
 · rename_i ho; exact evField_ok ho h
 ·
  rename_i ho
  split at h
  · rename_i hx; exact evLoadP_ok ho hx h
  · rename_i hx; exact evLoadE_ok ho hx h
  · cases h
 ·
  rename_i ho
  split at h
  · rename_i hx; exact evStore_ok ho hx h
  · cases h
 ·
  rename_i x ho
  cases hb : (ev x).isPtr with
  | false => rw [hb] at h; cases h
  | true => rw [hb] at h; cases h; exact opS_nilCheck x ho _ rfl hb
 ·
  rename_i c x y ho
  split at h
  · rename_i hc; cases h; exact opS_pick_t c x y ho hc
  · rename_i hc; cases h; exact opS_pick_f c x y ho hc
  · cases h
 ·
  rename_i T x ho
  cases hb : (ev x).notTop with
  | false => rw [hb] at h; cases h
  | true => rw [hb] at h; cases h; exact opS_box T x ho nid hb _ rfl
 ·
  rename_i x k ho
  split at h
  ·
   rename_i l hx
   cases hb : Nat.blt k l.length with
   | false => rw [hb] at h; cases h
   | true => rw [hb] at h; cases h; exact opS_extract x k ho l hx (by simpa [Nat.blt_eq] using hb)
  ·
   rename_i a hx
   split at h
   ·
    rename_i v hv
    cases h
    refine opS_val (.inl rfl) fun E a2 c _ _ hr => ?_
    have h1 := hr x (by simp [ho, Op.operands])
    rw [hx] at h1
    have h2 : a2.eval x = .tuple a := h1.lit_inv
    refine ⟨v, ?_, .lit _ _⟩
    simp [execOp, Instr.extract, ho, h2, hv]
   · cases h
  · cases h
 ·
  rename_i T ho
  split at h
  · rename_i z hz; cases h; exact opS_alloc T ho nid z (tyZero_run hz) _ rfl
  · cases h
 · cases h
def evL (P : Program) (ops : Array Oper) : Nat → List Oper → St → Option St
 | 0, _, s => some s
 | _ + 1, [], _ => none
 | k + 1, o :: l, s => match o.guard with
  | none => match evOp P o s.ev (hget s.h) s.nx with
   | some (V, f) => bif f.low s.nx && dstB o s.n then evL P ops k l ⟨putA s.t o.dst V, f.ap s.h, f.nx s.nx, s.n⟩ else none
   | none => none
  | some (j, b) => match (ops[j]?).bind (·.dst) with
   | some d => match tget s.t d with
    | .lit (.bool b') => match b, b' with
     | true, true | false, false => match evOp P o s.ev (hget s.h) s.nx with
      | some (V, f) => bif f.low s.nx && dstB o s.n then evL P ops k l ⟨putA s.t o.dst V, f.ap s.h, f.nx s.nx, s.n⟩ else none
      | none => none
     | _, _ => bif dstB o s.n then evL P ops k l ⟨putA s.t o.dst .undef, s.h, s.nx, s.n⟩ else none
    | .lit (.tuple a) => match a.toList with
     | [] => bif dstB o s.n then evL P ops k l ⟨putA s.t o.dst .undef, s.h, s.nx, s.n⟩ else none
     | _ => none
    | _ => none
   | none => none
theorem evL_step {ops : Array Oper} {k : Nat} {rest : List Oper} {s s' : St} (ih : ∀ s, evL P ops k rest s = some s' → AL P R B D0 ops (rest.drop k) s' Q → AL P R B D0 ops rest s Q) {r : Option (AV × Eff)}
  (h : (match r with | some (V, f) => bif f.low s.nx && dstB o s.n then evL P ops k rest ⟨putA s.t o.dst V, f.ap s.h, f.nx s.nx, s.n⟩ else none | none => none) = some s') (hk : AL P R B D0 ops (rest.drop k) s' Q)
  (hr : ∀ V f, r = some (V, f) → f.low s.nx = true → dstB o s.n = true → AL P R B D0 ops rest ⟨putA s.t o.dst V, f.ap s.h, f.nx s.nx, s.n⟩ Q → AL P R B D0 ops (o :: rest) s Q) : AL P R B D0 ops (o :: rest) s Q := by
 cases r with
 | none => cases h
 | some x =>
  obtain ⟨V, f⟩ := x
  dsimp only at h
  cases hb : f.low s.nx && dstB o s.n with
  | false => rw [hb] at h; cases h
  | true =>
   rw [hb] at h
   have hb2 := Bool.and_eq_true_iff.1 hb
   exact hr V f rfl hb2.1 hb2.2 (ih _ h hk)
theorem evL_skip {ops : Array Oper} {k : Nat} {rest : List Oper} {s s' : St} (ih : ∀ s, evL P ops k rest s = some s' → AL P R B D0 ops (rest.drop k) s' Q → AL P R B D0 ops rest s Q)
  (h : (bif dstB o s.n then evL P ops k rest ⟨putA s.t o.dst .undef, s.h, s.nx, s.n⟩ else none) = some s') (hk : AL P R B D0 ops (rest.drop k) s' Q)
  (hr : dstB o s.n = true → AL P R B D0 ops rest ⟨putA s.t o.dst .undef, s.h, s.nx, s.n⟩ Q → AL P R B D0 ops (o :: rest) s Q) : AL P R B D0 ops (o :: rest) s Q := by
 cases hb : dstB o s.n with
 | false => rw [hb] at h; cases h
 | true =>
  rw [hb] at h
  exact hr hb (ih _ h hk)
theorem evL_ok {ops : Array Oper} {s' : St} : ∀ (k : Nat) (l : List Oper) (s : St), evL P ops k l s = some s' → AL P R B D0 ops (l.drop k) s' Q → AL P R B D0 ops l s Q
 | 0, l, s, h, hk => by cases h; exact hk
 | k + 1, [], s, h, hk => by cases h
 | k + 1, o :: rest, s, h, hk => by
  have ih : ∀ s, evL P ops k rest s = some s' → AL P R B D0 ops (rest.drop k) s' Q → AL P R B D0 ops rest s Q := fun s => evL_ok k rest s
  have hk : AL P R B D0 ops (rest.drop k) s' Q := hk
  unfold evL at h
  split at h
  ·
   rename_i hg
   exact evL_step ih h hk fun V f hr hl hd hn => AL_op V f hg hl hd (evOp_ok hr) hn
  ·
   rename_i j b hg
   split at h
   ·
    rename_i d hj
    split at h
    ·
     rename_i b' hv
     split at h
     · exact evL_step ih h hk fun V f hr hl hd hn => AL_run V f hg hj hv hl hd (evOp_ok hr) hn
     · exact evL_step ih h hk fun V f hr hl hd hn => AL_run V f hg hj hv hl hd (evOp_ok hr) hn
     ·
      rename_i h1 h2
      refine evL_skip ih h hk fun hd hn => AL_skip hg hj hv ?_ hd hn
      cases b <;> cases b' <;> first | rfl | exact (h1 rfl rfl).elim | exact (h2 rfl rfl).elim
    ·
     rename_i a hv
     split at h
     ·
      rename_i ha
      refine evL_skip ih h hk fun hd hn => AL_skip2 hg hj (hv.trans ?_) hd hn
      have : a = #[] := by cases a; simp_all
      subst this; rfl
     · cases h
    · cases h
   · cases h
theorem evL_n {ops : Array Oper} {s' : St} : ∀ (k : Nat) (l : List Oper) (s : St), evL P ops k l s = some s' → s'.n = s.n
 | 0, l, s, h => by cases h; rfl
 | k + 1, [], s, h => by cases h
 | k + 1, o :: rest, s, h => by
  have ih := fun s => evL_n (ops := ops) (s' := s') k rest s
  have step : ∀ {c : Bool} {x : St}, (bif c then evL P ops k rest x else none) = some s' → s'.n = x.n := fun {c x} h => by
   cases c with
   | false => cases h
   | true => exact ih _ h
  unfold evL at h
  repeat' split at h
  all_goals first | (have g := step h; exact g) | cases h
theorem qrun {ops : Array Oper} {l : List Oper} (k : Nat) (h : AL P R B D0 ops (l.drop k) ⟨((evL P ops k l s).getD s).t, ((evL P ops k l s).getD s).h, ((evL P ops k l s).getD s).nx, s.n⟩ Q) (hs : (evL P ops k l s).isSome = true := by kernel_rfl) : AL P R B D0 ops l s Q := by
 cases he : evL P ops k l s with
 | none => rw [he] at hs; cases hs
 | some s' =>
  rw [he] at h
  refine evL_ok k l s he ?_
  have e : (⟨s'.t, s'.h, s'.nx, s.n⟩ : St) = s' := by rw [← evL_n k l s he]
  exact e ▸ h
def lget : List Oper → Nat → Oper
 | [], _ => default
 | o :: _, 0 => o
 | _ :: l, n + 1 => lget l n
theorem lget_app : ∀ (a : List Oper) (o : Oper) (l : List Oper), lget (a ++ o :: l) a.length = o
 | [], _, _ => rfl
 | _ :: a, o, l => lget_app a o l
abbrev Exs := List (Nat × AV × Eff)
def exGet : Exs → Nat → Option (AV × Eff)
 | [], _ => none
 | (i, x) :: l, j => bif Nat.beq i j then some x else exGet l j
def nxF (F : List Eff) (nx : Nat) : Nat := F.foldl (fun k f => f.nx k) nx
def exAll (P : Program) (B : Nat) (D0 : Env) (l : List Oper) (V : List AV) (F : List Eff) (s : St) : Exs → Prop
 | [] => True
 | (i, v, f) :: r => OpS P B D0 (lget l i) (evD l.toArray V s i) (hget (hfold F s.h i)) v f ∧ exAll P B D0 l V F s r
theorem exAll_get {l : List Oper} {V : List AV} {F : List Eff} : ∀ {ex : Exs}, exAll P B D0 l V F s ex → ∀ {i : Nat} {v : AV} {f : Eff}, exGet ex i = some (v, f) → OpS P B D0 (lget l i) (evD l.toArray V s i) (hget (hfold F s.h i)) v f
 | [], _, _, _, _, h => by cases h
 | (j, v', f') :: r, hx, i, v, f, h => by
  unfold exGet at h
  cases hb : Nat.beq j i with
  | false => rw [hb] at h; exact exAll_get hx.2 h
  | true =>
   rw [hb] at h
   cases h
   have := Nat.eq_of_beq_eq_true hb
   subst this
   exact hx.1
def drVal (P : Program) (ops : Array Oper) (ex : Exs) (s : St) (o : Oper) (V : List AV) (F : List Eff) : Option (AV × Eff) :=
 match exGet ex V.length with
 | some x => some x
 | none => evOp P o (evD ops V s V.length) (hget (hfold F s.h V.length)) (nxF F s.nx)
def drStep (P : Program) (ops : Array Oper) (ex : Exs) (s : St) (o : Oper) (V : List AV) (F : List Eff) : Option (AV × Eff) :=
 match o.guard with
 | none => drVal P ops ex s o V F
 | some (j, w) => match V.getD j .top with
  | .lit (.bool b) => match w, b with
   | true, true | false, false => drVal P ops ex s o V F
   | _, _ => some (.undef, .none)
  | .lit (.tuple a) => match a.toList with
   | [] => some (.undef, .none)
   | _ => none
  | _ => none
def drL (P : Program) (ops : Array Oper) (ex : Exs) (s : St) : List Oper → List AV → List Eff → Option (List AV × List Eff)
 | [], V, F => some (V, F)
 | o :: l, V, F => match drStep P ops ex s o V F with
  | some (v, f) => drL P ops ex s l (V ++ [v]) (F ++ [f])
  | none => none
theorem drL_pre {ops : Array Oper} {ex : Exs} {V' : List AV} {F' : List Eff} : ∀ (l : List Oper) (V : List AV) (F : List Eff), drL P ops ex s l V F = some (V', F') → (∃ V2, V' = V ++ V2) ∧ ∃ F2, F' = F ++ F2
 | [], V, F, h => by cases h; exact ⟨⟨[], by simp⟩, [], by simp⟩
 | o :: l, V, F, h => by
  unfold drL at h
  split at h
  ·
   obtain ⟨⟨V2, h1⟩, F2, h2⟩ := drL_pre l _ _ h
   exact ⟨⟨_, by rw [h1, List.append_assoc]⟩, _, by rw [h2, List.append_assoc]⟩
  · cases h
theorem getD_pre {α : Type} (a b : List α) (d : α) {i : Nat} (h : i < a.length) : (a ++ b).getD i d = a.getD i d := by
  simp [List.getD_eq_getElem?_getD, List.getElem?_append_left h]
theorem evD_pre {ops : Array Oper} (a b : List AV) : evD ops (a ++ b) s a.length = evD ops a s a.length := funext fun x => by
 cases x with
 | tmp t =>
  simp only [evD]
  cases h : srcOf ops ops.size t with
  | none => rfl
  | some j =>
   dsimp only
   cases hb : Nat.blt j a.length with
   | false => rfl
   | true =>
    rw [if_pos rfl, if_pos rfl]
    exact getD_pre a b _ (by simpa [Nat.blt_eq] using hb)
 | _ => rfl
theorem hfold_pre (a b : List Eff) (h : AHeap) : ∀ {k : Nat}, k ≤ a.length → hfold (a ++ b) h k = hfold a h k
 | 0, _ => rfl
 | k + 1, hk => by rw [hfold_succ, hfold_succ, hfold_pre a b h (k := k) (by omega), getD_pre a b _ (by omega)]
theorem drVal_ok {l0 pre : List Oper} {l : List Oper} {ex : Exs} {V V2 : List AV} {F F2 : List Eff} {v : AV} {f : Eff} (h0 : l0 = pre ++ o :: l) (hp : pre.length = V.length) (hF : F.length = V.length) (hex : exAll P B D0 l0 (V ++ V2) (F ++ F2) s ex) (h : drVal P l0.toArray ex s o V F = some (v, f)) :
  OpS P B D0 o (evD l0.toArray (V ++ V2) s V.length) (hget (hfold (F ++ F2) s.h V.length)) v f := by
 unfold drVal at h
 split at h
 ·
  rename_i x hx
  cases h
  have := exAll_get hex hx
  rw [h0, ← hp, lget_app] at this
  rw [h0, ← hp]
  exact this
 ·
  rw [evD_pre, hfold_pre F F2 s.h (by omega)]
  exact evOp_ok h
theorem drL_ok {l0 : List Oper} {ex : Exs} {V' : List AV} {F' : List Eff} (hex : exAll P B D0 l0 V' F' s ex) : ∀ (l pre : List Oper) (V : List AV) (F : List Eff), l0 = pre ++ l → pre.length = V.length → F.length = V.length → drL P l0.toArray ex s l V F = some (V', F') → OpsD P B D0 l0.toArray V' F' s V.length l
 | [], _, _, _, _, _, _, _ => trivial
 | o :: l, pre, V, F, h0, hp, hF, h => by
  have h' := h
  unfold drL at h
  split at h
  ·
   rename_i v f hs
   have ih := drL_ok hex l (pre ++ [o]) (V ++ [v]) (F ++ [f]) (by rw [h0]; simp) (by simp [hp]) (by simp [hF]) h
   rw [show (V ++ [v]).length = V.length + 1 by simp] at ih
   obtain ⟨⟨V2, hV⟩, F2, hF2⟩ := drL_pre l _ _ h
   have hv : V'.getD V.length .top = v := by rw [hV]; simp [List.getD_eq_getElem?_getD]
   have hf : F'.getD V.length .none = f := by rw [hF2, ← hF]; simp [List.getD_eq_getElem?_getD]
   have hV3 : V' = V ++ ([v] ++ V2) := by rw [hV, List.append_assoc]
   have hF3 : F' = F ++ ([f] ++ F2) := by rw [hF2, List.append_assoc]
   refine ⟨?_, ih⟩
   have ok : drVal P l0.toArray ex s o V F = some (v, f) → OpS P B D0 o (evD l0.toArray V' s V.length) (hget (hfold F' s.h V.length)) (V'.getD V.length .top) (F'.getD V.length .none) := fun h => by
    rw [hv, hf, hV3, hF3]
    rw [hV3, hF3] at hex
    exact drVal_ok h0 hp hF hex h
   unfold drStep at hs
   split at hs
   · rename_i hg; exact opD_plain hg (ok hs)
   ·
    rename_i j w hg
    have hj : ∀ {x : AV}, V.getD j .top = x → x ≠ .top → V'.getD j .top = x := fun {x} hx hn => by
     by_cases hlt : j < V.length
     · rw [hV3, getD_pre _ _ _ hlt]; exact hx
     ·
      rw [List.getD_eq_getElem?_getD, List.getElem?_eq_none (by omega)] at hx
      exact absurd hx.symm hn
    split at hs
    ·
     rename_i b hb
     have hb := hj hb (by simp)
     split at hs
     · exact opD_run hg hb (ok hs)
     · exact opD_run hg hb (ok hs)
     ·
      rename_i h1 h2
      cases hs
      refine opD_skip hg (hb.trans ?_) hv hf
      cases w <;> cases b <;> first | rfl | exact (h1 rfl rfl).elim | exact (h2 rfl rfl).elim
    ·
     rename_i a ha
     have ha := hj ha (by simp)
     split at hs
     ·
      rename_i he
      cases hs
      have : a = #[] := by cases a; simp_all
      subst this
      exact opD_skip2 hg ha hv hf
     · cases hs
    · cases hs
  · cases h
theorem qdraw {id : Nat} {l : List Oper} (ex : Exs) (keep : List Nat) (nx' : Nat)
  (hop : exAll P B D0 l ((drL P l.toArray ex s l [] []).getD ([], [])).1 ((drL P l.toArray ex s l [] []).getD ([], [])).2 s ex) (hQ : Q .normal ⟨outD l.toArray ((drL P l.toArray ex s l [] []).getD ([], [])).1 s keep, hfold ((drL P l.toArray ex s l [] []).getD ([], [])).2 s.h l.toArray.size, nx', s.n⟩)
  (hm : P.follows .mixedOrders = true := by kernel_rfl) (hr : (drL P l.toArray ex s l [] []).isSome = true := by kernel_rfl) (hB : drB l.toArray ((drL P l.toArray ex s l [] []).getD ([], [])).2 s.nx s.n = true := by kernel_rfl) (hnx : nxB ((drL P l.toArray ex s l [] []).getD ([], [])).2 s.nx nx' = true := by kernel_rfl) : AC P R B D0 (.region id l.toArray true) s Q := by
 cases he : drL P l.toArray ex s l [] [] with
 | none => rw [he] at hr; cases hr
 | some x =>
  obtain ⟨V', F'⟩ := x
  rw [he] at hop hQ hB hnx
  exact AC_draw V' F' keep nx' _ hm hB hnx rfl (drL_ok hop l [] [] [] rfl rfl rfl he) hQ
theorem qsdraw {id : Nat} {l : List Oper} {y : Code} (ex : Exs) (keep : List Nat) (nx' : Nat)
  (hop : exAll P B D0 l ((drL P l.toArray ex s l [] []).getD ([], [])).1 ((drL P l.toArray ex s l [] []).getD ([], [])).2 s ex) (hQ : AC P R B D0 y ⟨outD l.toArray ((drL P l.toArray ex s l [] []).getD ([], [])).1 s keep, hfold ((drL P l.toArray ex s l [] []).getD ([], [])).2 s.h l.toArray.size, nx', s.n⟩ Q)
  (hm : P.follows .mixedOrders = true := by kernel_rfl) (hr : (drL P l.toArray ex s l [] []).isSome = true := by kernel_rfl) (hB : drB l.toArray ((drL P l.toArray ex s l [] []).getD ([], [])).2 s.nx s.n = true := by kernel_rfl) (hnx : nxB ((drL P l.toArray ex s l [] []).getD ([], [])).2 s.nx nx' = true := by kernel_rfl) : AC P R B D0 (.seq (.region id l.toArray true) y) s Q :=
 AC_seq (qdraw ex keep nx' hop hQ hm hr hB hnx)
end Go.Proofs.YtkcnbaeoahoglaaGreat
namespace Go.Proofs.YtkcnbaeoahoglaaGreat
open Go.RowKit
variable {P : Program} {R : Option Nat} {B : Nat} {D0 : Env} {o : Oper} {ev : Operand → AV} {pre : Nat → Option ABlk} {s : St} {Q : Exit → St → Prop} {ops : Array Oper} {rest : List Oper}
theorem qb (b : Bool) (hk : AL P R B D0 ops rest ⟨putA s.t o.dst (.bool b), s.h, s.nx, s.n⟩ Q) (hg : o.guard = none := by rfl) (hdn : dstB o s.n = true := by kernel_rfl) (hx : (o.op.operands.toList.all fun x => (s.ev x).isLit) = true := by kernel_rfl) (hs : noSel o = true := by kernel_rfl) (hrun : ∀ w, (execOp (fun x => (s.ev x).val) o).run P w = .ok (.value (.bool b)) w := by intro w; kernel_rfl) : AL P R B D0 ops (o :: rest) s Q :=
  AL_op (.bool b) .none hg rfl hdn (opS_lit _ hx rfl hs hrun) hk
theorem qbg (b : Bool) (hk : AL P R B D0 ops rest ⟨putA s.t o.dst (.bool b), s.h, s.nx, s.n⟩ Q) {j d : Nat} {b' : Bool} (hg : o.guard = some (j, b') := by rfl) (hj : (ops[j]?).bind (·.dst) = some d := by rfl) (hv : tget s.t d = .bool b' := by kernel_rfl) (hdn : dstB o s.n = true := by kernel_rfl) (hx : (o.op.operands.toList.all fun x => (s.ev x).isLit) = true := by kernel_rfl) (hs : noSel o = true := by kernel_rfl) (hrun : ∀ w, (execOp (fun x => (s.ev x).val) o).run P w = .ok (.value (.bool b)) w := by intro w; kernel_rfl) : AL P R B D0 ops (o :: rest) s Q :=
  AL_run (.bool b) .none hg hj hv rfl hdn (opS_lit _ hx rfl hs hrun) hk
theorem qi (x : Int) (hk : AL P R B D0 ops rest ⟨putA s.t o.dst (.int x), s.h, s.nx, s.n⟩ Q) (hg : o.guard = none := by rfl) (hdn : dstB o s.n = true := by kernel_rfl) (hx : (o.op.operands.toList.all fun x => (s.ev x).isLit) = true := by kernel_rfl) (hs : noSel o = true := by kernel_rfl) (hrun : ∀ w, (execOp (fun x => (s.ev x).val) o).run P w = .ok (.value (.int .i64 x)) w := by intro w; kernel_rfl) : AL P R B D0 ops (o :: rest) s Q :=
  AL_op (.int x) .none hg rfl hdn (opS_lit _ hx rfl hs hrun) hk
theorem qw (x y : Int) (hk : AL P R B D0 ops rest ⟨putA s.t o.dst (.int y), s.h, s.nx, s.n⟩ Q) (hr : -9223372036854775808 ≤ x ∧ x ≤ 9223372036854775807 := by omega) (he : x = y := by omega) (hg : o.guard = none := by rfl) (hdn : dstB o s.n = true := by kernel_rfl) (hx : (o.op.operands.toList.all fun x => (s.ev x).isLit) = true := by kernel_rfl) (hs : noSel o = true := by kernel_rfl) (hrun : ∀ w, (execOp (fun x => (s.ev x).val) o).run P w = .ok (.value (.int .i64 (IntKind.wrap .i64 x))) w := by intro w; kernel_rfl) : AL P R B D0 ops (o :: rest) s Q :=
  AL_op (.int y) .none hg rfl hdn (opS_lit' _ hx rfl hs hrun (congrArg (Value.int .i64) ((IntWalk.i64_in x hr).trans he))) hk
theorem qbD {b : Bool} (hx : (o.op.operands.toList.all fun x => (ev x).isLit) = true := by kernel_rfl) (hs : noSel o = true := by kernel_rfl) (hrun : ∀ w, (execOp (fun x => (ev x).val) o).run P w = .ok (.value (.bool b)) w := by intro w; kernel_rfl) : OpS P B D0 o ev pre (.bool b) .none := opS_lit _ hx rfl hs hrun
theorem qiD {x : Int} (hx : (o.op.operands.toList.all fun x => (ev x).isLit) = true := by kernel_rfl) (hs : noSel o = true := by kernel_rfl) (hrun : ∀ w, (execOp (fun x => (ev x).val) o).run P w = .ok (.value (.int .i64 x)) w := by intro w; kernel_rfl) : OpS P B D0 o ev pre (.int x) .none := opS_lit _ hx rfl hs hrun
theorem qwD (x : Int) {y : Int} (hr : -9223372036854775808 ≤ x ∧ x ≤ 9223372036854775807 := by omega) (he : x = y := by omega) (hx : (o.op.operands.toList.all fun x => (ev x).isLit) = true := by kernel_rfl) (hs : noSel o = true := by kernel_rfl) (hrun : ∀ w, (execOp (fun x => (ev x).val) o).run P w = .ok (.value (.int .i64 (IntKind.wrap .i64 x))) w := by intro w; kernel_rfl) : OpS P B D0 o ev pre (.int y) .none :=
  opS_lit' _ hx rfl hs hrun (congrArg (Value.int .i64) ((IntWalk.i64_in x hr).trans he))
theorem qcl {f : FuncId} {args : List AV} {r : AV} {xs : Array Operand} {ts : Array TypeId} (hf : AF P f args r) (hk : AL P R B D0 ops rest ⟨putA s.t o.dst r, s.h, s.nx, s.n⟩ Q) (ho : o.op = .call { callee := .value (.func f), args := xs, argTypes := ts } := by rfl) (hg : o.guard = none := by rfl) (hdn : dstB o s.n = true := by kernel_rfl)
  (hcall : ∀ (vs : Array Value) w, (callFunc f vs).run P w = .ok (.enter f vs) w := by intro _ _; kernel_rfl) (hargs : xs.toList.map s.ev = args := by kernel_rfl) (hfree : args.all AV.free = true := by kernel_rfl) : AL P R B D0 ops (o :: rest) s Q :=
 AL_op r .none hg rfl hdn (opS_call f xs ts ho hcall args hargs hfree r hf) hk
theorem qclg {f : FuncId} {args : List AV} {r : AV} {xs : Array Operand} {ts : Array TypeId} (hf : AF P f args r) (hk : AL P R B D0 ops rest ⟨putA s.t o.dst r, s.h, s.nx, s.n⟩ Q) {j d : Nat} {b' : Bool} (ho : o.op = .call { callee := .value (.func f), args := xs, argTypes := ts } := by rfl) (hg : o.guard = some (j, b') := by rfl) (hj : (ops[j]?).bind (·.dst) = some d := by rfl) (hv : tget s.t d = .bool b' := by kernel_rfl) (hdn : dstB o s.n = true := by kernel_rfl)
  (hcall : ∀ (vs : Array Value) w, (callFunc f vs).run P w = .ok (.enter f vs) w := by intro _ _; kernel_rfl) (hargs : xs.toList.map s.ev = args := by kernel_rfl) (hfree : args.all AV.free = true := by kernel_rfl) : AL P R B D0 ops (o :: rest) s Q :=
 AL_run r .none hg hj hv rfl hdn (opS_call f xs ts ho hcall args hargs hfree r hf) hk
theorem qclD {f : FuncId} {args : List AV} {r V : AV} {xs : Array Operand} {ts : Array TypeId} (hf : AF P f args r) (ho : o.op = .call { callee := .value (.func f), args := xs, argTypes := ts } := by rfl) (hV : r = V := by kernel_rfl)
    (hcall : ∀ (vs : Array Value) w, (callFunc f vs).run P w = .ok (.enter f vs) w := by intro _ _; kernel_rfl) (hargs : xs.toList.map ev = args := by kernel_rfl) (hfree : args.all AV.free = true := by kernel_rfl) : OpS P B D0 o ev pre V .none := hV ▸ opS_call f xs ts ho hcall args hargs hfree r hf
theorem qreg {id : Nat} {l : List Oper} {y : Code} (k : Nat) (keep : List Nat) (h : AC P R B D0 y ⟨keep.map fun t => (t, tget ((evL P l.toArray k l s).getD s).t t), ((evL P l.toArray k l s).getD s).h, ((evL P l.toArray k l s).getD s).nx, s.n⟩ Q) (hs : (evL P l.toArray k l s).isSome = true := by kernel_rfl) (hl : l.drop k = [] := by rfl) : AC P R B D0 (.seq (.region id l.toArray false) y) s Q :=
  AC_seq_list (qrun k (by rw [hl]; exact qend keep h) hs)
theorem qT {x y : Code} {d : Nat} {b : Bool} (hb : b = true) (h : AC P R B D0 x ⟨(d, .bool true) :: s.t, s.h, s.nx, s.n⟩ Q) (hd : tget s.t d = .bool b := by kernel_rfl) : AC P R B D0 (.cond (.tmp d) x y) s Q := AC_known d b true hb hd (AC_true (by show tget ((d, _) :: s.t) d = _; rw [tget_cons, if_pos rfl]) rfl h)
theorem qF {x y : Code} {d : Nat} {b : Bool} (hb : b = false) (h : AC P R B D0 y ⟨(d, .bool false) :: s.t, s.h, s.nx, s.n⟩ Q) (hd : tget s.t d = .bool b := by kernel_rfl) : AC P R B D0 (.cond (.tmp d) x y) s Q := AC_known d b false hb hd (AC_false (by show tget ((d, _) :: s.t) d = _; rw [tget_cons, if_pos rfl]) rfl h)
theorem nt {b : Bool} (h : b = true) : (!b) = false := by rw [h]; rfl
theorem nf {b : Bool} (h : b = false) : (!b) = true := by rw [h]; rfl
theorem qv (x : Int) (hk : AL P R B D0 ops rest ⟨putA s.t o.dst (.int x), s.h, s.nx, s.n⟩ Q) (hr : -9223372036854775808 ≤ x ∧ x ≤ 9223372036854775807 := by omega) (hg : o.guard = none := by rfl) (hdn : dstB o s.n = true := by kernel_rfl) (hx : (o.op.operands.toList.all fun x => (s.ev x).isLit) = true := by kernel_rfl) (hs : noSel o = true := by kernel_rfl) (hrun : ∀ w, (execOp (fun x => (s.ev x).val) o).run P w = .ok (.value (.int .i64 (IntKind.wrap .i64 x))) w := by intro w; kernel_rfl) : AL P R B D0 ops (o :: rest) s Q :=
  qw x x hk hr rfl hg hdn hx hs hrun
end Go.Proofs.YtkcnbaeoahoglaaGreat
namespace Go.Proofs.YtkcnbaeoahoglaaGreat
open Go.RowKit
abbrev WA (z : Int) : AV := .lit (WideV z)
theorem AF_lit {P : Program} {f : FuncId} {vs : List Value} {v : Value} (h : ∀ w, Calls P f vs.toArray w fun e w' => e = .returned v ∧ Below w.heap.size w w') : AF P f (vs.map .lit) (.lit v) := by
 intro E us hD hn hv
 have : us = vs.toArray := VR.lits (E := E.fz) (by simpa using hn) (VR.tops hv)
 subst this
 refine (h E.w).mono ?_
 rintro e w' ⟨rfl, hb⟩
 exact ⟨v, E.D, rfl, .lit _ _, hb, fun _ h => h, fun _ h => .inl h, fun b hb' => Nat.lt_of_lt_of_le (hD b hb') hb.size⟩
theorem AF_wof (n : Int) (h0 : -9223372036854775808 ≤ n) (h1 : n ≤ 9223372036854775807) : AF Tryz.prog 79 [.int n] (WA n) := AF_lit (vs := [_]) fun w => wof_any n w h0 h1
theorem AF_sadd (x y : Int) (hx : Fit x) (hy : Fit y) (hz : Fit (x + y)) : AF Tryz.prog 49 [WA x, WA y] (WA (x + y)) := AF_lit (vs := [_, _]) fun w => sadd_any x y w hx hy hz
theorem AF_smul (x y : Int) (hx : Fit x) (hy : Fit y) (hz : Fit (x * y)) : AF Tryz.prog 78 [WA x, WA y] (WA (x * y)) := AF_lit (vs := [_, _]) fun w => smul_any x y w hx hy hz
theorem AF_power (n : Int) (k : Nat) (h0 : -9223372036854775808 ≤ n) (h1 : n ≤ 9223372036854775807) (hk : k ≤ 1000) (hf : ∀ j, j ≤ k → Fit (n ^ j)) : AF Tryz.prog 80 [.int n, .int ((k : Nat) : Int)] (WA (n ^ k)) := AF_lit (vs := [_, _]) fun w => power_any n k w h0 h1 hk hf
abbrev coefA (l : List Int) : AV := .sl 1 l.length fun i => .int (l.getD i 0)
abbrev segA (s : Sg) : AV := .agg [.int s.f, .int s.t, .int s.o, coefA s.x, coefA s.y, coefA s.z]
theorem AF_axes (s : Sg) : AF Tryz.prog 84 [segA s] (.agg [coefA s.x, coefA s.y, coefA s.z]) := by
 refine AF_of ⟨[(0, segA (s))], [], 0, 10⟩ Tryz.func84 rfl 10 Tryz.ntmps84 (by kernel_rfl) (by kernel_rfl) fun B D0 hA0 => ?_
 refine qreg 2 [1, 2] ?_
 refine AC_seq_list ?_
 refine qrun 6 ?_
 refine qopn (.agg [coefA (s.x), coefA (s.y), coefA (s.z)]) (qbuild_array 151 #[(0, (.tmp 4)), (1, (.tmp 6)), (2, (.tmp 8))] _ Tryz.zeroValue151 Tryz.underlying151 1 Tryz.sizeOf65 [coefA (s.x), coefA (s.y), coefA (s.z)]) ?_
 refine qrun 1 ?_
 refine qend [2] ?_
 refine AC_ret ?_
 exact ⟨.inl rfl, (resOk1 Tryz.results84 (resV_cell (x := .agg [coefA (s.x), coefA (s.y), coefA (s.z)]) 1 Tryz.isAgg151 3 Tryz.sizeOf151 0 [coefA (s.x), coefA (s.y), coefA (s.z)] (by kernel_rfl) 151 (by kernel_rfl) (Nat.le_of_ble_eq_true (by kernel_rfl)) (by kernel_rfl) (by kernel_rfl))).cast (by kernel_rfl)⟩
end Go.Proofs.YtkcnbaeoahoglaaGreat
namespace Go.Proofs.YtkcnbaeoahoglaaGreat
open Go.RowKit
theorem AF_sgcd (x y : Int) (hx : Fit x) (hy : Fit y) : AF Tryz.prog 85 [WA x, WA y] (WA ((Nat.gcd x.natAbs y.natAbs : Nat) : Int)) := AF_lit (vs := [_, _]) fun w => sgcd_any x y w hx hy
theorem AF_squo (x y : Int) (hx : Fit x) (hy : Fit y) (h0 : y ≠ 0) : AF Tryz.prog 48 [WA x, WA y] (WA (x / y)) := AF_lit (vs := [_, _]) fun w => squo_any x y w hx hy h0
theorem fit64 {x : Int} (h : In64 x) : Fit x := fit_int h.1 h.2
theorem pow_fit {x : Int} (h : In64 x) {k : Nat} (hk : k ≤ 6) : Fit (x ^ k) := ((Bd.int h.1 h.2).pow k).fit (by omega)
abbrev placeA (p : PL) : AV := .lit (.agg #[.bool (decide (p.x < 0)), .string (beB p.x.natAbs), .bool (decide (p.y < 0)), .string (beB p.y.natAbs), .bool (decide (p.z < 0)), .string (beB p.z.natAbs), .bool (decide (p.o < 0)), .string (beB p.o.natAbs)])
theorem plO_bd {s : Sg} {d : Int} (hs : SgIn s) (hd : In64 d) : Bd 378 (plO s d) := ((Bd.int hs.o.1 hs.o.2).mul ((Bd.int hd.1 hd.2).pow 5)).mono (by omega)
theorem AF_place (s : Sg) (a d : Int) (hs : SgIn s) (hx : s.x.length ≤ 6) (hy : s.y.length ≤ 6) (hz : s.z.length ≤ 6) (ha : In64 a) (hd : In64 d) (hg : plG s a d ≠ 0) : AF Tryz.prog 65 [segA s, .int a, .int d] (placeA (placeL s a d)) := by
  have bX : ∀ k, k ≤ 6 → Bd 390 (plS s.x a d k) := fun k hk => (plS_bd hs.x ha hd k hk).mono (by omega)
  have bY : ∀ k, k ≤ 6 → Bd 390 (plS s.y a d k) := fun k hk => (plS_bd hs.y ha hd k hk).mono (by omega)
  have bZ : ∀ k, k ≤ 6 → Bd 390 (plS s.z a d k) := fun k hk => (plS_bd hs.z ha hd k hk).mono (by omega)
  have bO : Bd 390 (plO s d) := (plO_bd hs hd).mono (by omega)
  have bXX : Bd 390 (plX s a d) := bX _ hx
  have bYY : Bd 390 (plY s a d) := bY _ hy
  have bZZ : Bd 390 (plZ s a d) := bZ _ hz
  have bG1 := bO.gcd bXX
  have bG2 := bG1.gcd bYY
  have bG3 := bG2.gcd bZZ
  have pw : ∀ {x : Int}, In64 x → ∀ k, k ≤ 6 → ∀ j, j ≤ k → Fit (x ^ j) := fun h k hk j hj => pow_fit h (by omega)
  refine AF_of ⟨[(0, segA (s)), (1, .int (a)), (2, .int (d))], [], 0, 74⟩ Tryz.func65 rfl 74 Tryz.ntmps65 (by kernel_rfl) (by kernel_rfl) fun B D0 hA0 => ?_
  refine qreg 2 [1, 2, 3, 6] ?_
  refine qreg 1 [1, 2, 3, 6, 7] ?_
  refine AC_seq_list ?_
  refine qrun 2 ?_
  refine qopn (.lit (WideV (s.o))) (qcall 79 #[(.tmp 15)] #[3] [.int (s.o)] (.lit (WideV (s.o))) (AF_wof _ hs.o.1 hs.o.2)) ?_
  refine qrun 1 ?_
  refine qcl (AF_power d 5 hd.1 hd.2 (by omega) (pw hd 5 (by omega))) ?_
  refine qopn (.lit (WideV (plO s d))) (qcall 78 #[(.tmp 16), (.tmp 18)] #[96, 96] [.lit (WideV (s.o)), .lit (WideV (d ^ 5))] (.lit (WideV (plO s d))) (AF_smul _ _ (fit64 hs.o) (pow_fit hd (by omega)) (bO.fit (by omega)))) ?_
  refine qrun 2 ?_
  refine qend [1, 2, 3, 6, 7, 8] ?_
  refine qreg 3 [1, 2, 3, 6, 7, 8, 9] ?_
  refine AC_seq ?_
  refine AC_seq_list ?_
  refine qrun 1 ?_
  refine qcl (AF_axes s) ?_
  refine qrun 1 ?_
  refine qend [1, 2, 6, 7, 8, 9, 22, 23] ?_
  refine AC_block ?_
  refine AC_loop 4 ?_
  refine AC_seq_list ?_
  refine qb true ?_
  refine qend [1, 2, 6, 7, 8, 9, 22, 23, 24] ?_
  refine AC_seq ?_
  refine qCtrue ?_
  refine AC_skip ?_
  refine AC_seq ?_
  refine AC_block ?_
  refine AC_seq_list ?_
  refine qrun 1 ?_
  refine qopn (coefA (s.x)) (qindex_agg 151 (.tmp 22) (.tmp 23) Tryz.underlying151 1 Tryz.sizeOf65 0 false Tryz.isAgg65 [coefA (s.x), coefA (s.y), coefA (s.z)] (0) (coefA (s.x))) ?_
  refine qrun 2 ?_
  refine qend [1, 2, 6, 7, 8, 9, 10, 11, 22, 23] ?_
  refine AC_seq ?_
  refine AC_seq_list ?_
  refine qrun 1 ?_
  refine qopn (.int (((s.x.length : Nat) : Int))) (qlen (.tmp 27) 65 #[65] Tryz.underlying65 (s.x.length) (.inl ⟨1, (fun i0 => .int ((s.x).getD i0 0)), by kernel_rfl⟩)) ?_
  refine qrun 1 ?_
  refine qend [1, 2, 6, 7, 8, 9, 10, 22, 23, 27, 28, 29] ?_
  refine AC_block ?_
  refine AC_loop_seq (fun k => ⟨[(1, .int (a)), (2, .int (d)), (6, .ptr 1 (0)), (7, .ptr 2 (0)), (8, .ptr 3 (0)), (9, .ptr 4 (0)), (10, .int (0)), (22, .agg [coefA (s.x), coefA (s.y), coefA (s.z)]), (23, .int (0)), (27, coefA (s.x)), (28, .int (((s.x.length : Nat) : Int))), (29, .int (((k : Nat) : Int)))], [(0, .box 67 [.int (s.f), .int (s.t), .int (s.o), coefA (s.x), coefA (s.y), coefA (s.z)]), (1, .box 98 [.bool false, .lit (.string ⟨#[]⟩), .bool false, .lit (.string ⟨#[]⟩), .bool false, .lit (.string ⟨#[]⟩), .bool false, .lit (.string ⟨#[]⟩)]), (2, .box 102 [.bool (decide (plS s.x a d k < 0)), .lit (.string (beB (plS s.x a d k).natAbs)), .bool false, .lit (.string ⟨#[]⟩), .bool false, .lit (.string ⟨#[]⟩)]), (3, .box 96 [.bool (decide (plO s d < 0)), .lit (.string (beB (plO s d).natAbs))]), (4, .box 96 [.bool (decide (plO s d < 0)), .lit (.string (beB (plO s d).natAbs))])], 5, 74⟩) (s.x.length) (by kernel_rfl) ?_ ?_
  ·
   intro k hk K hK
   refine AC_seq_list ?_
   refine qopn (.bool true) (qlit (v := .bool (decide (((k : Nat) : Int) < ((s.x.length : Nat) : Int)))) (v' := .bool true) (congrArg Value.bool (decide_eq_true (by omega))) _) ?_
   refine qend [1, 2, 6, 7, 8, 9, 10, 22, 23, 27, 28, 29, 30] ?_
   refine AC_seq ?_
   refine qCtrue ?_
   refine AC_skip ?_
   refine AC_seq ?_
   refine AC_block ?_
   refine AC_seq_list ?_
   refine qrun 1 ?_
   refine qopn (.elt 1 (fun q => AV.cell (.int ((s.x).getD k 0)) q)) (qindex_sl 65 (.tmp 27) (.tmp 29) Tryz.underlying65 1 (s.x.length) (k) (fun i0 => .int ((s.x).getD i0 0)) (((k : Nat) : Int)) Tryz.sizeOf3) ?_
   refine qrun 3 ?_
   refine qend [1, 2, 6, 7, 8, 9, 10, 12, 13, 22, 23, 27, 28, 29] ?_
   refine qdraw [(2, .ptr 2 (0), .none), (5, .lit (WideV ((s.x).getD k 0)), .none), (8, .lit (WideV (a ^ (k))), .none), (11, .int (((5 - k : Nat) : Int)), .none), (12, .lit (WideV (d ^ (5 - k))), .none), (13, .lit (WideV ((a ^ (k)) * (d ^ (5 - k)))), .none), (14, .lit (WideV (((s.x).getD k 0) * ((a ^ (k)) * (d ^ (5 - k))))), .none), (15, .lit (WideV (plS s.x a d (k + 1))), .none), (16, .ptr 2 (0), .none)] [1, 2, 6, 7, 8, 9, 10, 22, 23, 27, 28, 29] 5 ⟨?_, ?_, ?_, ?_, ?_, ?_, ?_, ?_, ?_, trivial⟩ ?_
   · exact qcast (qindex_ptr 102 (.tmp 7) (.tmp 35) Tryz.underlying102 2 0 2 0 (0) Tryz.sizeOf96)
   · exact qcast (qcall 79 #[(.tmp 38)] #[3] [.int ((s.x).getD k 0)] (.lit (WideV ((s.x).getD k 0))) (AF_wof _ (hs.x k).1 (hs.x k).2))
   · exact qcast (qcall 80 #[(.tmp 40), (.tmp 41)] #[3, 3] [.int (a), .int (((k : Nat) : Int))] (.lit (WideV (a ^ (k)))) (AF_power a (k) ha.1 ha.2 (by omega) (pw ha _ (by omega))))
   · exact qwD ((5 : Int) - ((k : Nat) : Int))
   · exact qcast (qcall 80 #[(.tmp 43), (.tmp 45)] #[3, 3] [.int (d), .int (((5 - k : Nat) : Int))] (.lit (WideV (d ^ (5 - k)))) (AF_power d (5 - k) hd.1 hd.2 (by omega) (pw hd _ (by omega))))
   · exact qcast (qcall 78 #[(.tmp 42), (.tmp 46)] #[96, 96] [.lit (WideV (a ^ (k))), .lit (WideV (d ^ (5 - k)))] (.lit (WideV ((a ^ (k)) * (d ^ (5 - k))))) (AF_smul _ _ (pow_fit ha (by omega)) (pow_fit hd (by omega)) ((((Bd.int ha.1 ha.2).pow k).mul ((Bd.int hd.1 hd.2).pow (5 - k))).fit (by omega))))
   · exact qcast (qcall 78 #[(.tmp 39), (.tmp 47)] #[96, 96] [.lit (WideV ((s.x).getD k 0)), .lit (WideV ((a ^ (k)) * (d ^ (5 - k))))] (.lit (WideV (((s.x).getD k 0) * ((a ^ (k)) * (d ^ (5 - k)))))) (AF_smul _ _ (fit64 (hs.x k)) ((((Bd.int ha.1 ha.2).pow k).mul ((Bd.int hd.1 hd.2).pow (5 - k))).fit (by omega)) ((term_bd (hs.x k) ha hd (by omega)).fit (by omega))))
   · exact qcast (qcall 49 #[(.tmp 37), (.tmp 48)] #[96, 96] [.lit (WideV (plS s.x a d k)), .lit (WideV (((s.x).getD k 0) * ((a ^ (k)) * (d ^ (5 - k)))))] (.lit (WideV (plS s.x a d (k + 1)))) (AF_sadd (plS s.x a d k) _ ((bX k (by omega)).fit (by omega)) ((term_bd (hs.x k) ha hd (by omega)).fit (by omega)) ((bX (k + 1) (by omega)).fit (by omega))))
   · exact qcast (qindex_ptr 102 (.tmp 7) (.tmp 34) Tryz.underlying102 2 0 2 0 (0) Tryz.sizeOf96)
   refine AC_list ?_
   refine qw (((k : Nat) : Int) + 1) (((k + 1 : Nat) : Int)) ?_
   refine qrun 1 ?_
   refine qend1 [1, 2, 6, 7, 8, 9, 10, 22, 23, 27, 28, 29] ?_
   exact K_of hK (by kernel_rfl)
  ·
   refine AC_seq_list ?_
   refine qopn (.bool false) (qlit (v := .bool (decide (((s.x.length : Nat) : Int) < ((s.x.length : Nat) : Int)))) (v' := .bool false) (congrArg Value.bool (decide_eq_false (by omega))) _) ?_
   refine qend [1, 2, 6, 7, 8, 9, 10, 22, 23, 27, 28, 29, 30] ?_
   refine AC_seq ?_
   refine qCfalse ?_
   refine AC_exit ?_
   refine qdraw [(2, .ptr 2 (0), .none), (4, .lit (WideV (((Nat.gcd (plO s d).natAbs (plX s a d).natAbs : Nat) : Int))), .none)] [1, 2, 6, 7, 8, 9, 22, 23] 5 ⟨?_, ?_, trivial⟩ ?_
   · exact qcast (qindex_ptr 102 (.tmp 7) (.tmp 53) Tryz.underlying102 2 0 2 0 (0) Tryz.sizeOf96)
   · exact qcast (qcall 85 #[(.tmp 52), (.tmp 55)] #[96, 96] [.lit (WideV (plO s d)), .lit (WideV (plX s a d))] (.lit (WideV (((Nat.gcd (plO s d).natAbs (plX s a d).natAbs : Nat) : Int)))) (AF_sgcd _ _ (bO.fit (by omega)) (bXX.fit (by omega))))
   refine AC_list ?_
   refine qi (1) ?_
   refine qrun 1 ?_
   refine qend1 [1, 2, 6, 7, 8, 9, 22, 23] ?_
   refine AC_seq_list ?_
   refine qb true ?_
   refine qend [1, 2, 6, 7, 8, 9, 22, 23, 24] ?_
   refine AC_seq ?_
   refine qCtrue ?_
   refine AC_skip ?_
   refine AC_seq ?_
   refine AC_block ?_
   refine AC_seq_list ?_
   refine qrun 1 ?_
   refine qopn (coefA (s.y)) (qindex_agg 151 (.tmp 22) (.tmp 23) Tryz.underlying151 1 Tryz.sizeOf65 1 false Tryz.isAgg65 [coefA (s.x), coefA (s.y), coefA (s.z)] (1) (coefA (s.y))) ?_
   refine qrun 2 ?_
   refine qend [1, 2, 6, 7, 8, 9, 10, 11, 22, 23] ?_
   refine AC_seq ?_
   refine AC_seq_list ?_
   refine qrun 1 ?_
   refine qopn (.int (((s.y.length : Nat) : Int))) (qlen (.tmp 27) 65 #[65] Tryz.underlying65 (s.y.length) (.inl ⟨1, (fun i0 => .int ((s.y).getD i0 0)), by kernel_rfl⟩)) ?_
   refine qrun 1 ?_
   refine qend [1, 2, 6, 7, 8, 9, 10, 22, 23, 27, 28, 29] ?_
   refine AC_block ?_
   refine AC_loop_seq (fun k => ⟨[(1, .int (a)), (2, .int (d)), (6, .ptr 1 (0)), (7, .ptr 2 (0)), (8, .ptr 3 (0)), (9, .ptr 4 (0)), (10, .int (1)), (22, .agg [coefA (s.x), coefA (s.y), coefA (s.z)]), (23, .int (1)), (27, coefA (s.y)), (28, .int (((s.y.length : Nat) : Int))), (29, .int (((k : Nat) : Int)))], [(0, .box 67 [.int (s.f), .int (s.t), .int (s.o), coefA (s.x), coefA (s.y), coefA (s.z)]), (1, .box 98 [.bool false, .lit (.string ⟨#[]⟩), .bool false, .lit (.string ⟨#[]⟩), .bool false, .lit (.string ⟨#[]⟩), .bool false, .lit (.string ⟨#[]⟩)]), (2, .box 102 [.bool (decide (plX s a d < 0)), .lit (.string (beB (plX s a d).natAbs)), .bool (decide (plS s.y a d k < 0)), .lit (.string (beB (plS s.y a d k).natAbs)), .bool false, .lit (.string ⟨#[]⟩)]), (3, .box 96 [.bool (decide (plO s d < 0)), .lit (.string (beB (plO s d).natAbs))]), (4, .box 96 [.bool (decide (((Nat.gcd (plO s d).natAbs (plX s a d).natAbs : Nat) : Int) < 0)), .lit (.string (beB (((Nat.gcd (plO s d).natAbs (plX s a d).natAbs : Nat) : Int)).natAbs))])], 5, 74⟩) (s.y.length) (by kernel_rfl) ?_ ?_
   ·
    intro k hk K hK
    refine AC_seq_list ?_
    refine qopn (.bool true) (qlit (v := .bool (decide (((k : Nat) : Int) < ((s.y.length : Nat) : Int)))) (v' := .bool true) (congrArg Value.bool (decide_eq_true (by omega))) _) ?_
    refine qend [1, 2, 6, 7, 8, 9, 10, 22, 23, 27, 28, 29, 30] ?_
    refine AC_seq ?_
    refine qCtrue ?_
    refine AC_skip ?_
    refine AC_seq ?_
    refine AC_block ?_
    refine AC_seq_list ?_
    refine qrun 1 ?_
    refine qopn (.elt 1 (fun q => AV.cell (.int ((s.y).getD k 0)) q)) (qindex_sl 65 (.tmp 27) (.tmp 29) Tryz.underlying65 1 (s.y.length) (k) (fun i0 => .int ((s.y).getD i0 0)) (((k : Nat) : Int)) Tryz.sizeOf3) ?_
    refine qrun 3 ?_
    refine qend [1, 2, 6, 7, 8, 9, 10, 12, 13, 22, 23, 27, 28, 29] ?_
    refine qdraw [(2, .ptr 2 (2), .none), (5, .lit (WideV ((s.y).getD k 0)), .none), (8, .lit (WideV (a ^ (k))), .none), (11, .int (((5 - k : Nat) : Int)), .none), (12, .lit (WideV (d ^ (5 - k))), .none), (13, .lit (WideV ((a ^ (k)) * (d ^ (5 - k)))), .none), (14, .lit (WideV (((s.y).getD k 0) * ((a ^ (k)) * (d ^ (5 - k))))), .none), (15, .lit (WideV (plS s.y a d (k + 1))), .none), (16, .ptr 2 (2), .none)] [1, 2, 6, 7, 8, 9, 10, 22, 23, 27, 28, 29] 5 ⟨?_, ?_, ?_, ?_, ?_, ?_, ?_, ?_, ?_, trivial⟩ ?_
    · exact qcast (qindex_ptr 102 (.tmp 7) (.tmp 35) Tryz.underlying102 2 0 2 1 (1) Tryz.sizeOf96)
    · exact qcast (qcall 79 #[(.tmp 38)] #[3] [.int ((s.y).getD k 0)] (.lit (WideV ((s.y).getD k 0))) (AF_wof _ (hs.y k).1 (hs.y k).2))
    · exact qcast (qcall 80 #[(.tmp 40), (.tmp 41)] #[3, 3] [.int (a), .int (((k : Nat) : Int))] (.lit (WideV (a ^ (k)))) (AF_power a (k) ha.1 ha.2 (by omega) (pw ha _ (by omega))))
    · exact qwD ((5 : Int) - ((k : Nat) : Int))
    · exact qcast (qcall 80 #[(.tmp 43), (.tmp 45)] #[3, 3] [.int (d), .int (((5 - k : Nat) : Int))] (.lit (WideV (d ^ (5 - k)))) (AF_power d (5 - k) hd.1 hd.2 (by omega) (pw hd _ (by omega))))
    · exact qcast (qcall 78 #[(.tmp 42), (.tmp 46)] #[96, 96] [.lit (WideV (a ^ (k))), .lit (WideV (d ^ (5 - k)))] (.lit (WideV ((a ^ (k)) * (d ^ (5 - k))))) (AF_smul _ _ (pow_fit ha (by omega)) (pow_fit hd (by omega)) ((((Bd.int ha.1 ha.2).pow k).mul ((Bd.int hd.1 hd.2).pow (5 - k))).fit (by omega))))
    · exact qcast (qcall 78 #[(.tmp 39), (.tmp 47)] #[96, 96] [.lit (WideV ((s.y).getD k 0)), .lit (WideV ((a ^ (k)) * (d ^ (5 - k))))] (.lit (WideV (((s.y).getD k 0) * ((a ^ (k)) * (d ^ (5 - k)))))) (AF_smul _ _ (fit64 (hs.y k)) ((((Bd.int ha.1 ha.2).pow k).mul ((Bd.int hd.1 hd.2).pow (5 - k))).fit (by omega)) ((term_bd (hs.y k) ha hd (by omega)).fit (by omega))))
    · exact qcast (qcall 49 #[(.tmp 37), (.tmp 48)] #[96, 96] [.lit (WideV (plS s.y a d k)), .lit (WideV (((s.y).getD k 0) * ((a ^ (k)) * (d ^ (5 - k)))))] (.lit (WideV (plS s.y a d (k + 1)))) (AF_sadd (plS s.y a d k) _ ((bY k (by omega)).fit (by omega)) ((term_bd (hs.y k) ha hd (by omega)).fit (by omega)) ((bY (k + 1) (by omega)).fit (by omega))))
    · exact qcast (qindex_ptr 102 (.tmp 7) (.tmp 34) Tryz.underlying102 2 0 2 1 (1) Tryz.sizeOf96)
    refine AC_list ?_
    refine qw (((k : Nat) : Int) + 1) (((k + 1 : Nat) : Int)) ?_
    refine qrun 1 ?_
    refine qend1 [1, 2, 6, 7, 8, 9, 10, 22, 23, 27, 28, 29] ?_
    exact K_of hK (by kernel_rfl)
   ·
    refine AC_seq_list ?_
    refine qopn (.bool false) (qlit (v := .bool (decide (((s.y.length : Nat) : Int) < ((s.y.length : Nat) : Int)))) (v' := .bool false) (congrArg Value.bool (decide_eq_false (by omega))) _) ?_
    refine qend [1, 2, 6, 7, 8, 9, 10, 22, 23, 27, 28, 29, 30] ?_
    refine AC_seq ?_
    refine qCfalse ?_
    refine AC_exit ?_
    refine qdraw [(2, .ptr 2 (2), .none), (4, .lit (WideV (((Nat.gcd ((Nat.gcd (plO s d).natAbs (plX s a d).natAbs : Nat) : Int).natAbs (plY s a d).natAbs : Nat) : Int))), .none)] [1, 2, 6, 7, 8, 9, 22, 23] 5 ⟨?_, ?_, trivial⟩ ?_
    · exact qcast (qindex_ptr 102 (.tmp 7) (.tmp 53) Tryz.underlying102 2 0 2 1 (1) Tryz.sizeOf96)
    · exact qcast (qcall 85 #[(.tmp 52), (.tmp 55)] #[96, 96] [.lit (WideV (((Nat.gcd (plO s d).natAbs (plX s a d).natAbs : Nat) : Int))), .lit (WideV (plY s a d))] (.lit (WideV (((Nat.gcd ((Nat.gcd (plO s d).natAbs (plX s a d).natAbs : Nat) : Int).natAbs (plY s a d).natAbs : Nat) : Int)))) (AF_sgcd _ _ (bG1.fit (by omega)) (bYY.fit (by omega))))
    refine AC_list ?_
    refine qi (2) ?_
    refine qrun 1 ?_
    refine qend1 [1, 2, 6, 7, 8, 9, 22, 23] ?_
    refine AC_seq_list ?_
    refine qb true ?_
    refine qend [1, 2, 6, 7, 8, 9, 22, 23, 24] ?_
    refine AC_seq ?_
    refine qCtrue ?_
    refine AC_skip ?_
    refine AC_seq ?_
    refine AC_block ?_
    refine AC_seq_list ?_
    refine qrun 1 ?_
    refine qopn (coefA (s.z)) (qindex_agg 151 (.tmp 22) (.tmp 23) Tryz.underlying151 1 Tryz.sizeOf65 2 false Tryz.isAgg65 [coefA (s.x), coefA (s.y), coefA (s.z)] (2) (coefA (s.z))) ?_
    refine qrun 2 ?_
    refine qend [1, 2, 6, 7, 8, 9, 10, 11, 22, 23] ?_
    refine AC_seq ?_
    refine AC_seq_list ?_
    refine qrun 1 ?_
    refine qopn (.int (((s.z.length : Nat) : Int))) (qlen (.tmp 27) 65 #[65] Tryz.underlying65 (s.z.length) (.inl ⟨1, (fun i0 => .int ((s.z).getD i0 0)), by kernel_rfl⟩)) ?_
    refine qrun 1 ?_
    refine qend [1, 2, 6, 7, 8, 9, 10, 22, 23, 27, 28, 29] ?_
    refine AC_block ?_
    refine AC_loop_seq (fun k => ⟨[(1, .int (a)), (2, .int (d)), (6, .ptr 1 (0)), (7, .ptr 2 (0)), (8, .ptr 3 (0)), (9, .ptr 4 (0)), (10, .int (2)), (22, .agg [coefA (s.x), coefA (s.y), coefA (s.z)]), (23, .int (2)), (27, coefA (s.z)), (28, .int (((s.z.length : Nat) : Int))), (29, .int (((k : Nat) : Int)))], [(0, .box 67 [.int (s.f), .int (s.t), .int (s.o), coefA (s.x), coefA (s.y), coefA (s.z)]), (1, .box 98 [.bool false, .lit (.string ⟨#[]⟩), .bool false, .lit (.string ⟨#[]⟩), .bool false, .lit (.string ⟨#[]⟩), .bool false, .lit (.string ⟨#[]⟩)]), (2, .box 102 [.bool (decide (plX s a d < 0)), .lit (.string (beB (plX s a d).natAbs)), .bool (decide (plY s a d < 0)), .lit (.string (beB (plY s a d).natAbs)), .bool (decide (plS s.z a d k < 0)), .lit (.string (beB (plS s.z a d k).natAbs))]), (3, .box 96 [.bool (decide (plO s d < 0)), .lit (.string (beB (plO s d).natAbs))]), (4, .box 96 [.bool (decide (((Nat.gcd ((Nat.gcd (plO s d).natAbs (plX s a d).natAbs : Nat) : Int).natAbs (plY s a d).natAbs : Nat) : Int) < 0)), .lit (.string (beB (((Nat.gcd ((Nat.gcd (plO s d).natAbs (plX s a d).natAbs : Nat) : Int).natAbs (plY s a d).natAbs : Nat) : Int)).natAbs))])], 5, 74⟩) (s.z.length) (by kernel_rfl) ?_ ?_
    ·
     intro k hk K hK
     refine AC_seq_list ?_
     refine qopn (.bool true) (qlit (v := .bool (decide (((k : Nat) : Int) < ((s.z.length : Nat) : Int)))) (v' := .bool true) (congrArg Value.bool (decide_eq_true (by omega))) _) ?_
     refine qend [1, 2, 6, 7, 8, 9, 10, 22, 23, 27, 28, 29, 30] ?_
     refine AC_seq ?_
     refine qCtrue ?_
     refine AC_skip ?_
     refine AC_seq ?_
     refine AC_block ?_
     refine AC_seq_list ?_
     refine qrun 1 ?_
     refine qopn (.elt 1 (fun q => AV.cell (.int ((s.z).getD k 0)) q)) (qindex_sl 65 (.tmp 27) (.tmp 29) Tryz.underlying65 1 (s.z.length) (k) (fun i0 => .int ((s.z).getD i0 0)) (((k : Nat) : Int)) Tryz.sizeOf3) ?_
     refine qrun 3 ?_
     refine qend [1, 2, 6, 7, 8, 9, 10, 12, 13, 22, 23, 27, 28, 29] ?_
     refine qdraw [(2, .ptr 2 (4), .none), (5, .lit (WideV ((s.z).getD k 0)), .none), (8, .lit (WideV (a ^ (k))), .none), (11, .int (((5 - k : Nat) : Int)), .none), (12, .lit (WideV (d ^ (5 - k))), .none), (13, .lit (WideV ((a ^ (k)) * (d ^ (5 - k)))), .none), (14, .lit (WideV (((s.z).getD k 0) * ((a ^ (k)) * (d ^ (5 - k))))), .none), (15, .lit (WideV (plS s.z a d (k + 1))), .none), (16, .ptr 2 (4), .none)] [1, 2, 6, 7, 8, 9, 10, 22, 23, 27, 28, 29] 5 ⟨?_, ?_, ?_, ?_, ?_, ?_, ?_, ?_, ?_, trivial⟩ ?_
     · exact qcast (qindex_ptr 102 (.tmp 7) (.tmp 35) Tryz.underlying102 2 0 2 2 (2) Tryz.sizeOf96)
     · exact qcast (qcall 79 #[(.tmp 38)] #[3] [.int ((s.z).getD k 0)] (.lit (WideV ((s.z).getD k 0))) (AF_wof _ (hs.z k).1 (hs.z k).2))
     · exact qcast (qcall 80 #[(.tmp 40), (.tmp 41)] #[3, 3] [.int (a), .int (((k : Nat) : Int))] (.lit (WideV (a ^ (k)))) (AF_power a (k) ha.1 ha.2 (by omega) (pw ha _ (by omega))))
     · exact qwD ((5 : Int) - ((k : Nat) : Int))
     · exact qcast (qcall 80 #[(.tmp 43), (.tmp 45)] #[3, 3] [.int (d), .int (((5 - k : Nat) : Int))] (.lit (WideV (d ^ (5 - k)))) (AF_power d (5 - k) hd.1 hd.2 (by omega) (pw hd _ (by omega))))
     · exact qcast (qcall 78 #[(.tmp 42), (.tmp 46)] #[96, 96] [.lit (WideV (a ^ (k))), .lit (WideV (d ^ (5 - k)))] (.lit (WideV ((a ^ (k)) * (d ^ (5 - k))))) (AF_smul _ _ (pow_fit ha (by omega)) (pow_fit hd (by omega)) ((((Bd.int ha.1 ha.2).pow k).mul ((Bd.int hd.1 hd.2).pow (5 - k))).fit (by omega))))
     · exact qcast (qcall 78 #[(.tmp 39), (.tmp 47)] #[96, 96] [.lit (WideV ((s.z).getD k 0)), .lit (WideV ((a ^ (k)) * (d ^ (5 - k))))] (.lit (WideV (((s.z).getD k 0) * ((a ^ (k)) * (d ^ (5 - k)))))) (AF_smul _ _ (fit64 (hs.z k)) ((((Bd.int ha.1 ha.2).pow k).mul ((Bd.int hd.1 hd.2).pow (5 - k))).fit (by omega)) ((term_bd (hs.z k) ha hd (by omega)).fit (by omega))))
     · exact qcast (qcall 49 #[(.tmp 37), (.tmp 48)] #[96, 96] [.lit (WideV (plS s.z a d k)), .lit (WideV (((s.z).getD k 0) * ((a ^ (k)) * (d ^ (5 - k)))))] (.lit (WideV (plS s.z a d (k + 1)))) (AF_sadd (plS s.z a d k) _ ((bZ k (by omega)).fit (by omega)) ((term_bd (hs.z k) ha hd (by omega)).fit (by omega)) ((bZ (k + 1) (by omega)).fit (by omega))))
     · exact qcast (qindex_ptr 102 (.tmp 7) (.tmp 34) Tryz.underlying102 2 0 2 2 (2) Tryz.sizeOf96)
     refine AC_list ?_
     refine qw (((k : Nat) : Int) + 1) (((k + 1 : Nat) : Int)) ?_
     refine qrun 1 ?_
     refine qend1 [1, 2, 6, 7, 8, 9, 10, 22, 23, 27, 28, 29] ?_
     exact K_of hK (by kernel_rfl)
    ·
     refine AC_seq_list ?_
     refine qopn (.bool false) (qlit (v := .bool (decide (((s.z.length : Nat) : Int) < ((s.z.length : Nat) : Int)))) (v' := .bool false) (congrArg Value.bool (decide_eq_false (by omega))) _) ?_
     refine qend [1, 2, 6, 7, 8, 9, 10, 22, 23, 27, 28, 29, 30] ?_
     refine AC_seq ?_
     refine qCfalse ?_
     refine AC_exit ?_
     refine qdraw [(2, .ptr 2 (4), .none), (4, .lit (WideV (plG s a d)), .none)] [1, 2, 6, 7, 8, 9, 22, 23] 5 ⟨?_, ?_, trivial⟩ ?_
     · exact qcast (qindex_ptr 102 (.tmp 7) (.tmp 53) Tryz.underlying102 2 0 2 2 (2) Tryz.sizeOf96)
     · exact qcast (qcall 85 #[(.tmp 52), (.tmp 55)] #[96, 96] [.lit (WideV (((Nat.gcd ((Nat.gcd (plO s d).natAbs (plX s a d).natAbs : Nat) : Int).natAbs (plY s a d).natAbs : Nat) : Int))), .lit (WideV (plZ s a d))] (.lit (WideV (plG s a d))) (AF_sgcd _ _ (bG2.fit (by omega)) (bZZ.fit (by omega))))
     refine AC_list ?_
     refine qi (3) ?_
     refine qrun 1 ?_
     refine qend1 [1, 2, 6, 7, 8, 9, 22, 23] ?_
     refine AC_seq_list ?_
     refine qb false ?_
     refine qend [1, 2, 6, 7, 8, 9, 22, 23, 24] ?_
     refine AC_seq ?_
     refine qCfalse ?_
     refine AC_exit ?_
     refine qsdraw [(0, .ptr 2 (0), .none), (3, .lit (WideV ((placeL s a d).x)), .none), (4, .ptr 2 (2), .none), (7, .lit (WideV ((placeL s a d).y)), .none), (8, .ptr 2 (4), .none), (11, .lit (WideV ((placeL s a d).z)), .none), (14, .lit (WideV ((placeL s a d).o)), .none), (15, .lit (.agg #[.bool (decide ((placeL s a d).x < 0)), .string (beB ((placeL s a d).x).natAbs), .bool (decide ((placeL s a d).y < 0)), .string (beB ((placeL s a d).y).natAbs), .bool (decide ((placeL s a d).z < 0)), .string (beB ((placeL s a d).z).natAbs), .bool (decide ((placeL s a d).o < 0)), .string (beB ((placeL s a d).o).natAbs)]), .none)] [6] 5 ⟨?_, ?_, ?_, ?_, ?_, ?_, ?_, ?_, trivial⟩ ?_
     · exact qcast (qindex_ptr 102 (.tmp 7) (.const (.int .i64 (0))) Tryz.underlying102 2 0 2 0 (0) Tryz.sizeOf96)
     · exact qcast (qcall 48 #[(.tmp 59), (.tmp 60)] #[96, 96] [.lit (WideV (plX s a d)), .lit (WideV (plG s a d))] (.lit (WideV ((placeL s a d).x))) (AF_squo _ _ (bXX.fit (by omega)) (bG3.fit (by omega)) hg))
     · exact qcast (qindex_ptr 102 (.tmp 7) (.const (.int .i64 (1))) Tryz.underlying102 2 0 2 1 (1) Tryz.sizeOf96)
     · exact qcast (qcall 48 #[(.tmp 63), (.tmp 64)] #[96, 96] [.lit (WideV (plY s a d)), .lit (WideV (plG s a d))] (.lit (WideV ((placeL s a d).y))) (AF_squo _ _ (bYY.fit (by omega)) (bG3.fit (by omega)) hg))
     · exact qcast (qindex_ptr 102 (.tmp 7) (.const (.int .i64 (2))) Tryz.underlying102 2 0 2 2 (2) Tryz.sizeOf96)
     · exact qcast (qcall 48 #[(.tmp 67), (.tmp 68)] #[96, 96] [.lit (WideV (plZ s a d)), .lit (WideV (plG s a d))] (.lit (WideV ((placeL s a d).z))) (AF_squo _ _ (bZZ.fit (by omega)) (bG3.fit (by omega)) hg))
     · exact qcast (qcall 48 #[(.tmp 70), (.tmp 71)] #[96, 96] [.lit (WideV (plO s d)), .lit (WideV (plG s a d))] (.lit (WideV ((placeL s a d).o))) (AF_squo _ _ (bO.fit (by omega)) (bG3.fit (by omega)) hg))
     · exact qcast (qbuild_struct 98 #[(0, (.tmp 61)), (1, (.tmp 65)), (2, (.tmp 69)), (3, (.tmp 72))] _ Tryz.zeroValue98 Tryz.underlying98 #[(0, 2), (2, 2), (4, 2), (6, 2)] [.bool (decide ((placeL s a d).x < 0)), .lit (.string (beB ((placeL s a d).x).natAbs)), .bool (decide ((placeL s a d).y < 0)), .lit (.string (beB ((placeL s a d).y).natAbs)), .bool (decide ((placeL s a d).z < 0)), .lit (.string (beB ((placeL s a d).z).natAbs)), .bool (decide ((placeL s a d).o < 0)), .lit (.string (beB ((placeL s a d).o).natAbs))])
     refine AC_ret ?_
     exact ⟨.inl rfl, (resOk1 Tryz.results65 (resV_cell (x := .lit (.agg #[.bool (decide ((placeL s a d).x < 0)), .string (beB ((placeL s a d).x).natAbs), .bool (decide ((placeL s a d).y < 0)), .string (beB ((placeL s a d).y).natAbs), .bool (decide ((placeL s a d).z < 0)), .string (beB ((placeL s a d).z).natAbs), .bool (decide ((placeL s a d).o < 0)), .string (beB ((placeL s a d).o).natAbs)])) 1 Tryz.isAgg98 8 Tryz.sizeOf98 0 [.bool (decide ((placeL s a d).x < 0)), .lit (.string (beB ((placeL s a d).x).natAbs)), .bool (decide ((placeL s a d).y < 0)), .lit (.string (beB ((placeL s a d).y).natAbs)), .bool (decide ((placeL s a d).z < 0)), .lit (.string (beB ((placeL s a d).z).natAbs)), .bool (decide ((placeL s a d).o < 0)), .lit (.string (beB ((placeL s a d).o).natAbs))] (by kernel_rfl) 98 (by kernel_rfl) (Nat.le_of_ble_eq_true (by kernel_rfl)) (by kernel_rfl) (by kernel_rfl))).cast (by kernel_rfl)⟩
end Go.Proofs.YtkcnbaeoahoglaaGreat
namespace Go.Proofs.YtkcnbaeoahoglaaGreat
open Go.RowKit
variable {B : Nat} {D0 : Env} {o : Oper} {ev : Operand → AV} {pre : Nat → Option ABlk}
theorem opS_eql (t t' : TypeId) (x y : Operand) (ho : o.op = .binOp .eql t x y t') (vs us : Array Value) (hx : ev x = .lit (.agg vs)) (hy : ev y = .lit (.agg us)) (hg : Tryz.prog.eqGuardType Tryz.prog.depth t = false) (b : Bool) (heq : ∀ w, (Op.equal t (.agg vs) (.agg us)).run Tryz.prog w = .ok b w) : OpS Tryz.prog B D0 o ev pre (.bool b) .none := by
 refine opS_val (.inl rfl) fun E a c _ _ hv => ⟨_, ?_, .lit _ _⟩
 have h1 := hv x (by simp [ho, Op.operands])
 have h2 := hv y (by simp [ho, Op.operands])
 rw [hx] at h1
 rw [hy] at h2
 simp [execOp, ho, h1.lit_inv, h2.lit_inv, eqGuard, hg, binOp, heq]
theorem opS_neq (t t' : TypeId) (x y : Operand) (ho : o.op = .binOp .neq t x y t') (vs us : Array Value) (hx : ev x = .lit (.agg vs)) (hy : ev y = .lit (.agg us)) (hg : Tryz.prog.eqGuardType Tryz.prog.depth t = false) (b : Bool) (heq : ∀ w, (Op.equal t (.agg vs) (.agg us)).run Tryz.prog w = .ok b w) : OpS Tryz.prog B D0 o ev pre (.bool (!b)) .none := by
 refine opS_val (.inl rfl) fun E a c _ _ hv => ⟨_, ?_, .lit _ _⟩
 have h1 := hv x (by simp [ho, Op.operands])
 have h2 := hv y (by simp [ho, Op.operands])
 rw [hx] at h1
 rw [hy] at h2
 simp [execOp, ho, h1.lit_inv, h2.lit_inv, eqGuard, hg, binOp, heq]
theorem opS_cast_bool {b b' : Bool} (h : OpS Tryz.prog B D0 o ev pre (.bool b) .none) (e : b = b') : OpS Tryz.prog B D0 o ev pre (.bool b') .none := e ▸ h
theorem run_eqW (b b' : Bool) (s s' : ByteArray) (w : World) (d : Nat) : (Op.equalIn (d + 2) 96 (.agg #[.bool b, .string s]) (.agg #[.bool b', .string s'])).run Tryz.prog w = .ok ((b == b') && (s == s')) w := by
 have h91 := Tryz.runUnderlying96
 have ha4 := Tryz.isAgg4
 unfold Op.equalIn
 simp [h91, part, ha4, Op.equalIn]
 by_cases h1 : b = b'
 ·
  subst h1
  cases hs : (s == s') <;> simp
 · simp [h1]
theorem eqW (x y : Int) (w : World) (d : Nat) : (Op.equalIn (d + 2) 96 (WideV x) (WideV y)).run Tryz.prog w = .ok (decide (x = y)) w := by
 unfold WideV
 rw [run_eqW]
 congr 1
 rw [beq_toListBytes]
 by_cases h : x = y
 · subst h; simp
 ·
  rw [decide_eq_false h]
  cases h1 : ((beB x.natAbs).toList == (beB y.natAbs).toList) with
  | false => simp
  | true =>
   have h3 : x.natAbs = y.natAbs := beB_inj1 (by simpa using h1)
   have h4 : ¬ (decide (x < 0) = decide (y < 0)) := fun e => by
    have : x < 0 ↔ y < 0 := by simpa using e
    apply h
    omega
   simpa using h4
theorem eqPlace (p q : PL) (w : World) : (Op.equal 98 (placeA p).val (placeA q).val).run Tryz.prog w = .ok (decide (p = q)) w := by
 have e : ∀ (x y : Int) (w : World), (Op.equalIn 9999 96 (WideV x) (WideV y)).run Tryz.prog w = .ok (decide (x = y)) w := fun x y w => eqW x y w 9997
 have h93 := Tryz.runUnderlying98
 have h91 := Tryz.isAgg96
 have hs := Tryz.sizeOf96
 have hin : Tryz.prog.stoodInHeld 98 = false := by kernel_rfl
 unfold Op.equal
 rw [show Op.maxDepth = 9999 + 1 from rfl]
 unfold Op.equalIn
 simp only [AV.val]
 unfold WideV at e
 simp [h93, part, h91, hs, e, hin]
 obtain ⟨x, y, z, u⟩ := p
 obtain ⟨x', y', z', u'⟩ := q
 simp only [PL.mk.injEq]
 by_cases h1 : x = x' <;> by_cases h2 : y = y' <;> by_cases h3 : z = z' <;> by_cases h4 : u = u' <;> simp [h1, h2, h3, h4]
theorem eqVec3 (x y z x' y' z' : Int) (w : World) : (Op.equal 55 (.agg #[.int .i64 x, .int .i64 y, .int .i64 z]) (.agg #[.int .i64 x', .int .i64 y', .int .i64 z'])).run Tryz.prog w = .ok (decide (x = x' ∧ y = y' ∧ z = z')) w := by
 have h55 := Tryz.runUnderlying55
 have h3 := Tryz.runUnderlying3
 have ha := Tryz.isAgg3
 have hin : Tryz.prog.stoodInHeld 55 = false := by kernel_rfl
 unfold Op.equal
 rw [show Op.maxDepth = 9998 + 1 + 1 from rfl]
 unfold Op.equalIn
 simp [h55, part, ha, hin]
 unfold Op.equalIn
 simp [h3]
 by_cases h1 : x = x' <;> by_cases h2 : y = y' <;> by_cases h3 : z = z' <;> simp [h1, h2, h3]
theorem coef_at {E : Env} {l : List Int} {v : Value} (h : VR E (coefA l) v) : ∃ A c, v = .slice A l.length c ∧ CoefAt E.w v l := by
 obtain ⟨n, hn⟩ : ∃ n, l.length = n := ⟨_, rfl⟩
 unfold coefA at h
 rw [hn] at h ⊢
 cases h with
 | sl0 _ _ _ A c => exact ⟨A, c, rfl, .inl ⟨A, c, rfl, List.eq_nil_of_length_eq_zero hn⟩⟩
 | sl _ _ _ _ b q c us hn0 hD hc hr =>
  refine ⟨_, c, rfl, .inr ⟨b, q, c, by rw [hn], fun i hi => ?_⟩⟩
  have h1 := hc i 0 (by omega) (by omega)
  have h2 := hr i 0 (by omega) (by omega)
  have h3 : us i 0 = .int .i64 (l.getD i 0) := h2.lit_inv
  rw [← h3]; exact h1
theorem AF_segvalid (s : Sg) (hs : SgIn s) : AF Tryz.prog 74 [segA s] (.bool (decide (SegOk s))) := by
 intro E us hD hn hv
 have h0 := hv 0 (by simp)
 obtain ⟨u, rfl⟩ : ∃ u, us = #[u] := ⟨us.getD 0 undef, by
  apply Array.ext
  · simpa using hn
  ·
   intro i h1 h2
   have : i = 0 := by simp at hn; omega
   subst this
   simp [h1]⟩
 simp at h0
 cases h0 with
 | agg _ _ vs hsz hr =>
  have g := VR.tops hr
  have l0 : vs.getD 0 undef = .int .i64 s.f := (g 0).lit_inv
  have l1 : vs.getD 1 undef = .int .i64 s.t := (g 1).lit_inv
  have l2 : vs.getD 2 undef = .int .i64 s.o := (g 2).lit_inv
  obtain ⟨A3, c3, e3, k3⟩ := coef_at (l := s.x) (g 3)
  obtain ⟨A4, c4, e4, k4⟩ := coef_at (l := s.y) (g 4)
  obtain ⟨A5, c5, e5, k5⟩ := coef_at (l := s.z) (g 5)
  have hvs : vs = #[.int .i64 s.f, .int .i64 s.t, .int .i64 s.o, .slice A3 s.x.length c3, .slice A4 s.y.length c4, .slice A5 s.z.length c5] := by
   apply Array.ext
   · simpa using hsz
   ·
    intro i h1 h2
    have e : vs[i] = vs.getD i undef := by simp [h1]
    rw [e]
    simp at h2
    match i, h2 with
    | 0, _ => exact l0
    | 1, _ => exact l1
    | 2, _ => exact l2
    | 3, _ => exact e3
    | 4, _ => exact e4
    | 5, _ => exact e5
  subst hvs
  rw [e3] at k3
  rw [e4] at k4
  rw [e5] at k5
  refine (segvalid_any s A3 A4 A5 c3 c4 c5 E.w k3 k4 k5 (fun k i => ?_)).mono ?_
  ·
   match k with
   | 0 => exact hs.x i
   | 1 => exact hs.y i
   | k + 2 => exact hs.z i
  ·
   rintro e w' ⟨rfl, hb⟩
   exact ⟨_, E.D, rfl, .lit _ _, hb, fun _ h => h, fun _ h => .inl h, fun b hb' => Nat.lt_of_lt_of_le (hD b hb') hb.size⟩
end Go.Proofs.YtkcnbaeoahoglaaGreat
namespace Go.Proofs.YtkcnbaeoahoglaaGreat
open Go.RowKit
variable {P : Program} {R : Option Nat} {B : Nat} {D0 : Env} {o : Oper} {ev : Operand → AV} {pre : Nat → Option ABlk} {s : St} {Q : Exit → St → Prop}
def AV.wk : AV → AV
 | .slc e n f => .sl e n f
 | x => x
theorem VR.wk {E : Env} {x : AV} {v : Value} (h : VR E x v) : VR E x.wk v := by
 cases h with
 | slc _ _ _ _ _ _ _ h => exact h
 | lit => exact .lit _ _
 | agg _ l vs hn h => exact .agg _ _ _ hn h
 | tup _ l vs hn h => exact .tup _ _ _ hn h
 | sl0 => exact .sl0 _ _ _ _ _
 | sl _ _ _ _ _ _ _ us hn hD hc hr => exact .sl _ _ _ _ _ _ _ us hn hD hc hr
 | elt _ _ _ _ _ us hD hc hr => exact .elt _ _ _ _ _ us hD hc hr
 | ptr _ _ _ hA => exact .ptr _ _ _ hA
 | osl _ _ _ _ hA => exact .osl _ _ _ _ hA
 | fn _ g l vs hn h => exact .fn _ _ _ _ hn h
 | yld _ _ hA => exact .yld _ _ hA
 | top => exact .top _ _
theorem OpS.wk {V : AV} {f : Eff} (h : OpS P B D0 o (fun x => (ev x).wk) pre V f) : OpS P B D0 o ev pre V f := fun E a c K Q h1 h2 h3 h4 hv k => h E a c K Q h1 h2 h3 h4 (fun x hx => (hv x hx).wk) k
theorem frz_sim {E : Env} {a : Act} (hs : Sim B D0 E s a) {id : Nat} {blk : ABlk} (hc : hget s.h id = some blk) : Sim B D0 (E.fr id) ⟨s.t, hdel s.h id, s.nx, s.n⟩ a := by
 have hh := hs.h
 obtain ⟨j1, j2, j3, j4⟩ := hh.live id _ hc
 refine ⟨hs.size, hs.df.up (E.le_fr id).D (E.le_fr id).blk, fun i => (hs.t i).up (E.le_fr id), ⟨fun k x hx => ?_, fun i j x y hx hy hne => ?_, fun b hb => ?_, hh.abd, hh.le0.trans (E.le_fr id), fun b hb => ?_, hh.B⟩, hs.A⟩
 ·
  rw [hget_hdel] at hx
  by_cases e : id = k
  · rw [if_pos e] at hx; cases hx
  ·
   rw [if_neg e] at hx
   obtain ⟨l1, l2, l3, l4⟩ := hh.live k x hx
   refine ⟨l1, l2.up (E.le_fr id) rfl, fun hd => ?_, l4⟩
   rcases hd with hd | hd
   · exact l3 hd
   · exact hh.inj k id x _ hx hc (fun e2 => e e2.symm) hd
 ·
  rw [hget_hdel] at hx hy
  by_cases e : id = i
  · rw [if_pos e] at hx; cases hx
  ·
   rw [if_neg e] at hx
   by_cases e2 : id = j
   · rw [if_pos e2] at hy; cases hy
   ·
    rw [if_neg e2] at hy
    exact hh.inj i j x y hx hy hne
 ·
  rcases hb with hb | hb
  · exact hh.bnd b hb
  · rw [hb]; exact j2.lt
 ·
  rcases hb with hb | hb
  · exact hh.new b hb
  · rw [hb]; exact .inr j4
theorem frz_row {E : Env} {c : Nat → Option ABlk} (hh : HR B D0 E c) {id e n : Nat} {t : TypeId} {f : Nat → AV} (hc : c id = some (.vec t e n f)) (hf : ∀ i, i < n → ∀ j, j < e → ((f i).cell j).flat = true) {v : Value} (hv : VR E (.osl id e n) v) : VR (E.fr id) (.sl e n f) v := by
 obtain ⟨arr, hb, hn, hcp, hr⟩ := hh.vec hc
 cases hv with
 | osl _ _ _ _ hA =>
  by_cases hm : n = 0
  · subst hm; exact .sl0 _ _ _ _ _
  ·
   refine .sl _ _ _ _ _ _ _ (fun i j => arr.getD (i * e + j) undef) (by omega) (.inr rfl) (fun i j hi hj => ?_) fun i j hi hj => ?_
   ·
    have hlt : i * e + j < n * e := by
     have := Nat.mul_le_mul_right e (show i + 1 ≤ n by omega)
     rw [Nat.succ_mul] at this; omega
    rw [Nat.zero_add]
    exact cell_at hb (by omega)
   · exact ((hr i j (by omega) hj).flat (hf i (by omega) j hj)).up (E.le_fr id).fz
theorem tget_pre : ∀ (ds : List Nat) (x : AV) (t : ASlots) (i : Nat), (tget (ds.map (fun d => (d, x)) ++ t) i = x ∧ i ∈ ds) ∨ tget (ds.map (fun d => (d, x)) ++ t) i = tget t i
 | [], _, _, _ => .inr rfl
 | d :: ds, x, t, i => by
  rw [List.map_cons, List.cons_append, tget_cons]
  by_cases h : d = i
  · subst h; rw [if_pos rfl]; exact .inl ⟨rfl, List.mem_cons_self⟩
  ·
   rw [if_neg h]
   rcases tget_pre ds x t i with ⟨h1, h2⟩ | h1
   · exact .inl ⟨h1, List.mem_cons_of_mem _ h2⟩
   · exact .inr h1
theorem freezeS_sim (id : Nat) (ds : List Nat) (t : TypeId) (e n : Nat) (f : Nat → AV) (hd : ds.map (tget s.t) = ds.map fun _ => .osl id e n) (hc : hget s.h id = some (.vec t e n f)) (hf : ∀ i, i < n → ∀ j, j < e → ((f i).cell j).flat = true) (E : Env) (a : Act) (hs : Sim B D0 E s a) : ∃ E', E'.w = E.w ∧ Sim B D0 E' ⟨ds.map (fun d => (d, .sl e n f)) ++ s.t, hdel s.h id, s.nx, s.n⟩ a := by
 refine ⟨E.fr id, rfl, ?_⟩
 have k := frz_sim hs hc
 refine ⟨k.size, k.df, fun i => ?_, k.h, k.A⟩
 show VR (E.fr id) (tget (ds.map (fun d => (d, AV.sl e n f)) ++ s.t) i) _
 rcases tget_pre ds (.sl e n f) s.t i with ⟨h1, h2⟩ | h1
 ·
  rw [h1]
  have h3 : tget s.t i = .osl id e n := List.map_eq_map_iff.1 hd i h2
  have h4 := hs.t i
  rw [h3] at h4
  exact frz_row hs.h hc hf h4
 · rw [h1]; exact k.t i
theorem AC_freezeS {c : Code} (id : Nat) (ds : List Nat) (t : TypeId) (e n : Nat) (f : Nat → AV) (hd : ds.map (tget s.t) = ds.map fun _ => .osl id e n) (hc : hget s.h id = some (.vec t e n f)) (hf : ∀ i, i < n → ∀ j, j < e → ((f i).cell j).flat = true) (h : AC P R B D0 c ⟨ds.map (fun d => (d, .sl e n f)) ++ s.t, hdel s.h id, s.nx, s.n⟩ Q) : AC P R B D0 c s Q := AC_know (freezeS_sim id ds t e n f hd hc hf) h
theorem AL_freezeS {ops : Array Oper} {l : List Oper} (id : Nat) (ds : List Nat) (t : TypeId) (e n : Nat) (f : Nat → AV) (hd : ds.map (tget s.t) = ds.map fun _ => .osl id e n) (hc : hget s.h id = some (.vec t e n f)) (hf : ∀ i, i < n → ∀ j, j < e → ((f i).cell j).flat = true) (h : AL P R B D0 ops l ⟨ds.map (fun d => (d, .sl e n f)) ++ s.t, hdel s.h id, s.nx, s.n⟩ Q) : AL P R B D0 ops l s Q := AL_know (freezeS_sim id ds t e n f hd hc hf) h
theorem frz_rowc {E : Env} {c : Nat → Option ABlk} (hh : HR B D0 E c) {id e n : Nat} {t : TypeId} {f : Nat → AV} (hc : c id = some (.vec t e n f)) (hf : ∀ i, i < n → ∀ j, j < e → ((f i).cell j).flat = true) {v : Value} (hv : VR E (.osl id e n) v) : VR (E.fr id) (.slc e n f) v := by
 have h1 := frz_row hh hc hf hv
 obtain ⟨arr, hb, hn, hcp, hr⟩ := hh.vec hc
 cases hv with
 | osl _ _ _ _ hA => exact .slc _ _ _ _ _ _ hcp.2.1 h1
theorem AC_freezeC {c : Code} (id b off : Nat) (t : TypeId) (e n : Nat) (f : Nat → AV) (tb : TypeId) (cs cs' : List AV) (hb : hget s.h b = some (.box tb cs)) (ho : cs.getD off .top = .osl id e n) (hcs : cs.set off (.sl e n f) = cs') (hne : Nat.beq id b = false) (hc : hget s.h id = some (.vec t e n f)) (hf : ∀ i, i < n → ∀ j, j < e → ((f i).cell j).flat = true) (h : AC P R B D0 c ⟨s.t, hset (hdel s.h id) b (.box tb cs'), s.nx, s.n⟩ Q) : AC P R B D0 c s Q := by
 subst hcs
 refine AC_know (fun E a hs => ⟨E.fr id, rfl, ?_⟩) h
 have k := frz_sim hs hc
 have hne' : ¬ id = b := fun e => by rw [e, Nat.beq_refl] at hne; cases hne
 have hb2 : hget (hdel s.h id) b = some (.box tb cs) := by rw [hget_hdel, if_neg hne']; exact hb
 refine ⟨k.size, k.df, k.t, ?_, k.A⟩
 have key : ∀ i, hget (hset (hdel s.h id) b (.box tb (cs.set off (.sl e n f)))) i = if b = i then some (.box tb (cs.set off (.sl e n f))) else hget (hdel s.h id) i := fun i => hget_hset _ _ _ _
 have kh := k.h
 have real : ∀ i x, hget (hset (hdel s.h id) b (.box tb (cs.set off (.sl e n f)))) i = some x → ∃ y, hget (hdel s.h id) i = some y := fun i x hx => by
  rw [key] at hx
  by_cases e1 : b = i
  · subst e1; exact ⟨_, hb2⟩
  · rw [if_neg e1] at hx; exact ⟨x, hx⟩
 refine ⟨fun i x hx => ?_, fun i j x y hx hy hne => ?_, kh.bnd, kh.abd, kh.le0, kh.new, kh.B⟩
 ·
  rw [key] at hx
  by_cases e1 : b = i
  ·
   subst e1
   rw [if_pos rfl] at hx
   cases hx
   obtain ⟨l1, l2, l3, l4⟩ := kh.live b _ hb2
   refine ⟨l1, ?_, l3, l4⟩
   generalize hpb : (E.fr id).π b = pb at l2
   generalize (E.fr id).cap b = cb at l2
   cases l2 with
   | box _ _ _ _ arr h1 hn hr =>
    refine .box _ _ _ _ arr h1 (by simpa using hn) fun q hq => ?_
    by_cases e2 : off = q
    ·
     subst e2
     have hq2 : off < cs.length := by simpa using hq
     have e3 : (cs.set off (.sl e n f)).getD off .top = .sl e n f := by simp [List.getD_eq_getElem?_getD, hq2]
     rw [e3]
     obtain ⟨arr0, hb0, hvs0⟩ := hs.h.box hb
     have e4 : E.π b = pb := hpb
     rw [e4] at hb0
     have e5 : (E.fr id).w = E.w := rfl
     rw [e5, hb0] at h1
     cases h1
     have h5 := hvs0.2 off
     rw [ho] at h5
     exact frz_row hs.h hc hf h5
    ·
     have e3 : (cs.set off (.sl e n f)).getD q .top = cs.getD q .top := by simp [List.getD_eq_getElem?_getD, List.getElem?_set, e2]
     rw [e3]; exact hr q (by simpa using hq)
  · rw [if_neg e1] at hx; exact kh.live i x hx
 ·
  obtain ⟨x', hx'⟩ := real i x hx
  obtain ⟨y', hy'⟩ := real j y hy
  exact kh.inj i j x' y' hx' hy' hne
theorem AC_freezeCC {c : Code} (id b off : Nat) (t : TypeId) (e n : Nat) (f : Nat → AV) (tb : TypeId) (cs cs' : List AV) (hb : hget s.h b = some (.box tb cs)) (ho : cs.getD off .top = .osl id e n) (hcs : cs.set off (.slc e n f) = cs') (hne : Nat.beq id b = false) (hc : hget s.h id = some (.vec t e n f)) (hf : ∀ i, i < n → ∀ j, j < e → ((f i).cell j).flat = true) (h : AC P R B D0 c ⟨s.t, hset (hdel s.h id) b (.box tb cs'), s.nx, s.n⟩ Q) : AC P R B D0 c s Q := by
 subst hcs
 refine AC_know (fun E a hs => ⟨E.fr id, rfl, ?_⟩) h
 have k := frz_sim hs hc
 have hne' : ¬ id = b := fun e => by rw [e, Nat.beq_refl] at hne; cases hne
 have hb2 : hget (hdel s.h id) b = some (.box tb cs) := by rw [hget_hdel, if_neg hne']; exact hb
 refine ⟨k.size, k.df, k.t, ?_, k.A⟩
 have key : ∀ i, hget (hset (hdel s.h id) b (.box tb (cs.set off (.slc e n f)))) i = if b = i then some (.box tb (cs.set off (.slc e n f))) else hget (hdel s.h id) i := fun i => hget_hset _ _ _ _
 have kh := k.h
 have real : ∀ i x, hget (hset (hdel s.h id) b (.box tb (cs.set off (.slc e n f)))) i = some x → ∃ y, hget (hdel s.h id) i = some y := fun i x hx => by
  rw [key] at hx
  by_cases e1 : b = i
  · subst e1; exact ⟨_, hb2⟩
  · rw [if_neg e1] at hx; exact ⟨x, hx⟩
 refine ⟨fun i x hx => ?_, fun i j x y hx hy hne => ?_, kh.bnd, kh.abd, kh.le0, kh.new, kh.B⟩
 ·
  rw [key] at hx
  by_cases e1 : b = i
  ·
   subst e1
   rw [if_pos rfl] at hx
   cases hx
   obtain ⟨l1, l2, l3, l4⟩ := kh.live b _ hb2
   refine ⟨l1, ?_, l3, l4⟩
   generalize hpb : (E.fr id).π b = pb at l2
   generalize (E.fr id).cap b = cb at l2
   cases l2 with
   | box _ _ _ _ arr h1 hn hr =>
    refine .box _ _ _ _ arr h1 (by simpa using hn) fun q hq => ?_
    by_cases e2 : off = q
    ·
     subst e2
     have hq2 : off < cs.length := by simpa using hq
     have e3 : (cs.set off (.slc e n f)).getD off .top = .slc e n f := by simp [List.getD_eq_getElem?_getD, hq2]
     rw [e3]
     obtain ⟨arr0, hb0, hvs0⟩ := hs.h.box hb
     have e4 : E.π b = pb := hpb
     rw [e4] at hb0
     have e5 : (E.fr id).w = E.w := rfl
     rw [e5, hb0] at h1
     cases h1
     have h5 := hvs0.2 off
     rw [ho] at h5
     exact frz_rowc hs.h hc hf h5
    ·
     have e3 : (cs.set off (.slc e n f)).getD q .top = cs.getD q .top := by simp [List.getD_eq_getElem?_getD, List.getElem?_set, e2]
     rw [e3]; exact hr q (by simpa using hq)
  · rw [if_neg e1] at hx; exact kh.live i x hx
 ·
  obtain ⟨x', hx'⟩ := real i x hx
  obtain ⟨y', hy'⟩ := real j y hy
  exact kh.inj i j x' y' hx' hy' hne
end Go.Proofs.YtkcnbaeoahoglaaGreat
namespace Go.Proofs.YtkcnbaeoahoglaaGreat
open Go.RowKit
theorem sl_sees {E : Env} {e n : Nat} {f : Nat → AV} {v : Value} (h : VR E (.sl e n f) v) (cs : List Value) (hl : cs.length = n * e) (hc : ∀ i j, i < n → j < e → (f i).cell j = .lit (cs.getD (i * e + j) undef)) : SeesD E.w E.D e v n cs := by
 cases h with
 | sl0 => exact ⟨hl, .inl ⟨_, _, rfl, rfl⟩⟩
 | sl _ _ _ _ b q c us hn hD hcell hr =>
  refine ⟨hl, .inr ⟨b, q, c, rfl, hD, fun k u hu => ?_⟩⟩
  obtain ⟨hk, he⟩ := List.getElem?_eq_some_iff.1 hu
  rw [hl] at hk
  have he0 : 0 < e := by
   rcases Nat.eq_zero_or_pos e with h | h
   · subst h; omega
   · exact h
  obtain ⟨d1, d2, d3⟩ := div_lt hk he0
  have h1 := hcell _ _ d1 d2
  have h2 := hr _ _ d1 d2
  rw [hc _ _ d1 d2, d3] at h2
  have h3 := h2.lit_inv
  rw [Nat.add_assoc, d3, h3] at h1
  rw [h1, List.getD_eq_getElem?_getD, hu]; rfl
theorem sees_sl {w : World} {D : Nat → Prop} {e n : Nat} {v : Value} {cs : List Value} (h : SeesD w D e v n cs) {E : Env} (hw : E.w = w) (hD : ∀ b, D b → E.D b) {f : Nat → AV} (hc : ∀ i j, i < n → j < e → VR E.fz ((f i).cell j) (cs.getD (i * e + j) undef)) : VR E (.sl e n f) v := by
 subst hw
 by_cases hn : n = 0
 ·
  obtain ⟨A, c, rfl⟩ := h.slice
  subst hn
  exact .sl0 _ _ _ _ _
 ·
  rcases h.2 with ⟨A, c, rfl, h0⟩ | ⟨b, o, c, rfl, hd, hcell⟩
  · exact absurd h0 hn
  ·
   refine .sl _ _ _ _ _ _ _ (fun i j => cs.getD (i * e + j) undef) (by omega) (hD b hd) (fun i j hi hj => ?_) hc
   have hlt : i * e + j < n * e := by
    have := Nat.mul_le_mul_right e (show i + 1 ≤ n from hi)
    rw [Nat.succ_mul] at this; omega
   rw [Nat.add_assoc]
   exact hcell _ _ (by rw [List.getD_eq_getElem?_getD, List.getElem?_eq_getElem (by rw [h.1]; exact hlt)]; rfl)
theorem ints_getD (l : List Int) {i : Nat} (h : i < l.length) : (ints l).getD i undef = .int .i64 (l.getD i 0) := by
  rw [List.getD_eq_getElem?_getD, ints_at l i h, List.getD_eq_getElem?_getD, List.getElem?_eq_getElem h]; rfl
theorem coef_sl {w : World} {D : Nat → Prop} {l : List Int} {v : Value} (h : SeesD w D 1 v l.length (ints l)) {E : Env} (hw : E.w = w) (hD : ∀ b, D b → E.D b) : VR E (coefA l) v :=
 sees_sl h hw hD fun i j hi hj => by
  obtain rfl : j = 0 := by omega
  rw [Nat.mul_one, Nat.add_zero, ints_getD l hi]
  exact .lit _ _
theorem sl_coef {E : Env} {l : List Int} {v : Value} (h : VR E (coefA l) v) : SeesD E.w E.D 1 v l.length (ints l) :=
 sl_sees h (ints l) (by rw [ints_length, Nat.mul_one]) fun i j hi hj => by
  obtain rfl : j = 0 := by omega
  rw [Nat.mul_one, Nat.add_zero, ints_getD l hi]
  rfl
def Sg.none : Sg := ⟨0, 0, 0, [], [], []⟩
abbrev pathA (l : List Sg) : AV := .sl 6 l.length fun i => segA (l.getD i Sg.none)
theorem path_sl {w : World} {D : Nat → Prop} {l : List Sg} {v : Value} (h : PathD w D v l) {E : Env} (hw : E.w = w) (hD : ∀ b, D b → E.D b) : VR E (pathA l) v := by
 obtain ⟨cs, h1, h2⟩ := h
 refine sees_sl h1 hw hD fun i j hi hj => ?_
 obtain ⟨a, ⟨vx, vy, vz, rfl, hx, hy, hz⟩, ha⟩ := h2.at_ hi
 have e : l.getD i Sg.none = l[i] := by rw [List.getD_eq_getElem?_getD, List.getElem?_eq_getElem hi]; rfl
 have g : ∀ u, [Value.int .i64 l[i].f, .int .i64 l[i].t, .int .i64 l[i].o, vx, vy, vz][j]? = some u → cs.getD (i * 6 + j) undef = u := fun u hu => by
  rw [List.getD_eq_getElem?_getD, ha j u hu]; rfl
 rw [e]
 match j, hj with
 | 0, _ => rw [g _ rfl]; exact .lit _ _
 | 1, _ => rw [g _ rfl]; exact .lit _ _
 | 2, _ => rw [g _ rfl]; exact .lit _ _
 | 3, _ => rw [g _ rfl]; exact coef_sl (E := E.fz) hx hw hD
 | 4, _ => rw [g _ rfl]; exact coef_sl (E := E.fz) hy hw hD
 | 5, _ => rw [g _ rfl]; exact coef_sl (E := E.fz) hz hw hD
theorem AF_mk {P : Program} {f : FuncId} {args : List AV} {r : AV} (h : ∀ (E : Env) (vs : Array Value), (∀ b, E.D b → b < E.w.heap.size) → vs.size = args.length → (∀ i, i < args.length → VR E.fz (args.getD i .top) (vs.getD i undef)) →
  Calls P f vs E.w fun e w' => ∃ v, e = .returned v ∧ Below E.w.heap.size E.w w' ∧ ∀ E' : Env, E'.w = w' → (∀ b, E.D b → E'.D b) → (∀ b, E.w.heap.size ≤ b → b < w'.heap.size → E'.D b) → VR E' r v) : AF P f args r := by
 intro E vs hD hn hv
 refine (h E vs hD hn hv).mono ?_
 rintro e w' ⟨v, rfl, hb, hr⟩
 refine ⟨v, fun b => E.D b ∨ (E.w.heap.size ≤ b ∧ b < w'.heap.size), rfl, hr _ rfl (fun b hb => .inl hb) (fun b h1 h2 => .inr ⟨h1, h2⟩), hb, fun b hb => .inl hb, fun b hb => ?_, fun b hb' => ?_⟩
 ·
  rcases hb with hb | hb
  · exact .inl hb
  · exact .inr hb.1
 ·
  rcases hb' with hb' | hb'
  · exact Nat.lt_of_lt_of_le (hD b hb') hb.size
  · exact hb'.2
theorem AF_litR {P : Program} {f : FuncId} {vs : List Value} {r : AV} (h : ∀ w, Calls P f vs.toArray w fun e w' => ∃ v, e = .returned v ∧ Below w.heap.size w w' ∧ ∀ E' : Env, E'.w = w' → (∀ b, w.heap.size ≤ b → b < w'.heap.size → E'.D b) → VR E' r v) : AF P f (vs.map .lit) r := by
 refine AF_mk fun E us hD hn hv => ?_
 have : us = vs.toArray := VR.lits (E := E.fz) (by simpa using hn) (VR.tops hv)
 subst this
 refine (h E.w).mono ?_
 rintro e w' ⟨v, rfl, hb, hr⟩
 exact ⟨v, rfl, hb, fun E' h1 _ h3 => hr E' h1 h3⟩
abbrev vecA (v : V3) : AV := .lit (.agg #[.int .i64 v.x, .int .i64 v.y, .int .i64 v.z])
theorem AF_point (v : V3) : AF Tryz.prog 35 [vecA v] (.bool (insideB 1048576 [v.x, v.y, v.z])) := AF_lit (vs := [_]) fun w => point_any v.x v.y v.z w
theorem vvalid_any (x y z : Int) (w : World)  :
  Calls Tryz.prog 27 #[.agg #[.int .i64 x, .int .i64 y, .int .i64 z]] w fun e w' => e = .returned (.bool (insideB 16777216 [x, y, z])) ∧ Below w.heap.size w w' := by
 go_enter Tryz.func27, Tryz.ntmps27
 go_wp2_with fail
 refine (inside_any _ ?_ ?_ [x, y, z] _ _ ?_ ?_).mono ?_
 · omega
 · omega
 · simp
 · exact Sees.new1 _ [.int .i64 x, .int .i64 y, .int .i64 z] 3 _ 0 _ 1 3 rfl (by simp) (Nat.zero_le _) (by simp)
 ·
  rintro e w1 ⟨rfl, rfl⟩
  go_wp2_with fail
  go_ret
  exact ⟨rfl, ((Below.refl _ _).alloc (Nat.le_refl _) _).alloc (by simp) _⟩
theorem AF_vvalid (v : V3) : AF Tryz.prog 27 [vecA v] (.bool (insideB 16777216 [v.x, v.y, v.z])) := AF_lit (vs := [_]) fun w => vvalid_any v.x v.y v.z w
theorem tup2 {E : Env} {x y : AV} {a b : Value} (h1 : VR E x a) (h2 : VR E y b) : VR E (.tup [x, y]) (.tuple #[a, b]) := .tup _ _ _ rfl fun i hi => by
 match i, hi with
 | 0, _ => exact h1
 | 1, _ => exact h2
abbrev flyA (a b : V3) (f t k : Int) : AV := .tup [pathA (if flyB a b f t = true then [legS a b f t k] else []), .int (if flyB a b f t = true then 0 else 2)]
theorem fly_res {w w' : World} {a b : V3} {f t k : Int} {e : Ending} (h : FlyPost w a b f t k e w') : ∃ v, e = .returned v ∧ Below w.heap.size w w' ∧ ∀ E' : Env, E'.w = w' → (∀ b, w.heap.size ≤ b → b < w'.heap.size → E'.D b) → VR E' (flyA a b f t k) v := by
 unfold FlyPost at h
 unfold flyA
 split at h
 ·
  rename_i hf
  obtain ⟨v, rfl, hp, hb⟩ := h
  simp only [hf, if_true]
  exact ⟨_, rfl, hb, fun E' h1 h2 => tup2 (path_sl hp h1 fun b hb => h2 b hb.1 hb.2) (.lit _ _)⟩
 ·
  rename_i hf
  simp only [hf, if_false]
  obtain ⟨rfl, hb⟩ := h
  exact ⟨_, rfl, hb, fun E' h1 h2 => tup2 (.sl0 _ _ _ _ _) (.lit _ _)⟩
theorem AF_glide (a b : V3) (f t : Int) : AF Tryz.prog 37 [vecA a, vecA b, .int f, .int t] (flyA a b f t 2) := AF_litR (vs := [_, _, _, _]) fun w => (glide_any a.x a.y a.z b.x b.y b.z f t w).mono fun e w' h => fly_res h
theorem AF_hover (a : V3) (f t : Int) : AF Tryz.prog 22 [vecA a, .int f, .int t] (flyA a a f t 0) := AF_litR (vs := [_, _, _]) fun w => (hover_any a.x a.y a.z f t w).mono fun e w' h => fly_res h
abbrev vecsA (l : List V3) : AV := .sl 3 l.length fun i => vecA (l.getD i V3.zero)
abbrev namesA (l : List ByteArray) : AV := .sl 1 l.length fun i => .lit (.string (l.getD i ByteArray.empty))
abbrev mvA (m : Mv) : AV := .lit (.agg #[.int .i64 m.to.x, .int .i64 m.to.y, .int .i64 m.to.z, .int .i64 m.wait, .int .i64 m.flight, .int .i64 m.rise])
abbrev mvsA (l : List Mv) : AV := .sl 6 l.length fun i => mvA (l.getD i Mv.none)
abbrev actA (a : Ac) : AV := .agg [.lit (.string a.name), .int a.len, mvsA a.moves]
abbrev actsA (l : List Ac) : AV := .sl 3 l.length fun i => actA (l.getD i Ac.none)
abbrev progA (p : Pr) : AV := .agg [namesA p.names, vecsA p.homes, actsA p.acts]
theorem getD_flat {α : Type} (f : α → List Value) (k : Nat) (hf : ∀ a, (f a).length = k) : ∀ (l : List α) (i j : Nat) (d : α), i < l.length → j < k → (l.flatMap f).getD (i * k + j) undef = (f (l.getD i d)).getD j undef
 | [], i, j, d, hi, _ => by simp at hi
 | a :: l, 0, j, d, _, hj => by
  rw [List.flatMap_cons, List.getD_eq_getElem?_getD, List.getElem?_append_left (by rw [hf]; omega)]
  simp [List.getD_eq_getElem?_getD]
 | a :: l, i + 1, j, d, hi, hj => by
  rw [List.flatMap_cons, List.getD_eq_getElem?_getD, List.getElem?_append_right (by rw [hf, Nat.succ_mul]; omega), hf]
  have := getD_flat f k hf l i j d (by simpa using hi) hj
  rw [List.getD_eq_getElem?_getD] at this
  rw [show (i + 1) * k + j - k = i * k + j by rw [Nat.succ_mul]; omega, this]
  simp [List.getD_eq_getElem?_getD]
theorem length_flat {α : Type} (f : α → List Value) (k : Nat) (hf : ∀ a, (f a).length = k) : ∀ l : List α, (l.flatMap f).length = l.length * k
 | [] => by simp
 | a :: l => by rw [List.flatMap_cons, List.length_append, hf, length_flat f k hf l, List.length_cons, Nat.succ_mul]; omega
theorem vecs_sees {E : Env} {l : List V3} {v : Value} (h : VR E (vecsA l) v) : SeesD E.w E.D 3 v l.length (vecs l) :=
 sl_sees h (vecs l) (vecs_length l) fun i j hi hj => by
  have := getD_flat (fun v : V3 => [Value.int .i64 v.x, .int .i64 v.y, .int .i64 v.z]) 3 (fun _ => rfl) l i j V3.zero hi hj
  show _ = AV.lit ((vecs l).getD (i * 3 + j) undef)
  unfold vecs
  rw [this]
  match j, hj with
  | 0, _ => rfl
  | 1, _ => rfl
  | 2, _ => rfl
theorem mvs_sees {E : Env} {l : List Mv} {v : Value} (h : VR E (mvsA l) v) : SeesD E.w E.D 6 v l.length (mvs l) :=
 sl_sees h (mvs l) (length_flat Mv.cells 6 (fun _ => rfl) l) fun i j hi hj => by
  have := getD_flat Mv.cells 6 (fun _ => rfl) l i j Mv.none hi hj
  unfold mvs
  rw [this]
  match j, hj with
  | 0, _ => rfl
  | 1, _ => rfl
  | 2, _ => rfl
  | 3, _ => rfl
  | 4, _ => rfl
  | 5, _ => rfl
theorem names_sees {E : Env} {l : List ByteArray} {v : Value} (h : VR E (namesA l) v) : SeesD E.w E.D 1 v l.length (strs l) :=
 sl_sees h (strs l) (by simp [strs]) fun i j hi hj => by
  obtain rfl : j = 0 := by omega
  rw [Nat.mul_one, Nat.add_zero]
  show AV.lit (.string (l.getD i ByteArray.empty)) = AV.lit ((strs l).getD i undef)
  simp [strs, List.getD_eq_getElem?_getD, hi]
def actCs : List Ac → (Nat → Value) → List Value
 | [], _ => []
 | a :: l, g => [.string a.name, .int .i64 a.len, g 0] ++ actCs l fun i => g (i + 1)
theorem actCs_len : ∀ (l : List Ac) (g : Nat → Value), (actCs l g).length = l.length * 3
 | [], _ => rfl
 | a :: l, g => by rw [actCs, List.length_append, actCs_len l]; simp; omega
theorem actCs_at : ∀ (l : List Ac) (g : Nat → Value) (i j : Nat), i < l.length → j < 3 → (actCs l g).getD (i * 3 + j) undef = [Value.string (l.getD i Ac.none).name, .int .i64 (l.getD i Ac.none).len, g i].getD j undef
 | [], g, i, j, hi, _ => by simp at hi
 | a :: l, g, 0, j, _, hj => by
  rw [actCs, List.getD_eq_getElem?_getD, List.getElem?_append_left (by simp; omega)]
  simp [List.getD_eq_getElem?_getD]
 | a :: l, g, i + 1, j, hi, hj => by
  rw [actCs, List.getD_eq_getElem?_getD, List.getElem?_append_right (by simp; omega)]
  have := actCs_at l (fun i => g (i + 1)) i j (by simpa using hi) hj
  rw [List.getD_eq_getElem?_getD] at this
  rw [show (i + 1) * 3 + j - [Value.string a.name, .int .i64 a.len, g 0].length = i * 3 + j by simp; omega, this]
  simp [List.getD_eq_getElem?_getD]
theorem acts_actCs {w : World} {D : Nat → Prop} : ∀ (l : List Ac) (g : Nat → Value), (∀ i, i < l.length → SeesD w D 6 (g i) (l.getD i Ac.none).moves.length (mvs (l.getD i Ac.none).moves)) → Acts w D l (actCs l g)
 | [], _, _ => rfl
 | a :: l, g, h => ⟨_, _, rfl, ⟨g 0, rfl, by simpa using h 0 (by simp)⟩, acts_actCs l (fun i => g (i + 1)) fun i hi => by simpa using h (i + 1) (by simpa using hi)⟩
theorem acts_sees {E : Env} {l : List Ac} {v : Value} (h : VR E (actsA l) v) : ∃ cs, SeesD E.w E.D 3 v l.length cs ∧ Acts E.w E.D l cs := by
 unfold actsA at h
 generalize hn : l.length = n at h ⊢
 cases h with
 | sl0 =>
  have : l = [] := List.eq_nil_of_length_eq_zero hn
  subst this
  exact ⟨[], ⟨rfl, .inl ⟨_, _, rfl, rfl⟩⟩, rfl⟩
 | sl _ _ _ _ b q c us hn0 hD hcell hr =>
  refine ⟨actCs l fun i => us i 2, ⟨by rw [actCs_len, hn], .inr ⟨b, q, c, rfl, hD, fun k u hu => ?_⟩⟩, acts_actCs l _ fun i hi => ?_⟩
  ·
   obtain ⟨hk, he⟩ := List.getElem?_eq_some_iff.1 hu
   rw [actCs_len, hn] at hk
   obtain ⟨d1, d2, d3⟩ := div_lt hk (by decide)
   have h1 := hcell _ _ d1 d2
   have h2 := hr _ _ d1 d2
   have h3 := actCs_at l (fun i => us i 2) (k / 3) (k % 3) (by rw [hn]; exact d1) d2
   rw [d3, List.getD_eq_getElem?_getD, hu] at h3
   rw [Nat.add_assoc, d3] at h1
   rw [h1]
   congr 1
   have h4 : u = [Value.string (l.getD (k / 3) Ac.none).name, .int .i64 (l.getD (k / 3) Ac.none).len, us (k / 3) 2].getD (k % 3) undef := h3
   rw [h4]
   generalize hj : k % 3 = j at h2 d2
   match j, d2 with
   | 0, _ => exact h2.lit_inv
   | 1, _ => exact h2.lit_inv
   | 2, _ => rfl
  ·
   have h2 := hr i 2 (by omega) (by decide)
   exact mvs_sees (E := E.fz) h2
theorem prog_at {E : Env} {p : Pr} {v : Value} (h : VR E (progA p) v) (hD : ∀ b, E.D b → b < E.w.heap.size) : ∃ vn vh va, v = .agg #[vn, vh, va] ∧ ProgAt E.w E.w.heap.size vn vh va p := by
 have hrg : ∀ b, E.D b → rg 0 E.w.heap.size b := fun b hb => ⟨Nat.zero_le _, hD b hb⟩
 cases h with
 | agg _ _ vs hn hr =>
  have g := VR.tops hr
  have hvs : vs = #[vs.getD 0 undef, vs.getD 1 undef, vs.getD 2 undef] := by
   apply Array.ext
   · simpa using hn
   ·
    intro i h1 h2
    have h3 : i < 3 := by simpa using h2
    match i, h3 with
    | 0, _ => simp [Array.getD, h1]
    | 1, _ => simp [Array.getD, h1]
    | 2, _ => simp [Array.getD, h1]
  obtain ⟨cs, k1, k2⟩ := acts_sees (g 2)
  exact ⟨_, _, _, congrArg _ hvs, ⟨(names_sees (g 0)).more hrg, (vecs_sees (g 1)).more hrg, cs, k1.more hrg, k2.more hrg⟩⟩
structure PrIn (p : Pr) : Prop where
 names : ∀ s ∈ p.names, s.size ≤ maxLen
 anames : ∀ a ∈ p.acts, a.name.size ≤ maxLen
 acts : p.acts.length ≤ 1000000
 moves : ∀ a ∈ p.acts, a.moves.length ≤ 1000000
 lens : ∀ a ∈ p.acts, In64 a.len
theorem one_arg {vs : Array Value} (h : vs.size = 1) : vs = #[vs.getD 0 undef] := by
 apply Array.ext
 · simpa using h
 ·
  intro i h1 h2
  have : i = 0 := by simp at h2; exact h2
  subst this
  simp [h1]
theorem AF_progvalid (p : Pr) (hp : PrIn p) : AF Tryz.prog 12 [progA p] (.bool (validB p)) := AF_mk fun E us hD hn hv => by
 rw [one_arg hn]
 have h0 := hv 0 (by simp)
 obtain ⟨vn, vh, va, e, h1⟩ := prog_at (E := E.fz) (p := p) h0 hD
 rw [e]
 refine (valid_any p vn vh va E.w h1 hp.names hp.anames hp.acts hp.moves).mono ?_
 rintro e w' ⟨rfl, hb⟩
 exact ⟨_, rfl, hb, fun _ _ _ _ => .lit _ _⟩
end Go.Proofs.YtkcnbaeoahoglaaGreat
namespace Go.Proofs.YtkcnbaeoahoglaaGreat
open Go.RowKit
structure De where
 sides : List V3
 across : Int
 down : Int
 ground : Int
abbrev vecsC (l : List V3) : AV := .slc 3 l.length fun i => vecA (l.getD i V3.zero)
abbrev descA (d : De) : AV := .agg [vecsC d.sides, .int d.across, .int d.down, .int d.ground]
structure Cs where
 craft : Int
 act : Int
abbrev caseA (c : Cs) : AV := .lit (.agg #[.int .i64 c.craft, .int .i64 c.act])
def FewP (p : Pr) (a k : Int) : Prop := (p.names.length : Int) ≤ a ∧ (p.homes.length : Int) ≤ a ∧ (p.acts.length : Int) ≤ k ∧ (∀ i, i < p.names.length → (p.names.getD i ByteArray.empty).size ≤ 60) ∧ ∀ i, i < p.acts.length → (p.acts.getD i Ac.none).name.size ≤ 60 ∧ ((p.acts.getD i Ac.none).moves.length : Int) ≤ a
theorem AF_few40 (p : Pr) (a k : Int) (ha : In64 a) (hk : In64 k) : AF Tryz.prog 6 [progA p, .int a, .int k] (.bool (bP (FewP p a k))) := by
  refine AF_of ⟨[(0, progA (p)), (1, .int (a)), (2, .int (k))], [], 0, 68⟩ Tryz.func6 rfl 68 Tryz.ntmps6 (by kernel_rfl) (by kernel_rfl) fun B D0 hA0 => ?_
  refine qreg 2 [1, 2, 3] ?_
  refine AC_seq ?_
  refine AC_seq_list ?_
  refine qrun 2 ?_
  refine qopn (.int (((p.names.length : Nat) : Int))) (qlen (.tmp 10) 22 #[22] Tryz.underlying22 (p.names.length) (.inl ⟨1, (fun i0 => .lit (.string (p.names.getD i0 ByteArray.empty))), by kernel_rfl⟩)) ?_
  refine qrun 1 ?_
  refine qb (decide (a < ((p.names.length : Nat) : Int))) ?_
  refine qrun 1 ?_
  refine bool_split (decide (a < ((p.names.length : Nat) : Int))) (fun hx1 => ?_) (fun hx1 => ?_)
  ·
   have hx1d := of_decide_eq_true hx1
   refine qLknown 14 _ true hx1 ?_
   refine qrun 13 ?_
   refine qend [1, 3, 27] ?_
   refine qCtrue ?_
   refine qreg 1 [6] ?_
   refine AC_ret ?_
   exact ⟨.inl rfl, (resOk1 Tryz.results6 (resV_tmp (x := .bool false) (by kernel_rfl) (by kernel_rfl))).cast (congrArg AV.bool (bP_false (by rintro ⟨g1, g2, g3, g4, g5⟩; first | omega | (have := g4 i (by omega); omega) | (have := g5 j (by omega); omega))).symm)⟩
  ·
   have hx1d := of_decide_eq_false hx1
   refine qLknown 14 _ false hx1 ?_
   refine qrun 2 ?_
   refine qopg (.int (((p.homes.length : Nat) : Int))) .none (qlen (.tmp 16) 23 #[23] Tryz.underlying23 (p.homes.length) (.inl ⟨3, (fun i0 => vecA ((p.homes.getD i0 V3.zero))), by kernel_rfl⟩)) ?_
   refine qrun 1 ?_
   refine qbg (decide (a < ((p.homes.length : Nat) : Int))) ?_
   refine qrun 2 ?_
   refine bool_split (decide (a < ((p.homes.length : Nat) : Int))) (fun hx2 => ?_) (fun hx2 => ?_)
   ·
    have hx2d := of_decide_eq_true hx2
    refine qLknown 21 _ true hx2 ?_
    refine qrun 6 ?_
    refine qend [1, 3, 27] ?_
    refine qCtrue ?_
    refine qreg 1 [6] ?_
    refine AC_ret ?_
    exact ⟨.inl rfl, (resOk1 Tryz.results6 (resV_tmp (x := .bool false) (by kernel_rfl) (by kernel_rfl))).cast (congrArg AV.bool (bP_false (by rintro ⟨g1, g2, g3, g4, g5⟩; first | omega | (have := g4 i (by omega); omega) | (have := g5 j (by omega); omega))).symm)⟩
   ·
    have hx2d := of_decide_eq_false hx2
    refine qLknown 21 _ false hx2 ?_
    refine qrun 2 ?_
    refine qopg (.int (((p.acts.length : Nat) : Int))) .none (qlen (.tmp 23) 24 #[24] Tryz.underlying24 (p.acts.length) (.inl ⟨3, (fun i0 => actA ((p.acts.getD i0 Ac.none))), by kernel_rfl⟩)) ?_
    refine qrun 1 ?_
    refine qbg (decide (k < ((p.acts.length : Nat) : Int))) ?_
    refine qrun 1 ?_
    refine qend [1, 3, 27] ?_
    refine bool_split (decide (k < ((p.acts.length : Nat) : Int))) (fun hx3 => ?_) (fun hx3 => ?_)
    ·
     have hx3d := of_decide_eq_true hx3
     refine qT hx3 ?_
     refine qreg 1 [6] ?_
     refine AC_ret ?_
     exact ⟨.inl rfl, (resOk1 Tryz.results6 (resV_tmp (x := .bool false) (by kernel_rfl) (by kernel_rfl))).cast (congrArg AV.bool (bP_false (by rintro ⟨g1, g2, g3, g4, g5⟩; first | omega | (have := g4 i (by omega); omega) | (have := g5 j (by omega); omega))).symm)⟩
    ·
     have hx3d := of_decide_eq_false hx3
     refine qF hx3 ?_
     refine AC_skip ?_
     refine AC_seq ?_
     refine qreg 1 [1, 3, 7] ?_
     refine AC_block ?_
     refine AC_loop_inv (fun m s => ∃ i, i ≤ p.names.length ∧ m = p.names.length - i ∧ (∀ q, q < i → (p.names.getD q ByteArray.empty).size ≤ 60) ∧ s = ⟨[(1, .int (a)), (3, .ptr 0 (0)), (7, .int (((i : Nat) : Int)))], [(0, .box 26 [namesA (p.names), vecsA (p.homes), actsA (p.acts)])], 1, 68⟩) (p.names.length) ⟨0, Nat.zero_le _, rfl, (fun q hq => absurd hq (Nat.not_lt_zero q)), (by kernel_rfl)⟩ ?_
     rintro _ _ ⟨i, hin, rfl, hFi, rfl⟩
     refine AC_seq ?_
     refine AC_seq_list ?_
     refine qrun 3 ?_
     refine qopn (.int (((p.names.length : Nat) : Int))) (qlen (.tmp 30) 22 #[22] Tryz.underlying22 (p.names.length) (.inl ⟨1, (fun i0 => .lit (.string (p.names.getD i0 ByteArray.empty))), by kernel_rfl⟩)) ?_
     refine qb (decide (((i : Nat) : Int) < ((p.names.length : Nat) : Int))) ?_
     refine qend [1, 3, 7, 32] ?_
     refine bool_split (decide (((i : Nat) : Int) < ((p.names.length : Nat) : Int))) (fun hx4 => ?_) (fun hx4 => ?_)
     ·
      have hx4d := of_decide_eq_true hx4
      refine qT hx4 ?_
      refine AC_skip ?_
      refine AC_seq ?_
      refine AC_block ?_
      refine AC_seq_list ?_
      refine qrun 3 ?_
      refine qopn (.elt 1 (fun q => AV.cell (.lit (.string (p.names.getD i ByteArray.empty))) q)) (qindex_sl 22 (.tmp 36) (.tmp 37) Tryz.underlying22 1 (p.names.length) (i) (fun i0 => .lit (.string (p.names.getD i0 ByteArray.empty))) (((i : Nat) : Int)) Tryz.sizeOf9) ?_
      refine qrun 1 ?_
      refine qi (((ByteArray.size (p.names.getD i ByteArray.empty) : Nat) : Int)) ?_
      refine qb (decide ((60 : Int) < ((ByteArray.size (p.names.getD i ByteArray.empty) : Nat) : Int))) ?_
      refine qend [1, 3, 7, 41] ?_
      refine bool_split (decide ((60 : Int) < ((ByteArray.size (p.names.getD i ByteArray.empty) : Nat) : Int))) (fun hx5 => ?_) (fun hx5 => ?_)
      ·
       have hx5d := of_decide_eq_true hx5
       refine qT hx5 ?_
       refine qreg 1 [6] ?_
       refine AC_ret ?_
       exact ⟨.inl rfl, (resOk1 Tryz.results6 (resV_tmp (x := .bool false) (by kernel_rfl) (by kernel_rfl))).cast (congrArg AV.bool (bP_false (by rintro ⟨g1, g2, g3, g4, g5⟩; first | omega | (have := g4 i (by omega); omega) | (have := g5 j (by omega); omega))).symm)⟩
      ·
       have hx5d := of_decide_eq_false hx5
       refine qF hx5 ?_
       refine AC_skip ?_
       refine AC_list ?_
       refine qrun 1 ?_
       refine qw (((i : Nat) : Int) + 1) (((i + 1 : Nat) : Int)) ?_
       refine qrun 1 ?_
       refine qend1 [1, 3, 7] ?_
       exact ⟨_, (by omega : p.names.length - (i + 1) < p.names.length - i), i + 1, (by omega), rfl, (fun q hq => (Nat.lt_or_ge q i).elim (fun g => hFi q g) fun g => by have e : q = i := (by omega); subst e; omega), (by kernel_rfl)⟩
     ·
      have hx4d := of_decide_eq_false hx4
      refine qF hx4 ?_
      refine AC_exit ?_
      refine AC_seq ?_
      refine qreg 1 [1, 3, 8] ?_
      refine AC_block ?_
      refine AC_loop_inv (fun m s => ∃ j, j ≤ p.acts.length ∧ m = p.acts.length - j ∧ (∀ q, q < j → (p.acts.getD q Ac.none).name.size ≤ 60 ∧ ((p.acts.getD q Ac.none).moves.length : Int) ≤ a) ∧ s = ⟨[(1, .int (a)), (3, .ptr 0 (0)), (8, .int (((j : Nat) : Int)))], [(0, .box 26 [namesA (p.names), vecsA (p.homes), actsA (p.acts)])], 1, 68⟩) (p.acts.length) ⟨0, Nat.zero_le _, rfl, (fun q hq => absurd hq (Nat.not_lt_zero q)), (by kernel_rfl)⟩ ?_
      rintro _ _ ⟨j, hjn, rfl, hFj, rfl⟩
      refine AC_seq ?_
      refine AC_seq_list ?_
      refine qrun 3 ?_
      refine qopn (.int (((p.acts.length : Nat) : Int))) (qlen (.tmp 44) 24 #[24] Tryz.underlying24 (p.acts.length) (.inl ⟨3, (fun i0 => actA ((p.acts.getD i0 Ac.none))), by kernel_rfl⟩)) ?_
      refine qb (decide (((j : Nat) : Int) < ((p.acts.length : Nat) : Int))) ?_
      refine qend [1, 3, 8, 46] ?_
      refine bool_split (decide (((j : Nat) : Int) < ((p.acts.length : Nat) : Int))) (fun hx6 => ?_) (fun hx6 => ?_)
      ·
       have hx6d := of_decide_eq_true hx6
       refine qT hx6 ?_
       refine AC_skip ?_
       refine AC_seq ?_
       refine AC_block ?_
       refine AC_seq_list ?_
       refine qrun 3 ?_
       refine qopn (.elt 3 (fun q => AV.cell (actA ((p.acts.getD j Ac.none))) q)) (qindex_sl 24 (.tmp 50) (.tmp 51) Tryz.underlying24 3 (p.acts.length) (j) (fun i0 => actA ((p.acts.getD i0 Ac.none))) (((j : Nat) : Int)) Tryz.sizeOf60) ?_
       refine qrun 2 ?_
       refine qi (((ByteArray.size ((p.acts.getD j Ac.none).name) : Nat) : Int)) ?_
       refine qb (decide ((60 : Int) < ((ByteArray.size ((p.acts.getD j Ac.none).name) : Nat) : Int))) ?_
       refine qrun 1 ?_
       refine bool_split (decide ((60 : Int) < ((ByteArray.size ((p.acts.getD j Ac.none).name) : Nat) : Int))) (fun hx7 => ?_) (fun hx7 => ?_)
       ·
        have hx7d := of_decide_eq_true hx7
        refine qLknown 57 _ true hx7 ?_
        refine qrun 10 ?_
        refine qend [1, 3, 8, 67] ?_
        refine qCtrue ?_
        refine qreg 1 [6] ?_
        refine AC_ret ?_
        exact ⟨.inl rfl, (resOk1 Tryz.results6 (resV_tmp (x := .bool false) (by kernel_rfl) (by kernel_rfl))).cast (congrArg AV.bool (bP_false (by rintro ⟨g1, g2, g3, g4, g5⟩; first | omega | (have := g4 i (by omega); omega) | (have := g5 j (by omega); omega))).symm)⟩
       ·
        have hx7d := of_decide_eq_false hx7
        refine qLknown 57 _ false hx7 ?_
        refine qrun 3 ?_
        refine qopg (.elt 3 (fun q => AV.cell (actA ((p.acts.getD j Ac.none))) q)) .none (qindex_sl 24 (.tmp 59) (.tmp 60) Tryz.underlying24 3 (p.acts.length) (j) (fun i0 => actA ((p.acts.getD i0 Ac.none))) (((j : Nat) : Int)) Tryz.sizeOf60) ?_
        refine qrun 2 ?_
        refine qopg (.int ((((p.acts.getD j Ac.none).moves.length : Nat) : Int))) .none (qlen (.tmp 63) 58 #[58] Tryz.underlying58 ((p.acts.getD j Ac.none).moves.length) (.inl ⟨6, (fun i0 => mvA (((p.acts.getD j Ac.none).moves.getD i0 Mv.none))), by kernel_rfl⟩)) ?_
        refine qrun 1 ?_
        refine qbg (decide (a < (((p.acts.getD j Ac.none).moves.length : Nat) : Int))) ?_
        refine qrun 1 ?_
        refine qend [1, 3, 8, 67] ?_
        refine bool_split (decide (a < (((p.acts.getD j Ac.none).moves.length : Nat) : Int))) (fun hx8 => ?_) (fun hx8 => ?_)
        ·
         have hx8d := of_decide_eq_true hx8
         refine qT hx8 ?_
         refine qreg 1 [6] ?_
         refine AC_ret ?_
         exact ⟨.inl rfl, (resOk1 Tryz.results6 (resV_tmp (x := .bool false) (by kernel_rfl) (by kernel_rfl))).cast (congrArg AV.bool (bP_false (by rintro ⟨g1, g2, g3, g4, g5⟩; first | omega | (have := g4 i (by omega); omega) | (have := g5 j (by omega); omega))).symm)⟩
        ·
         have hx8d := of_decide_eq_false hx8
         refine qF hx8 ?_
         refine AC_skip ?_
         refine AC_list ?_
         refine qrun 1 ?_
         refine qw (((j : Nat) : Int) + 1) (((j + 1 : Nat) : Int)) ?_
         refine qrun 1 ?_
         refine qend1 [1, 3, 8] ?_
         exact ⟨_, (by omega : p.acts.length - (j + 1) < p.acts.length - j), j + 1, (by omega), rfl, (fun q hq => (Nat.lt_or_ge q j).elim (fun g => hFj q g) fun g => by have e : q = j := (by omega); subst e; omega), (by kernel_rfl)⟩
      ·
       have hx6d := of_decide_eq_false hx6
       refine qF hx6 ?_
       refine AC_exit ?_
       refine qreg 1 [6] ?_
       refine AC_ret ?_
       exact ⟨.inl rfl, (resOk1 Tryz.results6 (resV_tmp (x := .bool true) (by kernel_rfl) (by kernel_rfl))).cast (congrArg AV.bool (bP_true (⟨by omega, by omega, by omega, fun q hq => hFi q (by omega), fun q hq => hFj q (by omega)⟩)).symm)⟩
theorem AF_few42 (d : De) : AF Tryz.prog 7 [descA d] (.bool (decide ((d.sides.length : Int) ≤ 17))) := by
 refine AF_of ⟨[(0, descA (d))], [], 0, 7⟩ Tryz.func7 rfl 7 Tryz.ntmps7 (by kernel_rfl) (by kernel_rfl) fun B D0 hA0 => ?_
 refine qreg 2 [1] ?_
 refine AC_seq_list ?_
 refine qrun 2 ?_
 refine qopn (.int (((d.sides.length : Nat) : Int))) (qlen_slc (.tmp 4) 23 #[23] Tryz.underlying23 3 (d.sides.length) (fun i0 => vecA ((d.sides.getD i0 V3.zero)))) ?_
 refine qb (decide (((d.sides.length : Nat) : Int) ≤ 17)) ?_
 refine qrun 1 ?_
 refine qend [2] ?_
 refine AC_ret ?_
 exact ⟨.inl rfl, (resOk1 Tryz.results7 (resV_tmp (x := .bool (decide (((d.sides.length : Nat) : Int) ≤ 17))) (by kernel_rfl) (by kernel_rfl))).cast (by kernel_rfl)⟩
def findV (n : Nat) (p : Nat → Bool) : Int := match (List.range n).find? p with | some i => (i : Int) | none => -1
theorem find_all (n : Nat) (p : Nat → Bool) (h : ∀ q, q < n → p q = false) : findV n p = -1 := by
 have : (List.range n).find? p = none := List.find?_eq_none.2 fun q hq => by simp [h q (List.mem_range.1 hq)]
 unfold findV; rw [this]
theorem find_at (n : Nat) (p : Nat → Bool) (i : Nat) (hi : i < n) (h : ∀ q, q < i → p q = false) (h2 : p i = true) : findV n p = (i : Int) := by
 have : (List.range n).find? p = some i := List.find?_range_eq_some.2 ⟨h2, by simpa using hi, fun j hj => by simp [h j hj]⟩
 unfold findV; rw [this]
theorem AF_index (l : List V3) (n : Nat) (v : V3) (hn : n ≤ 1000000) : AF Tryz.prog 51 [.sl 3 n fun i => vecA (l.getD i V3.zero), vecA v] (.int (findV n fun i => decide ((l.getD i V3.zero).x = v.x ∧ (l.getD i V3.zero).y = v.y ∧ (l.getD i V3.zero).z = v.z))) := by
  refine AF_of ⟨[(0, .sl 3 (n) (fun i0 => vecA ((l.getD i0 V3.zero)))), (1, vecA (v))], [], 0, 19⟩ Tryz.func51 rfl 19 Tryz.ntmps51 (by kernel_rfl) (by kernel_rfl) fun B D0 hA0 => ?_
  refine qreg 2 [0, 3] ?_
  refine AC_seq ?_
  refine AC_seq_list ?_
  refine qrun 1 ?_
  refine qopn (.int (((n : Nat) : Int))) (qlen (.tmp 6) 23 #[23] Tryz.underlying23 (n) (.inl ⟨3, (fun i0 => vecA ((l.getD i0 V3.zero))), by kernel_rfl⟩)) ?_
  refine qrun 1 ?_
  refine qend [0, 3, 7, 8] ?_
  refine AC_block ?_
  refine AC_loop_inv (fun m s => ∃ i, i ≤ n ∧ m = n - i ∧ (∀ q, q < i → decide ((l.getD q V3.zero).x = v.x ∧ (l.getD q V3.zero).y = v.y ∧ (l.getD q V3.zero).z = v.z) = false) ∧ s = ⟨[(0, .sl 3 (n) (fun i0 => vecA ((l.getD i0 V3.zero)))), (3, .ptr 0 (0)), (7, .int (((n : Nat) : Int))), (8, .int (((i : Nat) : Int)))], [(0, .box 55 [.int (v.x), .int (v.y), .int (v.z)])], 1, 19⟩) (n) ⟨0, Nat.zero_le _, rfl, (fun q hq => absurd hq (Nat.not_lt_zero q)), (by kernel_rfl)⟩ ?_
  rintro _ _ ⟨i, hin, rfl, hFi, rfl⟩
  refine AC_seq_list ?_
  refine qb (decide (((i : Nat) : Int) < ((n : Nat) : Int))) ?_
  refine qend [0, 3, 7, 8, 9] ?_
  refine AC_seq ?_
  refine bool_split (decide (((i : Nat) : Int) < ((n : Nat) : Int))) (fun hx1 => ?_) (fun hx1 => ?_)
  ·
   have hx1d := of_decide_eq_true hx1
   refine qT hx1 ?_
   refine AC_skip ?_
   refine AC_seq ?_
   refine AC_block ?_
   refine qreg 2 [0, 3, 5, 7, 8] ?_
   refine qsdraw [(3, .elt 3 (fun q => AV.cell (vecA ((l.getD i V3.zero))) q), .none), (5, .bool (decide (v.x = (l.getD i V3.zero).x ∧ v.y = (l.getD i V3.zero).y ∧ v.z = (l.getD i V3.zero).z)), .none)] [0, 3, 5, 7, 8, 16] 1 ⟨?_, ?_, trivial⟩ ?_
   · exact qcast (qindex_sl 23 (.tmp 12) (.tmp 13) Tryz.underlying23 3 (n) (i) (fun i0 => vecA ((l.getD i0 V3.zero))) (((i : Nat) : Int)) Tryz.sizeOf55)
   · exact qcast (opS_eql 55 55 (.tmp 11) (.tmp 15) (by kernel_rfl) _ _ (by kernel_rfl) (by kernel_rfl) (by kernel_rfl) (decide (v.x = (l.getD i V3.zero).x ∧ v.y = (l.getD i V3.zero).y ∧ v.z = (l.getD i V3.zero).z)) (eqVec3 _ _ _ _ _ _))
   refine bool_split (decide (v.x = (l.getD i V3.zero).x ∧ v.y = (l.getD i V3.zero).y ∧ v.z = (l.getD i V3.zero).z)) (fun hx2 => ?_) (fun hx2 => ?_)
   ·
    have hx2d := of_decide_eq_true hx2
    refine qT hx2 ?_
    refine qreg 2 [4] ?_
    refine AC_ret ?_
    exact ⟨.inl rfl, (resOk1 Tryz.results51 (resV_tmp (x := .int (((i : Nat) : Int))) (by kernel_rfl) (by kernel_rfl))).cast (congrArg AV.int (find_at n _ i (by omega) (fun q hq => hFi q hq) (by simp only [decide_eq_true_eq]; omega)).symm)⟩
   ·
    have hx2d := of_decide_eq_false hx2
    refine qF hx2 ?_
    refine AC_skip ?_
    refine AC_list ?_
    refine qw (((i : Nat) : Int) + 1) (((i + 1 : Nat) : Int)) ?_
    refine qrun 1 ?_
    refine qend1 [0, 3, 7, 8] ?_
    exact ⟨_, (by omega : n - (i + 1) < n - i), i + 1, (by omega), rfl, (fun q hq => (Nat.lt_or_ge q i).elim (fun g => hFi q g) fun g => by have e : q = i := (by omega); subst e; simp only [decide_eq_false_iff_not]; omega), (by kernel_rfl)⟩
  ·
   have hx1d := of_decide_eq_false hx1
   refine qF hx1 ?_
   refine AC_exit ?_
   refine qreg 1 [4] ?_
   refine AC_ret ?_
   exact ⟨.inl rfl, (resOk1 Tryz.results51 (resV_tmp (x := .int (-1)) (by kernel_rfl) (by kernel_rfl))).cast (congrArg AV.int (find_all n _ fun q hq => hFi q (by omega)).symm)⟩
end Go.Proofs.YtkcnbaeoahoglaaGreat
