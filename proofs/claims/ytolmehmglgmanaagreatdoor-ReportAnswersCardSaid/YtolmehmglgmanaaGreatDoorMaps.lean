/- Maps that the call itself makes: look-up and store at keys that are ints, strings or vectors; no condition. -/
import Derived.Test.YtolmehmglgmanaaGreatDoorBase
import Derived.MapKept
import Derived.WideKeyRuns
import Derived.Laws.StructEq
namespace Go.Proofs.YtolmehmglgmanaaGreatDoor
open Go.RowKit Go.MapKept

def vec (x y z : Int) : Value := .agg #[.int .i64 x, .int .i64 y, .int .i64 z]
theorem vec_equal (x y z x' y' z' : Int) (w : World) : (Op.equal 95 (.agg #[.int .i64 x, .int .i64 y, .int .i64 z]) (.agg #[.int .i64 x', .int .i64 y', .int .i64 z'])).run Tryz.prog w = .ok (x == x' && (y == y' && z == z')) w := by
  unfold Op.equal Op.maxDepth
  rw [run_equalIn_struct w 9999 95 _ _ (by kernel_rfl) (by kernel_rfl)]
  have hf : (Tryz.prog.fieldsOf 95).toList.map (fun f => (f.name, f.type, f.offset)) = [("X", 3, 0), ("Y", 3, 1), ("Z", 3, 2)] := by kernel_rfl
  generalize (Tryz.prog.fieldsOf 95).toList = l at hf
  have hl : l.length = 3 := by have := congrArg List.length hf; simpa using this
  obtain ⟨f1, f2, f3, rfl⟩ : ∃ f1 f2 f3, l = [f1, f2, f3] := by
    match l, hl with
    | [f1, f2, f3], _ => exact ⟨f1, f2, f3, rfl⟩
  simp only [List.map_cons, List.map_nil, List.cons.injEq, Prod.mk.injEq, and_true] at hf
  obtain ⟨⟨a1, a2, a3⟩, ⟨b1, b2, b3⟩, c1, c2, c3⟩ := hf
  have hp : ∀ (xs : Array Value) (o : Nat) (v : Value), xs[o]? = some v → (part 3 xs o).run Tryz.prog w = .ok v w := fun xs o v h => run_part_plain w (by kernel_rfl) h
  have p1 := hp #[.int .i64 x, .int .i64 y, .int .i64 z] 0 (.int .i64 x) rfl
  have p2 := hp #[.int .i64 x, .int .i64 y, .int .i64 z] 1 (.int .i64 y) rfl
  have p3 := hp #[.int .i64 x, .int .i64 y, .int .i64 z] 2 (.int .i64 z) rfl
  have q1 := hp #[.int .i64 x', .int .i64 y', .int .i64 z'] 0 (.int .i64 x') rfl
  have q2 := hp #[.int .i64 x', .int .i64 y', .int .i64 z'] 1 (.int .i64 y') rfl
  have q3 := hp #[.int .i64 x', .int .i64 y', .int .i64 z'] 2 (.int .i64 z') rfl
  have he : ∀ a b : Int, (Op.equalIn 9999 3 (.int .i64 a) (.int .i64 b)).run Tryz.prog w = .ok (a == b) w := fun a b => run_equalIn_int w 9998 3 .i64 .i64 a b Tryz.underlying3
  simp only [Op.eqFields, a1, a2, a3, b1, b2, b3, c1, c2, c3, Sem.run_bind, Sem.run_ite, p1, p2, p3, q1, q2, q3, he, Result.andThen_ok]
  cases h1 : (x == x') <;> cases h2 : (y == y') <;> cases h3 : (z == z') <;> simp

/-- The first entry whose key is equal. -/
def findE (eqv : Value → Value → Bool) (k : Value) : List MapEntry → Nat → Option (Nat × Value)
  | [], _ => none
  | e :: es, i => if eqv k e.key then some (i, e.val) else findE eqv k es (i + 1)

/-- What a key type must give: its keys, and when two are equal. -/
structure KeyEq (kt : TypeId) (IsK : Value → Prop) (eqv : Value → Value → Bool) : Prop where
  chk : ∀ em k w, IsK k → (Instr.checkKey em 10000 kt k).run Tryz.prog w = .ok () w
  find : ∀ k (es : List MapEntry) w, IsK k → (∀ e ∈ es, IsK e.key) → (Instr.findKey kt k es).run Tryz.prog w = .ok (findE eqv k es 0) w
  same : ∀ a b, IsK a → IsK b → eqv a b = true → a = b
  refl : ∀ a, IsK a → eqv a a = true

def eqInt : Value → Value → Bool | .int _ a, .int _ b => a == b | _, _ => false
def eqStr : Value → Value → Bool | .string a, .string b => a == b | _, _ => false
def eqVec : Value → Value → Bool
  | .agg xs, .agg ys => match xs.toList, ys.toList with
    | [.int _ x, .int _ y, .int _ z], [.int _ x', .int _ y', .int _ z'] => x == x' && (y == y' && z == z')
    | _, _ => false
  | _, _ => false
theorem keyInt (kt : TypeId) (h : Tryz.prog.underlying kt = some (.int .i64)) : KeyEq kt (fun v => ∃ n, v = .int .i64 n) eqInt where
  chk := by
    rintro em k w ⟨n, rfl⟩
    exact run_checkKey h (by simp [IsKey]) em 9999
  find := by
    rintro k es w ⟨n, rfl⟩ hes
    refine run_findKey h ?_
    generalize 0 = i
    induction es generalizing i with
    | nil => rfl
    | cons e es ih =>
      obtain ⟨m, hm⟩ := hes e (by simp)
      simp only [Instr.findNow, hm, Instr.sameNow, if_true, findE, eqInt]
      cases n == m
      · simpa using ih (fun e he => hes e (by simp [he])) (i + 1)
      · simp
  same := by rintro _ _ ⟨n, rfl⟩ ⟨m, rfl⟩ h; simp [eqInt] at h; rw [h]
  refl := by rintro _ ⟨n, rfl⟩; simp [eqInt]
theorem bytes_refl (a : ByteArray) : (a == a) = true := by rw [beq_toListBytes]; simp
theorem bytes_eq {a b : ByteArray} (h : (a == b) = true) : a = b := by
  rw [beq_toListBytes, ByteArray.toList_eq, ByteArray.toList_eq] at h
  obtain ⟨⟨x⟩⟩ := a
  obtain ⟨⟨y⟩⟩ := b
  have e : x = y := by simpa using h
  rw [e]
theorem keyStr (kt : TypeId) (h : Tryz.prog.underlying kt = some .string) : KeyEq kt (fun v => ∃ s, v = .string s) eqStr where
  chk := by
    rintro em k w ⟨n, rfl⟩
    exact run_checkKey h (by simp [IsKey]) em 9999
  find := by
    rintro k es w ⟨n, rfl⟩ hes
    refine run_findKey h ?_
    generalize 0 = i
    induction es generalizing i with
    | nil => rfl
    | cons e es ih =>
      obtain ⟨m, hm⟩ := hes e (by simp)
      simp only [Instr.findNow, hm, Instr.sameNow, findE, eqStr]
      cases n == m
      · simpa using ih (fun e he => hes e (by simp [he])) (i + 1)
      · simp
  same := by rintro _ _ ⟨n, rfl⟩ ⟨m, rfl⟩ h; rw [bytes_eq h]
  refl := by rintro _ ⟨n, rfl⟩; exact bytes_refl n
theorem keyVec : KeyEq 95 (fun v => ∃ x y z, v = vec x y z) eqVec where
  chk := by
    rintro em k w ⟨x, y, z, rfl⟩
    unfold vec
    kernel_rfl
  find := by
    rintro k es w ⟨x, y, z, rfl⟩ hes
    rw [run_findKey_eq w (by kernel_rfl)]
    generalize 0 = i
    induction es generalizing i with
    | nil => simp [Instr.findAsking, findE]
    | cons e es ih =>
      obtain ⟨x', y', z', hm⟩ := hes e (by simp)
      unfold vec at hm
      have hq : eqVec (vec x y z) (.agg #[.int .i64 x', .int .i64 y', .int .i64 z']) = (x == x' && (y == y' && z == z')) := rfl
      simp only [Instr.findAsking, Sem.run_bind, hm, findE, hq]
      have hv : (Op.equal 95 (vec x y z) (.agg #[.int .i64 x', .int .i64 y', .int .i64 z'])).run Tryz.prog w = _ := vec_equal x y z x' y' z' w
      simp only [hv, Result.andThen_ok]
      cases (x == x' && (y == y' && z == z'))
      · simpa using ih (fun e he => hes e (by simp [he])) (i + 1)
      · simp
  same := by
    rintro _ _ ⟨x, y, z, rfl⟩ ⟨x', y', z', rfl⟩ h
    have : (x == x' && (y == y' && z == z')) = true := h
    simp at this
    rw [this.1, this.2.1, this.2.2]
  refl := by rintro _ ⟨x, y, z, rfl⟩; show (x == x && (y == y && z == z)) = true; simp
/-- Block b is a map whose entries are L, in the order of their coming. -/
def MapAt (w : World) (b : Nat) (L : List (Value × Value)) : Prop :=
  ∃ es clock, w.heap[b]? = some (.map es clock) ∧ es.toList.map (fun e => (e.key, e.val)) = L ∧ ∀ e ∈ es.toList, e.born < clock
theorem findE_none {eqv : Value → Value → Bool} {k : Value} : ∀ {es : List MapEntry} {i : Nat}, (∀ p ∈ es.map (fun e => (e.key, e.val)), eqv k p.1 = false) → findE eqv k es i = none
  | [], _, _ => rfl
  | e :: es, i, h => by
    have h1 := h (e.key, e.val) (by simp)
    unfold findE
    rw [if_neg (by rw [h1]; exact Bool.false_ne_true)]
    exact findE_none fun p hp => h p (by simp at hp ⊢; exact .inr hp)
theorem findE_val {eqv : Value → Value → Bool} {k : Value} : ∀ {es : List MapEntry} {i : Nat}, (findE eqv k es i).map (·.2) = ((es.map (fun e => (e.key, e.val))).find? (fun p => eqv k p.1)).map (·.2)
  | [], _ => rfl
  | e :: es, i => by
    unfold findE
    simp only [List.map_cons, List.find?_cons]
    cases h : eqv k e.key
    · simpa using findE_val
    · simp
theorem MapAt.new (w : World) (b : Nat) (hb : w.heap.size = b) : MapAt (w.alloc (.map #[] 0)) b [] := by
  subst hb
  exact ⟨#[], 0, heap_alloc_new w _, rfl, by simp⟩
theorem MapAt.lt {w : World} {b : Nat} {L : List (Value × Value)} (h : MapAt w b L) : b < w.heap.size := by
  obtain ⟨es, c, h, _⟩ := h
  exact (Array.getElem?_eq_some_iff.1 h).1
theorem MapAt.keep {w w' : World} {b : Nat} {L : List (Value × Value)} (h : MapAt w b L) (hk : w'.heap[b]? = w.heap[b]?) : MapAt w' b L := by
  obtain ⟨es, c, h, e, hs⟩ := h
  exact ⟨es, c, hk.trans h, e, hs⟩
theorem MapAt.below {w w' : World} {b B : Nat} {L : List (Value × Value)} (h : MapAt w b L) (hb : Below B w w') (hB : b < B) : MapAt w' b L := h.keep (hb.block b hB)
theorem MapAt.alloc {w : World} {b : Nat} {L : List (Value × Value)} (h : MapAt w b L) (o : Obj) : MapAt (w.alloc o) b L := h.keep (Below.heap_alloc w o b h.lt)
theorem MapAt.setCell {w : World} {b : Nat} {L : List (Value × Value)} (h : MapAt w b L) (p : Addr) (u : Value) (hp : b ≠ p.block) : MapAt (w.setCell p u) b L := h.keep (Below.heap_setCell w p u b hp)
/-- A look-up. -/
theorem MapAt.look {w : World} {b : Nat} {L : List (Value × Value)} {t kt et : TypeId} {IsK : Value → Prop} {eqv : Value → Value → Bool} (h : MapAt w b L) (ht : Tryz.prog.underlying t = some (.map kt et)) (K : KeyEq kt IsK eqv)
    (hL : ∀ p ∈ L, IsK p.1) (k : Value) (hk : IsK k) (z : Value) (hz : (zeroValue et).run Tryz.prog w = .ok z w) :
    (Instr.lookup t (.map (some b)) k false).run Tryz.prog w = .ok (((L.find? (fun p => eqv k p.1)).map (·.2)).getD z) w := by
  obtain ⟨es, c, hb, rfl, hst⟩ := h
  have hes : ∀ e ∈ es.toList, IsK e.key := fun e he => hL (e.key, e.val) (List.mem_map.2 ⟨e, he, rfl⟩)
  rw [← findE_val (i := 0)]
  unfold Instr.lookup
  simp only [Sem.run_bind, run_underlying ht, Result.andThen_ok, Go.MapKept.run_getObj_map hb, Sem.run_pure, K.chk _ k _ hk, K.find k es.toList w hk hes]
  cases findE eqv k es.toList 0 with
  | none => simp [hz]
  | some p => simp
/-- A store at a key that is not there. -/
theorem MapAt.put {w : World} {b : Nat} {L : List (Value × Value)} {t kt et : TypeId} {IsK : Value → Prop} {eqv : Value → Value → Bool} (h : MapAt w b L) (ht : Tryz.prog.underlying t = some (.map kt et)) (K : KeyEq kt IsK eqv)
    (hL : ∀ p ∈ L, IsK p.1) (k v : Value) (hk : IsK k) (hn : ∀ p ∈ L, eqv k p.1 = false) :
    ∃ w', (Instr.mapUpdate t (.map (some b)) k v).run Tryz.prog w = .ok () w' ∧ MapAt w' b (L ++ [(k, v)]) ∧ w.grownBy w' (some b) := by
  obtain ⟨es, c, hb, rfl, hst⟩ := h
  have hes : ∀ e ∈ es.toList, IsK e.key := fun e he => hL (e.key, e.val) (List.mem_map.2 ⟨e, he, rfl⟩)
  refine ⟨{ w with heap := w.heap.setIfInBounds b (.map (es.push { key := k, val := v, born := c }) (c + 1)) }, ?_, ⟨_, _, (heap_set hb).1, by simp, by
    intro e he
    simp at he
    rcases he with he | rfl
    · have := hst e (by simpa using he); omega
    · simp⟩, ⟨rfl, rfl, rfl, by simp, fun i _ hne => (heap_set hb).2 i (fun e => hne (by rw [e]))⟩⟩
  unfold Instr.mapUpdate
  simp only [Sem.run_bind, run_underlying ht, Result.andThen_ok, Go.MapKept.run_getObj_map hb, K.chk _ k _ hk, K.find k es.toList w hk hes, findE_none hn]
  exact Go.MapKept.run_setObj_map _ hb
/-- The store as an operation of a walk: 'm[k] = v' and the entries of a literal. -/
theorem wpList_insert {w : World} {ops : Array Oper} {rest : List Oper} {o : Oper} {a : Act} {Q : Exit → Act → World → Prop} (hg : o.guard = none) (m x v : Operand) (t : TypeId) (hop : o.op = Op.insert t m x v)
    {b : Nat} {L : List (Value × Value)} {kt et : TypeId} {IsK : Value → Prop} {eqv : Value → Value → Bool} (ht : Tryz.prog.underlying t = some (.map kt et)) (K : KeyEq kt IsK eqv) (hm : a.eval m = .map (some b)) (h : MapAt w b L)
    (hL : ∀ p ∈ L, IsK p.1) (k u : Value) (hx : a.eval x = k) (hv : a.eval v = u) (hk : IsK k) (hn : ∀ p ∈ L, eqv k p.1 = false)
    (hK : ∀ w', MapAt w' b (L ++ [(k, u)]) → w.grownBy w' (some b) → wpList Tryz.prog ops Q rest (a.put o.dst undef) w') : wpList Tryz.prog ops Q (o :: rest) a w := by
  refine wpList_plain hg fun K' hK' => ?_
  obtain ⟨w', hrun, r1, r2⟩ := h.put ht K hL k u hk hn
  unfold Oper.wp
  simp [execOp, hop, hm, hx, hv, hrun, Result.andThen]
  exact hK' _ _ (hK w' r1 r2)
theorem wpList_update {w : World} {ops : Array Oper} {rest : List Oper} {o : Oper} {a : Act} {Q : Exit → Act → World → Prop} (hg : o.guard = none) (m x v : Operand) (t : TypeId) (hop : o.op = Op.mapUpdate t m x v)
    {b : Nat} {L : List (Value × Value)} {kt et : TypeId} {IsK : Value → Prop} {eqv : Value → Value → Bool} (ht : Tryz.prog.underlying t = some (.map kt et)) (K : KeyEq kt IsK eqv) (hm : a.eval m = .map (some b)) (h : MapAt w b L)
    (hL : ∀ p ∈ L, IsK p.1) (k u : Value) (hx : a.eval x = k) (hv : a.eval v = u) (hk : IsK k) (hn : ∀ p ∈ L, eqv k p.1 = false)
    (hK : ∀ w', MapAt w' b (L ++ [(k, u)]) → w.grownBy w' (some b) → wpList Tryz.prog ops Q rest (a.put o.dst undef) w') : wpList Tryz.prog ops Q (o :: rest) a w := by
  refine wpList_plain hg fun K' hK' => ?_
  obtain ⟨w', hrun, r1, r2⟩ := h.put ht K hL k u hk hn
  unfold Oper.wp
  simp [execOp, hop, hm, hx, hv, hrun, Result.andThen]
  exact hK' _ _ (hK w' r1 r2)
theorem wpList_look {w : World} {ops : Array Oper} {rest : List Oper} {o : Oper} {a : Act} {Q : Exit → Act → World → Prop} (hg : o.guard = none) (m x : Operand) (t : TypeId) (hop : o.op = Op.lookup t m x false)
    {b : Nat} {L : List (Value × Value)} {kt et : TypeId} {IsK : Value → Prop} {eqv : Value → Value → Bool} (ht : Tryz.prog.underlying t = some (.map kt et)) (K : KeyEq kt IsK eqv) (hm : a.eval m = .map (some b)) (h : MapAt w b L)
    (hL : ∀ p ∈ L, IsK p.1) (k : Value) (hx : a.eval x = k) (hk : IsK k) (z : Value) (hz : (zeroValue et).run Tryz.prog w = .ok z w) (r : Value) (hr : ((L.find? (fun p => eqv k p.1)).map (·.2)).getD z = r)
    (hK : wpList Tryz.prog ops Q rest (a.put o.dst r) w) : wpList Tryz.prog ops Q (o :: rest) a w := by
  refine wpList_plain hg fun K' hK' => ?_
  have hrun := h.look ht K hL k hk z hz
  rw [hr] at hrun
  unfold Oper.wp
  simp [execOp, hop, hm, hx, hrun, Result.andThen]
  exact hK' _ _ hK
/-- Between 'the entry is laid' and 'its value is stored'. -/
def MapE (w : World) (b : Nat) (L : List (Value × Value)) (k : Value) (c : Nat) : Prop :=
  ∃ (es : Array MapEntry) (z : Value), w.heap[b]? = some (.map (es.push { key := k, val := z, born := c }) (c + 1)) ∧ es.toList.map (fun e => (e.key, e.val)) = L ∧ ∀ e ∈ es.toList, e.born < c
theorem MapAt.entry {w : World} {b : Nat} {L : List (Value × Value)} {t kt et : TypeId} {IsK : Value → Prop} {eqv : Value → Value → Bool} (h : MapAt w b L) (ht : Tryz.prog.underlying t = some (.map kt et)) (K : KeyEq kt IsK eqv)
    (hL : ∀ p ∈ L, IsK p.1) (k : Value) (hk : IsK k) (hn : ∀ p ∈ L, eqv k p.1 = false) (z : Value) (hz : (zeroValue et).run Tryz.prog w = .ok z w) :
    ∃ w' c, (Instr.mapEntry t (.map (some b)) k).run Tryz.prog w = .ok (.tuple #[z, .int .i64 (c : Nat)]) w' ∧ MapE w' b L k c ∧ w.grownBy w' (some b) := by
  obtain ⟨es, c, hb, rfl, hst⟩ := h
  have hes : ∀ e ∈ es.toList, IsK e.key := fun e he => hL (e.key, e.val) (List.mem_map.2 ⟨e, he, rfl⟩)
  refine ⟨{ w with heap := w.heap.setIfInBounds b (.map (es.push { key := k, val := z, born := c }) (c + 1)) }, c, ?_, ⟨es, z, (heap_set hb).1, rfl, hst⟩, ⟨rfl, rfl, rfl, by simp, fun i _ hne => (heap_set hb).2 i (fun e => hne (by rw [e]))⟩⟩
  unfold Instr.mapEntry
  simp only [Sem.run_bind, run_underlying ht, Result.andThen_ok, Go.MapKept.run_getObj_map hb, K.chk _ k _ hk, K.find k es.toList w hk hes, findE_none hn, hz]
  rw [Go.MapKept.run_setObj_map _ hb]
  rfl
theorem MapE.store {w : World} {b c : Nat} {L : List (Value × Value)} {k : Value} (h : MapE w b L k c) (t : TypeId) (v : Value) :
    ∃ w', (Instr.entryStore t (.map (some b)) (.int .i64 (c : Nat)) v).run Tryz.prog w = .ok () w' ∧ MapAt w' b (L ++ [(k, v)]) ∧ w.grownBy w' (some b) := by
  obtain ⟨es, z, hb, rfl, hst⟩ := h
  have hidx : (es.push { key := k, val := z, born := c }).findIdx? (fun e => (e.born : Int) == (c : Int)) = some es.size := by
    rw [Array.findIdx?_eq_some_iff_getElem]
    refine ⟨by simp, by simp, fun j hj => ?_⟩
    have hj' : j < es.size := by simpa using hj
    rw [Array.getElem_push_lt hj']
    have := hst es[j] (by simp)
    simp
    omega
  refine ⟨{ w with heap := w.heap.setIfInBounds b (.map ((es.push { key := k, val := z, born := c }).modify es.size fun e => { e with val := v }) (c + 1)) }, ?_, ⟨_, _, (heap_set hb).1, ?_, ?_⟩, ⟨rfl, rfl, rfl, by simp, fun i _ hne => (heap_set hb).2 i (fun e => hne (by rw [e]))⟩⟩
  · unfold Instr.entryStore
    simp only [Sem.run_bind, Result.andThen_ok, Go.MapKept.run_getObj_map hb, asInt, asIntOf, Sem.run_pure, hidx]
    exact Go.MapKept.run_setObj_map _ hb
  · have e : (es.push { key := k, val := z, born := c }).modify es.size (fun e => { e with val := v }) = es.push { key := k, val := v, born := c } := by
      apply Array.ext
      · simp
      · intro i h1 h2
        rw [Array.getElem_modify]
        by_cases hi : es.size = i
        · subst hi; simp
        · have : i < es.size := by simp at h2; omega
          rw [if_neg hi, Array.getElem_push_lt this, Array.getElem_push_lt this]
    rw [e]
    simp
  · have e : (es.push { key := k, val := z, born := c }).modify es.size (fun e => { e with val := v }) = es.push { key := k, val := v, born := c } := by
      apply Array.ext
      · simp
      · intro i h1 h2
        rw [Array.getElem_modify]
        by_cases hi : es.size = i
        · subst hi; simp
        · have : i < es.size := by simp at h2; omega
          rw [if_neg hi, Array.getElem_push_lt this, Array.getElem_push_lt this]
    rw [e]
    intro e he
    simp at he
    rcases he with he | rfl
    · have := hst e (by simpa using he); omega
    · simp
theorem wpList_entry {w : World} {ops : Array Oper} {rest : List Oper} {o : Oper} {a : Act} {Q : Exit → Act → World → Prop} (hg : o.guard = none) (m x : Operand) (t : TypeId) (hop : o.op = Op.mapEntry t m x)
    {b : Nat} {L : List (Value × Value)} {kt et : TypeId} {IsK : Value → Prop} {eqv : Value → Value → Bool} (ht : Tryz.prog.underlying t = some (.map kt et)) (K : KeyEq kt IsK eqv) (hm : a.eval m = .map (some b)) (h : MapAt w b L)
    (hL : ∀ p ∈ L, IsK p.1) (k : Value) (hx : a.eval x = k) (hk : IsK k) (hn : ∀ p ∈ L, eqv k p.1 = false) (z : Value) (hz : (zeroValue et).run Tryz.prog w = .ok z w)
    (hK : ∀ w' c, MapE w' b L k c → w.grownBy w' (some b) → wpList Tryz.prog ops Q rest (a.put o.dst (.tuple #[z, .int .i64 (c : Nat)])) w') : wpList Tryz.prog ops Q (o :: rest) a w := by
  refine wpList_plain hg fun K' hK' => ?_
  obtain ⟨w', c, hrun, r1, r2⟩ := h.entry ht K hL k hk hn z hz
  unfold Oper.wp
  simp [execOp, hop, hm, hx, hrun, Result.andThen]
  exact hK' _ _ (hK w' c r1 r2)
theorem wpList_entryStore {w : World} {ops : Array Oper} {rest : List Oper} {o : Oper} {a : Act} {Q : Exit → Act → World → Prop} (hg : o.guard = none) (m x v : Operand) (t : TypeId) (hop : o.op = Op.entryStore t m x v)
    {b c : Nat} {L : List (Value × Value)} {k : Value} (hm : a.eval m = .map (some b)) (h : MapE w b L k c) (hx : a.eval x = .int .i64 (c : Nat)) (u : Value) (hv : a.eval v = u)
    (hK : ∀ w', MapAt w' b (L ++ [(k, u)]) → w.grownBy w' (some b) → wpList Tryz.prog ops Q rest (a.put o.dst undef) w') : wpList Tryz.prog ops Q (o :: rest) a w := by
  refine wpList_plain hg fun K' hK' => ?_
  obtain ⟨w', hrun, r1, r2⟩ := h.store t u
  unfold Oper.wp
  simp [execOp, hop, hm, hx, hv, hrun, Result.andThen]
  exact hK' _ _ (hK w' r1 r2)
end Go.Proofs.YtolmehmglgmanaaGreatDoor
