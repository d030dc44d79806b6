/- Own layer: a region that leaves its order open. Operations whose value does not hang on the order ('det') are taken in the order of the text; the rest in each order that is left. -/
import Derived.Test.YtdflfnednaleeaaMore
import Derived.Orders
namespace Go.Proofs.Ytdflfnednaleeaa
open Go

/-- A det operation: its number, slot, what it needs of memory, its value. -/
structure DetOp where
  i : Nat
  d : Nat
  needs : Hp
  v : Value

def preds (o : Oper) : List Nat := (o.after.toList.filter (Region.binds .any)).map (·.on)

/-- Of memory: what a det operation needs. -/
def DCl (w0 : World) (M : List Nat) (Hn : Hp) (W : World) : Prop := Ext M w0 W ∧ ∀ e, e ∈ Hn → W.heap[e.b]? = some e.obj

theorem DCl.ext0 {w0 : World} {M : List Nat} {Hn : Hp} {W W' : World} (h : DCl w0 M Hn W) (k : Ext [] W W') : DCl w0 M Hn W' :=
  ⟨h.1.trans0 k, fun e he => by
    have hb := h.2 e he
    rw [k.block e.b (by
      by_cases hlt : e.b < W.heap.size
      · exact hlt
      · rw [Array.getElem?_eq_none (Nat.le_of_not_lt hlt)] at hb; cases hb) (by simp)]
    exact hb⟩

section
variable {P : Program} {N : Nat} {w0 : World} {M : List Nat} {H : Hp} {ops : Array Oper} {Q : Exit → Act → World → Prop} {next : AW}

/-- What is left of a region once its det operations are done. Pr: what each one must keep. -/
def restAny (P : Program) (ops : Array Oper) (Q : Exit → Act → World → Prop) (next : AW) (Pr : Nat → World → World → Prop) : Nat → Array Bool → AW
  | 0, L, b, W => Region.ready .any ops L = [] ∧ next b W
  | m + 1, L, b, W => (Region.ready .any ops L = [] → next b W) ∧ ∀ r, r ∈ Region.ready .any ops L → wpOp P ops Q r (fun b' W' => Pr r W W' ∧ ∀ W'', Ext [] W' W'' → restAny P ops Q next Pr m (L.setIfInBounds r true) b' W'') b W

def fill : List DetOp → Act → Act
  | [], a => a
  | x :: r, a => (fill r a).put (some x.d) x.v

theorem fill_size (D : List DetOp) (a : Act) : (fill D a).tmps.size = a.tmps.size := by
  induction D with
  | nil => rfl
  | cons x r ih => simp [fill, Act.put, ih]

theorem fill_defers (D : List DetOp) (a : Act) : (fill D a).defers = a.defers := by
  induction D with
  | nil => rfl
  | cons x r ih => simp [fill, Act.put, ih]

/-- A slot that no det operation writes. -/
theorem fill_other {D : List DetOp} {a : Act} {t : Nat} (h : ∀ x, x ∈ D → x.d ≠ t) : (fill D a).tmps[t]? = a.tmps[t]? := by
  induction D with
  | nil => rfl
  | cons x r ih =>
    simp only [fill, Act.put]
    rw [Array.getElem?_setIfInBounds_ne (h x (List.mem_cons_self ..))]
    exact ih (fun y hy => h y (List.mem_cons_of_mem _ hy))

/-- The slots of det operations are apart. -/
def Dist : List DetOp → Prop
  | [] => True
  | x :: r => (∀ y, y ∈ r → y.d ≠ x.d) ∧ Dist r

theorem fill_at {D : List DetOp} {a : Act} (hd : Dist D) {x : DetOp} (hx : x ∈ D) (hlt : x.d < a.tmps.size) : (fill D a).tmps[x.d]? = some x.v := by
  induction D with
  | nil => cases hx
  | cons y r ih =>
    simp only [fill, Act.put]
    rcases List.mem_cons.1 hx with rfl | hx
    · rw [Array.getElem?_setIfInBounds_self_of_lt (by rw [fill_size]; exact hlt)]
    · rw [Array.getElem?_setIfInBounds_ne (fun e => hd.1 x hx e.symm)]
      exact ih hd.2 hx

theorem act_ext {a b : Act} (h1 : ∀ t : Nat, a.tmps[t]? = b.tmps[t]?) (h2 : a.defers = b.defers) : a = b := by
  cases a; cases b
  simp only at h1 h2
  congr
  exact Array.ext_getElem? h1

/-- A det operation's own value changes nothing of what is filled. -/
theorem fill_put_same {D : List DetOp} {a : Act} (hd : Dist D) {x : DetOp} (hx : x ∈ D) : fill D (a.put (some x.d) x.v) = fill D a := by
  by_cases hlt : x.d < a.tmps.size
  · refine act_ext (fun t => ?_) (by rw [fill_defers, fill_defers]; rfl)
    by_cases ht : ∃ y, y ∈ D ∧ y.d = t
    · obtain ⟨y, hy, rfl⟩ := ht
      by_cases hys : y.d < a.tmps.size
      · rw [fill_at hd hy (by simpa [Act.put] using hys), fill_at hd hy hys]
      · rw [Array.getElem?_eq_none (by rw [fill_size]; simp [Act.put]; omega), Array.getElem?_eq_none (by rw [fill_size]; omega)]
    · have hno : ∀ y, y ∈ D → y.d ≠ t := fun y hy e => ht ⟨y, hy, e⟩
      rw [fill_other hno, fill_other hno]
      simp only [Act.put]
      rw [Array.getElem?_setIfInBounds_ne (hno x hx)]
  · have : a.put (some x.d) x.v = a := by
      refine act_ext (fun t => ?_) rfl
      simp only [Act.put]
      rw [Array.getElem?_setIfInBounds]
      split
      · rename_i h; subst h
        rw [Array.getElem?_eq_none (by omega)]
      · rfl
    rw [this]

theorem fill_put_other {D : List DetOp} {a : Act} {d : Option Nat} {v : Value} (h : ∀ x t, x ∈ D → d = some t → x.d ≠ t) : fill D (a.put d v) = (fill D a).put d v := by
  cases d with
  | none => rfl
  | some t =>
    induction D with
    | nil => rfl
    | cons x r ih =>
      simp only [fill]
      rw [ih (fun y t' hy ht => h y t' (List.mem_cons_of_mem _ hy) ht)]
      exact Act.put_comm _ _ _ (fun d' hd' => by
        cases hd'
        intro e
        cases e
        exact h x _ (List.mem_cons_self ..) rfl rfl)

theorem fill_done {D : List DetOp} {a : Act} (hd : Dist D) (h : ∀ x, x ∈ D → a.tmps[x.d]? = some x.v) : fill D a = a := by
  refine act_ext (fun t => ?_) (fill_defers D a)
  by_cases ht : ∃ y, y ∈ D ∧ y.d = t
  · obtain ⟨y, hy, rfl⟩ := ht
    rw [h y hy]
    have hlt : y.d < a.tmps.size := (Array.getElem?_eq_some_iff.1 (h y hy)).1
    exact fill_at hd hy hlt
  · exact fill_other (fun y hy e => ht ⟨y, hy, e⟩)

/-- One value, whatever else: in this state and world. -/
def Yield (P : Program) (o : Oper) (a : Act) (W : World) (v : Value) : Prop := o.wp P a W (fun a' W' => a' = a.put o.dst v ∧ Ext [] W W') (fun _ _ _ => False)

theorem Yield.same {o : Oper} {a a' : Act} {W : World} {v : Value} {d : Nat} (hd : o.dst = some d) (hlt : d < a.tmps.size) (he : execOp a'.eval o = execOp a.eval o) (h : Yield P o a W v) {K : AW} (hK : ∀ W', Ext [] W W' → K (a'.put o.dst v) W') :
    o.wp P a' W K Q := by
  have inj : ∀ u, a.put o.dst u = a.put o.dst v → u = v := fun u hu => by
    rw [hd] at hu
    simp only [Act.put, Act.mk.injEq, and_true] at hu
    have h1 : (a.tmps.setIfInBounds d u)[d]? = (a.tmps.setIfInBounds d v)[d]? := by rw [hu]
    rw [Array.getElem?_setIfInBounds_self_of_lt hlt, Array.getElem?_setIfInBounds_self_of_lt hlt] at h1
    injection h1
  unfold Yield at h
  unfold Oper.wp at *
  rw [he]
  generalize (execOp a.eval o).run P W = r at *
  have key : ∀ u W', (a.put o.dst u = a.put o.dst v ∧ Ext [] W W') → K (a'.put o.dst u) W' := fun u W' hu => by rw [inj u hu.1]; exact hK W' hu.2
  cases r with
  | halt x w' => cases x <;> simp only [Oper.upon] at h
  | ok n w' =>
    cases n with
    | value u => exact key u _ h
    | skip => exact key undef _ h
    | enter f args =>
      simp only [Oper.upon] at h ⊢
      refine Calls.mono h ?_
      intro e w'' hw
      cases e with
      | returned u => exact key u _ hw
      | panicked c => exact hw.elim
      | outgrown => obtain ⟨_, _, q⟩ := hw; exact q.elim
    | row row args =>
      simp only [Oper.upon] at h ⊢
      exact Rows.mono h fun u w2 hu => key u w2 hu
    | defer d' =>
      simp only [Oper.upon] at h
      rw [hd] at h
      have h1 := congrArg Act.defers h.1
      simp only [Act.put] at h1
      exact absurd h1 (by simp)
    | _ => exact h.elim

/-! ### The order may be left open -/
def noSel (o : Oper) : Bool := match o.op with
  | .select .. => false
  | _ => true

theorem noSel_spec {o : Oper} (h : noSel o = true) : ∀ cs b, o.op ≠ .select cs b := fun cs b e => by
  unfold noSel at h; rw [e] at h; cases h

def isDet (D : List Bool) (i : Nat) : Bool := (D[i]?).getD false

/-- One operation against all others. -/
def okOne (ops : Array Oper) (D : List Bool) (i : Nat) (o : Oper) : Bool :=
  (preds o).all (Nat.blt · i) && noSel o &&
  (if isDet D i then o.dst.isSome && (List.range ops.size).all (fun j => Nat.beq j i || match ops[j]? with
      | some oj => oj.dst != o.dst
      | none => true) && o.dst.all (fun d => !(o.looksAt ops).contains d) else true) &&
  (o.looksAt ops).all (fun t => (List.range ops.size).all fun j => Nat.beq j i || match ops[j]? with
    | some oj => oj.dst != some t || (if isDet D i then (if isDet D j then (preds o).contains j else (preds oj).contains i) else (!isDet D j || (preds o).contains j))
    | none => true)

def okDraw (ops : Array Oper) (D : List Bool) : Bool := (List.range ops.size).all fun i => match ops[i]? with
  | some o => okOne ops D i o
  | none => false

structure Fit (ops : Array Oper) (D : List Bool) : Prop where
  up : ∀ (i : Nat) (o : Oper), ops[i]? = some o → ∀ p, p ∈ preds o → p < i
  sel : ∀ (i : Nat) (o : Oper), ops[i]? = some o → ∀ cs b, o.op ≠ .select cs b
  own : ∀ (i : Nat) (o : Oper), ops[i]? = some o → isDet D i = true → ∃ d, o.dst = some d ∧ ∀ (j : Nat) (oj : Oper), ops[j]? = some oj → j ≠ i → oj.dst ≠ some d
  self : ∀ (i : Nat) (o : Oper), ops[i]? = some o → isDet D i = true → ∀ d, o.dst = some d → d ∉ o.looksAt ops
  look : ∀ (i : Nat) (o : Oper), ops[i]? = some o → ∀ t, t ∈ o.looksAt ops → ∀ (j : Nat) (oj : Oper), ops[j]? = some oj → j ≠ i → oj.dst = some t →
    (isDet D i = true → isDet D j = true → j ∈ preds o) ∧ (isDet D i = true → isDet D j = false → i ∈ preds oj) ∧ (isDet D i = false → isDet D j = true → j ∈ preds o)

theorem lt_of_get {i : Nat} {o : Oper} (h : ops[i]? = some o) : i < ops.size := (Array.getElem?_eq_some_iff.1 h).1

theorem fit_of {D : List Bool} (h : okDraw ops D = true) : Fit ops D := by
  have one : ∀ i o, ops[i]? = some o → okOne ops D i o = true := fun i o ho => by
    have := List.all_eq_true.1 h i (List.mem_range.2 (lt_of_get ho))
    rw [ho] at this; exact this
  refine ⟨fun i o ho p hp => ?_, fun i o ho => ?_, fun i o ho hD => ?_, fun i o ho hD d hd => ?_, fun i o ho t ht j oj hj hji hd => ?_⟩
  · have := one i o ho
    simp only [okOne, Bool.and_eq_true] at this
    exact Nat.le_of_ble_eq_true (List.all_eq_true.1 this.1.1.1 p hp)
  · have := one i o ho
    simp only [okOne, Bool.and_eq_true] at this
    exact noSel_spec this.1.1.2
  · have := one i o ho
    simp only [okOne, Bool.and_eq_true, hD, if_true] at this
    obtain ⟨⟨_, ⟨h2, h3⟩, _⟩, _⟩ := this
    obtain ⟨d, hd⟩ := Option.isSome_iff_exists.1 h2
    refine ⟨d, hd, fun j oj hj hji e => ?_⟩
    have := List.all_eq_true.1 h3 j (List.mem_range.2 (lt_of_get hj))
    rw [hj] at this
    simp only [Bool.or_eq_true] at this
    rcases this with h4 | h4
    · exact hji (Nat.eq_of_beq_eq_true h4)
    · rw [e, hd] at h4; simp at h4
  · have := one i o ho
    simp only [okOne, Bool.and_eq_true, hD, if_true] at this
    obtain ⟨⟨_, _, h3⟩, _⟩ := this
    rw [hd] at h3
    simpa using h3
  · have := one i o ho
    simp only [okOne, Bool.and_eq_true] at this
    have h1 := List.all_eq_true.1 (List.all_eq_true.1 this.2 t ht) j (List.mem_range.2 (lt_of_get hj))
    rw [hj] at h1
    simp only [Bool.or_eq_true] at h1
    rcases h1 with h1 | h1 | h1
    · exact absurd (Nat.eq_of_beq_eq_true h1) hji
    · rw [hd] at h1; simp at h1
    · refine ⟨fun a b => ?_, fun a b => ?_, fun a b => ?_⟩ <;> simp [a, b] at h1 <;> exact h1

theorem mem_preds {o : Oper} {p : Nat} (h : p ∈ preds o) : ∃ e ∈ o.after, Region.binds .any e = true ∧ e.on = p := by
  unfold preds at h
  obtain ⟨e, he, rfl⟩ := List.mem_map.1 h
  obtain ⟨h1, h2⟩ := List.mem_filter.1 he
  exact ⟨e, by simpa using h1, h2, rfl⟩

theorem preds_of {o : Oper} {e : Edge} (he : e ∈ o.after) (hb : Region.binds .any e = true) : e.on ∈ preds o :=
  List.mem_map.2 ⟨e, List.mem_filter.2 ⟨by simpa using he, hb⟩, rfl⟩

/-- Ready: not yet listed, all that it waits for is. -/
theorem ready_iff {L : Array Bool} {i : Nat} : i ∈ Region.ready .any ops L ↔ (i < ops.size ∧ L.getD i true = false ∧ ∃ o, ops[i]? = some o ∧ ∀ p, p ∈ preds o → L.getD p false = true) := by
  unfold Region.ready
  rw [List.mem_filter, List.mem_range]
  constructor
  · rintro ⟨h1, h2⟩
    simp only [Bool.and_eq_true, Bool.not_eq_true'] at h2
    cases ho : ops[i]? with
    | none => rw [ho] at h2; simp at h2
    | some o =>
      rw [ho] at h2
      simp only [Option.map_some, Option.getD_some, Array.all_eq_true'] at h2
      refine ⟨h1, h2.1, o, rfl, fun p hp => ?_⟩
      obtain ⟨e, he, hb, rfl⟩ := mem_preds hp
      have := h2.2 e he
      simpa [hb] using this
  · rintro ⟨h1, h2, o, ho, h3⟩
    refine ⟨h1, ?_⟩
    simp only [Bool.and_eq_true, Bool.not_eq_true', ho, Option.map_some, Option.getD_some, Array.all_eq_true']
    refine ⟨h2, fun e he => ?_⟩
    by_cases hb : Region.binds .any e = true
    · simp [hb, h3 _ (preds_of he hb)]
    · simp [hb]

/-- The det operations taken as done. -/
def LD (D : List Bool) (L : Array Bool) : Array Bool := L.mapIdx fun i b => b || isDet D i

theorem LD_getD {D : List Bool} {L : Array Bool} {i : Nat} {df : Bool} : (LD D L).getD i df = if i < L.size then (L.getD i df || isDet D i) else df := by
  by_cases h : i < L.size
  · simp [LD, h]
  · simp [LD, h]

theorem LD_set_det {D : List Bool} {L : Array Bool} {i : Nat} (hD : isDet D i = true) : LD D (L.setIfInBounds i true) = LD D L := by
  apply Array.ext_getElem?
  intro k
  by_cases hk : i = k
  · subst hk
    by_cases hlt : i < L.size <;> simp [LD, hD, hlt]
  · simp [LD, Array.getElem?_setIfInBounds_ne hk]

theorem LD_set_rest {D : List Bool} {L : Array Bool} {i : Nat} : LD D (L.setIfInBounds i true) = (LD D L).setIfInBounds i true := by
  apply Array.ext_getElem?
  intro k
  by_cases hk : i = k
  · subst hk
    by_cases hlt : i < L.size
    · rw [Array.getElem?_setIfInBounds_self_of_lt (by simpa [LD] using hlt)]
      simp [LD, hlt]
    · rw [Array.getElem?_eq_none (by simp [LD]; omega), Array.getElem?_eq_none (by simp [LD]; omega)]
  · rw [Array.getElem?_setIfInBounds_ne hk]
    simp [LD, Array.getElem?_setIfInBounds_ne hk]

theorem countP_lt {p q : Nat → Bool} : ∀ (l : List Nat) (i : Nat), i ∈ l → p i = false → q i = true → (∀ j, p j = true → q j = true) → l.countP p < l.countP q
  | [], _, h, _, _, _ => by cases h
  | x :: r, i, h, h1, h2, h3 => by
    have hle : ∀ l : List Nat, l.countP p ≤ l.countP q := fun l => List.countP_mono_left (fun j _ hj => h3 j hj)
    rw [List.countP_cons, List.countP_cons]
    rcases List.mem_cons.1 h with rfl | h
    · rw [h1, h2]
      have := hle r
      simp; omega
    · have := countP_lt r i h h1 h2 h3
      have h4 : (if p x = true then 1 else 0) ≤ (if q x = true then 1 else 0) := by
        by_cases hp : p x = true
        · rw [if_pos hp, if_pos (h3 x hp)]; exact Nat.le_refl _
        · rw [if_neg hp]; exact Nat.zero_le _
      omega

def unl (n : Nat) (L : Array Bool) : Nat := (List.range n).countP fun j => !L.getD j true

theorem unl_set {n : Nat} {L : Array Bool} {i : Nat} (hi : i < n) (h : L.getD i true = false) : unl n (L.setIfInBounds i true) < unl n L := by
  refine countP_lt _ i (List.mem_range.2 hi) ?_ (by simp [h]) (fun j hj => ?_)
  · have hlt : i < L.size := by
      by_cases hlt : i < L.size
      · exact hlt
      · simp [hlt] at h
    simp [hlt]
  · by_cases hij : i = j
    · subst hij
      simp [h]
    · simp only [Array.getD_eq_getD_getElem?, Array.getElem?_setIfInBounds_ne hij] at hj ⊢
      exact hj

theorem getD_set {L : Array Bool} {i k : Nat} {df : Bool} (hi : i < L.size) : (L.setIfInBounds i true).getD k df = if i = k then true else L.getD k df := by
  by_cases h : i = k
  · subst h; simp [hi]
  · simp [h, Array.getElem?_setIfInBounds_ne h]

/-- What an operation looks at is the same: so is what it does. -/
theorem look_exec {o : Oper} (hs : ∀ cs b, o.op ≠ .select cs b) {a b : Act} (h : ∀ t, t ∈ o.looksAt ops → a.tmps[t]? = b.tmps[t]?) : execOp a.eval o = execOp b.eval o := by
  refine execOp_congr o hs fun x hx => ?_
  cases x with
  | tmp t =>
    have : t ∈ o.looksAt ops := by
      unfold Oper.looksAt
      refine List.mem_append.2 (.inl (List.mem_filterMap.2 ⟨.tmp t, by simpa using hx, rfl⟩))
    simp [Act.eval, h t this]
  | _ => rfl

theorem look_wanted {o : Oper} {a b : Act} (h : ∀ t, t ∈ o.looksAt ops → a.tmps[t]? = b.tmps[t]?) : Region.wanted o (yielded ops a.tmps) = Region.wanted o (yielded ops b.tmps) := by
  unfold Region.wanted
  cases hg : o.guard with
  | none => rfl
  | some p =>
    obtain ⟨j, w⟩ := p
    have : yielded ops a.tmps j = yielded ops b.tmps j := by
      unfold yielded
      cases hj : (ops[j]?).bind (·.dst) with
      | none => simp
      | some d =>
        have hd : d ∈ o.looksAt ops := by
          unfold Oper.looksAt
          refine List.mem_append.2 (.inr ?_)
          simp [hg, hj]
        simp [h d hd]
    simp only [this]

structure Good (P : Program) (ops : Array Oper) (w0 : World) (M : List Nat) (D : List Bool) (DO : List DetOp) (a0 : Act) : Prop where
  dist : Dist DO
  idx : ∀ x, x ∈ DO → isDet D x.i = true ∧ ∃ o, ops[x.i]? = some o ∧ o.dst = some x.d
  all : ∀ i, i < ops.size → isDet D i = true → ∃ x, x ∈ DO ∧ x.i = i
  lt : ∀ x, x ∈ DO → x.d < a0.tmps.size
  yld : ∀ x, x ∈ DO → ∀ o, ops[x.i]? = some o → ∀ W, DCl w0 M x.needs W →
    (Region.wanted o (yielded ops (fill DO a0).tmps) = true ∧ Yield P o (fill DO a0) W x.v) ∨ (Region.wanted o (yielded ops (fill DO a0).tmps) = false ∧ x.v = undef)

/-- What each rest operation must keep. -/
def PrOf (w0 : World) (M : List Nat) (DO : List DetOp) (ops : Array Oper) (r : Nat) (W W' : World) : Prop :=
  ∀ x, x ∈ DO → (∀ o, ops[r]? = some o → x.i ∉ preds o) → DCl w0 M x.needs W → DCl w0 M x.needs W'

theorem dist_eq {DO : List DetOp} (h : Dist DO) {x y : DetOp} (hx : x ∈ DO) (hy : y ∈ DO) (e : x.d = y.d) : x = y := by
  induction DO with
  | nil => cases hx
  | cons z r ih =>
    rcases List.mem_cons.1 hx with h1 | h1
    · rcases List.mem_cons.1 hy with h2 | h2
      · rw [h1, h2]
      · exact absurd (h1 ▸ e.symm) (h.1 y h2)
    · rcases List.mem_cons.1 hy with h2 | h2
      · exact absurd (h2 ▸ e) (h.1 x h1)
      · exact ih h.2 h1 h2

theorem fill_with {DO : List DetOp} (a : Act) (df : List Deferred) : fill DO { a with defers := df } = { fill DO a with defers := df } := by
  induction DO with
  | nil => rfl
  | cons x r ih => simp only [fill, ih]; rfl

theorem wp_fill {o : Oper} {DO : List DetOp} {a : Act} {W : World} {K : AW} {n r : AW} {xs : List (Nat × AW)} (hd : ∀ x t, x ∈ DO → o.dst = some t → x.d ≠ t) (he : execOp a.eval o = execOp (fill DO a).eval o)
    (h : o.wp P (fill DO a) W K (Qof n r xs)) : o.wp P a W (fun a' W' => K (fill DO a') W') (Qof n r xs) := by
  have e1 : ∀ v, (fill DO a).put o.dst v = fill DO (a.put o.dst v) := fun v => (fill_put_other hd).symm
  unfold Oper.wp at *
  rw [he]
  generalize (execOp (fill DO a).eval o).run P W = q at *
  cases q with
  | halt x w' => cases x <;> simp only [Oper.upon] at h ⊢ <;> exact h
  | ok x w' =>
    cases x with
    | value u => simp only [Oper.upon] at h ⊢; rw [e1] at h; exact h
    | skip => simp only [Oper.upon] at h ⊢; rw [e1] at h; exact h
    | enter f args =>
      simp only [Oper.upon] at h ⊢
      refine Calls.mono h ?_
      intro e w'' hw
      cases e with
      | returned u =>
        have hw' : K ((fill DO a).put o.dst u) w'' := hw
        rw [e1] at hw'
        exact hw'
      | panicked c => exact hw
      | outgrown => exact hw
    | row row args =>
      simp only [Oper.upon] at h ⊢
      exact Rows.mono h fun u w2 hu => by rw [e1] at hu; exact hu
    | defer d' =>
      simp only [Oper.upon] at h ⊢
      rw [fill_put_other hd, fill_with]
      rw [fill_defers] at h
      exact h
    | _ => exact h

theorem getD_lt {L : Array Bool} {i : Nat} (h : L.getD i false = true) : i < L.size := by
  by_cases hlt : i < L.size
  · exact hlt
  · simp [hlt] at h

theorem wp_size {o : Oper} {a : Act} {W : World} {K : AW} (h : o.wp P a W K Q) : o.wp P a W (fun a' W' => K a' W' ∧ a'.tmps.size = a.tmps.size) Q := by
  have sz : ∀ (a : Act) v, (a.put o.dst v).tmps.size = a.tmps.size := fun a v => by cases o.dst <;> simp [Act.put]
  unfold Oper.wp at *
  generalize (execOp a.eval o).run P W = r at *
  cases r with
  | ok n w' =>
    cases n <;> simp only [Oper.upon] at h ⊢
    case value v => exact ⟨h, sz _ _⟩
    case skip => exact ⟨h, sz _ _⟩
    case defer d => exact ⟨h, sz { a with defers := d :: a.defers } undef⟩
    case enter f args => exact h.mono fun e w'' he => by cases e <;> first | exact ⟨he, sz _ _⟩ | exact he
    case row row args => exact h.mono fun _ _ he => ⟨he, sz _ _⟩
  | halt x w' => cases x <;> simp only [Oper.upon] at h ⊢ <;> exact h

theorem draw_main {n r : AW} {xs : List (Nat × AW)} {D : List Bool} {DO : List DetOp} {a0 : Act} (hF : Fit ops D) (hG : Good P ops w0 M D DO a0) :
    ∀ (fuel m : Nat) (L : Array Bool) (a : Act) (W : World), L.size = ops.size → a.tmps.size = a0.tmps.size → unl ops.size L ≤ fuel →
      (∀ x, x ∈ DO → L.getD x.i false = true → a.tmps[x.d]? = some x.v) →
      (∀ t, (∀ j o, ops[j]? = some o → L.getD j false = true → o.dst ≠ some t) → a.tmps[t]? = a0.tmps[t]?) →
      (∀ j o, ops[j]? = some o → L.getD j false = true → ∀ p, p ∈ preds o → L.getD p false = true) →
      (∀ x, x ∈ DO → L.getD x.i false = false → DCl w0 M x.needs W) →
      (∀ W', Ext [] W W' → restAny P ops (Qof n r xs) n (PrOf w0 M DO ops) m (LD D L) (fill DO a) W') → wpAny P .any ops (Qof n r xs) fuel L a W := by
  intro fuel
  -- where nothing is ready all is done
  have alldone : ∀ (m : Nat) (L : Array Bool) (a : Act) (W : World), L.size = ops.size → Region.ready .any ops L = [] → (∀ x, x ∈ DO → L.getD x.i false = true → a.tmps[x.d]? = some x.v) →
      (∀ W', Ext [] W W' → restAny P ops (Qof n r xs) n (PrOf w0 M DO ops) m (LD D L) (fill DO a) W') → n a W := by
    intro m L a W hL hr h1 hRA
    have hall : ∀ i, i < ops.size → L.getD i false = true := by
      intro i
      induction i using Nat.strongRecOn with
      | _ i ih =>
        intro hi
        cases hq : L.getD i false with
        | true => rfl
        | false =>
          exfalso
          have hi' : i < L.size := by omega
          have : i ∈ Region.ready .any ops L := by
            refine ready_iff.2 ⟨hi, by simpa [hi'] using hq, ops[i], by simp [hi], fun p hp => ?_⟩
            have hpi := hF.up i ops[i] (by simp [hi]) p hp
            exact ih p hpi (by omega)
          rw [hr] at this; cases this
    have hLD : Region.ready .any ops (LD D L) = [] := by
      apply List.eq_nil_iff_forall_not_mem.2
      intro i hi
      obtain ⟨h2, h3, _⟩ := ready_iff.1 hi
      rw [LD_getD, if_pos (by omega)] at h3
      have h4 := hall i h2
      have hi' : i < L.size := by omega
      simp [hi'] at h3 h4
      rw [h4] at h3; simp at h3
    have hfd : fill DO a = a := fill_done hG.dist fun x hx => by
      obtain ⟨_, o, ho, _⟩ := hG.idx x hx
      exact h1 x hx (hall x.i (lt_of_get ho))
    have h0 := hRA W (Ext.refl _ _)
    rw [hfd] at h0
    cases m with
    | zero => exact h0.2
    | succ m => exact h0.1 hLD
  induction fuel with
  | zero =>
    intro m L a W hL ha hu h1 h3 h4 hDC hRA
    have hr : Region.ready .any ops L = [] := by
      apply List.eq_nil_iff_forall_not_mem.2
      intro i hi
      obtain ⟨h2, h5, _⟩ := ready_iff.1 hi
      have : 0 < unl ops.size L := by
        unfold unl
        rw [List.countP_pos_iff]
        exact ⟨i, List.mem_range.2 h2, by simp [h5]⟩
      omega
    exact ⟨hr, alldone m L a W hL hr h1 hRA⟩
  | succ fuel ih =>
    intro m L a W hL ha hu h1 h3 h4 hDC hRA
    refine ⟨fun hr => alldone m L a W hL hr h1 hRA, fun i hi => ?_⟩
    obtain ⟨hin, hun, o, ho, hpr⟩ := ready_iff.1 hi
    have hiL : i < L.size := by omega
    have hunf : L.getD i false = false := by simpa [hiL] using hun
    have hu' : unl ops.size (L.setIfInBounds i true) ≤ fuel := by
      have := unl_set hin hun
      omega
    -- what it looks at stands as it does where all det operations are done, and (for a det one) as at the start
    have hlook : ∀ t, t ∈ o.looksAt ops → a.tmps[t]? = (fill DO a).tmps[t]? ∧ (isDet D i = true → a.tmps[t]? = (fill DO a0).tmps[t]?) := by
      intro t ht
      by_cases hw : ∃ x, x ∈ DO ∧ x.d = t
      · obtain ⟨x, hx, rfl⟩ := hw
        obtain ⟨hxD, ox, hox, hxd⟩ := hG.idx x hx
        by_cases hxi : x.i = i
        · exfalso
          rw [hxi, ho] at hox
          cases hox
          exact hF.self i o ho (hxi ▸ hxD) x.d hxd ht
        · have hl := hF.look i o ho x.d ht x.i ox hox hxi hxd
          have hp : x.i ∈ preds o := by
            cases hdi : isDet D i with
            | true => exact hl.1 hdi hxD
            | false => exact hl.2.2 hdi hxD
          have hv := h1 x hx (hpr _ hp)
          have hlt := hG.lt x hx
          exact ⟨by rw [hv, fill_at hG.dist hx (by omega)], fun _ => by rw [hv, fill_at hG.dist hx hlt]⟩
      · have hno : ∀ x, x ∈ DO → x.d ≠ t := fun x hx e => hw ⟨x, hx, e⟩
        refine ⟨(fill_other hno).symm, fun hdi => ?_⟩
        rw [fill_other hno]
        refine h3 t fun j oj hoj hLj hdj => ?_
        by_cases hji : j = i
        · subst hji; rw [hunf] at hLj; cases hLj
        · cases hdj' : isDet D j with
          | true =>
            obtain ⟨x, hx, hxi⟩ := hG.all j (lt_of_get hoj) hdj'
            obtain ⟨_, ox, hox, hxd⟩ := hG.idx x hx
            rw [hxi, hoj] at hox
            cases hox
            rw [hdj] at hxd
            cases hxd
            exact hno x hx rfl
          | false =>
            have hl := hF.look i o ho t ht j oj hoj hji hdj
            have := h4 j oj hoj hLj i (hl.2.1 hdi hdj')
            rw [hunf] at this; cases this
    cases hdi : isDet D i with
    | true =>
      obtain ⟨x, hx, hxi⟩ := hG.all i hin hdi
      obtain ⟨_, ox, hox, hxd⟩ := hG.idx x hx
      rw [hxi, ho] at hox
      cases hox
      have hlk : ∀ t, t ∈ o.looksAt ops → (fill DO a0).tmps[t]? = a.tmps[t]? := fun t ht => ((hlook t ht).2 hdi).symm
      have step : ∀ W', Ext [] W W' → wpAny P .any ops (Qof n r xs) fuel (L.setIfInBounds i true) (a.put (some x.d) x.v) W' := by
        intro W' hE
        refine ih m _ _ W' (by simpa using hL) (by simpa [Act.put] using ha) hu' ?_ ?_ ?_ ?_ ?_
        · intro y hy hLy
          by_cases hyx : y.d = x.d
          · have := dist_eq hG.dist hy hx hyx
            subst this
            simp only [Act.put]
            rw [Array.getElem?_setIfInBounds_self_of_lt (by have := hG.lt y hy; omega)]
          · simp only [Act.put]
            rw [Array.getElem?_setIfInBounds_ne (fun e => hyx e.symm)]
            refine h1 y hy ?_
            rw [getD_set hiL] at hLy
            split at hLy
            · rename_i hyi
              obtain ⟨_, oy, hoy, hyd⟩ := hG.idx y hy
              rw [← hyi, ho] at hoy
              cases hoy
              rw [hxd] at hyd
              exact absurd (Option.some.inj hyd).symm hyx
            · exact hLy
        · intro t ht
          have htx : x.d ≠ t := fun e => ht i o ho (by rw [getD_set hiL, if_pos rfl]) (by rw [hxd, e])
          simp only [Act.put]
          rw [Array.getElem?_setIfInBounds_ne htx]
          exact h3 t fun j oj hoj hLj => ht j oj hoj (by
            rw [getD_set hiL]
            split
            · rfl
            · exact hLj)
        · intro j oj hoj hLj p hp
          rw [getD_set hiL] at hLj ⊢
          split
          · rfl
          · by_cases hij : i = j
            · subst hij
              rw [ho] at hoj
              cases hoj
              exact hpr p hp
            · rw [if_neg hij] at hLj
              exact h4 j oj hoj hLj p hp
        · intro y hy hLy
          rw [getD_set hiL] at hLy
          split at hLy
          · cases hLy
          · exact (hDC y hy hLy).ext0 hE
        · intro W'' hE2
          rw [LD_set_det hdi, fill_put_same hG.dist hx]
          exact hRA W'' (hE.trans0 hE2)
      have hc : DCl w0 M x.needs W := hDC x hx (by rw [hxi]; exact hunf)
      unfold wpOp
      simp only [ho]
      rw [look_wanted (b := fill DO a0) (fun t ht => (hlk t ht).symm)]
      rcases hG.yld x hx o (by rw [hxi]; exact ho) W hc with ⟨hw, hy⟩ | ⟨hw, hv⟩
      · rw [hw, if_pos rfl]
        refine .inl (Yield.same hxd (by rw [fill_size]; exact hG.lt x hx) (look_exec (hF.sel i o ho) fun t ht => (hlk t ht).symm) hy ?_)
        intro W' hE
        rw [hxd]
        exact step W' hE
      · rw [hw]
        simp only [Bool.false_eq_true, if_false]
        rw [hxd, ← hv]
        exact step W (Ext.refl _ _)
    | false =>
      have hmem : i ∈ Region.ready .any ops (LD D L) := by
        refine ready_iff.2 ⟨hin, ?_, o, ho, fun p hp => ?_⟩
        · rw [LD_getD, if_pos hiL, hun, hdi]; rfl
        · have := hpr p hp
          rw [LD_getD, if_pos (getD_lt this), this]; rfl
      have h0 := hRA W (Ext.refl _ _)
      cases m with
      | zero => rw [h0.1] at hmem; cases hmem
      | succ m =>
        have hop := h0.2 i hmem
        have hds : ∀ x t, x ∈ DO → o.dst = some t → x.d ≠ t := by
          intro x t hx hot e
          obtain ⟨hxD, ox, hox, hxd⟩ := hG.idx x hx
          obtain ⟨d, hd, hu⟩ := hF.own x.i ox hox hxD
          rw [hd] at hxd
          cases hxd
          have hix : i ≠ x.i := fun e2 => by rw [← e2, hdi] at hxD; cases hxD
          exact hu i o ho hix (by rw [hot, e])
        have hlk : ∀ t, t ∈ o.looksAt ops → a.tmps[t]? = (fill DO a).tmps[t]? := fun t ht => (hlook t ht).1
        have step : ∀ a' W', a'.tmps.size = a.tmps.size → (∀ t, o.dst ≠ some t → a'.tmps[t]? = a.tmps[t]?) → (PrOf w0 M DO ops i W W' ∧ ∀ W'', Ext [] W' W'' → restAny P ops (Qof n r xs) n (PrOf w0 M DO ops) m ((LD D L).setIfInBounds i true) (fill DO a') W'') →
            wpAny P .any ops (Qof n r xs) fuel (L.setIfInBounds i true) a' W' := by
          intro a' W' hsz hoth hq
          refine ih m _ _ W' (by simpa using hL) (by rw [hsz]; exact ha) hu' ?_ ?_ ?_ ?_ ?_
          · intro y hy hLy
            rw [hoth y.d (fun e => hds y y.d hy e rfl)]
            refine h1 y hy ?_
            rw [getD_set hiL] at hLy
            split at hLy
            · rename_i hyi
              have := (hG.idx y hy).1
              rw [← hyi, hdi] at this; cases this
            · exact hLy
          · intro t ht
            rw [hoth t (ht i o ho (by rw [getD_set hiL, if_pos rfl]))]
            exact h3 t fun j oj hoj hLj => ht j oj hoj (by
              rw [getD_set hiL]
              split
              · rfl
              · exact hLj)
          · intro j oj hoj hLj p hp
            rw [getD_set hiL] at hLj ⊢
            split
            · rfl
            · by_cases hij : i = j
              · subst hij
                rw [ho] at hoj
                cases hoj
                exact hpr p hp
              · rw [if_neg hij] at hLj
                exact h4 j oj hoj hLj p hp
          · intro y hy hLy
            rw [getD_set hiL] at hLy
            split at hLy
            · cases hLy
            · refine hq.1 y hy (fun oy hoy hp => ?_) (hDC y hy hLy)
              rw [ho] at hoy
              cases hoy
              rw [hpr _ hp] at hLy; cases hLy
          · intro W'' hE2
            rw [LD_set_rest]
            exact hq.2 W'' hE2
        unfold wpOp at hop ⊢
        simp only [ho] at hop ⊢
        rw [look_wanted hlk]
        split
        · rename_i hw
          rw [if_pos hw] at hop
          rcases hop with hop | hop
          · left
            have hfr := wp_frame (ds := o.dst.toList) (fun x hx => by simp [hx]) (wp_fill hds (look_exec (hF.sel i o ho) hlk) hop)
            have hsz := wp_size hfr
            refine Oper.wp_mono (fun a' W' hq => ?_) hsz
            exact step a' W' hq.2 (fun t ht => hq.1.2 t (by simp; exact fun e => ht e)) hq.1.1
          · obtain ⟨_, a1, w1, q⟩ := hop
            exact q.elim
        · rename_i hw
          rw [if_neg hw] at hop
          refine step _ W (by cases o.dst <;> simp [Act.put]) (fun t ht => ?_) ?_
          · cases hd : o.dst with
            | none => rfl
            | some d =>
              simp only [Act.put]
              rw [Array.getElem?_setIfInBounds_ne (fun e => ht (by rw [hd, e]))]
          · rw [fill_put_other hds]; exact hop

end
end Go.Proofs.Ytdflfnednaleeaa
