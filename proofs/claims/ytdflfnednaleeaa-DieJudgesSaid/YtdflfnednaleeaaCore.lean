/- Own layer: what a call does to slots and blocks, one operation at a time; a region that leaves its order open. Generic over the program. -/
import Derived.WalkKit
import Derived.WalkLawsBesides
namespace Go.Proofs.Ytdflfnednaleeaa
open Go

/-! ### Slots -/
abbrev Gam := List (Nat × Value)

def gl : Gam → Nat → Option Value
  | [], _ => none
  | (i, v) :: r, j => bif Nat.beq i j then some v else gl r j

structure Holds (N : Nat) (Γ : Gam) (a : Act) : Prop where
  size : a.tmps.size = N
  defers : a.defers = []
  at_ : ∀ i v, gl Γ i = some v → a.tmps[i]? = some v

def ev (Γ : Gam) : Operand → Option Value
  | .tmp t => gl Γ t
  | .const v => some v
  | .global g => some (.pointer (some ⟨g, 0, none⟩))
  | .func f => some (.func (.func f) #[] #[])

theorem gl_cons_same (d : Nat) (v : Value) (Γ : Gam) : gl ((d, v) :: Γ) d = some v := by
  show (bif Nat.beq d d then some v else gl Γ d) = some v
  rw [Nat.beq_refl]; rfl
theorem gl_cons_other {d j : Nat} (h : d ≠ j) (v : Value) (Γ : Gam) : gl ((d, v) :: Γ) j = gl Γ j := by
  show (bif Nat.beq d j then some v else gl Γ j) = gl Γ j
  have : Nat.beq d j = false := by
    cases hb : Nat.beq d j with
    | false => rfl
    | true => exact absurd (Nat.eq_of_beq_eq_true hb) h
  rw [this]; rfl

theorem Holds.eval {N : Nat} {Γ : Gam} {a : Act} (h : Holds N Γ a) {x : Operand} {v : Value} (hx : ev Γ x = some v) : a.eval x = v := by
  cases x with
  | tmp t =>
    have := h.at_ t v hx
    simp [Act.eval, this]
  | const u => simpa [ev, Act.eval] using hx
  | global g => simpa [ev, Act.eval] using hx
  | func f => simpa [ev, Act.eval] using hx

theorem Holds.put {N : Nat} {Γ : Gam} {a : Act} (h : Holds N Γ a) {d : Nat} (hd : d < N) (v : Value) : Holds N ((d, v) :: Γ) (a.put (some d) v) := by
  refine ⟨by simp [Act.put, h.size], by simp [Act.put, h.defers], fun i u hi => ?_⟩
  by_cases hid : d = i
  · subst hid
    rw [gl_cons_same] at hi
    simp only [Act.put]
    rw [Array.getElem?_setIfInBounds_self_of_lt (by rw [h.size]; exact hd)]
    exact hi
  · rw [gl_cons_other hid] at hi
    simp only [Act.put]
    rw [Array.getElem?_setIfInBounds_ne hid]
    exact h.at_ i u hi

theorem Holds.put_none {N : Nat} {Γ : Gam} {a : Act} (h : Holds N Γ a) (v : Value) : Holds N Γ (a.put none v) := h

/-- What is known of fewer slots. -/
def Sub (Γ Γ' : Gam) : Prop := ∀ i v, gl Γ' i = some v → gl Γ i = some v
theorem Sub.refl (Γ : Gam) : Sub Γ Γ := fun _ _ h => h
theorem Sub.nil (Γ : Gam) : Sub Γ [] := fun _ _ h => by cases h
theorem Sub.cons {Γ Γ' : Gam} {i : Nat} {v : Value} (h : gl Γ i = some v) (t : Sub Γ Γ') : Sub Γ ((i, v) :: Γ') := fun j u hj => by
  by_cases hij : i = j
  · subst hij
    rw [gl_cons_same] at hj
    rw [h]; exact hj
  · rw [gl_cons_other hij] at hj
    exact t j u hj
/-- The value is known under another name. -/
theorem Sub.cons' {Γ Γ' : Gam} {i : Nat} {u v : Value} (h : gl Γ i = some u) (e : u = v) (t : Sub Γ Γ') : Sub Γ ((i, v) :: Γ') := Sub.cons (e ▸ h) t
theorem Sub.skip {Γ Γ' : Gam} {i : Nat} {v : Value} (h : gl Γ' i = none) (t : Sub Γ Γ') : Sub ((i, v) :: Γ) Γ' := fun j u hj => by
  by_cases hij : i = j
  · subst hij
    rw [h] at hj; cases hj
  · rw [gl_cons_other hij]
    exact t j u hj

theorem Sub.both {Γ Γ' : Gam} {i : Nat} {v : Value} (t : Sub Γ Γ') : Sub ((i, v) :: Γ) ((i, v) :: Γ') := fun j u hj => by
  by_cases hij : i = j
  · subst hij
    rw [gl_cons_same] at hj ⊢; exact hj
  · rw [gl_cons_other hij] at hj ⊢
    exact t j u hj

theorem Holds.sub {N : Nat} {Γ Γ' : Gam} {a : Act} (h : Holds N Γ a) (hs : Sub Γ Γ') : Holds N Γ' a :=
  ⟨h.size, h.defers, fun i v hi => h.at_ i v (hs i v hi)⟩

/-! ### Memory -/
/-- What there was has not turned, but for blocks of M; the streams are as they were. -/
structure Ext (M : List Nat) (w w' : World) : Prop where
  os : w'.os = w.os
  tape : w'.tape = w.tape
  output : w'.output = w.output
  size : w.heap.size ≤ w'.heap.size
  block : ∀ k, k < w.heap.size → k ∉ M → w'.heap[k]? = w.heap[k]?

theorem Ext.refl (M : List Nat) (w : World) : Ext M w w := ⟨rfl, rfl, rfl, Nat.le_refl _, fun _ _ _ => rfl⟩

/-- Two steps; what the second one may turn the first one may turn too, or it is new. -/
theorem Ext.trans {M M' : List Nat} {a b c : World} (h : Ext M a b) (k : Ext M' b c) (hM : ∀ x, x ∈ M' → x < a.heap.size → x ∈ M) : Ext M a c :=
  ⟨k.os.trans h.os, k.tape.trans h.tape, k.output.trans h.output, Nat.le_trans h.size k.size, fun i hi hn =>
    (k.block i (Nat.lt_of_lt_of_le hi h.size) (fun hm => hn (hM i hm hi))).trans (h.block i hi hn)⟩

theorem Ext.trans0 {M : List Nat} {a b c : World} (h : Ext M a b) (k : Ext [] b c) : Ext M a c := h.trans k (fun _ hx => by cases hx)

theorem Ext.below {w w' : World} (h : Ext [] w w') : RowKit.Below w.heap.size w w' := ⟨h.os, h.tape, h.output, h.size, fun k hk => h.block k hk (by simp)⟩
theorem Ext.of_below {w w' : World} (h : RowKit.Below w.heap.size w w') : Ext [] w w' := ⟨h.os, h.tape, h.output, h.size, fun k hk _ => h.block k hk⟩

theorem Ext.alloc (w : World) (o : Obj) : Ext [] w (w.alloc o) :=
  ⟨rfl, rfl, rfl, by simp, fun k hk _ => RowKit.Below.heap_alloc w o k hk⟩
theorem Ext.drew (w : World) : Ext [] w w.drew := ⟨rfl, rfl, rfl, Nat.le_refl _, fun _ _ _ => rfl⟩

/-- A block that is known: cells ('own' is true); or a map, its entries in the order in which they came ('own' is false; each entry as the tuple of key and value). -/
structure Ent where
  b : Nat
  ty : TypeId
  cs : List Value
  own : Bool

/-- An entry of a map. -/
def entOf (i : Nat) : Value → MapEntry
  | .tuple kv => { key := kv.getD 0 undef, val := kv.getD 1 undef, born := i }
  | _ => { key := undef, val := undef, born := i }
def mapObj (cs : List Value) : Obj := .map (cs.mapIdx entOf).toArray cs.length
def Ent.obj (e : Ent) : Obj := match e.own with
  | true => .cells e.cs.toArray e.ty (0, 0)
  | false => match e.ty with
    | 0 => mapObj e.cs
    | _ + 1 => .deferred (some [])

abbrev Hp := List Ent

structure Sat (w0 : World) (M : List Nat) (H : Hp) (W : World) : Prop where
  ext : Ext M w0 W
  at_ : ∀ e, e ∈ H → W.heap[e.b]? = some e.obj
  new : ∀ e, e ∈ H → w0.heap.size ≤ e.b ∨ e.b ∈ M
  nodup : (H.map (·.b)).Nodup

theorem Sat.lt {w0 : World} {M : List Nat} {H : Hp} {W : World} (h : Sat w0 M H W) {e : Ent} (he : e ∈ H) : e.b < W.heap.size := by
  have := h.at_ e he
  by_cases hlt : e.b < W.heap.size
  · exact hlt
  · rw [Array.getElem?_eq_none (Nat.le_of_not_lt hlt)] at this
    cases this

theorem Sat.start (w0 : World) (M : List Nat) : Sat w0 M [] w0 := ⟨Ext.refl _ _, fun _ h => (by cases h), fun _ h => (by cases h), by simp⟩

/-- What only lays new blocks keeps all that is known. -/
theorem Sat.ext0 {w0 : World} {M : List Nat} {H : Hp} {W W' : World} (h : Sat w0 M H W) (k : Ext [] W W') : Sat w0 M H W' :=
  ⟨h.ext.trans0 k, fun e he => (k.block e.b (h.lt he) (by simp)).trans (h.at_ e he), h.new, h.nodup⟩

theorem Sat.alloc {w0 : World} {M : List Nat} {H : Hp} {W : World} (h : Sat w0 M H W) (cs : List Value) (ty : TypeId) :
    Sat w0 M (⟨W.heap.size, ty, cs, true⟩ :: H) (W.alloc (.cells cs.toArray ty)) := by
  have h' := h.ext0 (Ext.alloc W (.cells cs.toArray ty))
  refine ⟨h'.ext, fun e he => ?_, fun e he => ?_, ?_⟩
  · rcases List.mem_cons.1 he with rfl | he
    · exact heap_alloc_new W _
    · exact h'.at_ e he
  · rcases List.mem_cons.1 he with rfl | he
    · exact .inl h.ext.size
    · exact h'.new e he
  · simp only [List.map_cons, List.nodup_cons]
    refine ⟨fun hm => ?_, h.nodup⟩
    obtain ⟨e, he, heq⟩ := List.mem_map.1 hm
    have := h.lt he
    omega

/-- Any block that lies beyond all that was there may be taken in. -/
theorem Sat.take {w0 : World} {M : List Nat} {H : Hp} {W W' : World} (h : Sat w0 M H W) (k : Ext [] W W') (e : Ent) (hb : W.heap.size ≤ e.b) (he : W'.heap[e.b]? = some e.obj) :
    Sat w0 M (e :: H) W' := by
  have h' := h.ext0 k
  refine ⟨h'.ext, fun x hx => ?_, fun x hx => ?_, ?_⟩
  · rcases List.mem_cons.1 hx with rfl | hx
    · exact he
    · exact h'.at_ x hx
  · rcases List.mem_cons.1 hx with rfl | hx
    · exact .inl (Nat.le_trans h.ext.size hb)
    · exact h'.new x hx
  · simp only [List.map_cons, List.nodup_cons]
    refine ⟨fun hm => ?_, h.nodup⟩
    obtain ⟨x, hx, heq⟩ := List.mem_map.1 hm
    have := h.lt hx
    omega

theorem Sat.drop {w0 : World} {M : List Nat} {H : Hp} {W : World} {H' : Hp} (h : Sat w0 M H W) (hs : H'.Sublist H) : Sat w0 M H' W :=
  ⟨h.ext, fun e he => h.at_ e (hs.subset he), fun e he => h.new e (hs.subset he), h.nodup.sublist (hs.map _)⟩

/-- The entry of a block. -/
class HasE (H : Hp) (b : Nat) (ty : outParam TypeId) (cs : outParam (List Value)) (own : outParam Bool) : Prop where
  mem : (⟨b, ty, cs, own⟩ : Ent) ∈ H
  tr : own = true
instance HasE.here {H : Hp} {b : Nat} {ty : TypeId} {cs : List Value} : HasE (⟨b, ty, cs, true⟩ :: H) b ty cs true := ⟨List.mem_cons_self .., rfl⟩
instance HasE.there {e : Ent} {H : Hp} {b : Nat} {ty : TypeId} {cs : List Value} {own : Bool} [h : HasE H b ty cs own] : HasE (e :: H) b ty cs own := ⟨List.mem_cons_of_mem _ h.mem, h.tr⟩
theorem Sat.cells {w0 : World} {M : List Nat} {H : Hp} {W : World} {b : Nat} {ty : TypeId} {cs : List Value} {own : Bool} (h : Sat w0 M H W) (he : HasE H b ty cs own) : W.heap[b]? = some (.cells cs.toArray ty (0, 0)) := by
  have := h.at_ _ he.mem
  simp only [Ent.obj, he.tr] at this
  exact this

/-- The knowledge behind a store into a block of one's own: its cells are turned. -/
class SetE (H : Hp) (b : Nat) (cs' : List Value) (H' : outParam Hp) : Prop where
  set : ∃ l r ty cs, H = l ++ ⟨b, ty, cs, true⟩ :: r ∧ H' = l ++ ⟨b, ty, cs', true⟩ :: r
instance SetE.here {H : Hp} {b : Nat} {ty : TypeId} {cs cs' : List Value} : SetE (⟨b, ty, cs, true⟩ :: H) b cs' (⟨b, ty, cs', true⟩ :: H) := ⟨[], H, ty, cs, rfl, rfl⟩
instance SetE.there {e : Ent} {H H' : Hp} {b : Nat} {cs' : List Value} [h : SetE H b cs' H'] : SetE (e :: H) b cs' (e :: H') :=
  ⟨let ⟨l, r, ty, cs, h1, h2⟩ := h.set; ⟨e :: l, r, ty, cs, by rw [h1]; rfl, by rw [h2]; rfl⟩⟩

theorem nodup_mid {α : Type} {l r : List α} {x : α} (h : (l ++ x :: r).Nodup) : x ∉ l ∧ x ∉ r := by
  rw [List.nodup_append] at h
  obtain ⟨_, h2, h3⟩ := h
  exact ⟨fun hm => h3 x hm x (List.mem_cons_self ..) rfl, (List.nodup_cons.1 h2).1⟩

theorem Sat.set {w0 : World} {M : List Nat} {H H' : Hp} {W W' : World} {b : Nat} {ty : TypeId} {cs cs' : List Value} (h : Sat w0 M H W) [hs : SetE H b cs' H'] [he : HasE H b ty cs true]
    (hos : W'.os = W.os) (htape : W'.tape = W.tape) (hout : W'.output = W.output) (hsize : W'.heap.size = W.heap.size)
    (hblock : ∀ k, k ≠ b → W'.heap[k]? = W.heap[k]?) (hb : W'.heap[b]? = some (.cells cs'.toArray ty (0, 0))) : Sat w0 M H' W' := by
  obtain ⟨l, r, ty', cs0, h1, h2⟩ := hs.set
  have hmem : (⟨b, ty', cs0, true⟩ : Ent) ∈ H := by rw [h1]; simp
  have hty : ty' = ty := by
    have e1 := h.at_ _ hmem
    have e2 := h.cells he
    simp only at e1 e2
    rw [e1] at e2
    injection e2 with e2
    injection e2
  subst hty
  have hn := h.nodup
  rw [h1] at hn
  simp only [List.map_append, List.map_cons] at hn
  obtain ⟨hnl, hnr⟩ := nodup_mid hn
  have hE : Ext M w0 W' := by
    have hbnew := h.new _ hmem
    refine ⟨hos.trans h.ext.os, htape.trans h.ext.tape, hout.trans h.ext.output, by rw [hsize]; exact h.ext.size, fun k hk hkM => ?_⟩
    have hkb : k ≠ b := fun e => by
      subst e
      rcases hbnew with hx | hx
      · simp only at hx; omega
      · exact hkM hx
    exact (hblock k hkb).trans (h.ext.block k hk hkM)
  have old : ∀ e, e ∈ l ∨ e ∈ r → e ∈ H ∧ e.b ≠ b := fun e hx => by
    refine ⟨by rw [h1]; rcases hx with hx | hx <;> simp [hx], fun heq => ?_⟩
    rcases hx with hx | hx
    · exact hnl (List.mem_map.2 ⟨e, hx, heq⟩)
    · exact hnr (List.mem_map.2 ⟨e, hx, heq⟩)
  refine ⟨hE, fun e hm => ?_, fun e hm => ?_, ?_⟩
  · rw [h2] at hm
    rcases List.mem_append.1 hm with hx | hx
    · have ⟨o1, o2⟩ := old e (.inl hx)
      rw [hblock e.b o2]; exact h.at_ e o1
    · rcases List.mem_cons.1 hx with rfl | hx
      · exact hb
      · have ⟨o1, o2⟩ := old e (.inr hx)
        rw [hblock e.b o2]; exact h.at_ e o1
  · rw [h2] at hm
    rcases List.mem_append.1 hm with hx | hx
    · exact h.new e (old e (.inl hx)).1
    · rcases List.mem_cons.1 hx with rfl | hx
      · exact h.new ⟨b, ty', cs0, true⟩ hmem
      · exact h.new e (old e (.inr hx)).1
  · rw [h2]
    simpa using hn

end Go.Proofs.Ytdflfnednaleeaa
