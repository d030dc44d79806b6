/- Own layer: rows of elements of some cells each. -/
import Derived.Test.YtdflfnednaleeaaRng
namespace Go.Proofs.Ytdflfnednaleeaa
open Go

/-- A kind of element: its cells, as many in each. -/
class Elt (α : Type) where
  size : Nat
  cells : α → List Value
  len : ∀ x, (cells x).length = size
  one : ∀ x u, u ∈ cells x → u.oneCell' = true
  pos : 0 < size

/-- Elements in a row. -/
def ElAt {α : Type} [E : Elt α] (w : World) (A : Option Addr) (l : List α) : Prop :=
  ∀ k (h : k < l.length), ∃ a, A = some a ∧ ∀ j v, (E.cells l[k])[j]? = some v → w.cell? ((a.add (k * E.size)).add j) = some v

section
variable {α : Type} [E : Elt α]

theorem ElAt.nil (w : World) (A : Option Addr) : ElAt w A ([] : List α) := fun k h => by cases h

theorem ElAt.keep {w W : World} {M : List Nat} {A : Option Addr} {l : List α} (h : ElAt w A l) (k : Ext M w W) (hM : ∀ a, A = some a → a.block ∉ M) : ElAt W A l := fun i hi => by
  obtain ⟨a, e, h1⟩ := h i hi
  refine ⟨a, e, fun j v hj => ?_⟩
  have h2 := h1 j v hj
  have hb : ((a.add (i * E.size)).add j).block = a.block := by rw [Addr.add_add]; unfold Addr.add; split <;> rfl
  rw [World.cell?_of_block (w := w) (k.block _ (World.block_lt_of_cell? w _ h2) (by rw [hb]; exact hM a e))]
  exact h2
theorem ElAt.ext {w W : World} {A : Option Addr} {l : List α} (h : ElAt w A l) (k : Ext [] w W) : ElAt W A l := h.keep k (fun _ _ => by simp)

theorem fl_get : ∀ (l : List α) (k : Nat) (h : k < l.length) (j : Nat) (v : Value), (E.cells l[k])[j]? = some v → (l.flatMap E.cells)[k * E.size + j]? = some v
  | y :: r, 0, _, j, v, hj => by
    simp only [List.getElem_cons_zero] at hj
    simp only [List.flatMap_cons, Nat.zero_mul, Nat.zero_add]
    rw [List.getElem?_append_left (List.getElem?_eq_some_iff.1 hj).1]
    exact hj
  | y :: r, k + 1, h, j, v, hj => by
    simp only [List.getElem_cons_succ] at hj
    have := fl_get r k (by simpa using h) j v hj
    rw [List.flatMap_cons, List.getElem?_append_right (by rw [E.len, Nat.add_mul]; omega), E.len]
    rw [← this]
    congr 1
    rw [Nat.add_mul]; omega
theorem fl_split : ∀ (l : List α) (j : Nat) (u : Value), (l.flatMap E.cells)[j]? = some u → ∃ (k : Nat) (h : k < l.length) (r : Nat), j = k * E.size + r ∧ (E.cells l[k])[r]? = some u
  | [], j, u, h => by simp at h
  | y :: r, j, u, h => by
    rw [List.flatMap_cons] at h
    by_cases hj : j < E.size
    · rw [List.getElem?_append_left (by rw [E.len]; exact hj)] at h
      exact ⟨0, by simp, j, by omega, h⟩
    · rw [List.getElem?_append_right (by rw [E.len]; omega), E.len] at h
      obtain ⟨k, hk, q, e1, e2⟩ := fl_split r (j - E.size) u h
      exact ⟨k + 1, by simpa using hk, q, by rw [Nat.add_mul]; omega, by simpa using e2⟩
theorem fl_len : ∀ l : List α, (l.flatMap E.cells).length = l.length * E.size
  | [] => by simp
  | y :: r => by rw [List.flatMap_cons, List.length_append, fl_len r, List.length_cons, E.len, Nat.add_mul]; omega
theorem fl_one (l : List α) (u : Value) (h : u ∈ l.flatMap E.cells) : u.oneCell' = true := by
  obtain ⟨y, _, hu⟩ := List.mem_flatMap.1 h
  exact E.one y u hu
theorem ElAt.flat {W : World} {A : Option Addr} {l : List α} (h : ElAt W A l) (j : Nat) (u : Value) (hu : (l.flatMap E.cells)[j]? = some u) : ∃ a, A = some a ∧ W.cell? (a.add j) = some u := by
  obtain ⟨k, hk, r, rfl, hr⟩ := fl_split l j u hu
  obtain ⟨a, hA, hc⟩ := h k hk
  refine ⟨a, hA, ?_⟩
  rw [← hc r u hr, Addr.add_add]

/-- A slice of one's own, its elements in a row. -/
theorem own_els {e : TypeId} {v : Value} {l : List α} {x : Hp} (o : OwnsV e E.size v l.length (l.flatMap E.cells) x) : ∃ A c, v = .slice A l.length c ∧ ∀ (w0 : World) (M : List Nat) (W : World), Sat w0 M x W → ElAt W A l := by
  by_cases h : l = []
  · subst h
    rcases o.2 with ⟨rfl, _, _⟩ | ⟨g, cap, cs, rfl, _⟩
    · exact ⟨none, 0, rfl, fun _ _ _ _ => ElAt.nil _ _⟩
    · exact ⟨_, _, rfl, fun _ _ _ _ => ElAt.nil _ _⟩
  · have hp : 0 < l.length := List.length_pos_iff.2 h
    obtain ⟨g, cap, e, hc⟩ := own_at o hp
    refine ⟨_, _, e, fun w0 M W hW k hk => ⟨_, rfl, fun j u hu => ?_⟩⟩
    rw [add_lit, add_lit, Nat.zero_add]
    exact hc _ _ W hW _ u (fl_get l k hk j u hu)

/-- A row in a block that is known. -/
theorem el_ent {w0 : World} {M : List Nat} {H : Hp} {W : World} (hW : Sat w0 M H W) (b : Nat) {t : TypeId} {cs : List Value} {own : Bool} (l : List α) [he : HasE H b t cs own] (h : cs = l.flatMap E.cells) : ElAt W (some ⟨b, 0, none⟩) l := fun k hk => by
  refine ⟨_, rfl, fun j v hj => ?_⟩
  rw [add_lit, add_lit, Nat.zero_add, cell_of (hW.cells he), h]
  exact fl_get l k hk j v hj
end

instance intElt : Elt Int where
  size := 1
  cells := fun n => [.int .i64 n]
  len := fun _ => rfl
  one := fun _ u h => by rw [List.mem_singleton.1 h]; rfl
  pos := by decide
theorem int_cell {w : World} {a : Addr} {k : Nat} {x : Int} (hc : ∀ j v, (intElt.cells x)[j]? = some v → w.cell? ((a.add (k * intElt.size)).add j) = some v) : w.cell? (a.add ((k : Int).toNat * 1)) = some (.int .i64 x) := by
  have := hc 0 _ rfl
  rw [Addr.add_zero'] at this
  rw [Int.toNat_natCast]
  exact this
theorem int_flat (l : List Int) : l.flatMap intElt.cells = l.map (Value.int .i64) := by
  induction l with
  | nil => rfl
  | cons x r ih => rw [List.flatMap_cons, ih]; rfl

end Go.Proofs.Ytdflfnednaleeaa
