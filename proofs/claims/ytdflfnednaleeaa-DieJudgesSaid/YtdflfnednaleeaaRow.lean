/- Own layer: rows. Data of integers alone, opened; what a law's row asks behind the call. -/
import Derived.Test.YtdflfnednaleeaaCore
import Derived.WalkKit
import Derived.ProofKit
import Derived.OpenShut
namespace Go.Proofs.Ytdflfnednaleeaa
open Go Go.ChangeShapes Go.WideShapes Go.ChangeAt Go.RowKit

/-- The kind of integer in cell j of a type that holds integers alone. -/
def kindAt (P : Program) : Nat → TypeId → Nat → Option IntKind
  | 0, _, _ => none
  | n + 1, t, j =>
    match P.underlying t with
    | some (.int k) => if j = 0 then some k else none
    | some (.struct fs) => fs.toList.findSome? fun f => if f.offset ≤ j ∧ j < f.offset + P.cellsOf f.type then kindAt P n f.type (j - f.offset) else none
    | some (.array len e) => if j / P.cellsOf e < len then kindAt P n e (j % P.cellsOf e) else none
    | _ => none

section
variable {H : Type} {enc : TypeId × Value → H} {P : Program} {w : World} {base : Nat} {sp : Nat → Bool} {held : Bool}

theorem cell_kind : ∀ (n : Nat) (t : TypeId) (j : Nat) (k : IntKind) (fuel : Nat) (cs : List Value) (x : DataW H × List MemPlace), kindAt P n t j = some k → DataW.trod enc P w base sp held fuel t cs = some x →
    ∃ m, cs[j]? = some (.int k m) ∧ (Lit.int k m).wf = true
  | 0, _, _, _, _, _, _, h, _ => by cases h
  | n + 1, t, j, k, fuel, cs, x, h, hx => by
    unfold kindAt at h
    split at h
    · rename_i k' hu
      split at h
      · rename_i hj
        cases h
        subst hj
        obtain ⟨m, rfl, _, hw⟩ := DataW.trod_int hu hx
        exact ⟨m, rfl, hw⟩
      · cases h
    · rename_i fs hu
      obtain ⟨f, hf, hc⟩ := List.exists_of_findSome?_eq_some h
      split at hc
      · rename_i hj
        obtain ⟨i, hi, he⟩ := List.getElem_of_mem hf
        obtain ⟨xs, m, _, _, hl, hxl, ht⟩ := DataW.trod_struct hu hx
        have hi' : i < fs.size := by simpa using hi
        have e1 := ht i f (by rw [← he]; simp [hi'])
        rw [List.getElem?_eq_getElem (by omega)] at e1
        obtain ⟨v, h1, h2⟩ := cell_kind n f.type (j - f.offset) k m _ _ hc e1
        refine ⟨v, ?_, h2⟩
        rw [List.getElem?_take, if_pos (by omega), List.getElem?_drop] at h1
        rw [show f.offset + (j - f.offset) = j from by omega] at h1
        exact h1
      · cases hc
    · rename_i len e hu
      split at h
      · rename_i hj
        obtain ⟨xs, m, _, _, hl, hxl, ht⟩ := DataW.trod_array hu hx
        have e1 := ht _ hj
        rw [List.getElem?_eq_getElem (by omega)] at e1
        obtain ⟨v, h1, h2⟩ := cell_kind n e (j % P.cellsOf e) k m _ _ h e1
        refine ⟨v, ?_, h2⟩
        rw [List.getElem?_take] at h1
        split at h1
        · rw [List.getElem?_drop, Nat.mul_comm, Nat.div_add_mod] at h1
          exact h1
        · cases h1
      · cases h
    · cases h

/-- A list of integers of these kinds. -/
def FitL : List IntKind → List Value → Prop
  | [], cs => cs = []
  | k :: ks, cs => ∃ m cs', (Lit.int k m).wf = true ∧ cs = .int k m :: cs' ∧ FitL ks cs'

theorem fitL_of : ∀ (ks : List IntKind) (cs : List Value), cs.length = ks.length → (∀ (j : Nat) (k : IntKind), ks[j]? = some k → ∃ m, cs[j]? = some (Value.int k m) ∧ (Lit.int k m).wf = true) → FitL ks cs
  | [], cs, hl, _ => List.length_eq_zero_iff.1 hl
  | k :: ks, [], hl, _ => by cases hl
  | k :: ks, c :: cs, hl, h => by
    obtain ⟨m, h1, h2⟩ := h 0 k rfl
    refine ⟨m, cs, h2, ?_, fitL_of ks cs (by simpa using hl) fun j k' hj => h (j + 1) k' hj⟩
    simp only [List.getElem?_cons_zero, Option.some.injEq] at h1
    rw [h1]

/-- The length of what is read. -/
theorem cells_len {t : TypeId} {fuel : Nat} {cs : List Value} {x : DataW H × List MemPlace} (hs : (match P.underlying t with | some (.struct _) => true | some (.array _ _) => true | _ => false) = true) (hx : DataW.trod enc P w base sp held fuel t cs = some x) : cs.length = P.cellsOf t := by
  cases hu : P.underlying t with
  | none => rw [hu] at hs; cases hs
  | some d =>
    rw [hu] at hs
    cases d with
    | struct fs => obtain ⟨_, _, _, _, hl, _⟩ := DataW.trod_struct hu hx; exact hl
    | array n e => obtain ⟨_, _, _, _, hl, _⟩ := DataW.trod_array hu hx; exact hl
    | _ => cases hs

theorem open_cells {t : TypeId} {fuel : Nat} {cs : List Value} {x : DataW H × List MemPlace} (ks : List IntKind) (hs : (match P.underlying t with | some (.struct _) => true | some (.array _ _) => true | _ => false) = true) (hN : P.cellsOf t = ks.length)
    (hk : ((List.range ks.length).map (kindAt P 9 t) == ks.map some) = true) (hx : DataW.trod enc P w base sp held fuel t cs = some x) : FitL ks cs := by
  refine fitL_of ks cs (by rw [cells_len hs hx, hN]) fun j k hj => ?_
  have hlt : j < ks.length := (List.getElem?_eq_some_iff.1 hj).1
  have e := eq_of_beq hk
  have e2 : ((List.range ks.length).map (kindAt P 9 t))[j]? = some (some k) := by rw [e, List.getElem?_map, hj]; rfl
  rw [List.getElem?_map, List.getElem?_range hlt] at e2
  simp only [Option.map_some, Option.some.injEq] at e2
  exact cell_kind 9 t j k fuel cs x e2 hx

/-- A struct or an array of integers, opened. -/
theorem open_plain {t : TypeId} {r : Reach} {b0 : Nat} {v : Value} {d : DataW H} {ps : List MemPlace} (ks : List IntKind) (hs : (match P.underlying t with | some (.struct _) => true | some (.array _ _) => true | _ => false) = true) (hN : P.cellsOf t = ks.length)
    (hk : ((List.range ks.length).map (kindAt P 9 t) == ks.map some) = true) (hv : Value.okWide P w r b0 t v) (hd : DataW.Trod enc P w base sp held t v d ps) : ∃ cs : List Value, v = .agg cs.toArray ∧ FitL ks cs := by
  have h1 : ∃ cs : Array Value, v = .agg cs := by
    unfold Value.okWide at hv
    cases hu : P.underlying t with
    | none => rw [hu] at hs; cases hs
    | some d =>
      rw [hu] at hs hv
      cases d with
      | struct fs => obtain ⟨cs, e, _⟩ := hv; exact ⟨cs, e⟩
      | array n e => obtain ⟨cs, e, _⟩ := hv; exact ⟨cs, e⟩
      | _ => cases hs
  obtain ⟨cs, rfl⟩ := h1
  obtain ⟨fuel, hx⟩ := hd
  exact ⟨cs.toList, by simp, open_cells ks hs hN hk (by simpa [Value.cells] using hx)⟩

/-- An argument, read again behind the call. -/
theorem carried {t : TypeId} (hl : laidOutB P = true) (hr : P.readableRec t = true) (hrow : t < P.types.size) {W W' : World} {v : Value} {d : DataW H} {ps : List MemPlace} (h : DataW.Trod enc P W 0 (fun _ => true) true t v d ps)
    (hb : Ext [] W W') (hlt : ∀ p ∈ ps, p.block < W.heap.size) : DataW.Trod enc P W' 0 (fun b => decide (b < W.heap.size)) true t v d ps := Below.trod hl hr hrow h hb.below hlt
end
end Go.Proofs.Ytdflfnednaleeaa
