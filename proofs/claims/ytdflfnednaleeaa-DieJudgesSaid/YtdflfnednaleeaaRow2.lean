/- Own layer: rows. A slice of plain data, opened. -/
import Derived.Test.YtdflfnednaleeaaRow
import Derived.ChangeArms
namespace Go.Proofs.Ytdflfnednaleeaa
open Go Go.ChangeShapes Go.WideShapes Go.ChangeAt Go.RowKit

section
variable {H : Type} {enc : TypeId × Value → H} {P : Program} {w : World} {base : Nat} {sp : Nat → Bool} {held : Bool}

theorem open_slice {t e : TypeId} {r : Reach} {b0 : Nat} {v : Value} {d : DataW H} {ps : List MemPlace} (ks : List IntKind) (ht : P.underlying t = some (.slice e)) (hs : (match P.underlying e with | some (.struct _) => true | some (.array _ _) => true | _ => false) = true)
    (hN : P.cellsOf e = ks.length) (hk : ((List.range ks.length).map (kindAt P 9 e) == ks.map some) = true) (hv : Value.okWide P w r b0 t v) (hd : DataW.Trod enc P w base sp held t v d ps) :
    ∃ (A : Option Addr) (c : Nat) (rows : List (List Value)), v = .slice A rows.length c ∧ rows.length ≤ maxLen ∧ (∀ i (h : i < rows.length), FitL ks rows[i] ∧ ∃ a, A = some a ∧ ∀ j u, (rows[i])[j]? = some u → w.cell? ((a.add (i * ks.length)).add j) = some u) := by
  obtain ⟨A, len, cap, rfl⟩ := okWide_slice ht hv
  obtain ⟨fuel, hx⟩ := hd
  rcases DataW.trod_slice ht hx with ⟨h1, _⟩ | ⟨a, len', cap', elems, rest, n, _, h1, _, _, hl, hm, hlen, hel, _, _⟩
  · simp only [Value.cells] at h1
    have : (Value.slice A len cap) = .slice none 0 0 := by simpa using h1
    rw [this]
    exact ⟨none, 0, [], rfl, by simp, fun i h => by simp at h⟩
  · have h2 : (Value.slice A len cap) = .slice (some a) len' cap' := by simpa [Value.cells] using h1
    rw [h2]
    have key : ∀ i, i < len' → ∃ cs : List Value, FitL ks cs ∧ ∀ j u, cs[j]? = some u → w.cell? ((a.add (i * ks.length)).add j) = some u := fun i hi => by
      have hE := hel i hi
      have hy : ∃ y, elems[i]? = some y := ⟨elems[i], by simp [hlen, hi]⟩
      obtain ⟨y, hy⟩ := hy
      rw [hy, hN] at hE
      simp only [Option.bind_eq_some_iff] at hE
      obtain ⟨c1, hc1, hy1⟩ := hE
      have hcs := World.cells?_some hc1
      refine ⟨c1, open_cells ks hs hN hk hy1, fun j u hj => ?_⟩
      have hj1 : j < c1.length := (List.getElem?_eq_some_iff.1 hj).1
      have := hcs.2.2 j (by have := hcs.2.1; omega)
      rw [this, hj]
    have build : ∀ m, m ≤ len' → ∃ rows : List (List Value), rows.length = m ∧ ∀ i (h : i < rows.length), FitL ks rows[i] ∧ ∀ j u, (rows[i])[j]? = some u → w.cell? ((a.add (i * ks.length)).add j) = some u := by
      intro m
      induction m with
      | zero => exact fun _ => ⟨[], rfl, fun i h => by simp at h⟩
      | succ m ih =>
        intro hm
        obtain ⟨rows, hr, hrows⟩ := ih (by omega)
        obtain ⟨cs, h3, h4⟩ := key m (by omega)
        refine ⟨rows ++ [cs], by simp [hr], fun i h => ?_⟩
        by_cases hi : i < rows.length
        · rw [List.getElem_append_left hi]
          exact hrows i hi
        · have : i = rows.length := by simp at h; omega
          subst this
          rw [List.getElem_append_right (Nat.le_refl _)]
          simp only [Nat.sub_self, List.getElem_cons_zero]
          rw [hr]
          exact ⟨h3, h4⟩
    obtain ⟨rows, hr, hrows⟩ := build len' (Nat.le_refl _)
    exact ⟨some a, cap', rows, by rw [hr], by omega, fun i h => ⟨(hrows i h).1, a, rfl, (hrows i h).2⟩⟩
end
end Go.Proofs.Ytdflfnednaleeaa
