/- Own layer: rows. Slices of any plain data; the tool, a struct that holds a slice. -/
import Derived.Test.YtdflfnednaleeaaRow2
import Derived.Test.YtdflfnednaleeaaD19
namespace Go.Proofs.Ytdflfnednaleeaa
open Go Go.ChangeShapes Go.WideShapes Go.ChangeAt Go.RowKit
set_option maxRecDepth 100000

section
variable {H : Type} {enc : TypeId × Value → H} {P : Program} {w : World} {base : Nat} {sp : Nat → Bool} {held : Bool}

theorem open_sliceC {t e : TypeId} {fuel : Nat} {cs : List Value} {x : DataW H × List MemPlace} (ks : List IntKind) (ht : P.underlying t = some (.slice e)) (hN : P.cellsOf e = ks.length)
    (hfit : ∀ (fuel : Nat) (cs : List Value) (x : DataW H × List MemPlace), DataW.trod enc P w base sp held fuel e cs = some x → FitL ks cs) (hx : DataW.trod enc P w base sp held fuel t cs = some x) :
    ∃ (A : Option Addr) (c : Nat) (rows : List (List Value)), cs = [.slice A rows.length c] ∧ rows.length ≤ maxLen ∧ (∀ i (h : i < rows.length), FitL ks rows[i] ∧ ∃ a, A = some a ∧ ∀ j u, (rows[i])[j]? = some u → w.cell? ((a.add (i * ks.length)).add j) = some u) := by
  rcases DataW.trod_slice ht hx with ⟨h1, _⟩ | ⟨a, len', cap', elems, rest, n, _, h1, _, _, hl, hm, hlen, hel, _, _⟩
  · exact ⟨none, 0, [], h1, by simp, fun i h => by simp at h⟩
  · have key : ∀ i, i < len' → ∃ cs : List Value, FitL ks cs ∧ ∀ j u, cs[j]? = some u → w.cell? ((a.add (i * ks.length)).add j) = some u := fun i hi => by
      have hE := hel i hi
      have hy : ∃ y, elems[i]? = some y := ⟨elems[i], by simp [hlen, hi]⟩
      obtain ⟨y, hy⟩ := hy
      rw [hy, hN] at hE
      simp only [Option.bind_eq_some_iff] at hE
      obtain ⟨c1, hc1, hy1⟩ := hE
      have hcs := World.cells?_some hc1
      refine ⟨c1, hfit _ _ _ hy1, fun j u hj => ?_⟩
      have hj1 : j < c1.length := (List.getElem?_eq_some_iff.1 hj).1
      have := hcs.2.2 j (by have := hcs.2.1; omega)
      rw [this, hj]
    have build : ∀ m, m ≤ len' → ∃ rows : List (List Value), rows.length = m ∧ ∀ i (h : i < rows.length), FitL ks rows[i] ∧ ∀ j u, (rows[i])[j]? = some u → w.cell? ((a.add (i * ks.length)).add j) = some u := by
      intro m
      induction m with
      | zero => exact fun _ => ⟨[], rfl, fun i h => by simp at h⟩
      | succ m ih =>
        intro hm
        obtain ⟨rows, hr, hrows⟩ := ih (by omega)
        obtain ⟨cs, h3, h4⟩ := key m (by omega)
        refine ⟨rows ++ [cs], by simp [hr], fun i h => ?_⟩
        by_cases hi : i < rows.length
        · rw [List.getElem_append_left hi]
          exact hrows i hi
        · have : i = rows.length := by simp at h; omega
          subst this
          rw [List.getElem_append_right (Nat.le_refl _)]
          simp only [Nat.sub_self, List.getElem_cons_zero]
          rw [hr]
          exact ⟨h3, h4⟩
    obtain ⟨rows, hr, hrows⟩ := build len' (Nat.le_refl _)
    exact ⟨some a, cap', rows, by rw [hr, h1], by omega, fun i h => ⟨(hrows i h).1, a, rfl, (hrows i h).2⟩⟩

/-- Rows of cells, read as elements. -/
theorem els_of {α : Type} [E : Elt α] {ks : List IntKind} (f : List Value → α) (hf : ∀ cs, FitL ks cs → E.cells (f cs) = cs) (hsz : E.size = ks.length) {A : Option Addr} {rows : List (List Value)}
    (h : ∀ i (h : i < rows.length), FitL ks rows[i] ∧ ∃ a, A = some a ∧ ∀ j u, (rows[i])[j]? = some u → w.cell? ((a.add (i * ks.length)).add j) = some u) : ∃ l : List α, l.length = rows.length ∧ ElAt w A l := by
  refine ⟨rows.map f, by simp, fun k hk => ?_⟩
  have hk' : k < rows.length := by simpa using hk
  obtain ⟨h1, a, hA, h2⟩ := h k hk'
  refine ⟨a, hA, fun j v hj => ?_⟩
  rw [List.getElem_map, hf _ h1] at hj
  rw [hsz]
  exact h2 j v hj
end

def numV : Option Value → Int
  | some (.int _ n) => n
  | _ => 0
theorem toSp {cs : List Value} (h : FitL [.i64, .i64] cs) : spElt.cells ⟨numV cs[0]?, numV cs[1]?⟩ = cs := by
  obtain ⟨a0, _, _, rfl, a1, _, _, rfl, rfl⟩ := h
  rfl
theorem toStg {cs : List Value} (h : FitL [.i64, .i64] cs) : stgElt.cells ⟨numV cs[0]?, numV cs[1]?⟩ = cs := by
  obtain ⟨a0, _, _, rfl, a1, _, _, rfl, rfl⟩ := h
  rfl
theorem toOd {cs : List Value} (h : FitL [.i64, .i64, .i64, .i64] cs) : odElt.cells ⟨numV cs[0]?, numV cs[1]?, numV cs[2]?, numV cs[3]?⟩ = cs := by
  obtain ⟨a0, _, _, rfl, a1, _, _, rfl, a2, _, _, rfl, a3, _, _, rfl, rfl⟩ := h
  rfl
theorem toInt1 {cs : List Value} (h : FitL [.i64] cs) : intElt.cells (numV cs[0]?) = cs := by
  obtain ⟨a0, _, _, rfl, rfl⟩ := h
  rfl

section
variable {H : Type} {enc : TypeId × Value → H} {w : World} {base : Nat} {sp : Nat → Bool} {held : Bool}
/-- A tool. -/
theorem open_tool {r : Reach} {b0 : Nat} {v : Value} {d : DataW H} {ps : List MemPlace} (hv : Value.okWide Try.prog w r b0 26 v) (hd : DataW.Trod enc Try.prog w base sp held 26 v d ps) :
    ∃ (t : To) (A : Option Addr) (c : Nat) (ws : List Sp), v = .agg [.bool t.down, .int .i64 t.sl, .int .i64 t.sh, .int .i64 t.cl, .int .i64 t.ch, .slice A ws.length c].toArray ∧ ws.length ≤ maxLen ∧ ElAt w A ws := by
  obtain ⟨cs, rfl, _⟩ := okWide_struct Try.underlying26 hv
  obtain ⟨fuel, hx⟩ := hd
  obtain ⟨xs, n, _, _, hl, hlen, hf⟩ := DataW.trod_struct Try.underlying26 hx
  have hl6 : cs.toList.length = 6 := by
    have : Try.prog.cellsOf 26 = 6 := by kernel_rfl
    rw [← this, ← hl]; simp [Value.cells]
  obtain ⟨l, hcs⟩ : ∃ l, cs.toList = l := ⟨_, rfl⟩
  have ecs : cs = l.toArray := by rw [← hcs]
  subst ecs
  simp only [Value.cells, List.toList_toArray] at hf hl6
  match l, hl6 with
  | [c0, c1, c2, c3, c4, c5], _ =>
    match xs, hlen with
    | [x0, x1, x2, x3], _ =>
      have f0 : DataW.trod enc Try.prog w base sp held n 4 (([c0, c1, c2, c3, c4, c5].drop 0).take (Try.prog.cellsOf 4)) = some x0 := hf 0 _ rfl
      have f1 : DataW.trod enc Try.prog w base sp held n 23 (([c0, c1, c2, c3, c4, c5].drop 1).take (Try.prog.cellsOf 23)) = some x1 := hf 1 _ rfl
      have f2 : DataW.trod enc Try.prog w base sp held n 23 (([c0, c1, c2, c3, c4, c5].drop 3).take (Try.prog.cellsOf 23)) = some x2 := hf 2 _ rfl
      have f3 : DataW.trod enc Try.prog w base sp held n 24 (([c0, c1, c2, c3, c4, c5].drop 5).take (Try.prog.cellsOf 24)) = some x3 := hf 3 _ rfl
      have n4 : Try.prog.cellsOf 4 = 1 := by kernel_rfl
      have n23 : Try.prog.cellsOf 23 = 2 := by kernel_rfl
      have n24 : Try.prog.cellsOf 24 = 1 := by kernel_rfl
      simp only [n4, n23, n24, List.drop_zero, List.take_succ_cons, List.take_zero, List.drop_succ_cons] at f0 f1 f2 f3
      obtain ⟨b, e0, _⟩ := DataW.trod_bool Try.underlying4 f0
      have g1 := open_cells [.i64, .i64] (by kernel_rfl) (by kernel_rfl) (by kernel_rfl) f1
      have g2 := open_cells [.i64, .i64] (by kernel_rfl) (by kernel_rfl) (by kernel_rfl) f2
      obtain ⟨A, c, rows, e3, hr, hrows⟩ := open_sliceC [.i64, .i64] Try.underlying24 (by kernel_rfl) (fun fuel cs x h => open_cells [.i64, .i64] (by kernel_rfl) (by kernel_rfl) (by kernel_rfl) h) f3
      obtain ⟨ws, hwl, hws⟩ := els_of (E := spElt) (fun cs => ⟨numV cs[0]?, numV cs[1]?⟩) (fun cs h => toSp h) rfl hrows
      obtain ⟨a0, _, _, e1, a1, _, _, e1', e1''⟩ := g1
      obtain ⟨a2, _, _, e2, a3, _, _, e2', e2''⟩ := g2
      subst e1'' e1' e2'' e2'
      cases e0; cases e1; cases e2; cases e3
      exact ⟨⟨b, a0, a1, a2, a3⟩, A, c, ws, by rw [hwl], by omega, hws⟩
/-- An integer that is an argument. -/
theorem open_int {t : TypeId} {k : IntKind} {r : Reach} {b0 : Nat} {v : Value} {d : DataW H} {ps : List MemPlace} (ht : Try.prog.underlying t = some (.int k)) (hv : Value.okWide Try.prog w r b0 t v) (hd : DataW.Trod enc Try.prog w base sp held t v d ps) : ∃ n : Int, v = .int k n := by
  obtain ⟨fuel, hx⟩ := hd
  obtain ⟨m, h1, _⟩ := DataW.trod_int ht hx
  simp only [Value.okWide, ht, Cell.okWide] at hv
  refine ⟨m, ?_⟩
  cases v <;> simp_all [Cell.ok, Value.cells]
/-- A slice that is an argument. -/
theorem open_els {α : Type} [E : Elt α] {t e : TypeId} {r : Reach} {b0 : Nat} {v : Value} {d : DataW H} {ps : List MemPlace} (ks : List IntKind) (f : List Value → α) (hf : ∀ cs, FitL ks cs → E.cells (f cs) = cs) (hsz : E.size = ks.length) (ht : Try.prog.underlying t = some (.slice e)) (hN : Try.prog.cellsOf e = ks.length)
    (hfit : ∀ (fuel : Nat) (cs : List Value) (x : DataW H × List MemPlace), DataW.trod enc Try.prog w base sp held fuel e cs = some x → FitL ks cs) (hv : Value.okWide Try.prog w r b0 t v) (hd : DataW.Trod enc Try.prog w base sp held t v d ps) :
    ∃ (A : Option Addr) (c : Nat) (l : List α), v = .slice A l.length c ∧ l.length ≤ maxLen ∧ ElAt w A l := by
  obtain ⟨A, len, cap, rfl⟩ := okWide_slice ht hv
  obtain ⟨fuel, hx⟩ := hd
  obtain ⟨A', c, rows, e, hr, hrows⟩ := open_sliceC ks ht hN hfit hx
  obtain ⟨l, hl, hel⟩ := els_of f hf hsz hrows
  refine ⟨A', c, l, ?_, by omega, hel⟩
  rw [hl]
  simpa [Value.cells] using e
end
end Go.Proofs.Ytdflfnednaleeaa
