/- The statement on the ways that surely bring about wanted forces: its row. -/
import Derived.Test.YteecidddfcbabaaRows
import Derived.Test.YteecidddfcbabaaRow2
import Derived.Test.YteecidddfcbabaaB10
namespace Go.Proofs.Yteecidddfcbabaa
open Go Go.ChangeShapes Go.WideShapes Go.ChangeAt Go.RowKit

theorem bstOwn : ownKnob Try.prog.godebug = none := by kernel_rfl
theorem bstLaid : laidOutB Try.prog = true := by kernel_rfl

def numV : Option Value → Int
  | some (.int _ n) => n
  | _ => 0
/-- A way out of its cells. -/
def toWa (cs : List Value) : Wa := ⟨numV cs[0]?, numV cs[1]?, numV cs[2]?, numV cs[3]?, numV cs[4]?, numV cs[5]?, numV cs[6]?⟩
theorem toWa_cells {cs : List Value} (h : FitL [.i64, .i64, .i64, .i64, .i64, .i64, .i64] cs) : (toWa cs).cells = cs := by
  obtain ⟨a0, _, _, rfl, a1, _, _, rfl, a2, _, _, rfl, a3, _, _, rfl, a4, _, _, rfl, a5, _, _, rfl, a6, _, _, rfl, rfl⟩ := h
  rfl
theorem ways_of {w : World} {A : Option Addr} {rows : List (List Value)} (h : ∀ i (h : i < rows.length), FitL [.i64, .i64, .i64, .i64, .i64, .i64, .i64] rows[i] ∧ ∃ a, A = some a ∧ ∀ j u, (rows[i])[j]? = some u → w.cell? ((a.add (i * 7)).add j) = some u) :
    ∃ l : List Wa, l.length = rows.length ∧ WaysAt w A l := by
  refine ⟨rows.map toWa, by simp, fun k hk => ?_⟩
  have hk' : k < rows.length := by simpa using hk
  obtain ⟨h1, a, hA, h2⟩ := h k hk'
  refine ⟨a, hA, fun j v hj => h2 j v ?_⟩
  rw [List.getElem_map, toWa_cells h1] at hj
  exact hj

set_option maxRecDepth 100000 in
theorem bst_lifted (os : Os) (started : os.Started) (H : Type) (enc : TypeId × Value → H) :
    ReturnsInHanded {} Try.checked os 4 .any (Rows.boltBestsSpec.pre6 enc Try.prog Try.f4 Rows.boltBestsRow.domain false) (Rows.boltBestsSpec.post enc Try.prog Try.f4 false true false false) := by
  refine returnsInHanded_of_change (C := Try.checked) bstOwn started (by kernel_rfl) Try.func4
    (ChangeSpec.witness6 (enc := enc) (C := Try.checked) false ⟨#[], #[.agg #[.int .i64 0, .int .i64 0, .int .i64 0, .int .i64 0, .int .i64 0, .int .i64 0, .int .i64 0, .int .i64 0, .int .i64 0, .int .i64 0, .int .i64 0, .int .i64 0, .int .i64 0],
      .slice none 0 0, .agg #[.int .i64 0, .int .i64 0]], []⟩ 8 (by kernel_rfl) (by kernel_rfl) (by kernel_rfl) (by kernel_rfl)) ?_
  intro W base args ds gs before hval0 hW hcnd _
  have hval : ∀ (j : Nat) t v, Try.f4.params[j]? = some t → args[j]? = some v → Value.okWide Try.prog W .any base t v := hval0
  have hW' := hW
  obtain ⟨p, q, hA0, hV, rfl, hfz, hnd⟩ := hW
  have hA : DataW.TrodAll enc Try.prog W 0 (fun _ => true) true Try.f4.params.toList args.toList ds p := hA0
  rw [show Try.f4.params = #[25, 41, 23] from rfl] at hA hval
  obtain ⟨v0, v1, v2, d0, d1, d2, p0, p1, p2, rfl, rfl, rfl, h0, h1, h2⟩ := trodAll_three hA
  obtain ⟨rfl, rfl⟩ := trodVars_none hV
  obtain ⟨c0, e0, f0⟩ := open_plain [.i64, .i64, .i64, .i64, .i64, .i64, .i64, .i64, .i64, .i64, .i64, .i64, .i64] (by kernel_rfl) (by kernel_rfl) (by kernel_rfl) (hval 0 25 v0 rfl rfl) h0
  obtain ⟨A, c1, rows, rfl, hrl, hrows⟩ := open_slice [.i64, .i64, .i64, .i64, .i64, .i64, .i64] Try.underlying41 (by kernel_rfl) (by kernel_rfl) (by kernel_rfl) (hval 1 41 v1 rfl rfl) h1
  obtain ⟨l, hwl, hway⟩ := ways_of (fun i h => hrows i h)
  obtain ⟨c2, e2, f2⟩ := open_plain [.i64, .i64] (by kernel_rfl) (by kernel_rfl) (by kernel_rfl) (hval 2 23 v2 rfl rfl) h2
  obtain ⟨lead, _, _, rfl, thread, _, _, rfl, head, _, _, rfl, tl, _, _, rfl, th, _, _, rfl, hl, _, _, rfl, hh, _, _, rfl, sl, _, _, rfl, sh, _, _, rfl, pl, _, _, rfl, ph, _, _, rfl, yl, _, _, rfl, yh, _, _, rfl, rfl⟩ := f0
  obtain ⟨f, _, _, rfl, f', _, _, rfl, rfl⟩ := f2
  subst e0 e2
  clear hA0 hval0
  simp only [List.append_nil] at hW'
  have hc4 := c4 ⟨lead, thread, head, tl, th, hl, hh, sl, sh, pl, ph, yl, yh⟩ f f' l (c := c1) hway
  rw [hwl] at hc4
  refine hc4.mono fun e W' ⟨he, hg⟩ => ?_
  subst he
  have hlt : ∀ x ∈ p0 ++ (p1 ++ p2), x.block < W.heap.size := fun x hx => hW'.lt x (by simpa using hx)
  exact ⟨_, rfl, _, _, _, [], _, [], hW', trodAll_mk1 (shut_bool Try.underlying4 _),
    trodAll_mk3 (carried bstLaid (by kernel_rfl) (of_decide_eq_true (by kernel_rfl)) h0 hg (fun x hx => hlt x (by simp [hx]))) (carried bstLaid (by kernel_rfl) (of_decide_eq_true (by kernel_rfl)) h1 hg (fun x hx => hlt x (by simp [hx])))
      (carried bstLaid (by kernel_rfl) (of_decide_eq_true (by kernel_rfl)) h2 hg (fun x hx => hlt x (by simp [hx]))),
    rfl, hg.below.frame _, fun h => by cases h⟩

theorem boltBests_holds : Rows.BoltBestsSaid :=
  OpenClaim.holds_of_wide 4 Try.f4 rfl rfl rfl rfl rfl rfl rfl ⟨rfl, rfl, rfl, rfl, rfl⟩ rfl rfl rfl rfl rfl (by kernel_rfl) Try.func4 (by kernel_rfl)
    (of_decide_eq_true (by kernel_rfl)) (by unfold Func.isWrapper; first | (rw [if_pos (by decide +kernel)]; kernel_rfl) | (rw [if_neg (by decide +kernel)]; exact ⟨rfl, rfl⟩))
    (fun os started H enc _ => bst_lifted os started H enc)

#print axioms boltBests_holds
end Go.Proofs.Yteecidddfcbabaa
