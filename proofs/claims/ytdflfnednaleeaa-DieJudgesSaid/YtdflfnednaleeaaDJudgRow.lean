/- The statement on a die's judgements: its row. -/
import Derived.Test.YtdflfnednaleeaaRows
import Derived.Test.YtdflfnednaleeaaRow3
import Derived.Test.YtdflfnednaleeaaD29
namespace Go.Proofs.Ytdflfnednaleeaa
open Go Go.ChangeShapes Go.WideShapes Go.ChangeAt Go.RowKit

theorem jdOwn : ownKnob Try.prog.godebug = none := by kernel_rfl
theorem jdLaid : laidOutB Try.prog = true := by kernel_rfl

set_option maxRecDepth 100000 in
/-- Settings and numbers. -/
theorem open_plans {H : Type} {enc : TypeId × Value → H} {w : World} {base : Nat} {sp : Nat → Bool} {held : Bool} {r : Reach} {b0 : Nat} {v : Value} {d : DataW H} {ps : List MemPlace} (hv : Value.okWide Try.prog w r b0 54 v) (hd : DataW.Trod enc Try.prog w base sp held 54 v d ps) :
    ∃ (B1 : Option Addr) (d1 : Nat) (l : List Stg) (B2 : Option Addr) (d2 : Nat) (q : List Int), v = .agg [.slice B1 l.length d1, .slice B2 q.length d2].toArray ∧ ElAt w B1 l ∧ ElAt w B2 q := by
  obtain ⟨cs, rfl, _⟩ := okWide_struct Try.underlying54 hv
  obtain ⟨fuel, hx⟩ := hd
  obtain ⟨xs, n, _, _, hl, hlen, hf⟩ := DataW.trod_struct Try.underlying54 hx
  have hl6 : cs.toList.length = 2 := by
    have : Try.prog.cellsOf 54 = 2 := by kernel_rfl
    rw [← this, ← hl]; simp [Value.cells]
  obtain ⟨l, hcs⟩ : ∃ l, cs.toList = l := ⟨_, rfl⟩
  have ecs : cs = l.toArray := by rw [← hcs]
  subst ecs
  simp only [Value.cells, List.toList_toArray] at hf hl6
  match l, hl6 with
  | [c0, c1], _ =>
    match xs, hlen with
    | [x0, x1], _ =>
      have f0 : DataW.trod enc Try.prog w base sp held n 43 (([c0, c1].drop 0).take (Try.prog.cellsOf 43)) = some x0 := hf 0 _ rfl
      have f1 : DataW.trod enc Try.prog w base sp held n 52 (([c0, c1].drop 1).take (Try.prog.cellsOf 52)) = some x1 := hf 1 _ rfl
      have n43 : Try.prog.cellsOf 43 = 1 := by kernel_rfl
      have n52 : Try.prog.cellsOf 52 = 1 := by kernel_rfl
      simp only [n43, n52, List.drop_zero, List.take_succ_cons, List.take_zero, List.drop_succ_cons] at f0 f1
      obtain ⟨B1, d1, rows, e0, _, hr0⟩ := open_sliceC [.i64, .i64] Try.underlying43 (by kernel_rfl) (fun fuel cs x h => open_cells [.i64, .i64] (by kernel_rfl) (by kernel_rfl) (by kernel_rfl) h) f0
      obtain ⟨B2, d2, rows2, e1, _, hr1⟩ := open_sliceC [.i64] Try.underlying52 (by kernel_rfl) (fun fuel cs x h => by obtain ⟨m, rfl, _, hw⟩ := DataW.trod_int Try.underlying3 h; exact ⟨m, [], hw, rfl, rfl⟩) f1
      obtain ⟨l1, hl1, h1⟩ := els_of (E := stgElt) (fun cs => ⟨numV cs[0]?, numV cs[1]?⟩) (fun cs h => toStg h) rfl hr0
      obtain ⟨l2, hl2, h2⟩ := els_of (E := intElt) (fun cs => numV cs[0]?) (fun cs h => toInt1 h) rfl hr1
      cases e0; cases e1
      exact ⟨B1, d1, l1, B2, d2, l2, by rw [hl1, hl2], h1, h2⟩

set_option maxRecDepth 100000 in
theorem djudg_lifted (os : Os) (started : os.Started) (H : Type) (enc : TypeId × Value → H) :
    ReturnsInHanded {} Try.checked os 6 .any (Rows.dieJudgesSpec.pre6 enc Try.prog Try.f6 Rows.dieJudgesRow.domain false) (Rows.dieJudgesSpec.post enc Try.prog Try.f6 false true false false) := by
  refine returnsInHanded_of_change (C := Try.checked) jdOwn started (by kernel_rfl) Try.func6
    (ChangeSpec.witness6 (enc := enc) (C := Try.checked) false ⟨#[], #[.agg #[.bool false, .int .i64 0, .int .i64 0, .int .i64 0, .int .i64 0, .slice none 0 0], .slice none 0 0, .agg #[.slice none 0 0, .slice none 0 0]], []⟩ 8 (by kernel_rfl) (by kernel_rfl) (by kernel_rfl) (by kernel_rfl)) ?_
  intro W base args ds gs before hval0 hW hcnd _
  have hval : ∀ (j : Nat) t v, Try.f6.params[j]? = some t → args[j]? = some v → Value.okWide Try.prog W .any base t v := hval0
  have hW' := hW
  obtain ⟨p, q, hA0, hV, rfl, hfz, hnd⟩ := hW
  have hA : DataW.TrodAll enc Try.prog W 0 (fun _ => true) true Try.f6.params.toList args.toList ds p := hA0
  rw [show Try.f6.params = #[26, 27, 54] from rfl] at hA hval
  obtain ⟨v0, v1, v2, d0, d1, d2, p0, p1, p2, rfl, rfl, rfl, h0, h1, h2⟩ := trodAll_three hA
  obtain ⟨rfl, rfl⟩ := trodVars_none hV
  obtain ⟨t, A, c, ws, e0, hl, hws⟩ := open_tool (hval 0 26 v0 rfl rfl) h0
  obtain ⟨A2, c2, l, e1, hl2, hos⟩ := open_els (E := odElt) [.i64, .i64, .i64, .i64] (fun cs => ⟨numV cs[0]?, numV cs[1]?, numV cs[2]?, numV cs[3]?⟩) (fun cs h => toOd h) rfl Try.underlying27 (by kernel_rfl) (fun fuel cs x h => open_cells [.i64, .i64, .i64, .i64] (by kernel_rfl) (by kernel_rfl) (by kernel_rfl) h) (hval 1 27 v1 rfl rfl) h1
  obtain ⟨B1, d1, q1, B2, d2, q2, e2, hB1, hB2⟩ := open_plans (hval 2 54 v2 rfl rfl) h2
  subst e0 e1 e2
  clear hA0 hval0
  simp only [List.append_nil] at hW'
  refine (c6 t ws (c := c) l (c2 := c2) q1 (d1 := d1) q2 (d2 := d2) hws hos hB1 hB2).mono fun e W' ⟨he, hg⟩ => ?_
  subst he
  have hlt : ∀ x ∈ p0 ++ (p1 ++ p2), x.block < W.heap.size := fun x hx => hW'.lt x (by simpa using hx)
  exact ⟨_, rfl, _, _, _, [], _, [], hW', trodAll_mk1 (shut_bool Try.underlying4 _),
    trodAll_mk3 (carried jdLaid (by kernel_rfl) (of_decide_eq_true (by kernel_rfl)) h0 hg (fun x hx => hlt x (by simp [hx]))) (carried jdLaid (by kernel_rfl) (of_decide_eq_true (by kernel_rfl)) h1 hg (fun x hx => hlt x (by simp [hx])))
      (carried jdLaid (by kernel_rfl) (of_decide_eq_true (by kernel_rfl)) h2 hg (fun x hx => hlt x (by simp [hx]))),
    rfl, hg.below.frame _, fun h => by cases h⟩

theorem dieJudges_holds : Rows.DieJudgesSaid :=
  OpenClaim.holds_of_wide 6 Try.f6 rfl rfl rfl rfl rfl rfl rfl ⟨rfl, rfl, rfl, rfl, rfl⟩ rfl rfl rfl rfl rfl (by kernel_rfl) Try.func6 (by kernel_rfl)
    (of_decide_eq_true (by kernel_rfl)) (by unfold Func.isWrapper; first | (rw [if_pos (by decide +kernel)]; kernel_rfl) | (rw [if_neg (by decide +kernel)]; exact ⟨rfl, rfl⟩))
    (fun os started H enc _ => djudg_lifted os started H enc)

#print axioms dieJudges_holds
end Go.Proofs.Ytdflfnednaleeaa
