/- The statement on how many pieces can be sure: its row. -/
import Derived.Test.YtdflfnednaleeaaRows
import Derived.Test.YtdflfnednaleeaaRow3
import Derived.Test.YtdflfnednaleeaaD25
namespace Go.Proofs.Ytdflfnednaleeaa
open Go Go.ChangeShapes Go.WideShapes Go.ChangeAt Go.RowKit

theorem moOwn : ownKnob Try.prog.godebug = none := by kernel_rfl
theorem moLaid : laidOutB Try.prog = true := by kernel_rfl

set_option maxRecDepth 100000 in
theorem dmost_lifted (os : Os) (started : os.Started) (H : Type) (enc : TypeId × Value → H) :
    ReturnsInHanded {} Try.checked os 5 .any (Rows.dieMostsSpec.pre6 enc Try.prog Try.f5 Rows.dieMostsRow.domain false) (Rows.dieMostsSpec.post enc Try.prog Try.f5 false true false false) := by
  refine returnsInHanded_of_change (C := Try.checked) moOwn started (by kernel_rfl) Try.func5
    (ChangeSpec.witness6 (enc := enc) (C := Try.checked) false ⟨#[], #[.agg #[.bool false, .int .i64 0, .int .i64 0, .int .i64 0, .int .i64 0, .slice none 0 0], .slice none 0 0, .int .i64 0], []⟩ 8 (by kernel_rfl) (by kernel_rfl) (by kernel_rfl) (by kernel_rfl)) ?_
  intro W base args ds gs before hval0 hW hcnd _
  have hval : ∀ (j : Nat) t v, Try.f5.params[j]? = some t → args[j]? = some v → Value.okWide Try.prog W .any base t v := hval0
  have hW' := hW
  obtain ⟨p, q, hA0, hV, rfl, hfz, hnd⟩ := hW
  have hA : DataW.TrodAll enc Try.prog W 0 (fun _ => true) true Try.f5.params.toList args.toList ds p := hA0
  rw [show Try.f5.params = #[26, 27, 3] from rfl] at hA hval
  obtain ⟨v0, v1, v2, d0, d1, d2, p0, p1, p2, rfl, rfl, rfl, h0, h1, h2⟩ := trodAll_three hA
  obtain ⟨rfl, rfl⟩ := trodVars_none hV
  obtain ⟨t, A, c, ws, e0, hl, hws⟩ := open_tool (hval 0 26 v0 rfl rfl) h0
  obtain ⟨A2, c2, l, e1, hl2, hos⟩ := open_els (E := odElt) [.i64, .i64, .i64, .i64] (fun cs => ⟨numV cs[0]?, numV cs[1]?, numV cs[2]?, numV cs[3]?⟩) (fun cs h => toOd h) rfl Try.underlying27 (by kernel_rfl) (fun fuel cs x h => open_cells [.i64, .i64, .i64, .i64] (by kernel_rfl) (by kernel_rfl) (by kernel_rfl) h) (hval 1 27 v1 rfl rfl) h1
  obtain ⟨f, e2⟩ := open_int Try.underlying3 (hval 2 3 v2 rfl rfl) h2
  subst e0 e1 e2
  clear hA0 hval0
  simp only [List.append_nil] at hW'
  refine (c5 t ws (c := c) l (c2 := c2) f hws hos).mono fun e W' ⟨he, hg⟩ => ?_
  subst he
  have hlt : ∀ x ∈ p0 ++ (p1 ++ p2), x.block < W.heap.size := fun x hx => hW'.lt x (by simpa using hx)
  exact ⟨_, rfl, _, _, _, [], _, [], hW', trodAll_mk1 (shut_bool Try.underlying4 _),
    trodAll_mk3 (carried moLaid (by kernel_rfl) (of_decide_eq_true (by kernel_rfl)) h0 hg (fun x hx => hlt x (by simp [hx]))) (carried moLaid (by kernel_rfl) (of_decide_eq_true (by kernel_rfl)) h1 hg (fun x hx => hlt x (by simp [hx])))
      (carried moLaid (by kernel_rfl) (of_decide_eq_true (by kernel_rfl)) h2 hg (fun x hx => hlt x (by simp [hx]))),
    rfl, hg.below.frame _, fun h => by cases h⟩

theorem dieMosts_holds : Rows.DieMostsSaid :=
  OpenClaim.holds_of_wide 5 Try.f5 rfl rfl rfl rfl rfl rfl rfl ⟨rfl, rfl, rfl, rfl, rfl⟩ rfl rfl rfl rfl rfl (by kernel_rfl) Try.func5 (by kernel_rfl)
    (of_decide_eq_true (by kernel_rfl)) (by unfold Func.isWrapper; first | (rw [if_pos (by decide +kernel)]; kernel_rfl) | (rw [if_neg (by decide +kernel)]; exact ⟨rfl, rfl⟩))
    (fun os started H enc _ => dmost_lifted os started H enc)

#print axioms dieMosts_holds
end Go.Proofs.Ytdflfnednaleeaa
