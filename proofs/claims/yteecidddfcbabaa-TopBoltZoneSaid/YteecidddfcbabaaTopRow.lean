/- The statement on plated bolts: its row. -/
import Derived.Test.YteecidddfcbabaaRows
import Derived.Test.YteecidddfcbabaaRow
import Derived.Test.YteecidddfcbabaaB2
namespace Go.Proofs.Yteecidddfcbabaa
open Go Go.ChangeShapes Go.WideShapes Go.ChangeAt Go.RowKit

theorem own : ownKnob Try.prog.godebug = none := by kernel_rfl
theorem laidOut : laidOutB Try.prog = true := by kernel_rfl

set_option maxRecDepth 100000 in
theorem top_lifted (os : Os) (started : os.Started) (H : Type) (enc : TypeId × Value → H) :
    ReturnsInHanded {} Try.checked os 6 .any (Rows.topBoltZoneSpec.pre6 enc Try.prog Try.f6 Rows.topBoltZoneRow.domain false) (Rows.topBoltZoneSpec.post enc Try.prog Try.f6 false true false false) := by
  refine returnsInHanded_of_change (C := Try.checked) own started (by kernel_rfl) Try.func6
    (ChangeSpec.witness6 (enc := enc) (C := Try.checked) false ⟨#[], #[.agg #[.int .u8 0, .int .u8 0, .int .u8 0, .int .u8 0, .int .u8 0, .int .u8 0, .int .u8 0, .int .u8 0, .int .u8 0], .agg #[.int .u16 0, .int .u16 0], .agg #[.int .u8 0, .int .u8 0, .int .u8 0]], []⟩ 8 (by kernel_rfl) (by kernel_rfl) (by kernel_rfl) (by kernel_rfl)) ?_
  intro W base args ds gs before hval0 hW hcnd _
  have hval : ∀ (j : Nat) t v, Try.f6.params[j]? = some t → args[j]? = some v → Value.okWide Try.prog W .any base t v := hval0
  have hW' := hW
  obtain ⟨p, q, hA0, hV, rfl, hfz, hnd⟩ := hW
  have hA : DataW.TrodAll enc Try.prog W 0 (fun _ => true) true Try.f6.params.toList args.toList ds p := hA0
  rw [show Try.f6.params = #[62, 64, 58] from rfl] at hA hval
  obtain ⟨v0, v1, v2, d0, d1, d2, p0, p1, p2, rfl, rfl, rfl, h0, h1, h2⟩ := trodAll_three hA
  obtain ⟨rfl, rfl⟩ := trodVars_none hV
  obtain ⟨c0, e0, f0⟩ := open_plain [.u8, .u8, .u8, .u8, .u8, .u8, .u8, .u8, .u8] (by kernel_rfl) (by kernel_rfl) (by kernel_rfl) (hval 0 62 v0 rfl rfl) h0
  obtain ⟨c1, e1, f1⟩ := open_plain [.u16, .u16] (by kernel_rfl) (by kernel_rfl) (by kernel_rfl) (hval 1 64 v1 rfl rfl) h1
  obtain ⟨c2, e2, f2⟩ := open_plain [.u8, .u8, .u8] (by kernel_rfl) (by kernel_rfl) (by kernel_rfl) (hval 2 58 v2 rfl rfl) h2
  obtain ⟨s0, _, ws0, rfl, s1, _, ws1, rfl, s2, _, ws2, rfl, o0, _, wo0, rfl, o1, _, wo1, rfl, o2, _, wo2, rfl, o3, _, wo3, rfl, q0, _, wq0, rfl, q1, _, wq1, rfl, rfl⟩ := f0
  obtain ⟨u0, _, wu0, rfl, u1, _, wu1, rfl, rfl⟩ := f1
  obtain ⟨r0, _, wr0, rfl, r1, _, wr1, rfl, r2, _, wr2, rfl, rfl⟩ := f2
  subst e0 e1 e2
  clear hA0 hval0
  simp only [List.append_nil] at hW'
  refine (c6 s0 s1 s2 o0 o1 o2 o3 q0 q1 u0 u1 r0 r1 r2 (bounds_u8 ws0) (bounds_u8 ws1) (bounds_u8 ws2) (bounds_u8 wo0) (bounds_u8 wo1) (bounds_u8 wo2) (bounds_u8 wo3) (bounds_u8 wq0) (bounds_u8 wq1)
    (bounds_u16 wu0) (bounds_u16 wu1) (bounds_u8 wr0) (bounds_u8 wr1) (bounds_u8 wr2) (w := W)).mono fun e W' ⟨he, hg⟩ => ?_
  subst he
  have hlt : ∀ x ∈ p0 ++ (p1 ++ p2), x.block < W.heap.size := fun x hx => hW'.lt x (by simpa using hx)
  exact ⟨_, rfl, _, _, _, [], _, [], hW', trodAll_mk1 (shut_bool Try.underlying4 _),
    trodAll_mk3 (carried laidOut (by kernel_rfl) (of_decide_eq_true (by kernel_rfl)) h0 hg (fun x hx => hlt x (by simp [hx]))) (carried laidOut (by kernel_rfl) (of_decide_eq_true (by kernel_rfl)) h1 hg (fun x hx => hlt x (by simp [hx])))
      (carried laidOut (by kernel_rfl) (of_decide_eq_true (by kernel_rfl)) h2 hg (fun x hx => hlt x (by simp [hx]))),
    rfl, hg.below.frame _, fun h => by cases h⟩

theorem topBoltZone_holds : Rows.TopBoltZoneSaid :=
  OpenClaim.holds_of_wide 6 Try.f6 rfl rfl rfl rfl rfl rfl rfl ⟨rfl, rfl, rfl, rfl, rfl⟩ rfl rfl rfl rfl rfl (by kernel_rfl) Try.func6 (by kernel_rfl)
    (of_decide_eq_true (by kernel_rfl)) (by unfold Func.isWrapper; first | (rw [if_pos (by decide +kernel)]; kernel_rfl) | (rw [if_neg (by decide +kernel)]; exact ⟨rfl, rfl⟩))
    (fun os started H enc _ => top_lifted os started H enc)

#print axioms topBoltZone_holds
end Go.Proofs.Yteecidddfcbabaa
