/- Calls that hand back what lies in one block of its own, or a slice of its own and an error. -/
import Derived.Test.YtdflfnednaleeaaD15
namespace Go.Proofs.Ytdflfnednaleeaa
open Go

section
variable {P : Program} {N : Nat} {w0 : World} {M : List Nat} {Γ : Gam} {H : Hp} {ops : Array Oper} {Q : Exit → Act → World → Prop} {next : AW} {rest : List Oper} {ty : Nat} {pos : String} {aft : Array Edge} {grd : Option (Nat × Bool)} {d : Nat}
theorem ex_callE {dst : Option Nat} {f : Nat} {args : List Operand} {vs : List Value} {ats : Array TypeId} (vf : Nat → Value) (tb : TypeId) (cs : List Value) (hcall : ∀ l W, (callFunc f l).run P W = .ok (.enter f l) W) (hargs : evs Γ args = some vs)
    (hc : ∀ W, Sat w0 M H W → Calls P f vs.toArray W (fun e W' => ∃ g, e = .returned (vf g) ∧ W.heap.size ≤ g ∧ W'.heap[g]? = some (.cells cs.toArray tb (0, 0)) ∧ Ext [] W W')) :
    Ex P N w0 M [] Γ H ⟨dst, .call ⟨.value (.func f), args.toArray, ats⟩, ty, pos, aft, grd⟩ (fun v H' => ∃ g, v = vf g ∧ H' = ⟨g, tb, cs, true⟩ :: H) :=
  ex_callF hcall hargs fun W hW => (hc W hW).mono fun _ _ ⟨g, he, hg, hb, hE⟩ => ⟨vf g, ⟨g, tb, cs, true⟩ :: H, he, ⟨g, rfl, rfl⟩, hW.take hE ⟨g, tb, cs, true⟩ hg hb, hE⟩
theorem o_callE {f : Nat} {args : List Operand} {vs : List Value} {ats : Array TypeId} (vf : Nat → Value) (tb : TypeId) (cs : List Value) (hcall : ∀ l W, (callFunc f l).run P W = .ok (.enter f l) W) (hargs : evs Γ args = some vs)
    (hc : ∀ W, Sat w0 M H W → Calls P f vs.toArray W (fun e W' => ∃ g, e = .returned (vf g) ∧ W.heap.size ≤ g ∧ W'.heap[g]? = some (.cells cs.toArray tb (0, 0)) ∧ Ext [] W W'))
    (k : ∀ g, OpsN P ops Q next N w0 M rest ((d, vf g) :: Γ) (⟨g, tb, cs, true⟩ :: H)) (hdN : d < N := by decide) : OpsN P ops Q next N w0 M (⟨some d, .call ⟨.value (.func f), args.toArray, ats⟩, ty, pos, aft, none⟩ :: rest) Γ H :=
  o_step (ex_callE vf tb cs hcall hargs hc) (by rintro _ _ ⟨g, rfl, rfl⟩; exact k g) rfl rfl hdN
theorem rs_callE {n r : AW} {xs : List (Nat × AW)} {D : List DetOp} {m : Nat} {L : Array Bool} {j : Nat} {f : Nat} {args : List Operand} {vs : List Value} {ats : Array TypeId} (vf : Nat → Value) (tb : TypeId) (cs : List Value) (hcall : ∀ l W, (callFunc f l).run P W = .ok (.enter f l) W) (hargs : evs Γ args = some vs)
    (hc : ∀ W, Sat w0 M H W → Calls P f vs.toArray W (fun e W' => ∃ g, e = .returned (vf g) ∧ W.heap.size ≤ g ∧ W'.heap[g]? = some (.cells cs.toArray tb (0, 0)) ∧ Ext [] W W'))
    (k : ∀ g, RestJ P ops N w0 M n r xs D m (L.setIfInBounds j true) ((d, vf g) :: Γ) (⟨g, tb, cs, true⟩ :: H)) (hj : ops[j]? = some ⟨some d, .call ⟨.value (.func f), args.toArray, ats⟩, ty, pos, aft, none⟩ := by rfl) (hN : Nat.blt d N = true := by rfl) :
    RSt P ops N w0 M n r xs D m L Γ H j :=
  rs_step (ex_callE vf tb cs hcall hargs hc) Keeps.none (by rintro _ _ ⟨g, rfl, rfl⟩; exact k g) hj rfl rfl hN
theorem rs_callB {n r : AW} {xs : List (Nat × AW)} {D : List DetOp} {m : Nat} {L : Array Bool} {j : Nat} {f : Nat} {args : List Operand} {vs : List Value} {ats : Array TypeId} {φ : Value → Hp → Prop} (hcall : ∀ l W, (callFunc f l).run P W = .ok (.enter f l) W) (hargs : evs Γ args = some vs)
    (hc : ∀ W, Sat w0 M H W → Calls P f vs.toArray W (fun e W' => ∃ v x, e = .returned v ∧ φ v x ∧ (∀ e, e ∈ x → W.heap.size ≤ e.b ∧ W'.heap[e.b]? = some e.obj) ∧ (x.map (·.b)).Nodup ∧ Ext [] W W'))
    (k : ∀ v x, φ v x → RestJ P ops N w0 M n r xs D m (L.setIfInBounds j true) ((d, v) :: Γ) (x ++ H)) (hj : ops[j]? = some ⟨some d, .call ⟨.value (.func f), args.toArray, ats⟩, ty, pos, aft, none⟩ := by rfl) (hN : Nat.blt d N = true := by rfl) :
    RSt P ops N w0 M n r xs D m L Γ H j :=
  rs_step (ex_callF (bs := []) (φ := fun v H' => ∃ x, φ v x ∧ H' = x ++ H) hcall hargs fun W hW => (hc W hW).mono fun _ _ ⟨v, x, he, hφ, h1, h2, hE⟩ => ⟨v, x ++ H, he, ⟨x, hφ, rfl⟩, hW.takeL hE h1 h2, hE⟩) Keeps.none (by rintro v _ ⟨x, h, rfl⟩; exact k v x h) hj rfl rfl hN
theorem o_callT {e : TypeId} {f size cnt : Nat} {args : List Operand} {vs : List Value} {ats : Array TypeId} {es : List Value} {u : Value} (hcall : ∀ l W, (callFunc f l).run P W = .ok (.enter f l) W) (hargs : evs Γ args = some vs)
    (hc : ∀ W, Sat w0 M H W → Calls P f vs.toArray W (fun x W' => ∃ v, x = .returned (.tuple #[v, u]) ∧ FreshV e size v cnt es W W' ∧ Ext [] W W'))
    (k : ∀ v Hx, OwnsV e size v cnt es Hx → OpsN P ops Q next N w0 M rest ((d, .tuple #[v, u]) :: Γ) (Hx ++ H)) (hdN : d < N := by decide) : OpsN P ops Q next N w0 M (⟨some d, .call ⟨.value (.func f), args.toArray, ats⟩, ty, pos, aft, none⟩ :: rest) Γ H :=
  o_step (ex_callF (bs := []) (φ := fun x H' => ∃ v Hx, x = .tuple #[v, u] ∧ OwnsV e size v cnt es Hx ∧ H' = Hx ++ H) hcall hargs fun W hW => (hc W hW).mono fun x W' ⟨v, hx, hF, hE⟩ => by
    obtain ⟨Hx, h1, h2⟩ := hF.take hW hE
    exact ⟨_, Hx ++ H, hx, ⟨v, Hx, rfl, h1, rfl⟩, h2, hE⟩) (by rintro _ _ ⟨v, Hx, rfl, h, rfl⟩; exact k v Hx h) rfl rfl hdN
/-- What a function hands back that lies in one block. -/
theorem give1 {w : World} {W : World} {g : Nat} {tb : TypeId} {cs : List Value} (hW : Sat w [] H W) (hm : (⟨g, tb, cs, true⟩ : Ent) ∈ H) : w.heap.size ≤ g ∧ W.heap[g]? = some (.cells cs.toArray tb (0, 0)) ∧ Ext [] w W :=
  ⟨(by
    rcases hW.new _ hm with h | h
    · exact h
    · cases h), hW.at_ _ hm, hW.ext⟩
end
theorem plan_at {W : World} {g : Nat} {xs vs : List Value} (h : ∀ j u, xs[j]? = some u → W.cell? ⟨g, j, none⟩ = some u) (k j : Nat) (v : Value) (hj : vs[j]? = some v) (hx : (xs.drop (k * 2)).take 2 = vs) : W.cell? (((⟨g, 0, none⟩ : Addr).add (k * 2)).add j) = some v := by
  rw [add_lit, add_lit, Nat.zero_add]
  refine h _ v ?_
  rw [← hx, List.getElem?_take] at hj
  split at hj
  · rw [List.getElem?_drop] at hj; exact hj
  · cases hj
end Go.Proofs.Ytdflfnednaleeaa
