/- Calls in guarded stretches that hand back slices; Compact of a slice of one's own. -/
import Derived.Test.YtdflfnednaleeaaD12
namespace Go.Proofs.Ytdflfnednaleeaa
open Go

theorem Sat.dropTurned {w0 : World} {M : List Nat} {x H : Hp} {W W' : World} (h : Sat w0 M (x ++ H) W) (k : Ext (x.map (·.b)) W W') : Sat w0 M H W' := by
  have hn := h.nodup
  rw [List.map_append, List.nodup_append] at hn
  refine ⟨h.ext.trans k (fun z hz hlt => ?_), fun e he => ?_, fun e he => h.new e (List.mem_append_right _ he), hn.2.1⟩
  · obtain ⟨e, he, rfl⟩ := List.mem_map.1 hz
    rcases h.new e (List.mem_append_left _ he) with h | h
    · omega
    · exact h
  · rw [k.block e.b (h.lt (List.mem_append_right _ he)) (fun hm => hn.2.2 _ hm _ (List.mem_map.2 ⟨e, he, rfl⟩) rfl)]
    exact h.at_ e (List.mem_append_right _ he)

theorem compact_own {is : List Int} {v : Value} {x H : Hp} (ho : OwnsV 3 1 v is.length (is.map (Value.int .i64)) x) (hl : is.length < 4611686018427387904) {w0 : World} {M : List Nat} {W : World} (hW : Sat w0 M (x ++ H) W) :
    Calls Try.prog 101 [v].toArray W (fun e W' => ∃ A m c, e = .returned (.slice A m c) ∧ (m = is.length ↔ adjNe is) ∧ Ext (x.map (·.b)) W W') := by
  obtain ⟨hx, hc⟩ := ho
  rcases hc with ⟨rfl, h0, rfl⟩ | ⟨g, cap, cs, rfl, rfl, h1, h2, h3, h4⟩
  · exact (s101 (w := W)).mono fun e W' ⟨he, hE⟩ => ⟨_, _, _, he, ⟨fun _ => adjNe_short (by omega), fun _ => h0.symm⟩, hE⟩
  · have hcs : cs = is.map (Value.int .i64) ++ cs.drop is.length := by
      rw [← h4, Nat.mul_one, List.take_append_drop]
    have hcap : cap = is.length + (cs.drop is.length).length := by rw [List.length_drop, h3]; omega
    have hb : W.heap[g]? = some (.cells (is.map (Value.int .i64) ++ cs.drop is.length).toArray 3 (0, 0)) := by
      rw [← hcs]; exact hW.at_ ⟨g, 3, cs, true⟩ (by simp)
    have := c101 is (cs.drop is.length) hb hl
    rw [← hcap] at this
    exact this

section
variable {P : Program} {N : Nat} {w0 : World} {M : List Nat} {Γ : Gam} {H : Hp} {ops : Array Oper} {Q : Exit → Act → World → Prop} {next : AW} {rest : List Oper} {ty : Nat} {pos : String} {aft : Array Edge} {grd : Option (Nat × Bool)} {d dj : Nat} {want : Bool}
theorem o_callO_g {e : TypeId} {f size cnt : Nat} {args : List Operand} {vs : List Value} {ats : Array TypeId} {es : List Value} (hcall : ∀ l W, (callFunc f l).run P W = .ok (.enter f l) W) (hargs : evs Γ args = some vs)
    (hc : ∀ W, Sat w0 M H W → Calls P f vs.toArray W (fun x W' => ∃ v, x = .returned v ∧ FreshV e size v cnt es W W' ∧ Ext [] W W'))
    (k : ∀ v Hx, OwnsV e size v cnt es Hx → OpsN P ops Q next N w0 M rest ((d, v) :: Γ) (Hx ++ H)) (hg : gslot ops grd = some (dj, want) := by rfl)
    (hb : gl Γ dj = some (.bool want) := by rfl) (hdN : d < N := by decide) : OpsN P ops Q next N w0 M (⟨some d, .call ⟨.value (.func f), args.toArray, ats⟩, ty, pos, aft, grd⟩ :: rest) Γ H :=
  o_step_g (ex_callO hcall hargs hc) (by rintro v _ ⟨Hx, h, rfl⟩; exact k v Hx h) hg hb rfl hdN
/-- A call that takes a slice of one's own, and gives back another slice. -/
theorem o_compact_g {f : Nat} {args : List Operand} {vs : List Value} {ats : Array TypeId} {φ : Value → Prop} {x : Hp} (hcall : ∀ l W, (callFunc f l).run P W = .ok (.enter f l) W) (hargs : evs Γ args = some vs)
    (hc : ∀ W, Sat w0 M (x ++ H) W → Calls P f vs.toArray W (fun e W' => ∃ v, e = .returned v ∧ φ v ∧ Ext (x.map (·.b)) W W'))
    (k : ∀ (v : Value) (_ : Hp), φ v → OpsN P ops Q next N w0 M rest ((d, v) :: Γ) H) (hg : gslot ops grd = some (dj, want) := by rfl)
    (hb : gl Γ dj = some (.bool want) := by rfl) (hdN : d < N := by decide) : OpsN P ops Q next N w0 M (⟨some d, .call ⟨.value (.func f), args.toArray, ats⟩, ty, pos, aft, grd⟩ :: rest) Γ (x ++ H) :=
  o_step_g (ex_callF (bs := x.map (·.b)) (φ := fun v H' => φ v ∧ H' = H) hcall hargs fun W hW => (hc W hW).mono fun e W' ⟨v, he, hφ, hE⟩ => ⟨v, H, he, ⟨hφ, rfl⟩, hW.dropTurned hE, hE⟩)
    (by rintro v _ ⟨h, rfl⟩; exact k v [] h) hg hb rfl hdN
end
end Go.Proofs.Ytdflfnednaleeaa
