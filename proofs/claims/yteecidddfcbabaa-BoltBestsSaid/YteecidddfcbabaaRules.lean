/- Own layer: the rules for code. -/
import Derived.Test.YteecidddfcbabaaCore
namespace Go.Proofs.Yteecidddfcbabaa
open Go

abbrev AW := Act → World → Prop

/-- What is wanted at each way out of a statement. -/
def xlook : List (Nat × AW) → Nat → AW
  | [], _ => fun _ _ => False
  | (i, f) :: r, j => bif Nat.beq i j then f else xlook r j

def Qof (n r : AW) (xs : List (Nat × AW)) : Exit → Act → World → Prop
  | .normal, a, w => n a w
  | .ret, a, w => r a w
  | .exit id, a, w => xlook xs id a w
  | .goto _, _, _ => False
  | .panic _, _, _ => False
  | .outgrown, _, _ => False

/-- From every state of which this is known. -/
def Kn (N : Nat) (w0 : World) (M : List Nat) (Γ : Gam) (H : Hp) (F : AW) : Prop := ∀ a W, Holds N Γ a → Sat w0 M H W → F a W

theorem Kn.sub {N : Nat} {w0 : World} {M : List Nat} {Γ Γ' : Gam} {H H' : Hp} {F : AW} (hs : Sub Γ Γ') (hh : H'.Sublist H) (h : Kn N w0 M Γ' H' F) : Kn N w0 M Γ H F :=
  fun a W ha hW => h a W (ha.sub hs) (hW.drop hh)

/-- The knowledge that a family of states shares; where ways meet, and at a loop's head. -/
def Some {ι : Type} (N : Nat) (w0 : World) (M : List Nat) (Γ : ι → Gam) (H : ι → Hp) (p : ι → Prop) : AW := fun a W => ∃ i, p i ∧ Holds N (Γ i) a ∧ Sat w0 M (H i) W

section
variable {P : Program} {N : Nat} {w0 : World} {M : List Nat} {Γ : Gam} {H : Hp} {n r : AW} {xs : List (Nat × AW)}

theorem k_seq {x y : Code} (h : Kn N w0 M Γ H (x.wp P (Qof (y.wp P (Qof n r xs)) r xs))) : Kn N w0 M Γ H ((Code.seq x y).wp P (Qof n r xs)) :=
  fun a W ha hW => wp_seq (wp_mono (h a W ha hW) fun e a w q => by cases e <;> exact q)

theorem k_skip (h : Kn N w0 M Γ H n) : Kn N w0 M Γ H (Code.skip.wp P (Qof n r xs)) := fun a W ha hW => wp_skip (h a W ha hW)

theorem k_ret (h : Kn N w0 M Γ H r) : Kn N w0 M Γ H (Code.ret.wp P (Qof n r xs)) := fun a W ha hW => wp_ret (h a W ha hW)

theorem k_exit {id : Nat} {F : AW} (hx : xlook xs id = F) (h : Kn N w0 M Γ H F) : Kn N w0 M Γ H ((Code.exit id).wp P (Qof n r xs)) :=
  fun a W ha hW => wp_exit (by show xlook xs id a W; rw [hx]; exact h a W ha hW)

theorem k_block {id : Nat} {c : Code} (h : Kn N w0 M Γ H (c.wp P (Qof n r ((id, n) :: xs)))) : Kn N w0 M Γ H ((Code.block id c).wp P (Qof n r xs)) :=
  fun a W ha hW => wp_block (wp_mono (h a W ha hW) fun e a w q => by
    cases e with
    | exit id' =>
      show if id' = id then n a w else xlook xs id' a w
      have q' : (bif Nat.beq id id' then n else xlook xs id') a w := q
      by_cases hid : id' = id
      · subst hid
        rw [Nat.beq_refl] at q'
        rw [if_pos rfl]; exact q'
      · rw [if_neg hid]
        have hb : Nat.beq id id' = false := by
          cases hb : Nat.beq id id' with
          | false => rfl
          | true => exact absurd (Nat.eq_of_beq_eq_true hb).symm hid
        rw [hb] at q'; exact q'
    | _ => exact q)

theorem k_cond {c : Operand} {x y : Code} {t : Bool} (hc : ev Γ c = some (.bool t)) (ht : t = true → Kn N w0 M Γ H (x.wp P (Qof n r xs))) (hf : t = false → Kn N w0 M Γ H (y.wp P (Qof n r xs))) :
    Kn N w0 M Γ H ((Code.cond c x y).wp P (Qof n r xs)) :=
  fun a W ha hW => wp_cond_split (ha.eval hc) (fun h => ht h a W ha hW) (fun h => hf h a W ha hW)

theorem k_true {c : Operand} {x y : Code} (hc : ev Γ c = some (.bool true)) (h : Kn N w0 M Γ H (x.wp P (Qof n r xs))) : Kn N w0 M Γ H ((Code.cond c x y).wp P (Qof n r xs)) :=
  fun a W ha hW => wp_cond_true (ha.eval hc) (h a W ha hW)
theorem k_false {c : Operand} {x y : Code} (hc : ev Γ c = some (.bool false)) (h : Kn N w0 M Γ H (y.wp P (Qof n r xs))) : Kn N w0 M Γ H ((Code.cond c x y).wp P (Qof n r xs)) :=
  fun a W ha hW => wp_cond_false (ha.eval hc) (h a W ha hW)
/-- A test whose Bool is known by an equation. -/
theorem k_then {c : Operand} {x y : Code} {t : Bool} (ht : t = true) (hc : ev Γ c = some (.bool t)) (h : Kn N w0 M Γ H (x.wp P (Qof n r xs))) : Kn N w0 M Γ H ((Code.cond c x y).wp P (Qof n r xs)) := by
  subst ht; exact k_true hc h
theorem k_else {c : Operand} {x y : Code} {t : Bool} (ht : t = false) (hc : ev Γ c = some (.bool t)) (h : Kn N w0 M Γ H (y.wp P (Qof n r xs))) : Kn N w0 M Γ H ((Code.cond c x y).wp P (Qof n r xs)) := by
  subst ht; exact k_false hc h

/-- Where ways meet. -/
theorem k_cut {ι : Type} {c : Code} (Γ' : ι → Gam) (H' : ι → Hp) (p : ι → Prop) (h : Kn N w0 M Γ H (c.wp P (Qof (Some N w0 M Γ' H' p) r xs))) (k : ∀ i, p i → Kn N w0 M (Γ' i) (H' i) n) :
    Kn N w0 M Γ H (c.wp P (Qof n r xs)) :=
  fun a W ha hW => wp_mono (h a W ha hW) fun e a w q => by
    cases e with
    | normal => obtain ⟨i, hp, h1, h2⟩ := q; exact k i hp a w h1 h2
    | _ => exact q

/-- To one of a family of states. -/
theorem k_some {ι : Type} {Γ' : ι → Gam} {H' : ι → Hp} {p : ι → Prop} (i : ι) (hp : p i) (hs : Sub Γ (Γ' i)) (hh : (H' i).Sublist H) : Kn N w0 M Γ H (Some N w0 M Γ' H' p) :=
  fun _ _ ha hW => ⟨i, hp, ha.sub hs, hW.drop hh⟩

/-- A loop: a family of states, and a measure that each round lowers. -/
theorem k_loop {ι : Type} {c : Code} (Γ' : ι → Gam) (H' : ι → Hp) (p : ι → Prop) (μ : ι → Nat) (i0 : ι) (hp : p i0) (hs : Sub Γ (Γ' i0)) (hh : (H' i0).Sublist H)
    (round : ∀ i, p i → Kn N w0 M (Γ' i) (H' i) (c.wp P (Qof (Some N w0 M Γ' H' (fun j => p j ∧ μ j < μ i)) r xs))) : Kn N w0 M Γ H ((Code.loop c).wp P (Qof n r xs)) := by
  intro a W ha hW b k cs
  have key : ∀ m i, μ i = m → p i → ∀ a W, Holds N (Γ' i) a → Sat w0 M (H' i) W →
      ∃ e a' w', Qof n r xs e a' w' ∧ Arrives P (lone (b.at a (.code c :: .inLoop c :: k)) cs W) b k cs e a' w' := by
    intro m
    induction m using Nat.strongRecOn with
    | _ m ih =>
      intro i hm hpi a W ha hW
      obtain ⟨e, a1, w1, hq, harr⟩ := round i hpi a W ha hW b (.inLoop c :: k) cs
      cases e with
      | normal =>
        obtain ⟨j, ⟨hj, hlt⟩, h1, h2⟩ := hq
        obtain ⟨e2, a2, w2, hq2, harr2⟩ := ih (μ j) (hm ▸ hlt) j rfl hj a1 w1 h1 h2
        exact ⟨e2, a2, w2, hq2, .of_steps (Steps.trans harr (.one step_inLoop)) harr2⟩
      | exit id => exact ⟨.exit id, a1, w1, hq, .pass (x := .inLoop c) rfl (fun _ _ => .inl (by simp)) harr⟩
      | ret => exact ⟨.ret, a1, w1, hq, .pass (x := .inLoop c) rfl (fun _ _ => .inl (by simp)) harr⟩
      | goto l => exact hq.elim
      | panic ch => exact hq.elim
      | outgrown => exact hq.elim
  obtain ⟨e, a', w', hq, harr⟩ := key _ i0 rfl hp a W (ha.sub hs) (hW.drop hh)
  exact ⟨e, a', w', hq, .of_steps (.one step_loop) harr⟩

end
end Go.Proofs.Yteecidddfcbabaa
