/- Own layer: the rules for code. -/
import Derived.Test.YtdflfnednaleeaaCore
import Derived.RangeFuncNested
namespace Go.Proofs.Ytdflfnednaleeaa
open Go

abbrev AW := Act → World → Prop

/-- In a round of a loop over a function, or in none. -/
abbrev rf (ρ : Option Nat) : Fence := { Fence.wide with round := ρ }
/-- Code, walked. -/
abbrev cw (ρ : Option Nat) (P : Program) (c : Code) (Q : Exit → Act → World → Prop) : AW := c.wpIn (rf ρ) 3 P Q

/-- What is wanted at each way out of a statement. -/
def xlook : List (Nat × AW) → Nat → AW
  | [], _ => fun _ _ => False
  | (i, f) :: r, j => bif Nat.beq i j then f else xlook r j

def Qof (n r : AW) (xs : List (Nat × AW)) : Exit → Act → World → Prop
  | .normal, a, w => n a w
  | .ret, a, w => r a w
  | .exit id, a, w => xlook xs id a w
  | .goto _, _, _ => False
  | .panic _, _, _ => False
  | .outgrown, _, _ => False

/-- From every state of which this is known. -/
def Kn (N : Nat) (w0 : World) (M : List Nat) (Γ : Gam) (H : Hp) (F : AW) : Prop := ∀ a W, Holds N Γ a → Sat w0 M H W → F a W

theorem Kn.sub {N : Nat} {w0 : World} {M : List Nat} {Γ Γ' : Gam} {H H' : Hp} {F : AW} (hs : Sub Γ Γ') (hh : H'.Sublist H) (h : Kn N w0 M Γ' H' F) : Kn N w0 M Γ H F :=
  fun a W ha hW => h a W (ha.sub hs) (hW.drop hh)

/-- The knowledge that a family of states shares; where ways meet, and at a loop's head. -/
def Some {ι : Type} (N : Nat) (w0 : World) (M : List Nat) (Γ : ι → Gam) (H : ι → Hp) (p : ι → Prop) : AW := fun a W => ∃ i, p i ∧ Holds N (Γ i) a ∧ Sat w0 M (H i) W

section
variable {ρ : Option Nat} {P : Program} {N : Nat} {w0 : World} {M : List Nat} {Γ : Gam} {H : Hp} {n r : AW} {xs : List (Nat × AW)}

theorem k_seq {x y : Code} (h : Kn N w0 M Γ H (cw ρ P x (Qof (cw ρ P y (Qof n r xs)) r xs))) : Kn N w0 M Γ H (cw ρ P (Code.seq x y) (Qof n r xs)) :=
  fun a W ha hW => wpIn_seq (wpIn_mono (h a W ha hW) fun e a w q => by cases e <;> exact q)

theorem k_skip (h : Kn N w0 M Γ H n) : Kn N w0 M Γ H (cw ρ P Code.skip (Qof n r xs)) := fun a W ha hW => wpIn_skip (h a W ha hW)

theorem k_ret (h : Kn N w0 M Γ H r) : Kn N w0 M Γ H (cw ρ P Code.ret (Qof n r xs)) := fun a W ha hW => wpIn_ret (h a W ha hW)

theorem k_exit {id : Nat} {F : AW} (hx : xlook xs id = F) (h : Kn N w0 M Γ H F) : Kn N w0 M Γ H (cw ρ P (Code.exit id) (Qof n r xs)) :=
  fun a W ha hW => wpIn_exit (by show xlook xs id a W; rw [hx]; exact h a W ha hW)

theorem inBlock_of {id : Nat} : ∀ (e : Exit) (a : Act) (w : World), Qof n r ((id, n) :: xs) e a w → Exit.inBlock id (Qof n r xs) e a w := fun e a w q => by
  cases e with
  | exit id' =>
    show if id' = id then n a w else xlook xs id' a w
    have q' : (bif Nat.beq id id' then n else xlook xs id') a w := q
    by_cases hid : id' = id
    · subst hid
      rw [Nat.beq_refl] at q'
      rw [if_pos rfl]; exact q'
    · rw [if_neg hid]
      have hb : Nat.beq id id' = false := by
        cases hb : Nat.beq id id' with
        | false => rfl
        | true => exact absurd (Nat.eq_of_beq_eq_true hb).symm hid
      rw [hb] at q'; exact q'
  | _ => exact q

theorem k_block {id : Nat} {c : Code} (h : Kn N w0 M Γ H (cw ρ P c (Qof n r ((id, n) :: xs)))) : Kn N w0 M Γ H (cw ρ P (Code.block id c) (Qof n r xs)) :=
  fun a W ha hW => wpIn_block (wpIn_mono (h a W ha hW) inBlock_of)

theorem k_cond {c : Operand} {x y : Code} {t : Bool} (hc : ev Γ c = some (.bool t)) (ht : t = true → Kn N w0 M Γ H (cw ρ P x (Qof n r xs))) (hf : t = false → Kn N w0 M Γ H (cw ρ P y (Qof n r xs))) :
    Kn N w0 M Γ H (cw ρ P (Code.cond c x y) (Qof n r xs)) :=
  fun a W ha hW => wpIn_cond_split (ha.eval hc) (fun h => ht h a W ha hW) (fun h => hf h a W ha hW)

theorem k_true {c : Operand} {x y : Code} (hc : ev Γ c = some (.bool true)) (h : Kn N w0 M Γ H (cw ρ P x (Qof n r xs))) : Kn N w0 M Γ H (cw ρ P (Code.cond c x y) (Qof n r xs)) :=
  fun a W ha hW => wpIn_cond_true (ha.eval hc) (h a W ha hW)
theorem k_false {c : Operand} {x y : Code} (hc : ev Γ c = some (.bool false)) (h : Kn N w0 M Γ H (cw ρ P y (Qof n r xs))) : Kn N w0 M Γ H (cw ρ P (Code.cond c x y) (Qof n r xs)) :=
  fun a W ha hW => wpIn_cond_false (ha.eval hc) (h a W ha hW)
/-- A test whose Bool is known by an equation. -/
theorem k_then {c : Operand} {x y : Code} {t : Bool} (ht : t = true) (hc : ev Γ c = some (.bool t)) (h : Kn N w0 M Γ H (cw ρ P x (Qof n r xs))) : Kn N w0 M Γ H (cw ρ P (Code.cond c x y) (Qof n r xs)) := by
  subst ht; exact k_true hc h
theorem k_else {c : Operand} {x y : Code} {t : Bool} (ht : t = false) (hc : ev Γ c = some (.bool t)) (h : Kn N w0 M Γ H (cw ρ P y (Qof n r xs))) : Kn N w0 M Γ H (cw ρ P (Code.cond c x y) (Qof n r xs)) := by
  subst ht; exact k_false hc h

/-- Where ways meet. -/
theorem k_cut {ι : Type} {c : Code} (Γ' : ι → Gam) (H' : ι → Hp) (p : ι → Prop) (h : Kn N w0 M Γ H (cw ρ P c (Qof (Some N w0 M Γ' H' p) r xs))) (k : ∀ i, p i → Kn N w0 M (Γ' i) (H' i) n) :
    Kn N w0 M Γ H (cw ρ P c (Qof n r xs)) :=
  fun a W ha hW => wpIn_mono (h a W ha hW) fun e a w q => by
    cases e with
    | normal => obtain ⟨i, hp, h1, h2⟩ := q; exact k i hp a w h1 h2
    | _ => exact q

/-- To one of a family of states. -/
theorem k_some {ι : Type} {Γ' : ι → Gam} {H' : ι → Hp} {p : ι → Prop} (i : ι) (hp : p i) (hs : Sub Γ (Γ' i)) (hh : (H' i).Sublist H) : Kn N w0 M Γ H (Some N w0 M Γ' H' p) :=
  fun _ _ ha hW => ⟨i, hp, ha.sub hs, hW.drop hh⟩

/-- A loop, its states a family. -/
theorem wp_family {ι : Type} {c : Code} (St : ι → AW) (p : ι → Prop) (μ : ι → Nat) (i0 : ι) (hp : p i0) {Q : Exit → Act → World → Prop}
    (round : ∀ i a W, p i → St i a W → cw ρ P c (Exit.then (fun a' W' => ∃ j, (p j ∧ μ j < μ i) ∧ St j a' W') Q) a W) {a : Act} {W : World} (h0 : St i0 a W) : cw ρ P (Code.loop c) Q a W := by
  intro b k cs hro hb hr
  have key : ∀ m i, μ i = m → p i → ∀ a W, St i a W →
      ∃ e a' w', Q e a' w' ∧ ArrivesIn (Machine.fenced P (rf ρ)) P (lone (b.atR a (.code c :: .inLoop c :: k)) cs W) b k cs e a' w' := by
    intro m
    induction m using Nat.strongRecOn with
    | _ m ih =>
      intro i hm hpi a W hst
      obtain ⟨e, a1, w1, hq, harr⟩ := round i a W hpi hst b (.inLoop c :: k) cs hro hb hr
      cases e with
      | normal =>
        obtain ⟨j, ⟨hj, hlt⟩, h1⟩ := hq
        obtain ⟨e2, a2, w2, hq2, harr2⟩ := ih (μ j) (hm ▸ hlt) j rfl hj a1 w1 h1
        exact ⟨e2, a2, w2, hq2, .of_steps (StepsIn.trans harr (.one (fenced_calm hb hr rfl) stepR_inLoop)) harr2⟩
      | exit id => exact ⟨_, a1, w1, hq, .pass (x := .inLoop c) rfl (fun _ _ => .inl (by simp)) harr⟩
      | ret => exact ⟨_, a1, w1, hq, .pass (x := .inLoop c) rfl (fun _ _ => .inl (by simp)) harr⟩
      | goto l => exact ⟨_, a1, w1, hq, .pass (x := .inLoop c) rfl (fun _ _ => .inl (by simp)) harr⟩
      | panic ch => exact ⟨_, a1, w1, hq, .pass (x := .inLoop c) rfl (fun _ _ => .inl (by simp)) harr⟩
      | outgrown => exact ⟨_, a1, w1, hq, .pass (x := .inLoop c) rfl (fun _ _ => .inl (by simp)) harr⟩
  obtain ⟨e, a', w', hq, harr⟩ := key _ i0 rfl hp a W h0
  exact ⟨e, a', w', hq, .of_steps (.one (fenced_calm hb hr rfl) stepR_loop) harr⟩

/-- A loop: a family of states, and a measure that each round lowers. -/
theorem k_loop {ι : Type} {c : Code} (Γ' : ι → Gam) (H' : ι → Hp) (p : ι → Prop) (μ : ι → Nat) (i0 : ι) (hp : p i0) (hs : Sub Γ (Γ' i0)) (hh : (H' i0).Sublist H)
    (round : ∀ i, p i → Kn N w0 M (Γ' i) (H' i) (cw ρ P c (Qof (Some N w0 M Γ' H' (fun j => p j ∧ μ j < μ i)) r xs))) : Kn N w0 M Γ H (cw ρ P (Code.loop c) (Qof n r xs)) :=
  fun _ _ ha hW => wp_family (fun i a W => Holds N (Γ' i) a ∧ Sat w0 M (H' i) W) p μ i0 hp
    (fun i a W hpi hst => wpIn_mono (round i hpi a W hst.1 hst.2) fun e a w q => by cases e <;> exact q) ⟨ha.sub hs, hW.drop hh⟩

end
end Go.Proofs.Ytdflfnednaleeaa
