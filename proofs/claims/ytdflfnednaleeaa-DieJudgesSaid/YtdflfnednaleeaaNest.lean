/- Own layer: '&&' and '||' with guards within guards. -/
import Derived.Test.YtdflfnednaleeaaMore
namespace Go.Proofs.Ytdflfnednaleeaa
open Go

section
variable {P : Program} {N : Nat} {w0 : World} {M : List Nat} {Γ : Gam} {H : Hp} {ops : Array Oper} {Q : Exit → Act → World → Prop} {next : AW}

/-- All of a stretch is passed over; some guards are slots that were passed over. -/
def skipsN (ops : Array Oper) (g : Nat) (want : Bool) : List Nat → List Oper → Bool
  | _, [] => true
  | sk, o :: r => match gslot ops o.guard with
    | some (j, w) => match o.dst with
      | some d => ((Nat.beq j g && (w == want)) || sk.contains j) && skipsN ops g want (d :: sk) r
      | none => false
    | none => false

theorem wanted_undef {ops : Array Oper} {a : Act} {o : Oper} {d : Nat} {want : Bool} (hg : gslot ops o.guard = some (d, want)) (hb : a.tmps[d]? = some undef) :
    Region.wanted o (yielded ops a.tmps) = false := by
  unfold gslot at hg
  split at hg
  · rename_i j w heq
    split at hg
    · rename_i oj hj
      split at hg
      · rename_i d' hd
        cases hg
        simp [Region.wanted, heq, yielded, hj, hd, hb, undef]
      · cases hg
    · cases hg
  · cases hg

theorem o_skip_undef {o : Oper} {rest : List Oper} {d dj : Nat} {want : Bool} (k : OpsN P ops Q next N w0 M rest ((d, undef) :: Γ) H) (hg : gslot ops o.guard = some (dj, want))
    (hb : gl Γ dj = some undef) (hd : o.dst = some d) (hdN : d < N) : OpsN P ops Q next N w0 M (o :: rest) Γ H := by
  intro i hi a W ha hW
  obtain ⟨h1, h2⟩ := take_cons_get hi
  simp only [List.length_cons, List.range'_succ, wpL]
  unfold wpOp
  simp only [h1, wanted_undef hg (ha.at_ _ _ hb), Bool.false_eq_true, if_false]
  rw [hd]
  exact k (i + 1) h2 _ _ (ha.put hdN undef) hW

theorem o_skipsN {r : List Oper} {g : Nat} {want b : Bool} (hne : (b == want) = false) {Γ0 : Gam} (hb0 : gl Γ0 g = some (.bool b)) (k : OpsN P ops Q next N w0 M r Γ0 H) :
    ∀ (l : List Oper) (sk : List Nat) (Γ : Gam), skipsN ops g want sk l = true → (∀ d, d ∈ dsts l → gl Γ0 d = none) → (∀ d, d ∈ dsts l → d < N) → Sub Γ Γ0 → (∀ j, j ∈ sk → gl Γ j = some undef) → OpsN P ops Q next N w0 M (l ++ r) Γ H
  | [], _, Γ, _, _, _, hs, _ => k.sub hs (List.Sublist.refl _)
  | o :: l, sk, Γ, h, hf, hN, hs, hu => by
    unfold skipsN at h
    cases hgs : gslot ops o.guard with
    | none => rw [hgs] at h; cases h
    | some p =>
      obtain ⟨j, w⟩ := p
      rw [hgs] at h
      cases hd : o.dst with
      | none => rw [hd] at h; cases h
      | some d =>
        rw [hd] at h
        simp only [Bool.and_eq_true, Bool.or_eq_true] at h
        obtain ⟨h1, h3⟩ := h
        have hds : dsts (o :: l) = d :: dsts l := by simp only [dsts, hd]
        rw [hds] at hf hN
        have hd0 := hf d (List.mem_cons_self ..)
        have hrec := o_skipsN hne hb0 k l (d :: sk) ((d, undef) :: Γ) h3 (fun x hx => hf x (List.mem_cons_of_mem _ hx)) (fun x hx => hN x (List.mem_cons_of_mem _ hx)) (Sub.skip hd0 hs)
          (fun x hx => by
            by_cases hxd : d = x
            · subst hxd; exact gl_cons_same _ _ _
            · rw [gl_cons_other hxd]
              rcases List.mem_cons.1 hx with e | hx
              · exact absurd e.symm hxd
              · exact hu x hx)
        rcases h1 with ⟨h1, h2⟩ | h1
        · have hj : j = g := Nat.eq_of_beq_eq_true h1
          have hw : w = want := by simpa using h2
          subst hj; subst hw
          exact o_skip hrec hgs (hs _ _ hb0) hne hd (hN d (List.mem_cons_self ..))
        · exact o_skip_undef hrec hgs (hu j (by simpa using h1)) hd (hN d (List.mem_cons_self ..))

theorem o_pickN {suf rest : List Oper} (m : Nat) {g pd xs : Nat} {b w c : Bool} {ty : TypeId} {pos : String} {aft : Array Edge} {x y : Operand}
    (hb : gl Γ g = some (.bool b)) (hsk : skipsN ops g w [] (suf.take m) = true) (hp : suf.drop m = ⟨some pd, .pick (.tmp g) x y, ty, pos, aft, none⟩ :: rest)
    (hx : (if w then x else y) = .tmp xs) (hy : (if w then y else x) = .const (.bool (!w))) (hxs : (dsts (suf.take m)).contains xs = true)
    (hf : fresh Γ (dsts (suf.take m)) = true) (hN : (dsts (suf.take m)).all (Nat.blt · N) = true) (hpd : Nat.blt pd N = true)
    (h : b = w → OpsN P ops Q (Got N w0 M xs (.bool c) H) N w0 M (suf.take m) ((g, .bool w) :: Γ) H) (k : OpsN P ops Q next N w0 M rest ((pd, .bool (if b = w then c else !w)) :: Γ) H) : OpsN P ops Q next N w0 M suf Γ H := by
  have hxd : gl Γ xs = none := fresh_spec hf xs (by simpa using hxs)
  have hgx : xs ≠ g := fun e => by rw [← e, hxd] at hb; cases hb
  by_cases hbw : b = w
  · rw [if_pos hbw] at k
    refine o_side m hf (OpsN.known (by rw [hb, hbw]) (h hbw)) ?_
    rw [hp]
    have hev : ev ((xs, .bool c) :: Γ) (.tmp g) = some (.bool b) := by
      show gl _ g = _
      rw [gl_cons_other hgx]; exact hb
    refine o_val (v := .bool c) (ex_pick hev ?_) (OpsN.sub (Sub.both (Sub.skip hxd (Sub.refl _))) (List.Sublist.refl _) k) rfl rfl (Nat.le_of_ble_eq_true hpd)
    · subst hbw
      cases b with
      | true => simp only [if_true] at hx ⊢; rw [hx]; exact gl_cons_same _ _ _
      | false => simp only [Bool.false_eq_true, if_false] at hx ⊢; rw [hx]; exact gl_cons_same _ _ _
  · rw [if_neg hbw] at k
    refine o_take_drop m (o_skipsN (by simpa using hbw) hb ?_ _ [] Γ hsk (fresh_spec hf) (fun d hd => Nat.le_of_ble_eq_true (List.all_eq_true.1 hN d hd)) (Sub.refl _) (fun j hj => by cases hj))
    rw [hp]
    refine o_val (v := .bool (!w)) (ex_pick (show ev Γ (.tmp g) = _ from hb) ?_) k rfl rfl (Nat.le_of_ble_eq_true hpd)
    have hbn : b = !w := by cases b <;> cases w <;> simp_all
    subst hbn
    cases w with
    | true => simp only [Bool.not_true, Bool.false_eq_true, if_false, if_true] at hy ⊢; rw [hy]; rfl
    | false => simp only [Bool.not_false, if_true, Bool.false_eq_true, if_false] at hy ⊢; rw [hy]; rfl

/-- 'b && ..', with more of the kind within. -/
theorem o_andN {suf rest : List Oper} (m : Nat) {g pd xs : Nat} {b c : Bool} {ty : TypeId} {pos : String} {aft : Array Edge}
    (h : b = true → OpsN P ops Q (Got N w0 M xs (.bool c) H) N w0 M (suf.take m) ((g, .bool true) :: Γ) H) (k : OpsN P ops Q next N w0 M rest ((pd, .bool (b && c)) :: Γ) H)
    (hp : suf.drop m = ⟨some pd, .pick (.tmp g) (.tmp xs) (.const (.bool false)), ty, pos, aft, none⟩ :: rest := by rfl)
    (hb : gl Γ g = some (.bool b) := by rfl) (hsk : skipsN ops g true [] (suf.take m) = true := by rfl) (hxs : (dsts (suf.take m)).contains xs = true := by rfl)
    (hf : fresh Γ (dsts (suf.take m)) = true := by rfl) (hN : (dsts (suf.take m)).all (Nat.blt · N) = true := by rfl) (hpd : Nat.blt pd N = true := by rfl) : OpsN P ops Q next N w0 M suf Γ H :=
  o_pickN m (w := true) (c := c) hb hsk hp rfl rfl hxs hf hN hpd h (by cases b <;> exact k)
/-- 'b || ..', with more of the kind within. -/
theorem o_orN {suf rest : List Oper} (m : Nat) {g pd xs : Nat} {b c : Bool} {ty : TypeId} {pos : String} {aft : Array Edge}
    (h : b = false → OpsN P ops Q (Got N w0 M xs (.bool c) H) N w0 M (suf.take m) ((g, .bool false) :: Γ) H) (k : OpsN P ops Q next N w0 M rest ((pd, .bool (b || c)) :: Γ) H)
    (hp : suf.drop m = ⟨some pd, .pick (.tmp g) (.const (.bool true)) (.tmp xs), ty, pos, aft, none⟩ :: rest := by rfl)
    (hb : gl Γ g = some (.bool b) := by rfl) (hsk : skipsN ops g false [] (suf.take m) = true := by rfl) (hxs : (dsts (suf.take m)).contains xs = true := by rfl)
    (hf : fresh Γ (dsts (suf.take m)) = true := by rfl) (hN : (dsts (suf.take m)).all (Nat.blt · N) = true := by rfl) (hpd : Nat.blt pd N = true := by rfl) : OpsN P ops Q next N w0 M suf Γ H :=
  o_pickN m (w := false) (c := c) hb hsk hp rfl rfl hxs hf hN hpd h (by cases b <;> exact k)

end
end Go.Proofs.Ytdflfnednaleeaa
