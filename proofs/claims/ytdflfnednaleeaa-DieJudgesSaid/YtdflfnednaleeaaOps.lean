/- Own layer: one operation at a time. -/
import Derived.Test.YtdflfnednaleeaaRules
import Derived.OrdersIn
namespace Go.Proofs.Ytdflfnednaleeaa
open Go

section
variable {P : Program} {N : Nat} {w0 : World} {M : List Nat}

/-- An operation, from every state of which this is known: it yields v, and lays new blocks at most. -/
def ExV (P : Program) (N : Nat) (w0 : World) (M : List Nat) (Γ : Gam) (H : Hp) (o : Oper) (v : Value) : Prop :=
  ∀ a W (next : AW) (Q : Exit → Act → World → Prop), Holds N Γ a → Sat w0 M H W → (∀ W', Ext [] W W' → next (a.put o.dst v) W') → o.wp P a W next Q

/-- An operation: what it yields, and what is known of memory behind it. -/
def Ex (P : Program) (N : Nat) (w0 : World) (M bs : List Nat) (Γ : Gam) (H : Hp) (o : Oper) (φ : Value → Hp → Prop) : Prop :=
  ∀ a W (next : AW) (Q : Exit → Act → World → Prop), Holds N Γ a → Sat w0 M H W → (∀ v H' W', φ v H' → Sat w0 M H' W' → Ext bs W W' → next (a.put o.dst v) W') → o.wp P a W next Q

theorem ExV.ex {Γ : Gam} {H : Hp} {o : Oper} {v : Value} (h : ExV P N w0 M Γ H o v) : Ex P N w0 M [] Γ H o (fun u H' => u = v ∧ H' = H) :=
  fun a W next Q ha hW hn => h a W next Q ha hW fun W' hE => hn v H W' ⟨rfl, rfl⟩ (hW.ext0 hE) hE

/-- Some operations in a row, and what is wanted behind them. -/
def wpL (P : Program) (ops : Array Oper) (Q : Exit → Act → World → Prop) (next : AW) : List Nat → AW
  | [] => next
  | i :: rest => wpOp P ops Q i (wpL P ops Q next rest)

theorem wpL_ops {ops : Array Oper} {Q : Exit → Act → World → Prop} : ∀ l, wpL P ops Q (Q .normal) l = wpOps P ops Q l
  | [] => by funext a W; rfl
  | i :: rest => by funext a W; rw [wpOps_cons, ← wpL_ops rest]; rfl

theorem wpL_append {ops : Array Oper} {Q : Exit → Act → World → Prop} {next : AW} : ∀ l1 l2, wpL P ops Q next (l1 ++ l2) = wpL P ops Q (wpL P ops Q next l2) l1
  | [], _ => rfl
  | i :: l1, l2 => by show wpOp P ops Q i (wpL P ops Q next (l1 ++ l2)) = _; rw [wpL_append l1 l2]; rfl

theorem wpL_mono {ops : Array Oper} {Q : Exit → Act → World → Prop} {next next' : AW} (h : ∀ a W, next a W → next' a W) : ∀ l a W, wpL P ops Q next l a W → wpL P ops Q next' l a W
  | [], a, W, q => h a W q
  | _ :: rest, _, _, q => wpOp_mono (fun a W => wpL_mono h rest a W) q

/-- A stretch of a region, the operations themselves. -/
def OpsN (P : Program) (ops : Array Oper) (Q : Exit → Act → World → Prop) (next : AW) (N : Nat) (w0 : World) (M : List Nat) (suf : List Oper) (Γ : Gam) (H : Hp) : Prop :=
  ∀ k, (ops.toList.drop k).take suf.length = suf → Kn N w0 M Γ H (fun a W => wpL P ops Q next (List.range' k suf.length) a W)

variable {ops : Array Oper} {Q : Exit → Act → World → Prop} {next : AW} {Γ : Gam} {H : Hp}

/-- No 'defer' statement. -/
def ndB (o : Oper) : Bool := match o.op with
  | .defer _ => false
  | _ => true
theorem ndB_spec {o : Oper} (h : ndB o = true) : ∀ c, o.op ≠ .defer c := fun c e => by simp [ndB, e] at h

theorem Qof.kept {n r : AW} {xs : List (Nat × AW)} : ¬ LetsOut (Qof n r xs) := fun ⟨_, _, h⟩ => h

/-- What an operation comes to, in a round or in none. -/
theorem upon_in {ρ : Option Nat} {o : Oper} {a : Act} {next : AW} {Q : Exit → Act → World → Prop} : ∀ {x : Result Next}, o.upon P a next Q x → o.uponIn (rf ρ) 3 P a next Q x := by
  intro x h
  cases x with
  | ok m w =>
    cases m <;> simp only [Oper.upon] at h <;> simp only [Oper.uponIn]
    case value v => exact h
    case skip => exact h
    case defer d => exact h
    case enter f args =>
      refine ⟨(by intro e; cases e), ?_⟩
      have h2 := (callsIn_wide (n := 3 - 1)).2 h
      refine CallsIn.mono (show CallsIn (rf ρ) (3 - 1) P f args w _ from h2) fun e w'' he => ?_
      cases e <;> exact he
    case row row args =>
      refine ⟨(by intro e; cases e), fun c cs _ => ?_⟩
      obtain ⟨v, w', r, s⟩ := h c cs
      exact ⟨v, w', r, stepsIn_wide.2 s⟩
  | halt r w => cases r <;> simp only [Oper.upon] at h <;> simp only [Oper.uponIn] <;> exact h

theorem op_in {ρ : Option Nat} {o : Oper} (hnd : ndB o = true) {a : Act} {W : World} {next : AW} {Q : Exit → Act → World → Prop} (h : o.wp P a W next Q) : o.wpIn (rf ρ) 3 P a W next Q := by
  refine ⟨fun _ _ => trivial, ?_⟩
  rw [Oper.semAt_eq (rf ρ).round a.eval o (ndB_spec hnd)]
  exact upon_in h

theorem wpOp_in {ρ : Option Nat} {ops : Array Oper} (hnd : ops.toList.all ndB = true) {Q : Exit → Act → World → Prop} (hQ : ¬ LetsOut Q) {i : Nat} {K K' : AW} (hK : ∀ a W, K a W → K' a W) {a : Act} {W : World} (h : wpOp P ops Q i K a W) : wpOpIn (rf ρ) 3 P ops Q i K' a W := by
  unfold wpOp at h
  unfold wpOpIn
  cases ho : ops[i]? with
  | none => simp only [ho] at h ⊢; exact hK _ _ h
  | some o =>
    simp only [ho] at h ⊢
    have hm : o ∈ ops.toList := by
      have := Array.mem_of_getElem? ho
      simpa using this
    have hno := List.all_eq_true.1 hnd o hm
    by_cases hw : Region.wanted o (yielded ops a.tmps) = true
    · simp only [hw, if_true] at h ⊢
      rcases h with h | h
      · exact Oper.wpIn_mono hK (op_in hno h)
      · exact absurd h.2 hQ
    · simp only [hw] at h ⊢
      exact ⟨fun _ _ => trivial, hK _ _ h⟩

theorem wpOps_in {ρ : Option Nat} {ops : Array Oper} (hnd : ops.toList.all ndB = true) {Q : Exit → Act → World → Prop} (hQ : ¬ LetsOut Q) : ∀ (l : List Nat) {a : Act} {W : World}, wpOps P ops Q l a W → wpOpsIn (rf ρ) 3 P ops Q l a W
  | [], _, _, h => h
  | i :: rest, a, W, h => by
    rw [wpOps_cons] at h
    rw [wpOpsIn_cons]
    exact wpOp_in hnd hQ (fun a W => wpOps_in hnd hQ rest) h

theorem k_region {ρ : Option Nat} {id : Nat} {l : List Oper} {n r : AW} {xs : List (Nat × AW)} (h : OpsN P l.toArray (Qof n r xs) n N w0 M l Γ H) (hnd : l.all ndB = true := by rfl) : Kn N w0 M Γ H (cw ρ P (Code.region id l.toArray false) (Qof n r xs)) :=
  fun a W ha hW => wpIn_region (wpOps_in (by simpa using hnd) Qof.kept _ (by
    have := h 0 (by simp) a W ha hW
    rw [← List.range_eq_range'] at this
    have h2 : wpOps P l.toArray (Qof n r xs) (List.range l.length) a W := by rw [← wpL_ops]; exact this
    rwa [← List.size_toArray] at h2))

theorem o_nil (h : Kn N w0 M Γ H next) : OpsN P ops Q next N w0 M [] Γ H :=
  fun _ _ a W ha hW => h a W ha hW

theorem take_cons_get {ops : Array Oper} {k : Nat} {o : Oper} {rest : List Oper} (h : (ops.toList.drop k).take (o :: rest).length = o :: rest) :
    ops[k]? = some o ∧ (ops.toList.drop (k + 1)).take rest.length = rest := by
  have hd : ∃ t, ops.toList.drop k = o :: t := by
    cases hc : ops.toList.drop k with
    | nil => rw [hc] at h; simp at h
    | cons x t => rw [hc] at h; simp at h; exact ⟨t, by rw [h.1]⟩
  obtain ⟨t, ht⟩ := hd
  have h1 : ops.toList.drop (k + 1) = t := by
    have : (ops.toList.drop k).drop 1 = t := by rw [ht]; rfl
    simpa [Nat.add_comm] using this
  refine ⟨?_, ?_⟩
  · have : (ops.toList.drop k)[0]? = some o := by rw [ht]; rfl
    simpa using this
  · rw [h1]
    rw [ht] at h
    simpa using h

/-- A stretch cut in two. -/
theorem o_cut {ι : Type} {suf : List Oper} (k : Nat) (Γ' : ι → Gam) (H' : ι → Hp) (p : ι → Prop) (h : OpsN P ops Q (Some N w0 M Γ' H' p) N w0 M (suf.take k) Γ H)
    (h2 : ∀ i, p i → OpsN P ops Q next N w0 M (suf.drop k) (Γ' i) (H' i)) : OpsN P ops Q next N w0 M suf Γ H := by
  intro j hj a W ha hW
  have hlen : suf.length = (suf.take k).length + (suf.drop k).length := by rw [← List.length_append, List.take_append_drop]
  have e1 : (ops.toList.drop j).take (suf.take k).length = suf.take k := by
    have h0 : (suf.take k).length ≤ suf.length := by omega
    have : ((ops.toList.drop j).take suf.length).take (suf.take k).length = suf.take (suf.take k).length := by rw [hj]
    rw [List.take_take, Nat.min_eq_left h0] at this
    rw [this, List.length_take]
    rcases Nat.le_total k suf.length with hk | hk
    · rw [Nat.min_eq_left hk]
    · rw [Nat.min_eq_right hk, List.take_of_length_le (Nat.le_refl _), List.take_of_length_le hk]
  have e2 : (ops.toList.drop (j + (suf.take k).length)).take (suf.drop k).length = suf.drop k := by
    have : ((ops.toList.drop j).take suf.length).drop (suf.take k).length = suf.drop (suf.take k).length := by rw [hj]
    rw [List.drop_take, List.drop_drop] at this
    have hs : suf.drop (suf.take k).length = suf.drop k := by
      rw [List.length_take]
      rcases Nat.le_total k suf.length with hk | hk
      · rw [Nat.min_eq_left hk]
      · rw [Nat.min_eq_right hk, List.drop_of_length_le (Nat.le_refl _), List.drop_of_length_le hk]
    rw [hs] at this
    have hl : (suf.drop k).length = suf.length - (suf.take k).length := by omega
    rw [hl]; exact this
  rw [hlen]
  have : List.range' j ((suf.take k).length + (suf.drop k).length) = List.range' j (suf.take k).length ++ List.range' (j + (suf.take k).length) (suf.drop k).length := by
    rw [List.range'_append_1]
  rw [this, wpL_append]
  refine wpL_mono (fun a' W' hq => ?_) _ _ _ (h j e1 a W ha hW)
  obtain ⟨i, hp, h3, h4⟩ := hq
  exact h2 i hp _ e2 a' W' h3 h4

/-- One operation without a guard. -/
theorem o_step {o : Oper} {rest : List Oper} {φ : Value → Hp → Prop} {d : Nat} {bs : List Nat} (hx : Ex P N w0 M bs Γ H o φ)
    (k : ∀ v H', φ v H' → OpsN P ops Q next N w0 M rest ((d, v) :: Γ) H') (hg : o.guard = none := by rfl) (hd : o.dst = some d := by rfl) (hdN : d < N := by decide) : OpsN P ops Q next N w0 M (o :: rest) Γ H := by
  intro i hi a W ha hW
  obtain ⟨h1, h2⟩ := take_cons_get hi
  simp only [List.length_cons, List.range'_succ, wpL]
  unfold wpOp
  simp only [h1, Region.wanted, hg, if_true]
  refine .inl (hx a W _ Q ha hW fun v H' W' hφ hS _ => ?_)
  rw [hd]
  exact k v H' hφ (i + 1) h2 _ _ (ha.put hdN v) hS

theorem o_step_none {o : Oper} {rest : List Oper} {φ : Value → Hp → Prop} {bs : List Nat} (hx : Ex P N w0 M bs Γ H o φ)
    (k : ∀ v H', φ v H' → OpsN P ops Q next N w0 M rest Γ H') (hg : o.guard = none := by rfl) (hd : o.dst = none := by rfl) : OpsN P ops Q next N w0 M (o :: rest) Γ H := by
  intro i hi a W ha hW
  obtain ⟨h1, h2⟩ := take_cons_get hi
  simp only [List.length_cons, List.range'_succ, wpL]
  unfold wpOp
  simp only [h1, Region.wanted, hg, if_true]
  refine .inl (hx a W _ Q ha hW fun v H' W' hφ hS _ => ?_)
  rw [hd]
  exact k v H' hφ (i + 1) h2 _ _ ha hS

theorem wanted_of {ops : Array Oper} {a : Act} {o oj : Oper} {j d : Nat} {want b : Bool} (hg : o.guard = some (j, want)) (hj : ops[j]? = some oj) (hd : oj.dst = some d) (hb : a.tmps[d]? = some (.bool b)) :
    Region.wanted o (yielded ops a.tmps) = (b == want) := by
  simp [Region.wanted, hg, yielded, hj, hd, hb]

/-- The slot of a guard. -/
def gslot (ops : Array Oper) : Option (Nat × Bool) → Option (Nat × Bool)
  | some (j, want) => match ops[j]? with
    | some oj => match oj.dst with
      | some d => some (d, want)
      | none => none
    | none => none
  | none => none

theorem wanted_gslot {ops : Array Oper} {a : Act} {o : Oper} {d : Nat} {want b : Bool} (hg : gslot ops o.guard = some (d, want)) (hb : a.tmps[d]? = some (.bool b)) :
    Region.wanted o (yielded ops a.tmps) = (b == want) := by
  unfold gslot at hg
  split at hg
  · rename_i j w heq
    split at hg
    · rename_i oj hj
      split at hg
      · rename_i d' hd
        cases hg
        exact wanted_of heq hj hd hb
      · cases hg
    · cases hg
  · cases hg

/-- A guarded operation that is wanted. -/
theorem o_step_g {o : Oper} {rest : List Oper} {φ : Value → Hp → Prop} {d dj : Nat} {want : Bool} {bs : List Nat} (hx : Ex P N w0 M bs Γ H o φ)
    (k : ∀ v H', φ v H' → OpsN P ops Q next N w0 M rest ((d, v) :: Γ) H') (hg : gslot ops o.guard = some (dj, want) := by rfl)
    (hb : gl Γ dj = some (.bool want) := by rfl) (hd : o.dst = some d := by rfl) (hdN : d < N := by decide) : OpsN P ops Q next N w0 M (o :: rest) Γ H := by
  intro i hi a W ha hW
  obtain ⟨h1, h2⟩ := take_cons_get hi
  simp only [List.length_cons, List.range'_succ, wpL]
  unfold wpOp
  simp only [h1, wanted_gslot hg (ha.at_ _ _ hb), beq_self_eq_true, if_true]
  refine .inl (hx a W _ Q ha hW fun v H' W' hφ hS _ => ?_)
  rw [hd]
  exact k v H' hφ (i + 1) h2 _ _ (ha.put hdN v) hS

/-- A guarded operation that is passed over. -/
theorem o_skip {o : Oper} {rest : List Oper} {d dj : Nat} {want b : Bool} (k : OpsN P ops Q next N w0 M rest ((d, undef) :: Γ) H) (hg : gslot ops o.guard = some (dj, want) := by rfl)
    (hb : gl Γ dj = some (.bool b) := by rfl) (hne : (b == want) = false := by rfl) (hd : o.dst = some d := by rfl) (hdN : d < N := by decide) : OpsN P ops Q next N w0 M (o :: rest) Γ H := by
  intro i hi a W ha hW
  obtain ⟨h1, h2⟩ := take_cons_get hi
  simp only [List.length_cons, List.range'_succ, wpL]
  unfold wpOp
  simp only [h1, wanted_gslot hg (ha.at_ _ _ hb), hne, Bool.false_eq_true, if_false]
  rw [hd]
  exact k (i + 1) h2 _ _ (ha.put hdN undef) hW

theorem o_val {o : Oper} {rest : List Oper} {v : Value} {d : Nat} (hx : ExV P N w0 M Γ H o v)
    (k : OpsN P ops Q next N w0 M rest ((d, v) :: Γ) H) (hg : o.guard = none := by rfl) (hd : o.dst = some d := by rfl) (hdN : d < N := by decide) : OpsN P ops Q next N w0 M (o :: rest) Γ H :=
  o_step hx.ex (by rintro _ _ ⟨rfl, rfl⟩; exact k) hg hd hdN

theorem o_val_g {o : Oper} {rest : List Oper} {v : Value} {d dj : Nat} {want : Bool} (hx : ExV P N w0 M Γ H o v)
    (k : OpsN P ops Q next N w0 M rest ((d, v) :: Γ) H) (hg : gslot ops o.guard = some (dj, want) := by rfl)
    (hb : gl Γ dj = some (.bool want) := by rfl) (hd : o.dst = some d := by rfl) (hdN : d < N := by decide) : OpsN P ops Q next N w0 M (o :: rest) Γ H :=
  o_step_g hx.ex (by rintro _ _ ⟨rfl, rfl⟩; exact k) hg hb hd hdN

/-- A test: both ways. -/
theorem o_split {o : Oper} {rest : List Oper} {b : Bool} {d : Nat} (hx : ExV P N w0 M Γ H o (.bool b))
    (kt : b = true → OpsN P ops Q next N w0 M rest ((d, .bool true) :: Γ) H) (kf : b = false → OpsN P ops Q next N w0 M rest ((d, .bool false) :: Γ) H)
    (hg : o.guard = none := by rfl) (hd : o.dst = some d := by rfl) (hdN : d < N := by decide) : OpsN P ops Q next N w0 M (o :: rest) Γ H :=
  o_val hx (by cases b with
    | true => exact kt rfl
    | false => exact kf rfl) hg hd hdN

/-! ### The values -/

theorem exv_run {o : Oper} {v : Value} (h : ∀ a W, Holds N Γ a → Sat w0 M H W → (execOp a.eval o).run P W = .ok (.value v) W) : ExV P N w0 M Γ H o v :=
  fun a W next Q ha hW hn => by
    unfold Oper.wp
    rw [h a W ha hW]
    exact hn W (Ext.refl _ _)

variable {ty : Nat} {pos : String} {aft : Array Edge} {grd : Option (Nat × Bool)} {dst : Option Nat}

theorem ex_move {x : Operand} {v : Value} (hx : ev Γ x = some v) : ExV P N w0 M Γ H ⟨dst, .move x, ty, pos, aft, grd⟩ v :=
  exv_run fun a W ha _ => by simp [execOp, ha.eval hx]
theorem ex_assign {x : Operand} {v : Value} (hx : ev Γ x = some v) : ExV P N w0 M Γ H ⟨dst, .assign x, ty, pos, aft, grd⟩ v :=
  exv_run fun a W ha _ => by simp [execOp, ha.eval hx]
theorem ex_pick {c x y : Operand} {b : Bool} {v : Value} (hc : ev Γ c = some (.bool b)) (hv : (if b then ev Γ x else ev Γ y) = some v) :
    ExV P N w0 M Γ H ⟨dst, .pick c x y, ty, pos, aft, grd⟩ v :=
  exv_run fun a W ha _ => by
    cases b with
    | true => simp at hv; simp [execOp, ha.eval hc, asBool, ha.eval hv]
    | false => simp at hv; simp [execOp, ha.eval hc, asBool, ha.eval hv]

theorem ex_not {t : TypeId} {x : Operand} {b : Bool} (hx : ev Γ x = some (.bool b)) : ExV P N w0 M Γ H ⟨dst, .unOp .not t x, ty, pos, aft, grd⟩ (.bool (!b)) :=
  exv_run fun a W ha _ => by simp [execOp, ha.eval hx, Op.unary]

end
end Go.Proofs.Ytdflfnednaleeaa
