/- Own layer: ranges over functions: the iterator's side, and the loop's side. -/
import Derived.Test.YtdflfnednaleeaaSlc
import Derived.Test.YtdflfnednaleeaaNest
namespace Go.Proofs.Ytdflfnednaleeaa
open Go

/-! ### The iterator -/
/-- What a range over a function asks of it: rounds 0 .. cnt - 1, those that 'sel' names are yielded; the body may turn blocks of M and what is new. -/
def Iter (P : Program) (gf : Nat) (pre post : List Value) (enc : Nat → List Value) (sel : Nat → Bool) (cnt : Nat) (M : List Nat) (Wb : World) : Prop :=
  ∀ (l : Nat) (J : Nat → World → Prop) (Jx : World → Prop) (W : World),
    (∀ k W, J k W → Ext M Wb W) → (∀ k W W', J k W → Ext [] W W' → J k W') → (∀ W W', Jx W → Ext [] W W' → Jx W') →
    (∀ k W, k < cnt → sel k = false → J k W → J (k + 1) W) →
    (∀ k W, k < cnt → sel k = true → J k W → YieldAt Fence.wide 3 P l (enc k).toArray W (fun e W' => (e = .returned (.bool true) ∧ J (k + 1) W') ∨ (e = .returned (.bool false) ∧ Jx W'))) →
    J 0 W → Calls P gf (pre ++ [Value.func (.yield l) #[] #[]] ++ post).toArray W (fun e W' => (∃ v, e = .returned v) ∧ (J cnt W' ∨ Jx W'))

section
variable {ρ : Option Nat} {P : Program} {N : Nat} {w0 : World} {M : List Nat} {Γ : Gam} {H : Hp} {n r : AW} {xs : List (Nat × AW)} {ops : Array Oper}

/-- A loop whose states each begin a knowledge of memory of their own. -/
theorem k_loopJ {ι : Type} {c : Code} (Γ' : ι → Gam) (p : ι → World → Prop) (μ : ι → Nat) (i0 : ι) (hp : ∀ W, Sat w0 M H W → p i0 W) (hs : Sub Γ (Γ' i0))
    (round : ∀ i W1, p i W1 → Kn N W1 [] (Γ' i) [] (cw ρ P c (Qof (fun a W => ∃ j, μ j < μ i ∧ Holds N (Γ' j) a ∧ p j W) r xs))) : Kn N w0 M Γ H (cw ρ P (Code.loop c) (Qof n r xs)) :=
  fun _ W ha hW => wp_family (fun i a W => Holds N (Γ' i) a ∧ p i W) (fun _ => True) μ i0 trivial
    (fun i a W1 _ hst => wpIn_mono (round i W1 hst.2 a W1 hst.1 (Sat.start W1 [])) fun e a w q => by
      cases e with
      | normal => obtain ⟨j, h1, h2, h3⟩ := q; exact ⟨j, ⟨trivial, h1⟩, h2, h3⟩
      | _ => exact q) ⟨ha.sub hs, hp W hW⟩

theorem k_someJ {ι : Type} {Γ' : ι → Gam} {p : ι → World → Prop} {μ : ι → Nat} {m : Nat} (j : ι) (hm : μ j < m) (hs : Sub Γ (Γ' j)) (hp : ∀ W, Sat w0 M H W → p j W) : Kn N w0 M Γ H (fun a W => ∃ j, μ j < m ∧ Holds N (Γ' j) a ∧ p j W) :=
  fun _ W ha hW => ⟨j, hm, ha.sub hs, hp W hW⟩

/-- The same, with part of what is known kept. -/
theorem k_rebaseH {F : AW} (Hn : Hp) (h : ∀ W1, Sat w0 M H W1 → Kn N W1 (Hn.map (·.b)) Γ Hn F) [hs : SubE Hn H] : Kn N w0 M Γ H F := fun a W ha hW => h W hW a W ha
  ⟨Ext.refl _ _, fun e he => hW.at_ e (hs.sub.subset he), fun e he => .inr (List.mem_map.2 ⟨e, he, rfl⟩), hW.nodup.sublist (hs.sub.map _)⟩
/-- From here on with a knowledge of memory that begins here. -/
theorem k_rebase {F : AW} (h : ∀ W1, Sat w0 M H W1 → Kn N W1 [] Γ [] F) : Kn N w0 M Γ H F := fun a W ha hW => h W hW a W ha (Sat.start W [])

def wpLI (ρ : Option Nat) (P : Program) (ops : Array Oper) (Q : Exit → Act → World → Prop) (next : AW) : List Nat → AW
  | [] => next
  | i :: rest => wpOpIn (rf ρ) 3 P ops Q i (wpLI ρ P ops Q next rest)

theorem wpLI_ops {Q : Exit → Act → World → Prop} : ∀ l, wpLI ρ P ops Q (Q .normal) l = wpOpsIn (rf ρ) 3 P ops Q l
  | [] => by funext a W; rfl
  | i :: rest => by funext a W; rw [wpOpsIn_cons, ← wpLI_ops rest]; rfl

theorem wpLI_append {Q : Exit → Act → World → Prop} {next : AW} : ∀ l1 l2, wpLI ρ P ops Q next (l1 ++ l2) = wpLI ρ P ops Q (wpLI ρ P ops Q next l2) l1
  | [], _ => rfl
  | i :: l1, l2 => by show wpOpIn (rf ρ) 3 P ops Q i (wpLI ρ P ops Q next (l1 ++ l2)) = _; rw [wpLI_append l1 l2]; rfl

theorem wpL_in {Q : Exit → Act → World → Prop} (hnd : ops.toList.all ndB = true) (hQ : ¬ LetsOut Q) {next next' : AW} (h : ∀ a W, next a W → next' a W) : ∀ l a W, wpL P ops Q next l a W → wpLI ρ P ops Q next' l a W
  | [], a, W, q => h a W q
  | _ :: rest, _, _, q => wpOp_in hnd hQ (fun a W => wpL_in hnd hQ h rest a W) q

/-- A stretch of a region in which yield is called. -/
def OpsY (ρ : Option Nat) (P : Program) (ops : Array Oper) (n r : AW) (xs : List (Nat × AW)) (N : Nat) (w0 : World) (M : List Nat) (suf : List Oper) (Γ : Gam) (H : Hp) : Prop :=
  ops.toList.all ndB = true → ∀ k, (ops.toList.drop k).take suf.length = suf → Kn N w0 M Γ H (fun a W => wpLI ρ P ops (Qof n r xs) n (List.range' k suf.length) a W)

theorem k_regionY {id : Nat} {l : List Oper} (h : OpsY ρ P l.toArray n r xs N w0 M l Γ H) (hnd : l.all ndB = true := by rfl) : Kn N w0 M Γ H (cw ρ P (Code.region id l.toArray false) (Qof n r xs)) :=
  fun a W ha hW => wpIn_region (by
    have := h (by simpa using hnd) 0 (by simp) a W ha hW
    rw [← List.range_eq_range'] at this
    have h2 : wpOpsIn (rf ρ) 3 P l.toArray (Qof n r xs) (List.range l.length) a W := by rw [← wpLI_ops]; exact this
    rwa [← List.size_toArray] at h2)

theorem y_end {suf : List Oper} (h : OpsN P ops (Qof n r xs) n N w0 M suf Γ H) : OpsY ρ P ops n r xs N w0 M suf Γ H :=
  fun hnd k hk a W ha hW => wpL_in hnd Qof.kept (fun _ _ q => q) _ _ _ (h k hk a W ha hW)

theorem y_ops {ι : Type} {suf : List Oper} (m : Nat) (Γ' : ι → Gam) (H' : ι → Hp) (p : ι → Prop) (h : OpsN P ops (Qof n r xs) (Some N w0 M Γ' H' p) N w0 M (suf.take m) Γ H)
    (h2 : ∀ i, p i → OpsY ρ P ops n r xs N w0 M (suf.drop m) (Γ' i) (H' i)) : OpsY ρ P ops n r xs N w0 M suf Γ H := by
  intro hnd j hj a W ha hW
  have hlen : suf.length = (suf.take m).length + (suf.drop m).length := by rw [← List.length_append, List.take_append_drop]
  have e1 : (ops.toList.drop j).take (suf.take m).length = suf.take m := by
    have h0 : (suf.take m).length ≤ suf.length := by omega
    have : ((ops.toList.drop j).take suf.length).take (suf.take m).length = suf.take (suf.take m).length := by rw [hj]
    rw [List.take_take, Nat.min_eq_left h0] at this
    rw [this, List.length_take]
    rcases Nat.le_total m suf.length with hk | hk
    · rw [Nat.min_eq_left hk]
    · rw [Nat.min_eq_right hk, List.take_of_length_le (Nat.le_refl _), List.take_of_length_le hk]
  have e2 : (ops.toList.drop (j + (suf.take m).length)).take (suf.drop m).length = suf.drop m := by
    have : ((ops.toList.drop j).take suf.length).drop (suf.take m).length = suf.drop (suf.take m).length := by rw [hj]
    rw [List.drop_take, List.drop_drop] at this
    have hs : suf.drop (suf.take m).length = suf.drop m := by
      rw [List.length_take]
      rcases Nat.le_total m suf.length with hk | hk
      · rw [Nat.min_eq_left hk]
      · rw [Nat.min_eq_right hk, List.drop_of_length_le (Nat.le_refl _), List.drop_of_length_le hk]
    rw [hs] at this
    have hl : (suf.drop m).length = suf.length - (suf.take m).length := by omega
    rw [hl]; exact this
  rw [hlen]
  have : List.range' j ((suf.take m).length + (suf.drop m).length) = List.range' j (suf.take m).length ++ List.range' (j + (suf.take m).length) (suf.drop m).length := by
    rw [List.range'_append_1]
  rw [this, wpLI_append]
  refine wpL_in hnd Qof.kept (fun a' W' hq => ?_) _ _ _ (h j e1 a W ha hW)
  obtain ⟨i, hp, h3, h4⟩ := hq
  exact h2 i hp hnd _ e2 a' W' h3 h4

/-- A call of yield; guarded, and wanted, or without a guard. -/
theorem y_yield {o : Oper} {rest : List Oper} {d l : Nat} {x : Operand} {args : List Operand} {vs : List Value} {ats : Array TypeId} {R' : Value → World → Prop} (hop : o.op = .call ⟨.value x, args.toArray, ats⟩)
    (hx : ev Γ x = some (.func (.yield l) #[] #[])) (hargs : evs Γ args = some vs) (hY : ∀ W, Sat w0 M H W → YieldAt Fence.wide 3 P l vs.toArray W (fun e W' => ∃ v, e = .returned v ∧ R' v W'))
    (k : ∀ v W', R' v W' → OpsY ρ P ops n r xs N W' [] rest ((d, v) :: Γ) []) (hg : o.guard = none ∨ ∃ dj want, gslot ops o.guard = some (dj, want) ∧ gl Γ dj = some (.bool want)) (hd : o.dst = some d := by rfl) (hdN : d < N := by decide) :
    OpsY ρ P ops n r xs N w0 M (o :: rest) Γ H := by
  intro hnd i hi a W ha hW
  obtain ⟨h1, h2⟩ := take_cons_get hi
  simp only [List.length_cons, List.range'_succ, wpLI]
  unfold wpOpIn
  have hw : Region.wanted o (yielded ops a.tmps) = true := by
    rcases hg with hg | ⟨dj, want, hg, hb⟩
    · simp [Region.wanted, hg]
    · rw [wanted_gslot hg (ha.at_ _ _ hb)]; simp
  simp only [h1, hw, if_true]
  have hm : o ∈ ops.toList := by
    have := Array.mem_of_getElem? h1
    simpa using this
  have hno := List.all_eq_true.1 hnd o hm
  refine ⟨fun _ _ => trivial, ?_⟩
  rw [Oper.semAt_eq (rf ρ).round a.eval o (ndB_spec hno)]
  obtain ⟨fn, tmps, assign, body, hy, hR⟩ := hY W hW
  have e1 : (execOp a.eval o).run P W = .ok (.round l fn tmps assign body) W := by
    rw [← hy]
    simp [execOp, hop, resolve, Deferred.ofValue, invoke, ha.eval hx, ha.evals hargs]
  rw [e1, Oper.uponIn_round]
  refine ⟨(by intro e; cases e), ?_⟩
  have hR2 : RoundIn (rf ρ) (3 - 1) P l fn tmps assign body W (fun e W' => ∃ v, e = .returned v ∧ R' v W') := ⟨trivial, fun c cs _ => hR.2 c cs (room_wide _)⟩
  refine hR2.mono fun e W' ⟨v, he, hr⟩ => ?_
  subst he
  show wpLI ρ P ops (Qof n r xs) n _ (a.put o.dst v) W'
  rw [hd]
  exact k v W' hr hnd (i + 1) h2 _ W' (ha.put hdN v) (Sat.start W' [])
end

/-! ### The end of a function that holds such a loop -/
/-- The mark that a loop leaves. -/
abbrev mark (D : Nat) : Deferred := { target := .collected D, args := #[] }
abbrev dEnt (D : Nat) : Ent := ⟨D, 1, [], false⟩

/-- From every state of which this is known, behind such a loop. -/
def Kd (N : Nat) (w0 : World) (M : List Nat) (Γ : Gam) (H : Hp) (D : Nat) (F : AW) : Prop :=
  ∀ a W, Holds N Γ a → Sat w0 M (dEnt D :: H) W → F { a with defers := [mark D] } W

def FinM (P : Program) (fn : Func) (R : Ending → World → Prop) : AW := fun a W => LeavesInM Fence.wide 3 P fn a.tmps R a.defers .returning W

section
variable {P : Program} {N : Nat} {w0 : World} {M : List Nat} {Γ : Gam} {H : Hp} {n r : AW} {xs : List (Nat × AW)} {R : Ending → World → Prop} {D : Nat}

theorem fin0 {fn : Func} (hr : fn.results = #[]) (h : ∀ W, Sat w0 M H W → R (.returned (.tuple #[])) W) : Kn N w0 M Γ H (Fin P fn R) :=
  fun a W ha hW => ⟨ha.defers, .tuple #[], by simp [results, hr], h W hW⟩

theorem k_finM {fn : Func} (h : Kn N w0 M Γ H (Fin P fn R)) : Kn N w0 M Γ H (FinM P fn R) := fun a W ha hW => by
  obtain ⟨h1, v, h2, h3⟩ := h a W ha hW
  unfold FinM
  rw [h1]
  exact ⟨v, h2, h3⟩

theorem Sat.undefer {W : World} (h : Sat w0 M (dEnt D :: H) W) : Sat w0 M H (W.putObj D (.deferred none)) := by
  have hn := h.nodup
  simp only [List.map_cons, List.nodup_cons] at hn
  have hnew := h.new _ (List.mem_cons_self ..)
  have hne : ∀ e, e ∈ H → e.b ≠ D := fun e he heq => hn.1 (List.mem_map.2 ⟨e, he, heq⟩)
  refine ⟨⟨h.ext.os, h.ext.tape, h.ext.output, by rw [World.putObj_size]; exact h.ext.size, fun k hk hkM => ?_⟩, fun e he => ?_, fun e he => h.new e (List.mem_cons_of_mem _ he), hn.2⟩
  · rw [World.putObj_heap_other]
    · exact h.ext.block k hk hkM
    · intro e
      subst e
      rcases hnew with h | h
      · simp only at h; omega
      · exact hkM h
  · rw [World.putObj_heap_other (hne e he)]
    exact h.at_ e (List.mem_cons_of_mem _ he)

theorem kd_fin {fn : Func} (h : Kn N w0 M Γ H (Fin P fn R)) : Kd N w0 M Γ H D (FinM P fn R) := fun a W ha hW => by
  have hD : W.heap[D]? = some (.deferred (some [])) := hW.at_ (dEnt D) (List.mem_cons_self ..)
  obtain ⟨_, v, h2, h3⟩ := h a _ ha hW.undefer
  exact ⟨by simp, .inl ⟨D, _, rfl, run_takeDeferred hD, v, h2, h3⟩⟩

theorem kd_seq {x y : Code} (h : Kd N w0 M Γ H D (cw none P x (Qof (cw none P y (Qof n r xs)) r xs))) : Kd N w0 M Γ H D (cw none P (Code.seq x y) (Qof n r xs)) :=
  fun a W ha hW => wpIn_seq (wpIn_mono (h a W ha hW) fun e a w q => by cases e <;> exact q)
theorem kd_ret (h : Kd N w0 M Γ H D r) : Kd N w0 M Γ H D (cw none P Code.ret (Qof n r xs)) := fun a W ha hW => wpIn_ret (h a W ha hW)

theorem upon_df {o : Oper} {a : Act} {ds : List Deferred} {K K' : AW} {Q Q' : Exit → Act → World → Prop} (hK : ∀ a W, K a W → K' { a with defers := a.defers ++ ds } W) (hp : ∀ ch a W, ¬ Q (.panic ch) a W) (ho : ¬ LetsOut Q) :
    ∀ {x : Result Next}, o.upon P a K Q x → o.upon P { a with defers := a.defers ++ ds } K' Q' x := by
  intro x h
  have hput : ∀ (b : Act) (v : Value), ({ b with defers := b.defers ++ ds } : Act).put o.dst v = { b.put o.dst v with defers := (b.put o.dst v).defers ++ ds } := fun b v => by
    cases o.dst <;> rfl
  cases x with
  | ok m w =>
    cases m <;> simp only [Oper.upon] at h ⊢
    case value v => rw [hput]; exact hK _ _ h
    case skip => rw [hput]; exact hK _ _ h
    case defer d =>
      have := hput { a with defers := d :: a.defers } undef
      simp only [List.cons_append] at this
      rw [this]; exact hK _ _ h
    case enter f args =>
      refine h.mono fun e w'' he => ?_
      cases e with
      | returned v =>
        show K' _ w''
        rw [hput]; exact hK _ _ he
      | panicked ch => exact absurd he (hp _ _ _)
      | outgrown => exact absurd he ho
    case row row args => exact h.mono fun v w'' he => by rw [hput]; exact hK _ _ he
  | halt x w =>
    cases x <;> simp only [Oper.upon] at h ⊢
    exact absurd h (hp _ _ _)

theorem wpOps_df {ops : Array Oper} {ds : List Deferred} {Q Q' : Exit → Act → World → Prop} (hK : ∀ a W, Q .normal a W → Q' .normal { a with defers := a.defers ++ ds } W) (hp : ∀ ch a W, ¬ Q (.panic ch) a W) (ho : ¬ LetsOut Q) :
    ∀ (l : List Nat) (a : Act) (W : World), wpOps P ops Q l a W → wpOps P ops Q' l { a with defers := a.defers ++ ds } W
  | [], a, W, h => hK a W h
  | i :: rest, a, W, h => by
    rw [wpOps_cons] at h ⊢
    unfold wpOp at h ⊢
    cases hoi : ops[i]? with
    | none => simp only [hoi] at h ⊢; exact wpOps_df hK hp ho rest a W h
    | some o =>
      simp only [hoi] at h ⊢
      by_cases hw : Region.wanted o (yielded ops a.tmps) = true
      · simp only [hw, if_true] at h ⊢
        rcases h with h | h
        · exact .inl (upon_df (fun a W => wpOps_df hK hp ho rest a W) hp ho h)
        · exact absurd h.2 ho
      · simp only [hw] at h ⊢
        have hput : ({ a with defers := a.defers ++ ds } : Act).put o.dst undef = { a.put o.dst undef with defers := (a.put o.dst undef).defers ++ ds } := by cases o.dst <;> rfl
        rw [hput]
        exact wpOps_df hK hp ho rest _ W h

/-- A stretch behind such a loop. -/
def nD (D : Nat) (n : AW) : AW := fun a W => a.defers = [] ∧ n { a with defers := [mark D] } W

theorem kd_region {id : Nat} {l : List Oper} (h : OpsN P l.toArray (Qof (nD D n) (fun _ _ => False) []) (nD D n) N w0 M l Γ (dEnt D :: H)) (hnd : l.all ndB = true := by rfl) : Kd N w0 M Γ H D (cw none P (Code.region id l.toArray false) (Qof n r xs)) :=
  fun a W ha hW => wpIn_region (wpOps_in (by simpa using hnd) Qof.kept _ (by
    have := h 0 (by simp) a W ha hW
    rw [← List.range_eq_range'] at this
    have h2 : wpOps P l.toArray (Qof (nD D n) (fun _ _ => False) []) (List.range l.length) a W := by rw [← wpL_ops]; exact this
    have h3 := wpOps_df (Q' := Qof n r xs) (ds := [mark D]) (fun a W hq => by
      have hq : nD D n a W := hq
      show n _ W
      rw [hq.1]; exact hq.2) (fun _ _ _ q => q) Qof.kept _ _ _ h2
    rw [ha.defers] at h3
    rw [← List.size_toArray] at h3
    exact h3))

/-- The knowledge without the mark's block. -/
class RemD (H : Hp) (D : Nat) (H' : outParam Hp) : Prop where
  perm : H.Perm (dEnt D :: H')
instance RemD.here {H : Hp} {D : Nat} : RemD (⟨D, 1, [], false⟩ :: H) D H := ⟨.refl _⟩
instance RemD.there {e : Ent} {H H' : Hp} {D : Nat} [h : RemD H D H'] : RemD (e :: H) D (e :: H') := ⟨(h.perm.cons e).trans (List.Perm.swap ..)⟩
instance (priority := low) RemD.app {Hy H H' : Hp} {D : Nat} [h : RemD H D H'] : RemD (Hy ++ H) D (Hy ++ H') := ⟨(h.perm.append_left Hy).trans List.perm_middle⟩

theorem o_nilD {ops : Array Oper} {Q : Exit → Act → World → Prop} {H' : Hp} [hr : RemD H D H'] (h : Kd N w0 M Γ H' D n) : OpsN P ops Q (nD D n) N w0 M [] Γ H :=
  o_nil fun a W ha hW => ⟨ha.defers, h a W ha (hW.perm hr.perm)⟩

theorem fn_startM {f : Nat} {fn : Func} {c : Code} {l : List Value} (hf : P.funcs[f]? = some fn) (hb : fn.body = some c) (hN : fn.ntmps = N)
    (h : Kn N w0 [] (gamOf 0 l) [] (cw none P c (Qof (FinM P fn R) (FinM P fn R) []))) (hl : Nat.ble l.length N = true := by rfl) : Calls P f l.toArray w0 R := by
  refine (callsIn_wide (n := 3)).1 (callsIn_of_wp_marks hf hb trivial (wpIn_mono (h _ w0 ⟨?_, rfl, ?_⟩ (Sat.start w0 [])) ?_))
  · have := Nat.le_of_ble_eq_true hl
    simp [hN]; omega
  · intro i v hi
    obtain ⟨_, h2⟩ := gl_gamOf l 0 i v hi
    simp only [Nat.sub_zero] at h2
    have hlt : i < l.length := (List.getElem?_eq_some_iff.1 h2).1
    rw [Array.getElem?_append_left (by simpa using hlt)]
    simpa using h2
  · intro e a W q
    cases e with
    | normal => exact q
    | ret => exact q
    | exit id => exact q.elim
    | goto l => exact q.elim
    | panic ch => exact q.elim
    | outgrown => exact q.elim

/-! ### The loop -/
theorem Ext.putObj {M : List Nat} {w X : World} (h : Ext M w X) {l : Nat} (o : Obj) (hl : w.heap.size ≤ l) : Ext M w (X.putObj l o) :=
  ⟨h.os, h.tape, h.output, by rw [World.putObj_size]; exact h.size, fun k hk hkM => by rw [World.putObj_heap_other (by omega)]; exact h.block k hk hkM⟩

theorem Sat.putObj {W : World} {l : Nat} (h : Sat w0 M H W) (o : Obj) (hb : w0.heap.size ≤ l) (hne : ∀ e, e ∈ H → e.b ≠ l) : Sat w0 M H (W.putObj l o) :=
  ⟨h.ext.putObj o hb, fun e he => by rw [World.putObj_heap_other (hne e he)]; exact h.at_ e he, h.new, h.nodup⟩

/-- What is known, said from another world on. -/
theorem Sat.rebase {w1 W : World} {H' : Hp} (h : Sat w0 M H w1) (k : Sat w1 (H.map (·.b)) H' W) : Sat w0 M H' W := by
  have hM : ∀ x, x ∈ H.map (·.b) → w0.heap.size ≤ x ∨ x ∈ M := fun x hx => by
    obtain ⟨e, he, rfl⟩ := List.mem_map.1 hx
    exact h.new e he
  refine ⟨h.ext.trans k.ext (fun x hx hlt => ?_), k.at_, fun e he => ?_, k.nodup⟩
  · rcases hM x hx with h | h
    · omega
    · exact h
  · rcases k.new e he with h1 | h1
    · exact .inl (Nat.le_trans h.ext.size h1)
    · exact hM _ h1
theorem Sat.base {w1 : World} (h : Sat w0 M H w1) : Sat w1 (H.map (·.b)) H w1 := ⟨Ext.refl _ _, h.at_, fun e he => .inr (List.mem_map.2 ⟨e, he, rfl⟩), h.nodup⟩
theorem Sat.ent {W : World} (h : Sat w0 M H W) (e : Ent) (he : W.heap[e.b]? = some e.obj) (hb : w0.heap.size ≤ e.b) (hne : ∀ x, x ∈ H → x.b ≠ e.b) : Sat w0 M (e :: H) W :=
  ⟨h.ext, fun x hx => by
    rcases List.mem_cons.1 hx with rfl | hx
    · exact he
    · exact h.at_ x hx, fun x hx => by
    rcases List.mem_cons.1 hx with rfl | hx
    · exact .inl hb
    · exact h.new x hx, by
    simp only [List.map_cons, List.nodup_cons]
    exact ⟨fun hm => by obtain ⟨x, hx, hxe⟩ := List.mem_map.1 hm; exact hne x hx hxe, h.nodup⟩⟩

theorem xlook_map {F : Nat → AW} {a : Act} {W : World} {id : Nat} : ∀ (ids : List Nat), xlook (ids.map fun id => (id, F id)) id a W → id ∈ ids ∧ F id a W
  | [], h => h.elim
  | x :: ids, h => by
    have h' : (bif Nat.beq x id then F x else xlook (ids.map fun id => (id, F id)) id) a W := h
    cases hb : Nat.beq x id with
    | true =>
      have e := Nat.eq_of_beq_eq_true hb
      subst e
      rw [hb] at h'
      exact ⟨List.mem_cons_self .., h'⟩
    | false =>
      rw [hb] at h'
      have := xlook_map ids h'
      exact ⟨List.mem_cons_of_mem _ this.1, this.2⟩

/-- Slots set one by one. -/
def setG : List Nat → List Value → Gam → Gam
  | p :: ps, v :: vs, Γ => setG ps vs ((p, v) :: Γ)
  | _, _, Γ => Γ
theorem holds_fold : ∀ (ps : List Nat) (vs : List Value) {Γ : Gam} {a : Act}, Holds N Γ a → ps.all (Nat.blt · N) = true → Holds N (setG ps vs Γ) { tmps := (ps.zip vs).foldl (fun t (p, v) => t.setIfInBounds p v) a.tmps, defers := [] }
  | [], _, Γ, a, h, _ => ⟨h.size, rfl, h.at_⟩
  | _ :: _, [], Γ, a, h, _ => ⟨h.size, rfl, h.at_⟩
  | p :: ps, v :: vs, Γ, a, h, hp => by
    simp only [List.all_cons, Bool.and_eq_true] at hp
    have h1 := h.put (Nat.le_of_ble_eq_true hp.1) v
    have h2 := holds_fold ps vs h1 hp.2
    exact h2

/-- A range over a function, in no round. The body may turn the blocks that are known. -/
theorem k_range {g : Operand} {ps : List Nat} {assign body : Code} {gf cnt : Nat} {pre post : List Value} {enc : Nat → List Value} {sel : Nat → Bool} {ι κ τ : Type}
    (Hs : ι → Hp) (pI : Nat → ι → Prop) (Γ' : Nat → ι → κ → Gam) (H' : Nat → ι → κ → Hp) (pA : Nat → ι → κ → Prop) (Hr : τ → Hp) (pR : Option Nat → τ → Prop) (ids : List Nat)
    (hg : ev Γ g = some (.func (.func gf) pre.toArray post.toArray)) (hcall : ∀ l W, (callFunc gf l).run P W = .ok (.enter gf l) W) (hit : ∀ W, Sat w0 M H W → Iter P gf pre post enc sel cnt (H.map (·.b)) W) (henc : ∀ k, (enc k).length = ps.length)
    (i0 : ι) (hi0 : pI 0 i0) (hH0 : (Hs i0).Sublist H) (hskip : ∀ k i, k < cnt → sel k = false → pI k i → pI (k + 1) i)
    (hassign : ∀ (l k : Nat) (i : ι) (w1 : World), k < cnt → sel k = true → pI k i → Sat w0 M (Hs i) w1 → Kn N w1 ((Hs i).map (·.b)) (setG ps (enc k) Γ) (Hs i) (cw (some l) P assign (Qof (Some N w1 ((Hs i).map (·.b)) (Γ' k i) (H' k i) (pA k i)) (fun _ _ => False) [])))
    (hbody : ∀ (l k : Nat) (i : ι) (j : κ) (w1 : World), k < cnt → sel k = true → pI k i → pA k i j → Sat w0 M (H' k i j) w1 → Kn N w1 ((H' k i j).map (·.b)) (Γ' k i j) (H' k i j)
      (cw (some l) P body (Qof (Some N w1 ((H' k i j).map (·.b)) (fun _ => []) Hs (pI (k + 1))) (Some N w1 ((H' k i j).map (·.b)) (fun _ => []) Hr (pR none)) (ids.map fun id => (id, Some N w1 ((H' k i j).map (·.b)) (fun _ => []) Hr (pR (some id)))))))
    (hdone : ∀ i D, pI cnt i → Kd N w0 M Γ (Hs i) D n) (hret : ∀ j D, pR none j → Kd N w0 M Γ (Hr j) D r) (hexit : ∀ id j D, id ∈ ids → pR (some id) j → Kd N w0 M Γ (Hr j) D (xlook xs id))
    (hps : ps.all (Nat.blt · N) = true := by rfl) : Kn N w0 M Γ H (cw none P (Code.rangeFunc g ps.toArray assign body) (Qof n r xs)) := by
  intro a W ha hW
  refine wpIn_rangeFunc ?_
  intro fn _
  obtain ⟨rec, hrec⟩ : ∃ rec : LoopState → Option Code → Loop, rec = fun st pe => { state := st, pending := pe, fn, tmps := a.tmps, params := ps.toArray, assign, body, defers := W.heap.size } := ⟨_, rfl⟩
  obtain ⟨W1, hW1⟩ : ∃ W1, (W.alloc (.deferred (some []))).alloc (.loop (rec .ready none)) = W1 := ⟨_, rfl⟩
  have hs1 : W1.heap.size = W.heap.size + 2 := by rw [← hW1]; simp
  have hL1 : W1.heap[W.heap.size + 1]? = some (.loop (rec .ready none)) := by
    rw [← hW1]; have := World.alloc_heap_new (W.alloc (.deferred (some []))) (.loop (rec .ready none)); rwa [World.size_alloc] at this
  have hK1 : W1.heap[W.heap.size]? = some (.deferred (some [])) := by
    rw [← hW1]; exact ((Ext.alloc _ _).block _ (by simp) (by simp)).trans (World.alloc_heap_new W _)
  have hE1 : Ext [] W W1 := by rw [← hW1]; exact (Ext.alloc _ _).trans0 (Ext.alloc _ _)
  have hev := ha.eval hg
  have hw0 := hW.ext.size
  -- blocks that are known: new since the loop began, or known when it began
  have hHlt : ∀ x, x ∈ H.map (·.b) → x < W.heap.size := fun x hx => by
    obtain ⟨e, he, rfl⟩ := List.mem_map.1 hx
    exact hW.lt he
  have cn_ne : ∀ {H2 : Hp} {l : Nat}, (∀ e, e ∈ H2 → W1.heap.size ≤ e.b ∨ e.b ∈ H.map (·.b)) → W.heap.size ≤ l → l < W1.heap.size → ∀ e, e ∈ H2 → e.b ≠ l := fun h h1 h2 e he heq => by
    rcases h e he with h3 | h3
    · omega
    · have := hHlt _ h3; omega
  have cn_next : ∀ {H2 H3 : Hp} {X Y : World}, (∀ e, e ∈ H2 → W1.heap.size ≤ e.b ∨ e.b ∈ H.map (·.b)) → W1.heap.size ≤ X.heap.size → Sat X (H2.map (·.b)) H3 Y → ∀ e, e ∈ H3 → W1.heap.size ≤ e.b ∨ e.b ∈ H.map (·.b) := fun h h1 h2 e he => by
    rcases h2.new e he with h3 | h3
    · exact .inl (Nat.le_trans h1 h3)
    · obtain ⟨e', he', hb⟩ := List.mem_map.1 h3
      rw [← hb]; exact h e' he'
  have ext_next : ∀ {H2 : Hp} {X Y : World}, (∀ e, e ∈ H2 → W1.heap.size ≤ e.b ∨ e.b ∈ H.map (·.b)) → Ext (H.map (·.b)) W X → Ext (H2.map (·.b)) X Y → Ext (H.map (·.b)) W Y := fun h h1 h2 => h1.trans h2 (fun x hx hlt => by
    obtain ⟨e', he', hb⟩ := List.mem_map.1 hx
    rcases h e' he' with h3 | h3
    · omega
    · rw [← hb]; exact h3)
  have blk : ∀ {H2 : Hp} {X Y : World} {l : Nat} {o : Obj}, (∀ e, e ∈ H2 → W1.heap.size ≤ e.b ∨ e.b ∈ H.map (·.b)) → W.heap.size ≤ l → l < W1.heap.size → Ext (H2.map (·.b)) X Y → X.heap[l]? = some o → Y.heap[l]? = some o := fun h h1 h2 hx ho =>
    (hx.block _ (Array.getElem?_eq_some_iff.1 ho).1 (fun hm => by
      obtain ⟨e', he', hb⟩ := List.mem_map.1 hm
      exact cn_ne h h1 h2 e' he' hb)).trans ho
  refine ⟨W.heap.size + 1, [mark W.heap.size], W1, { target := .fn (.func gf) post.toArray, args := pre.toArray ++ #[.func (.yield (W.heap.size + 1)) #[] #[]] }, W1, gf,
    (pre ++ [Value.func (.yield (W.heap.size + 1)) #[] #[]] ++ post).toArray, W1, ?_, ?_, (fun _ _ => trivial), ?_, (by intro e; cases e), ?_⟩
  · rw [← hW1, hrec]; exact run_enterLoop_outer _ _ _ _ _
  · simp only [resolve, hev, Deferred.ofValue]
    simp [Act.eval]
  · simp [invoke, hcall]
  · -- what holds between two rounds
    have key := hit W hW (W.heap.size + 1)
      (fun k X => ∃ i, pI k i ∧ Sat w0 M (Hs i) X ∧ Ext (H.map (·.b)) W X ∧ (∀ e, e ∈ Hs i → W1.heap.size ≤ e.b ∨ e.b ∈ H.map (·.b)) ∧ W1.heap.size ≤ X.heap.size ∧ X.heap[W.heap.size + 1]? = some (.loop (rec .ready none)) ∧ X.heap[W.heap.size]? = some (.deferred (some [])))
      (fun X => ∃ o j, (∀ id, o = some id → id ∈ ids) ∧ pR o j ∧ Sat w0 M (Hr j) X ∧ (∀ e, e ∈ Hr j → W1.heap.size ≤ e.b ∨ e.b ∈ H.map (·.b)) ∧ X.heap[W.heap.size + 1]? = some (.loop (rec .done (some (match o with | none => Code.ret | some id => Code.exit id)))) ∧ X.heap[W.heap.size]? = some (.deferred (some [])))
      W1 (fun k X ⟨i, _, _, h3, _⟩ => h3)
      (fun k X X' ⟨i, h1, h2, h3, h4, h7, h5, h6⟩ hx => ⟨i, h1, h2.ext0 hx, h3.trans0 hx, h4, Nat.le_trans h7 hx.size, (hx.block _ (Array.getElem?_eq_some_iff.1 h5).1 (by simp)).trans h5, (hx.block _ (Array.getElem?_eq_some_iff.1 h6).1 (by simp)).trans h6⟩)
      (fun X X' ⟨o, j, h0, h1, h2, h4, h5, h6⟩ hx => ⟨o, j, h0, h1, h2.ext0 hx, h4, (hx.block _ (Array.getElem?_eq_some_iff.1 h5).1 (by simp)).trans h5, (hx.block _ (Array.getElem?_eq_some_iff.1 h6).1 (by simp)).trans h6⟩)
      (fun k X hk hs ⟨i, h1, h2⟩ => ⟨i, hskip k i hk hs h1, h2⟩) ?_
      ⟨i0, hi0, (hW.drop hH0).ext0 hE1, (Ext.refl _ _).trans0 hE1, fun e he => .inr (List.mem_map.2 ⟨e, hH0.subset he, rfl⟩), Nat.le_refl _, hL1, hK1⟩
    · refine CallsIn.mono ((callsIn_wide (n := 3 - 1)).2 key) ?_
      have fin : ∀ {H2 : Hp} {X : World} {rc : Loop}, Sat w0 M H2 X → (∀ e, e ∈ H2 → W1.heap.size ≤ e.b ∨ e.b ∈ H.map (·.b)) → X.heap[W.heap.size]? = some (.deferred (some [])) → Sat w0 M (dEnt W.heap.size :: H2) (X.putObj (W.heap.size + 1) (.loop rc)) := fun h2 h4 h6 =>
        (h2.putObj _ (by omega) (cn_ne h4 (by omega) (by omega))).ent (dEnt W.heap.size) ((World.putObj_heap_other (by simp)).trans h6) hw0 (cn_ne h4 (by simp) (by simp; omega))
      rintro e W2 ⟨⟨v, rfl⟩, (⟨i, h1, h2, h3, h4, h7, h5, h6⟩ | ⟨o, j, h0, h1, h2, h4, h5, h6⟩)⟩
      · have hend := run_endLoop (P := P) h5 (by rw [hrec]; simp)
        refine ⟨_, _, hend, ?_⟩
        rw [hrec]
        have := hdone i W.heap.size h1 a _ ha (fin (rc := { rec .ready none with state := .exhausted }) h2 h4 h6)
        rw [ha.defers]
        rw [hrec] at this
        exact this
      · cases o with
        | none =>
          have hend := run_endLoop (P := P) h5 (by rw [hrec]; simp)
          refine ⟨_, _, hend, ?_⟩
          rw [hrec]
          have hS := fin (rc := { rec .done (some Code.ret) with state := .exhausted }) h2 h4 h6
          rw [ha.defers]
          rw [hrec] at hS
          exact wpIn_ret (hret j W.heap.size h1 a _ ha hS)
        | some id =>
          have hend := run_endLoop (P := P) h5 (by rw [hrec]; simp)
          refine ⟨_, _, hend, ?_⟩
          rw [hrec]
          have hS := fin (rc := { rec .done (some (Code.exit id)) with state := .exhausted }) h2 h4 h6
          rw [ha.defers]
          rw [hrec] at hS
          exact wpIn_exit (hexit id j W.heap.size (h0 id rfl) h1 a _ ha hS)
    · -- one round
      rintro k X hk hsel ⟨i, h1, h2, h3, h4, h7, h5, h6⟩
      have hy := run_yield (P := P) (args := (enc k).toArray) h5 (by rw [hrec]; simp [henc])
      have hfold : (ps.toArray.zip (enc k).toArray).foldl (fun (t : Array Value) (p, v) => t.setIfInBounds p v) a.tmps = (ps.zip (enc k)).foldl (fun (t : Array Value) (p, v) => t.setIfInBounds p v) a.tmps := by simp
      refine ⟨_, _, _, _, hy, roundIn_of_wpIn trivial ?_⟩
      have hl1 : W.heap.size + 1 < W1.heap.size := by omega
      have hl2 : W.heap.size < W1.heap.size := by omega
      rw [hrec] at h5 ⊢
      simp only
      rw [hfold]
      refine wpIn_mono (hassign (W.heap.size + 1) k i X hk hsel h1 h2 _ X (holds_fold ps (enc k) ha hps) h2.base) ?_
      rintro e a1 Xa hq
      cases e with
      | normal =>
        obtain ⟨j, hA, hH1, hS1⟩ := hq
        have c1 := cn_next h4 h7 hS1
        have r1 := blk h4 (by omega) hl1 hS1.ext h5
        have d1 := blk h4 (Nat.le_refl _) hl2 hS1.ext h6
        have z1 : W1.heap.size ≤ Xa.heap.size := Nat.le_trans h7 hS1.ext.size
        refine ⟨_, run_beginRound r1 rfl, ?_⟩
        generalize hrb : ({ state := LoopState.busy, pending := none, fn, tmps := a.tmps, params := ps.toArray, assign, body, defers := W.heap.size } : Loop) = rb
        have hS2 : Sat w0 M (H' k i j) (Xa.putObj (W.heap.size + 1) (.loop rb)) := (h2.rebase hS1).putObj _ (by omega) (cn_ne c1 (by omega) hl1)
        have r2 : (Xa.putObj (W.heap.size + 1) (.loop rb)).heap[W.heap.size + 1]? = some (.loop rb) := World.putObj_heap_same (by omega)
        have d2 : (Xa.putObj (W.heap.size + 1) (.loop rb)).heap[W.heap.size]? = some (.deferred (some [])) := (World.putObj_heap_other (by omega)).trans d1
        have e2 : Ext (H.map (·.b)) W (Xa.putObj (W.heap.size + 1) (.loop rb)) := (ext_next h4 h3 hS1.ext).putObj _ (by omega)
        have z2 : W1.heap.size ≤ (Xa.putObj (W.heap.size + 1) (.loop rb)).heap.size := by rw [World.putObj_size]; exact z1
        generalize Xa.putObj (W.heap.size + 1) (.loop rb) = X2 at hS2 r2 d2 e2 z2
        refine wpIn_mono (hbody (W.heap.size + 1) k i j X2 hk hsel h1 hA hS2 a1 X2 hH1 hS2.base) ?_
        rintro e3 a3 X3 hq3
        cases e3 with
        | normal =>
          obtain ⟨i', hp3, _, hS3⟩ := hq3
          have c3 := cn_next c1 z2 hS3
          have r3 := blk c1 (by omega) hl1 hS3.ext r2
          have d3 := blk c1 (Nat.le_refl _) hl2 hS3.ext d2
          refine ⟨_, _, run_endRound none r3, .inl ⟨rfl, i', hp3, (hS2.rebase hS3).putObj _ (by omega) (cn_ne c3 (by omega) hl1), (ext_next c1 e2 hS3.ext).putObj _ (by omega), c3, ?_, ?_, (World.putObj_heap_other (by omega)).trans d3⟩⟩
          · rw [World.putObj_size]; exact Nat.le_trans z2 hS3.ext.size
          · rw [World.putObj_heap_same (Nat.lt_of_lt_of_le hl1 (Nat.le_trans z2 hS3.ext.size)), ← hrb]; rfl
        | ret =>
          obtain ⟨j', hp3, _, hS3⟩ := hq3
          have c3 := cn_next c1 z2 hS3
          have r3 := blk c1 (by omega) hl1 hS3.ext r2
          have d3 := blk c1 (Nat.le_refl _) hl2 hS3.ext d2
          refine ⟨_, _, run_endRound (some .ret) r3, .inr ⟨rfl, none, j', (fun id e => by cases e), hp3, (hS2.rebase hS3).putObj _ (by omega) (cn_ne c3 (by omega) hl1), c3, ?_, (World.putObj_heap_other (by omega)).trans d3⟩⟩
          rw [World.putObj_heap_same (Nat.lt_of_lt_of_le hl1 (Nat.le_trans z2 hS3.ext.size)), ← hrb]; rfl
        | exit id =>
          obtain ⟨hid, j', hp3, _, hS3⟩ := xlook_map ids hq3
          have c3 := cn_next c1 z2 hS3
          have r3 := blk c1 (by omega) hl1 hS3.ext r2
          have d3 := blk c1 (Nat.le_refl _) hl2 hS3.ext d2
          refine ⟨_, _, run_endRound (some (.exit id)) r3, .inr ⟨rfl, some id, j', (fun id' e => by cases e; exact hid), hp3, (hS2.rebase hS3).putObj _ (by omega) (cn_ne c3 (by omega) hl1), c3, ?_, (World.putObj_heap_other (by omega)).trans d3⟩⟩
          rw [World.putObj_heap_same (Nat.lt_of_lt_of_le hl1 (Nat.le_trans z2 hS3.ext.size)), ← hrb]; rfl
        | goto l => exact hq3.elim
        | panic ch => exact hq3.elim
        | outgrown => exact hq3.elim
      | ret => exact hq.elim
      | exit id => exact hq.elim
      | goto l => exact hq.elim
      | panic ch => exact hq.elim
      | outgrown => exact hq.elim
end
end Go.Proofs.Ytdflfnednaleeaa
