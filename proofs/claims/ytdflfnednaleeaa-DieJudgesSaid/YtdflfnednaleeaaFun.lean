/- Own layer: whole functions. -/
import Derived.Test.YtdflfnednaleeaaLib
namespace Go.Proofs.Ytdflfnednaleeaa
open Go

def gamOf : Nat → List Value → Gam
  | _, [] => []
  | i, v :: vs => (i, v) :: gamOf (i + 1) vs

theorem gl_gamOf : ∀ (l : List Value) (i j : Nat) (v : Value), gl (gamOf i l) j = some v → i ≤ j ∧ l[j - i]? = some v
  | [], _, _, _, h => by cases h
  | u :: l, i, j, v, h => by
    by_cases hij : i = j
    · subst hij
      unfold gamOf at h
      rw [gl_cons_same] at h
      exact ⟨Nat.le_refl _, by simpa using h⟩
    · unfold gamOf at h
      rw [gl_cons_other hij] at h
      obtain ⟨h1, h2⟩ := gl_gamOf l (i + 1) j v h
      refine ⟨by omega, ?_⟩
      rw [show j - i = (j - (i + 1)) + 1 from by omega, List.getElem?_cons_succ]
      exact h2

/-- What is wanted at a function's end. -/
def Fin (P : Program) (fn : Func) (R : Ending → World → Prop) : AW := fun a W => a.defers = [] ∧ ∃ v, (results fn a.tmps).run P W = .ok v W ∧ R (.returned v) W

section
variable {P : Program} {N : Nat} {w0 : World} {M : List Nat} {Γ : Gam} {H : Hp} {R : Ending → World → Prop}

theorem fn_startW {f : Nat} {fn : Func} {c : Code} {l : List Value} {W : World} (hf : P.funcs[f]? = some fn) (hb : fn.body = some c) (hN : fn.ntmps = N) (hl : l.length ≤ N) (hS : Sat w0 M H W)
    (h : Kn N w0 M (gamOf 0 l) H (cw none P c (Qof (Fin P fn R) (Fin P fn R) []))) : Calls P f l.toArray W R := by
  refine calls_of_wp hf hb (wp_mono ((wpIn_wide (n := 3)).1 (h _ W ⟨?_, rfl, ?_⟩ hS)) ?_)
  · simp [hN]; omega
  · intro i v hi
    obtain ⟨_, h2⟩ := gl_gamOf l 0 i v hi
    simp only [Nat.sub_zero] at h2
    have hlt : i < l.length := (List.getElem?_eq_some_iff.1 h2).1
    rw [Array.getElem?_append_left (by simpa using hlt)]
    simpa using h2
  · intro e a W q
    cases e with
    | normal => exact q
    | ret => exact q
    | exit id => exact q.elim
    | goto l => exact q.elim
    | panic ch => exact q.elim
    | outgrown => exact q.elim

theorem fn_start' {f : Nat} {fn : Func} {c : Code} {l : List Value} (hf : P.funcs[f]? = some fn) (hb : fn.body = some c) (hN : fn.ntmps = N) (hl : l.length ≤ N) (hS : Sat w0 M H w0)
    (h : Kn N w0 M (gamOf 0 l) H (cw none P c (Qof (Fin P fn R) (Fin P fn R) []))) : Calls P f l.toArray w0 R := fn_startW hf hb hN hl hS h

theorem fn_start {f : Nat} {fn : Func} {c : Code} {l : List Value} (hf : P.funcs[f]? = some fn) (hb : fn.body = some c) (hN : fn.ntmps = N)
    (h : Kn N w0 [] (gamOf 0 l) [] (cw none P c (Qof (Fin P fn R) (Fin P fn R) []))) (hl : Nat.ble l.length N = true := by rfl) : Calls P f l.toArray w0 R :=
  fn_start' hf hb hN (Nat.le_of_ble_eq_true hl) (Sat.start w0 []) h

/-! ### What is handed back -/
theorem getD_of {a : Act} (ha : Holds N Γ a) {t : Nat} {v : Value} (h : gl Γ t = some v) : a.tmps[t]?.getD undef = v := by rw [ha.at_ t v h]; rfl

theorem fin1 {fn : Func} {t : Nat} {v : Value} (hr : fn.results = #[.tmp t]) (hv : gl Γ t = some v) (h : ∀ W, Sat w0 M H W → R (.returned v) W) : Kn N w0 M Γ H (Fin P fn R) :=
  fun a W ha hW => ⟨ha.defers, v, by simp [results, hr, getD_of ha hv], h W hW⟩
theorem fin2 {fn : Func} {t u : Nat} {v v' : Value} (hr : fn.results = #[.tmp t, .tmp u]) (hv : gl Γ t = some v) (hv' : gl Γ u = some v') (h : ∀ W, Sat w0 M H W → R (.returned (.tuple #[v, v'])) W) : Kn N w0 M Γ H (Fin P fn R) :=
  fun a W ha hW => ⟨ha.defers, _, by simp [results, hr, getD_of ha hv, getD_of ha hv'], h W hW⟩
theorem fin3 {fn : Func} {t u s : Nat} {v v' v'' : Value} (hr : fn.results = #[.tmp t, .tmp u, .tmp s]) (hv : gl Γ t = some v) (hv' : gl Γ u = some v') (hv'' : gl Γ s = some v'') (h : ∀ W, Sat w0 M H W → R (.returned (.tuple #[v, v', v''])) W) :
    Kn N w0 M Γ H (Fin P fn R) :=
  fun a W ha hW => ⟨ha.defers, _, by simp [results, hr, getD_of ha hv, getD_of ha hv', getD_of ha hv''], h W hW⟩

theorem loadVar_ent {W : World} (hW : Sat w0 M H W) {T tb : TypeId} {b n : Nat} {cs : List Value} {own : Bool} (hA : ∀ W, (isAgg T).run P W = .ok true W) (hS : ∀ W, (sizeOf T).run P W = .ok n W) [he : HasE H b tb cs own] (hn : cs.length = n) :
    (loadVar T ⟨b, 0, none⟩).run P W = .ok (.agg cs.toArray) W :=
  run_loadVar_agg (hA W) (hS W) hn fun j v hj => by rw [add_lit, cell_of (hW.cells he)]; simpa using hj

/-- A struct in a variable. -/
theorem finC {fn : Func} {t : Nat} {T tb : TypeId} {b n : Nat} {cs : List Value} {own : Bool} (hr : fn.results = #[.cell t T]) (hA : ∀ W, (isAgg T).run P W = .ok true W) (hS : ∀ W, (sizeOf T).run P W = .ok n W)
    (hv : gl Γ t = some (.pointer (some ⟨b, 0, none⟩))) [he : HasE H b tb cs own] (hn : cs.length = n) (h : ∀ W, Sat w0 M H W → R (.returned (.agg cs.toArray)) W) : Kn N w0 M Γ H (Fin P fn R) :=
  fun a W ha hW => ⟨ha.defers, _, by simp [results, hr, getD_of ha hv, asAddr, loadVar_ent hW hA hS hn], h W hW⟩
theorem finC1 {fn : Func} {t u : Nat} {T tb : TypeId} {b n : Nat} {cs : List Value} {own : Bool} {v : Value} (hr : fn.results = #[.cell t T, .tmp u]) (hA : ∀ W, (isAgg T).run P W = .ok true W) (hS : ∀ W, (sizeOf T).run P W = .ok n W)
    (hv : gl Γ t = some (.pointer (some ⟨b, 0, none⟩))) [he : HasE H b tb cs own] (hn : cs.length = n) (hu : gl Γ u = some v) (h : ∀ W, Sat w0 M H W → R (.returned (.tuple #[.agg cs.toArray, v])) W) : Kn N w0 M Γ H (Fin P fn R) :=
  fun a W ha hW => ⟨ha.defers, _, by simp [results, hr, getD_of ha hv, getD_of ha hu, asAddr, loadVar_ent hW hA hS hn], h W hW⟩
theorem finCC1 {fn : Func} {t t' u : Nat} {T T' tb tb' : TypeId} {b b' n n' : Nat} {cs cs' : List Value} {own own' : Bool} {v : Value} (hr : fn.results = #[.cell t T, .cell t' T', .tmp u])
    (hA : ∀ W, (isAgg T).run P W = .ok true W) (hS : ∀ W, (sizeOf T).run P W = .ok n W) (hA' : ∀ W, (isAgg T').run P W = .ok true W) (hS' : ∀ W, (sizeOf T').run P W = .ok n' W)
    (hv : gl Γ t = some (.pointer (some ⟨b, 0, none⟩))) [he : HasE H b tb cs own] (hn : cs.length = n) (hv' : gl Γ t' = some (.pointer (some ⟨b', 0, none⟩))) [he' : HasE H b' tb' cs' own'] (hn' : cs'.length = n') (hu : gl Γ u = some v)
    (h : ∀ W, Sat w0 M H W → R (.returned (.tuple #[.agg cs.toArray, .agg cs'.toArray, v])) W) : Kn N w0 M Γ H (Fin P fn R) :=
  fun a W ha hW => ⟨ha.defers, _, by simp [results, hr, getD_of ha hv, getD_of ha hv', getD_of ha hu, asAddr, loadVar_ent hW hA hS hn, loadVar_ent hW hA' hS' hn'], h W hW⟩

/-! ### Steps of a region by kind -/
variable {ops : Array Oper} {Q : Exit → Act → World → Prop} {next : AW} {ty : Nat} {pos : String} {aft : Array Edge} {d : Nat} {rest : List Oper}

theorem o_box {x : Operand} {t : TypeId} {v : Value} {cs : List Value} (hx : ev Γ x = some v) [CellsOf v cs]
    (k : ∀ b, OpsN P ops Q next N w0 M rest ((d, .pointer (some ⟨b, 0, none⟩)) :: Γ) (⟨b, t, cs, true⟩ :: H)) (hdN : d < N := by decide) : OpsN P ops Q next N w0 M (⟨some d, .box t x, ty, pos, aft, none⟩ :: rest) Γ H :=
  o_step (ex_box hx) (by rintro _ _ ⟨b, rfl, rfl⟩; exact k b) rfl rfl hdN
theorem o_alloc {t : TypeId} {z : Value} {cs : List Value} (hz : ∀ W, (zeroValue t).run P W = .ok z W) [CellsOf z cs]
    (k : ∀ b, OpsN P ops Q next N w0 M rest ((d, .pointer (some ⟨b, 0, none⟩)) :: Γ) (⟨b, t, cs, true⟩ :: H)) (hdN : d < N := by decide) : OpsN P ops Q next N w0 M (⟨some d, .alloc t, ty, pos, aft, none⟩ :: rest) Γ H :=
  o_step (ex_alloc hz) (by rintro _ _ ⟨b, rfl, rfl⟩; exact k b) rfl rfl hdN
theorem o_store {x y : Operand} {t tb : TypeId} {b o n : Nat} {v : Value} {vs cs cs' : List Value} {H' : Hp} (hS : ∀ W, (sizeOf t).run P W = .ok n W) (hx : ev Γ x = some (.pointer (some ⟨b, o, none⟩))) (hy : ev Γ y = some v)
    [CellsOf v vs] [HasE H b tb cs true] [Spl cs o vs cs'] [SetE H b cs' H'] (k : OpsN P ops Q next N w0 M rest Γ H') (hn : vs.length = n := by rfl) (h1 : vs.all (·.oneCell') = true := by rfl) :
    OpsN P ops Q next N w0 M (⟨none, .store t x y, ty, pos, aft, none⟩ :: rest) Γ H :=
  o_step_none (ex_store hS hx hy hn h1 (cs' := cs') (H' := H')) (by rintro _ _ ⟨_, rfl⟩; exact k) rfl rfl

end
end Go.Proofs.Ytdflfnednaleeaa
