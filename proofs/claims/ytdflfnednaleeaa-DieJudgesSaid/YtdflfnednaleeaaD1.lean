/- The walks of functions: what each call hands back, and that nothing that was there has turned. Printed by a program of this session (wip/tools/gen.py). -/
import Derived.Test.YtdflfnednaleeaaFacts7
import Derived.Test.YtdflfnednaleeaaEq7
import Derived.Test.YtdflfnednaleeaaEls
namespace Go.Proofs.Ytdflfnednaleeaa
open Go
attribute [local irreducible] ExV Ex
set_option synthInstance.maxSize 2000
set_option synthInstance.maxHeartbeats 200000
set_option maxRecDepth 20000

/-- The place of the first one of which p holds, or -1. -/
def idxOf {α : Type} (p : α → Bool) : List α → Int
  | [] => -1
  | x :: r => if p x then 0 else if idxOf p r < 0 then -1 else idxOf p r + 1

theorem idxOf_any {α : Type} (p : α → Bool) (l : List α) : decide (0 ≤ idxOf p l) = l.any p := by
  induction l with
  | nil => rfl
  | cons x r ih =>
    unfold idxOf
    by_cases h : p x = true
    · simp [h]
    · simp only [Bool.not_eq_true] at h
      simp only [h, Bool.false_eq_true, if_false, List.any_cons, Bool.false_or]
      rw [← ih]
      by_cases h2 : idxOf p r < 0
      · rw [if_pos h2]; simp; omega
      · rw [if_neg h2]; simp; omega

theorem idxOf_at {α : Type} (p : α → Bool) : ∀ (l : List α) (k : Nat) (h : k < l.length), (l.take k).any p = false → p l[k] = true → idxOf p l = k
  | [], k, h, _, _ => by simp at h
  | x :: r, 0, _, _, hp => by simp only [List.getElem_cons_zero] at hp; simp [idxOf, hp]
  | x :: r, k + 1, h, hn, hp => by
    simp only [List.take_succ_cons, List.any_cons, Bool.or_eq_false_iff] at hn
    have e := idxOf_at p r k (by simpa using h) hn.2 (by simpa using hp)
    unfold idxOf
    rw [hn.1, e]
    simp
    omega

theorem idxOf_none {α : Type} (p : α → Bool) : ∀ (l : List α), l.any p = false → idxOf p l = -1
  | [], _ => rfl
  | x :: r, h => by
    simp only [List.any_cons, Bool.or_eq_false_iff] at h
    unfold idxOf
    rw [h.1, idxOf_none p r h.2]
    rfl

theorem any_take_succ {α : Type} (p : α → Bool) (l : List α) (k : Nat) (h : k < l.length) (h1 : (l.take k).any p = false) (h2 : p l[k] = false) : (l.take (k + 1)).any p = false := by
  rw [List.take_succ_eq_append_getElem h, List.any_append, h1]
  simp [h2]

/-- A span, a setting, an order. -/
structure Sp where
  (lo hi : Int)
structure Stg where
  (fr tg : Int)
structure Od where
  (pc st zl zh : Int)
instance spElt : Elt Sp where
  size := 2
  cells := fun s => [.int .i64 s.lo, .int .i64 s.hi]
  len := fun _ => rfl
  one := fun _ u h => by
    simp only [List.mem_cons, List.not_mem_nil, or_false] at h
    rcases h with rfl | rfl <;> rfl
  pos := by decide
instance stgElt : Elt Stg where
  size := 2
  cells := fun s => [.int .i64 s.fr, .int .i64 s.tg]
  len := fun _ => rfl
  one := fun _ u h => by
    simp only [List.mem_cons, List.not_mem_nil, or_false] at h
    rcases h with rfl | rfl <;> rfl
  pos := by decide
instance odElt : Elt Od where
  size := 4
  cells := fun s => [.int .i64 s.pc, .int .i64 s.st, .int .i64 s.zl, .int .i64 s.zh]
  len := fun _ => rfl
  one := fun _ u h => by
    simp only [List.mem_cons, List.not_mem_nil, or_false] at h
    rcases h with rfl | rfl | rfl | rfl <;> rfl
  pos := by decide
/-- What an element is as an argument. -/
abbrev spV (s : Sp) : Value := .agg [Value.int .i64 s.lo, .int .i64 s.hi].toArray
abbrev stgV (s : Stg) : Value := .agg [Value.int .i64 s.fr, .int .i64 s.tg].toArray
abbrev odV (s : Od) : Value := .agg [Value.int .i64 s.pc, .int .i64 s.st, .int .i64 s.zl, .int .i64 s.zh].toArray

-- == f104 slices.IndexFunc[[]int,int] params [52, 115] results [3] in [('tmp', ['4'])] ntmps 19 nfree 0
theorem c104 {g : Nat} {cap : List Value} (p : Int → Bool) (l : List Int) {A : Option Addr} {c : Nat} {w : World} (hl : l.length < 4611686018427387904) (hcall : ∀ vs W, (callFunc g vs).run Try.prog W = .ok (.enter g vs) W) (hrow : ElAt w A l)
    (hg : ∀ x, x ∈ l → ∀ W, Ext [] w W → Calls Try.prog g ([Value.int .i64 x] ++ cap).toArray W (fun e W' => e = .returned (.bool (p x)) ∧ Ext [] W W')) : Calls Try.prog 104 [.slice A l.length c, .func (.func g) [].toArray cap.toArray].toArray w fun e w' => e = .returned (.int .i64 (idxOf p l)) ∧ Ext [] w w' := by
  refine fn_start Try.func104 rfl (N := 19) rfl ?_
  refine k_seq (k_region ?_)
  refine o_val (ex_assign rfl) (o_nil ?_)
  refine k_seq (k_seq (k_region ?_))
  refine o_val (ex_move rfl) ?_
  refine o_val (ex_len Try.runUnderlying52 rfl) ?_
  refine o_val (ex_move rfl) (o_nil ?_)
  refine k_block ?_
  refine k_loop (ι := Nat) (fun k => [(0, .slice A l.length c), (1, .func (.func g) [].toArray cap.toArray), (7, .int .i64 l.length), (8, .int .i64 k)]) (fun k => []) (fun k => k ≤ l.length ∧ (l.take k).any p = false) (fun k => l.length - k) 0 ⟨Nat.zero_le _, rfl⟩ (Sub.cons rfl (Sub.cons rfl (Sub.cons rfl (Sub.cons rfl (Sub.nil _))))) SubE.sub (fun k hk => ?_)
  refine k_seq (k_region ?_)
  refine o_val (ex_lss rfl rfl) (o_nil ?_)
  refine k_seq (k_cond rfl (fun h => ?_) (fun h => ?_))
  ·
    obtain ⟨hk, hno⟩ := hk
    have hlt : k < l.length := by simpa using h
    obtain ⟨a, hA, hc⟩ := hrow k hlt
    subst hA
    refine k_skip ?_
    refine k_seq (k_block ?_)
    refine k_seq (k_region ?_)
    refine o_val (ex_move rfl) ?_
    refine o_val (ex_assign rfl) (o_nil ?_)
    refine k_seq (k_region ?_)
    refine o_val (ex_move rfl) ?_
    refine o_val (ex_move rfl) ?_
    refine o_val (ex_move rfl) ?_
    refine o_val (ex_index_old Try.runUnderlying52 Try.sizeOf3 rfl rfl (by omega) (by omega)) ?_
    refine o_val (ex_load_old Try.isAgg3 rfl (int_cell hc) (by simp)) ?_
    refine o_val (ex_callV hcall rfl rfl (fun W hW => (hg _ (List.getElem_mem hlt) W hW.ext))) (o_nil ?_)
    refine k_cond rfl (fun h_1 => ?_) (fun h_1 => ?_)
    ·
      refine k_seq (k_region ?_)
      refine o_val (ex_move rfl) ?_
      refine o_val (ex_assign rfl) (o_nil ?_)
      refine k_ret ?_
      exact fin1 rfl rfl fun W hW => ⟨by rw [idxOf_at p l k hlt hno h_1], hW.ext⟩
    ·
      refine k_skip ?_
      refine k_region ?_
      refine o_val (ex_add64 rfl rfl (by unfold I64; omega)) ?_
      refine o_val (ex_move rfl) (o_nil ?_)
      exact k_some (k + 1) ⟨⟨by omega, any_take_succ p l k hlt hno h_1⟩, by omega⟩ (Sub.cons rfl (Sub.cons rfl (Sub.cons rfl (Sub.cons rfl (Sub.nil _))))) SubE.sub
  ·
    obtain ⟨hk, hno⟩ := hk
    have hge : ¬ k < l.length := by simpa using h
    rw [List.take_of_length_le (by omega)] at hno
    refine k_exit rfl ?_
    refine k_seq (k_region ?_)
    refine o_val (ex_assign rfl) (o_nil ?_)
    refine k_ret ?_
    exact fin1 rfl rfl fun W hW => ⟨by rw [idxOf_none p l hno], hW.ext⟩

-- == f90 slices.ContainsFunc[[]int,int] params [52, 115] results [4] in [('tmp', ['4'])] ntmps 9 nfree 0
theorem c90 {g : Nat} {cap : List Value} (p : Int → Bool) (l : List Int) {A : Option Addr} {c : Nat} {w : World} (hl : l.length < 4611686018427387904) (hcall : ∀ vs W, (callFunc g vs).run Try.prog W = .ok (.enter g vs) W) (hrow : ElAt w A l)
    (hg : ∀ x, x ∈ l → ∀ W, Ext [] w W → Calls Try.prog g ([Value.int .i64 x] ++ cap).toArray W (fun e W' => e = .returned (.bool (p x)) ∧ Ext [] W W')) : Calls Try.prog 90 [.slice A l.length c, .func (.func g) [].toArray cap.toArray].toArray w fun e w' => e = .returned (.bool (l.any p)) ∧ Ext [] w w' := by
  refine fn_start Try.func90 rfl (N := 9) rfl ?_
  refine k_seq (k_region ?_)
  refine o_val (ex_assign rfl) (o_nil ?_)
  refine k_seq (k_region ?_)
  refine o_val (ex_move rfl) ?_
  refine o_val (ex_move rfl) ?_
  refine o_val (ex_call Try.call104 rfl (fun W hW => c104 p l hl hcall (hrow.ext hW.ext) (fun x hx W1 h1 => hg x hx W1 (hW.ext.trans0 h1)))) ?_
  refine o_val (ex_geq rfl rfl) ?_
  refine o_val (ex_assign rfl) (o_nil ?_)
  refine k_ret ?_
  exact fin1 rfl rfl fun W hW => ⟨by rw [idxOf_any], hW.ext⟩

-- == f103 slices.IndexFunc[[]acme/api.Span,acme/api.Span] params [24, 69] results [3] in [('tmp', ['4'])] ntmps 19 nfree 0
theorem c103 {g : Nat} {cap : List Value} (p : Sp → Bool) (l : List Sp) {A : Option Addr} {c : Nat} {w : World} (hl : l.length < 4611686018427387904) (hcall : ∀ vs W, (callFunc g vs).run Try.prog W = .ok (.enter g vs) W) (hrow : ElAt w A l)
    (hg : ∀ x, x ∈ l → ∀ W, Ext [] w W → Calls Try.prog g ([spV x] ++ cap).toArray W (fun e W' => e = .returned (.bool (p x)) ∧ Ext [] W W')) : Calls Try.prog 103 [.slice A l.length c, .func (.func g) [].toArray cap.toArray].toArray w fun e w' => e = .returned (.int .i64 (idxOf p l)) ∧ Ext [] w w' := by
  refine fn_start Try.func103 rfl (N := 19) rfl ?_
  refine k_seq (k_region ?_)
  refine o_val (ex_assign rfl) (o_nil ?_)
  refine k_seq (k_seq (k_region ?_))
  refine o_val (ex_move rfl) ?_
  refine o_val (ex_len Try.runUnderlying24 rfl) ?_
  refine o_val (ex_move rfl) (o_nil ?_)
  refine k_block ?_
  refine k_loop (ι := Nat) (fun k => [(0, .slice A l.length c), (1, .func (.func g) [].toArray cap.toArray), (7, .int .i64 l.length), (8, .int .i64 k)]) (fun k => []) (fun k => k ≤ l.length ∧ (l.take k).any p = false) (fun k => l.length - k) 0 ⟨Nat.zero_le _, rfl⟩ (Sub.cons rfl (Sub.cons rfl (Sub.cons rfl (Sub.cons rfl (Sub.nil _))))) SubE.sub (fun k hk => ?_)
  refine k_seq (k_region ?_)
  refine o_val (ex_lss rfl rfl) (o_nil ?_)
  refine k_seq (k_cond rfl (fun h => ?_) (fun h => ?_))
  ·
    obtain ⟨hk, hno⟩ := hk
    have hlt : k < l.length := by simpa using h
    obtain ⟨a, hA, hc⟩ := hrow k hlt
    subst hA
    refine k_skip ?_
    refine k_seq (k_block ?_)
    refine k_seq (k_region ?_)
    refine o_val (ex_move rfl) ?_
    refine o_val (ex_assign rfl) (o_nil ?_)
    refine k_seq (k_region ?_)
    refine o_val (ex_move rfl) ?_
    refine o_val (ex_move rfl) ?_
    refine o_val (ex_move rfl) ?_
    refine o_val (ex_index_old Try.runUnderlying24 Try.sizeOf23 rfl rfl (by omega) (by omega)) ?_
    refine o_val (ex_loadA_old Try.isAgg23 Try.sizeOf23 rfl rfl (vs := spElt.cells l[k]) hc (by simp)) ?_
    refine o_val (ex_callV hcall rfl rfl (fun W hW => (hg _ (List.getElem_mem hlt) W hW.ext))) (o_nil ?_)
    refine k_cond rfl (fun h_1 => ?_) (fun h_1 => ?_)
    ·
      refine k_seq (k_region ?_)
      refine o_val (ex_move rfl) ?_
      refine o_val (ex_assign rfl) (o_nil ?_)
      refine k_ret ?_
      exact fin1 rfl rfl fun W hW => ⟨by rw [idxOf_at p l k hlt hno h_1], hW.ext⟩
    ·
      refine k_skip ?_
      refine k_region ?_
      refine o_val (ex_add64 rfl rfl (by unfold I64; omega)) ?_
      refine o_val (ex_move rfl) (o_nil ?_)
      exact k_some (k + 1) ⟨⟨by omega, any_take_succ p l k hlt hno h_1⟩, by omega⟩ (Sub.cons rfl (Sub.cons rfl (Sub.cons rfl (Sub.cons rfl (Sub.nil _))))) SubE.sub
  ·
    obtain ⟨hk, hno⟩ := hk
    have hge : ¬ k < l.length := by simpa using h
    rw [List.take_of_length_le (by omega)] at hno
    refine k_exit rfl ?_
    refine k_seq (k_region ?_)
    refine o_val (ex_assign rfl) (o_nil ?_)
    refine k_ret ?_
    exact fin1 rfl rfl fun W hW => ⟨by rw [idxOf_none p l hno], hW.ext⟩

-- == f88 slices.ContainsFunc[[]acme/api.Span,acme/api.Span] params [24, 69] results [4] in [('tmp', ['4'])] ntmps 9 nfree 0
theorem c88 {g : Nat} {cap : List Value} (p : Sp → Bool) (l : List Sp) {A : Option Addr} {c : Nat} {w : World} (hl : l.length < 4611686018427387904) (hcall : ∀ vs W, (callFunc g vs).run Try.prog W = .ok (.enter g vs) W) (hrow : ElAt w A l)
    (hg : ∀ x, x ∈ l → ∀ W, Ext [] w W → Calls Try.prog g ([spV x] ++ cap).toArray W (fun e W' => e = .returned (.bool (p x)) ∧ Ext [] W W')) : Calls Try.prog 88 [.slice A l.length c, .func (.func g) [].toArray cap.toArray].toArray w fun e w' => e = .returned (.bool (l.any p)) ∧ Ext [] w w' := by
  refine fn_start Try.func88 rfl (N := 9) rfl ?_
  refine k_seq (k_region ?_)
  refine o_val (ex_assign rfl) (o_nil ?_)
  refine k_seq (k_region ?_)
  refine o_val (ex_move rfl) ?_
  refine o_val (ex_move rfl) ?_
  refine o_val (ex_call Try.call103 rfl (fun W hW => c103 p l hl hcall (hrow.ext hW.ext) (fun x hx W1 h1 => hg x hx W1 (hW.ext.trans0 h1)))) ?_
  refine o_val (ex_geq rfl rfl) ?_
  refine o_val (ex_assign rfl) (o_nil ?_)
  refine k_ret ?_
  exact fin1 rfl rfl fun W hW => ⟨by rw [idxOf_any], hW.ext⟩

-- == f106 slices.IndexFunc[[]acme/api.DieSetting,acme/api.DieSetting] params [43, 128] results [3] in [('tmp', ['4'])] ntmps 19 nfree 0
theorem c106 {g : Nat} {cap : List Value} (p : Stg → Bool) (l : List Stg) {A : Option Addr} {c : Nat} {w : World} (hl : l.length < 4611686018427387904) (hcall : ∀ vs W, (callFunc g vs).run Try.prog W = .ok (.enter g vs) W) (hrow : ElAt w A l)
    (hg : ∀ x, x ∈ l → ∀ W, Ext [] w W → Calls Try.prog g ([stgV x] ++ cap).toArray W (fun e W' => e = .returned (.bool (p x)) ∧ Ext [] W W')) : Calls Try.prog 106 [.slice A l.length c, .func (.func g) [].toArray cap.toArray].toArray w fun e w' => e = .returned (.int .i64 (idxOf p l)) ∧ Ext [] w w' := by
  refine fn_start Try.func106 rfl (N := 19) rfl ?_
  refine k_seq (k_region ?_)
  refine o_val (ex_assign rfl) (o_nil ?_)
  refine k_seq (k_seq (k_region ?_))
  refine o_val (ex_move rfl) ?_
  refine o_val (ex_len Try.runUnderlying43 rfl) ?_
  refine o_val (ex_move rfl) (o_nil ?_)
  refine k_block ?_
  refine k_loop (ι := Nat) (fun k => [(0, .slice A l.length c), (1, .func (.func g) [].toArray cap.toArray), (7, .int .i64 l.length), (8, .int .i64 k)]) (fun k => []) (fun k => k ≤ l.length ∧ (l.take k).any p = false) (fun k => l.length - k) 0 ⟨Nat.zero_le _, rfl⟩ (Sub.cons rfl (Sub.cons rfl (Sub.cons rfl (Sub.cons rfl (Sub.nil _))))) SubE.sub (fun k hk => ?_)
  refine k_seq (k_region ?_)
  refine o_val (ex_lss rfl rfl) (o_nil ?_)
  refine k_seq (k_cond rfl (fun h => ?_) (fun h => ?_))
  ·
    obtain ⟨hk, hno⟩ := hk
    have hlt : k < l.length := by simpa using h
    obtain ⟨a, hA, hc⟩ := hrow k hlt
    subst hA
    refine k_skip ?_
    refine k_seq (k_block ?_)
    refine k_seq (k_region ?_)
    refine o_val (ex_move rfl) ?_
    refine o_val (ex_assign rfl) (o_nil ?_)
    refine k_seq (k_region ?_)
    refine o_val (ex_move rfl) ?_
    refine o_val (ex_move rfl) ?_
    refine o_val (ex_move rfl) ?_
    refine o_val (ex_index_old Try.runUnderlying43 Try.sizeOf51 rfl rfl (by omega) (by omega)) ?_
    refine o_val (ex_loadA_old Try.isAgg51 Try.sizeOf51 rfl rfl (vs := stgElt.cells l[k]) hc (by simp)) ?_
    refine o_val (ex_callV hcall rfl rfl (fun W hW => (hg _ (List.getElem_mem hlt) W hW.ext))) (o_nil ?_)
    refine k_cond rfl (fun h_1 => ?_) (fun h_1 => ?_)
    ·
      refine k_seq (k_region ?_)
      refine o_val (ex_move rfl) ?_
      refine o_val (ex_assign rfl) (o_nil ?_)
      refine k_ret ?_
      exact fin1 rfl rfl fun W hW => ⟨by rw [idxOf_at p l k hlt hno h_1], hW.ext⟩
    ·
      refine k_skip ?_
      refine k_region ?_
      refine o_val (ex_add64 rfl rfl (by unfold I64; omega)) ?_
      refine o_val (ex_move rfl) (o_nil ?_)
      exact k_some (k + 1) ⟨⟨by omega, any_take_succ p l k hlt hno h_1⟩, by omega⟩ (Sub.cons rfl (Sub.cons rfl (Sub.cons rfl (Sub.cons rfl (Sub.nil _))))) SubE.sub
  ·
    obtain ⟨hk, hno⟩ := hk
    have hge : ¬ k < l.length := by simpa using h
    rw [List.take_of_length_le (by omega)] at hno
    refine k_exit rfl ?_
    refine k_seq (k_region ?_)
    refine o_val (ex_assign rfl) (o_nil ?_)
    refine k_ret ?_
    exact fin1 rfl rfl fun W hW => ⟨by rw [idxOf_none p l hno], hW.ext⟩

-- == f96 slices.ContainsFunc[[]acme/api.DieSetting,acme/api.DieSetting] params [43, 128] results [4] in [('tmp', ['4'])] ntmps 9 nfree 0
theorem c96 {g : Nat} {cap : List Value} (p : Stg → Bool) (l : List Stg) {A : Option Addr} {c : Nat} {w : World} (hl : l.length < 4611686018427387904) (hcall : ∀ vs W, (callFunc g vs).run Try.prog W = .ok (.enter g vs) W) (hrow : ElAt w A l)
    (hg : ∀ x, x ∈ l → ∀ W, Ext [] w W → Calls Try.prog g ([stgV x] ++ cap).toArray W (fun e W' => e = .returned (.bool (p x)) ∧ Ext [] W W')) : Calls Try.prog 96 [.slice A l.length c, .func (.func g) [].toArray cap.toArray].toArray w fun e w' => e = .returned (.bool (l.any p)) ∧ Ext [] w w' := by
  refine fn_start Try.func96 rfl (N := 9) rfl ?_
  refine k_seq (k_region ?_)
  refine o_val (ex_assign rfl) (o_nil ?_)
  refine k_seq (k_region ?_)
  refine o_val (ex_move rfl) ?_
  refine o_val (ex_move rfl) ?_
  refine o_val (ex_call Try.call106 rfl (fun W hW => c106 p l hl hcall (hrow.ext hW.ext) (fun x hx W1 h1 => hg x hx W1 (hW.ext.trans0 h1)))) ?_
  refine o_val (ex_geq rfl rfl) ?_
  refine o_val (ex_assign rfl) (o_nil ?_)
  refine k_ret ?_
  exact fin1 rfl rfl fun W hW => ⟨by rw [idxOf_any], hW.ext⟩

end Go.Proofs.Ytdflfnednaleeaa
