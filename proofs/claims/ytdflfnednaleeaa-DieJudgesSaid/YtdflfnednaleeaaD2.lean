/- The walks of functions: what each call hands back, and that nothing that was there has turned. Printed by a program of this session (wip/tools/gen.py). -/
import Derived.Test.YtdflfnednaleeaaD1
namespace Go.Proofs.Ytdflfnednaleeaa
open Go
attribute [local irreducible] ExV Ex
set_option synthInstance.maxSize 2000
set_option synthInstance.maxHeartbeats 200000
set_option maxRecDepth 20000

theorem isSp3 (lo hi least most : Int) : ((decide (least ≤ lo) && decide (lo ≤ hi)) && decide (hi ≤ most)) = decide (lo ≤ hi ∧ least ≤ lo ∧ hi ≤ most) := by
  rw [Bool.eq_iff_iff]
  simp only [Bool.and_eq_true, decide_eq_true_eq]
  omega
def wi (least most : Int) (l : List Int) : Bool := !l.any fun n => decide (n < least) || decide (most < n)
def isSp (lo hi least most : Int) : Bool := decide (lo ≤ hi ∧ least ≤ lo ∧ hi ≤ most)
theorem wi_one (least most n : Int) : wi least most [n] = decide (least ≤ n ∧ n ≤ most) := by
  simp only [wi, List.any_cons, List.any_nil, Bool.or_false, Bool.not_or]
  by_cases h : least ≤ n <;> by_cases k : n ≤ most <;> simp [h, k] <;> omega
theorem wi_two (least most n m : Int) : wi least most [n, m] = decide (least ≤ n ∧ n ≤ most ∧ least ≤ m ∧ m ≤ most) := by
  unfold wi
  rw [Bool.eq_iff_iff]
  simp only [List.any_cons, List.any_nil, Bool.or_false, Bool.not_eq_true', Bool.or_eq_false_iff, decide_eq_false_iff_not, decide_eq_true_eq]
  omega
theorem isSp_eq (lo hi least most : Int) : (decide (lo ≤ hi) && wi least most [lo, hi]) = isSp lo hi least most := by
  rw [wi_two]
  unfold isSp
  rw [Bool.eq_iff_iff]
  simp only [Bool.and_eq_true, decide_eq_true_eq]
  omega
theorem isSp_iff {lo hi least most : Int} : isSp lo hi least most = true ↔ lo ≤ hi ∧ least ≤ lo ∧ hi ≤ most := by unfold isSp; simp
theorem notT {x : Bool} (h : (!x) = true) : ¬ x = true := by simpa using h
theorem notF {x : Bool} (h : (!x) = true) : x = false := by simpa using h
theorem cell_ent {w0 : World} {M : List Nat} {H : Hp} {W : World} (hW : Sat w0 M H W) {b : Nat} {t : TypeId} {cs : List Value} {own : Bool} [he : HasE H b t cs own] {o : Nat} {v : Value} (h : cs[o]? = some v) : W.cell? ⟨b, o, none⟩ = some v := by
  rw [cell_of (hW.cells he)]; exact h

-- == f91 acme/die.within$1 params [3] results [4] in [('tmp', ['4'])] ntmps 13 nfree 2
theorem c91 (n least most : Int) {p q : Addr} {w : World} (hp : w.cell? p = some (.int .i64 least)) (hq : w.cell? q = some (.int .i64 most)) : Calls Try.prog 91 [.int .i64 n, .pointer (some p), .pointer (some q)].toArray w fun e w' => e = .returned (.bool (decide (n < least) || decide (most < n))) ∧ Ext [] w w' := by
  refine fn_start Try.func91 rfl (N := 13) rfl ?_
  refine k_seq (k_region ?_)
  refine o_val (ex_assign rfl) (o_nil ?_)
  refine k_seq (k_region ?_)
  refine o_val (ex_move rfl) ?_
  refine o_val (ex_load_old Try.isAgg3 rfl hp (by simp)) ?_
  refine o_val (ex_lss rfl rfl) ?_
  refine o_val (ex_move rfl) ?_
  refine o_or 3 (c := decide (most < n)) (fun h => ?_) ?_
  · refine o_val_g (ex_move rfl) ?_
    refine o_val_g (ex_load_old Try.isAgg3 rfl hq (by simp)) ?_
    exact o_val_g (ex_gtr rfl rfl) (o_nil (got rfl (.refl _)))
  refine o_val (ex_assign rfl) (o_nil ?_)
  refine k_ret ?_
  exact fin1 rfl rfl fun W hW => ⟨rfl, hW.ext⟩

-- == f60 acme/die.within params [3, 3, 52] results [4] in [('tmp', ['6'])] ntmps 11 nfree 0
theorem c60 (least most : Int) (l : List Int) {A : Option Addr} {c : Nat} {w : World} (hl : l.length < 4611686018427387904) (hrow : ElAt w A l) : Calls Try.prog 60 [.int .i64 least, .int .i64 most, .slice A l.length c].toArray w fun e w' => e = .returned (.bool (wi least most l)) ∧ Ext [] w w' := by
  refine fn_start Try.func60 rfl (N := 11) rfl ?_
  refine k_seq (k_region ?_)
  refine o_box rfl (fun b3 => ?_)
  refine o_box rfl (fun b4 => ?_)
  refine o_val (ex_assign rfl) (o_nil ?_)
  refine k_seq (k_region ?_)
  refine o_val (ex_move rfl) ?_
  refine o_val (ex_makeFunc rfl rfl) ?_
  refine o_val (ex_call Try.call90 rfl (fun W hW => (by exact c90 (g := 91) (cap := [.pointer (some ⟨b3, 0, none⟩), .pointer (some ⟨b4, 0, none⟩)]) (fun n => decide (n < least) || decide (most < n)) l hl Try.call91 (hrow.ext hW.ext) (fun x _ W1 h1 => c91 x least most (by have := hW.ext0 h1; exact cell_ent this (b := b3) (o := 0) rfl) (by have := hW.ext0 h1; exact cell_ent this (b := b4) (o := 0) rfl))))) ?_
  refine o_val (ex_not rfl) ?_
  refine o_val (ex_assign rfl) (o_nil ?_)
  refine k_ret ?_
  exact fin1 rfl rfl fun W hW => ⟨rfl, hW.ext⟩

-- == f79 acme/die.isSpan params [23, 3, 3] results [4] in [('tmp', ['6'])] ntmps 22 nfree 0
theorem c79 (lo hi least most : Int) {w : World} : Calls Try.prog 79 [.agg [.int .i64 lo, .int .i64 hi].toArray, .int .i64 least, .int .i64 most].toArray w fun e w' => e = .returned (.bool (isSp lo hi least most)) ∧ Ext [] w w' := by
  refine fn_start Try.func79 rfl (N := 22) rfl ?_
  refine k_seq (k_region ?_)
  refine o_box rfl (fun b3 => ?_)
  refine o_val (ex_assign rfl) (o_nil ?_)
  refine k_seq (k_region ?_)
  refine o_val (ex_field (o := 0) 0 fa23_0 rfl rfl) ?_
  refine o_val (ex_load Try.isAgg3 rfl rfl) ?_
  refine o_val (ex_field (o := 0) 1 fa23_1 rfl rfl) ?_
  refine o_val (ex_load Try.isAgg3 rfl rfl) ?_
  refine o_val (ex_leq rfl rfl) ?_
  refine o_val (ex_move rfl) ?_
  refine o_and 8 (c := wi least most [lo, hi]) (fun h => ?_) ?_
  · refine o_val_g (ex_move rfl) ?_
    refine o_val_g (ex_move rfl) ?_
    refine o_val_g (ex_field (o := 0) 0 fa23_0 rfl rfl) ?_
    refine o_val_g (ex_load Try.isAgg3 rfl rfl) ?_
    refine o_val_g (ex_field (o := 0) 1 fa23_1 rfl rfl) ?_
    refine o_val_g (ex_load Try.isAgg3 rfl rfl) ?_
    refine o_buildSlice_g [.int .i64 0, .int .i64 0] [(0, 1), (1, 1)] Try.runUnderlying52 Try.sizeOf3 Try.zeroValue3 rfl (fun b19 => ?_)
    exact o_val_g (ex_call Try.call60 rfl (fun W hW => (by exact c60 least most [lo, hi] (by simp) (el_ent hW b19 [lo, hi] rfl)))) (o_nil (got rfl (.cons _ (.refl _))))
  refine o_val (ex_assign rfl) (o_nil ?_)
  refine k_ret ?_
  exact fin1 rfl rfl fun W hW => ⟨by rw [isSp_eq], hW.ext⟩

-- == f61 acme/die.isZone params [23] results [4] in [('tmp', ['2'])] ntmps 5 nfree 0
theorem c61 (lo hi : Int) {w : World} : Calls Try.prog 61 [.agg [.int .i64 lo, .int .i64 hi].toArray].toArray w fun e w' => e = .returned (.bool (isSp lo hi 0 10000000000)) ∧ Ext [] w w' := by
  refine fn_start Try.func61 rfl (N := 5) rfl ?_
  refine k_seq (k_region ?_)
  refine o_box rfl (fun b1 => ?_)
  refine o_val (ex_assign rfl) (o_nil ?_)
  refine k_seq (k_region ?_)
  refine o_val (ex_loadA Try.isAgg23 Try.sizeOf23 rfl) ?_
  refine o_val (ex_call Try.call79 rfl (fun W hW => c79 lo hi 0 10000000000)) ?_
  refine o_val (ex_assign rfl) (o_nil ?_)
  refine k_ret ?_
  exact fin1 rfl rfl fun W hW => ⟨rfl, hW.ext⟩

-- == f78 acme/die.isSize params [23] results [4] in [('tmp', ['2'])] ntmps 5 nfree 0
theorem c78 (lo hi : Int) {w : World} : Calls Try.prog 78 [.agg [.int .i64 lo, .int .i64 hi].toArray].toArray w fun e w' => e = .returned (.bool (isSp lo hi (-20000000000) 20000000000)) ∧ Ext [] w w' := by
  refine fn_start Try.func78 rfl (N := 5) rfl ?_
  refine k_seq (k_region ?_)
  refine o_box rfl (fun b1 => ?_)
  refine o_val (ex_assign rfl) (o_nil ?_)
  refine k_seq (k_region ?_)
  refine o_val (ex_loadA Try.isAgg23 Try.sizeOf23 rfl) ?_
  refine o_val (ex_call Try.call79 rfl (fun W hW => c79 lo hi (-20000000000) 20000000000)) ?_
  refine o_val (ex_assign rfl) (o_nil ?_)
  refine k_ret ?_
  exact fin1 rfl rfl fun W hW => ⟨rfl, hW.ext⟩

-- == f87 acme/die.checkTool$1 params [23] results [4] in [('tmp', ['2'])] ntmps 5 nfree 0
theorem c87 (lo hi : Int) {w : World} : Calls Try.prog 87 [.agg [.int .i64 lo, .int .i64 hi].toArray].toArray w fun e w' => e = .returned (.bool (isSp lo hi (-1000000) 1000000)) ∧ Ext [] w w' := by
  refine fn_start Try.func87 rfl (N := 5) rfl ?_
  refine k_seq (k_region ?_)
  refine o_box rfl (fun b1 => ?_)
  refine o_val (ex_assign rfl) (o_nil ?_)
  refine k_seq (k_region ?_)
  refine o_val (ex_loadA Try.isAgg23 Try.sizeOf23 rfl) ?_
  refine o_val (ex_call Try.call79 rfl (fun W hW => c79 lo hi (-1000000) 1000000)) ?_
  refine o_val (ex_assign rfl) (o_nil ?_)
  refine k_ret ?_
  exact fin1 rfl rfl fun W hW => ⟨rfl, hW.ext⟩

-- == f89 acme/die.checkTool$2 params [23] results [4] in [('tmp', ['2'])] ntmps 6 nfree 0
theorem c89 (lo hi : Int) {w : World} : Calls Try.prog 89 [.agg [.int .i64 lo, .int .i64 hi].toArray].toArray w fun e w' => e = .returned (.bool (!isSp lo hi 0 100000)) ∧ Ext [] w w' := by
  refine fn_start Try.func89 rfl (N := 6) rfl ?_
  refine k_seq (k_region ?_)
  refine o_box rfl (fun b1 => ?_)
  refine o_val (ex_assign rfl) (o_nil ?_)
  refine k_seq (k_region ?_)
  refine o_val (ex_loadA Try.isAgg23 Try.sizeOf23 rfl) ?_
  refine o_val (ex_call Try.call79 rfl (fun W hW => c79 lo hi 0 100000)) ?_
  refine o_val (ex_not rfl) ?_
  refine o_val (ex_assign rfl) (o_nil ?_)
  refine k_ret ?_
  exact fin1 rfl rfl fun W hW => ⟨rfl, hW.ext⟩

-- == f98 acme/die.isTarget params [3] results [4] in [('tmp', ['2'])] ntmps 6 nfree 0
theorem c98 (n : Int) {w : World} : Calls Try.prog 98 [.int .i64 n].toArray w fun e w' => e = .returned (.bool (wi (-10000000000) 20000000000 [n])) ∧ Ext [] w w' := by
  refine fn_start Try.func98 rfl (N := 6) rfl ?_
  refine k_seq (k_region ?_)
  refine o_val (ex_assign rfl) (o_nil ?_)
  refine k_seq (k_region ?_)
  refine o_val (ex_move rfl) ?_
  refine o_buildSlice [.int .i64 0] [(0, 1)] Try.runUnderlying52 Try.sizeOf3 Try.zeroValue3 rfl (fun b4 => ?_)
  refine o_val (ex_call Try.call60 rfl (fun W hW => (by exact c60 (-10000000000) 20000000000 [n] (by simp) (el_ent hW b4 [n] rfl)))) ?_
  refine o_val (ex_assign rfl) (o_nil ?_)
  refine k_ret ?_
  exact fin1 rfl rfl fun W hW => ⟨rfl, hW.ext⟩

-- == f97 (*acme/die.shop).isPlan$1 params [51] results [4] in [('tmp', ['2'])] ntmps 7 nfree 0
theorem c97 (x : Stg) {w : World} : Calls Try.prog 97 [stgV x].toArray w fun e w' => e = .returned (.bool (!wi (-10000000000) 20000000000 [x.tg])) ∧ Ext [] w w' := by
  refine fn_start Try.func97 rfl (N := 7) rfl ?_
  refine k_seq (k_region ?_)
  refine o_box rfl (fun b1 => ?_)
  refine o_val (ex_assign rfl) (o_nil ?_)
  refine k_seq (k_region ?_)
  refine o_val (ex_field (o := 0) 1 fa51_1 rfl rfl) ?_
  refine o_val (ex_load Try.isAgg3 rfl rfl) ?_
  refine o_val (ex_call Try.call98 rfl (fun W hW => c98 x.tg)) ?_
  refine o_val (ex_not rfl) ?_
  refine o_val (ex_assign rfl) (o_nil ?_)
  refine k_ret ?_
  exact fin1 rfl rfl fun W hW => ⟨rfl, hW.ext⟩

-- == f80 acme/die.plus params [23, 23] results [23] in [('cell', ['4', '23'])] ntmps 16 nfree 0
theorem c80 (a b c d : Int) {w : World} (h1 : I64 (a + c)) (h2 : I64 (b + d)) : Calls Try.prog 80 [.agg [.int .i64 a, .int .i64 b].toArray, .agg [.int .i64 c, .int .i64 d].toArray].toArray w fun e w' => e = .returned (.agg [.int .i64 (a + c), .int .i64 (b + d)].toArray) ∧ Ext [] w w' := by
  refine fn_start Try.func80 rfl (N := 16) rfl ?_
  refine k_seq (k_region ?_)
  refine o_box rfl (fun b2 => ?_)
  refine o_box rfl (fun b3 => ?_)
  refine o_alloc Try.zeroValue23 (fun b4 => o_nil ?_)
  refine k_seq (k_region ?_)
  refine o_val (ex_field (o := 0) 0 fa23_0 rfl rfl) ?_
  refine o_val (ex_load Try.isAgg3 rfl rfl) ?_
  refine o_val (ex_field (o := 0) 0 fa23_0 rfl rfl) ?_
  refine o_val (ex_load Try.isAgg3 rfl rfl) ?_
  refine o_val (ex_add64 rfl rfl h1) ?_
  refine o_val (ex_field (o := 0) 1 fa23_1 rfl rfl) ?_
  refine o_val (ex_load Try.isAgg3 rfl rfl) ?_
  refine o_val (ex_field (o := 0) 1 fa23_1 rfl rfl) ?_
  refine o_val (ex_load Try.isAgg3 rfl rfl) ?_
  refine o_val (ex_add64 rfl rfl h2) ?_
  refine o_val (ex_build bf23 rfl) ?_
  refine o_store Try.sizeOf23 rfl rfl (o_nil ?_)
  refine k_ret ?_
  exact finC rfl Try.isAgg23 Try.sizeOf23 rfl rfl fun W hW => ⟨rfl, hW.ext⟩

-- == f81 acme/die.turned params [23] results [23] in [('cell', ['2', '23'])] ntmps 10 nfree 0
theorem c81 (lo hi : Int) {w : World} (h1 : I64 (-lo)) (h2 : I64 (-hi)) : Calls Try.prog 81 [.agg [.int .i64 lo, .int .i64 hi].toArray].toArray w fun e w' => e = .returned (.agg [.int .i64 (-hi), .int .i64 (-lo)].toArray) ∧ Ext [] w w' := by
  refine fn_start Try.func81 rfl (N := 10) rfl ?_
  refine k_seq (k_region ?_)
  refine o_box rfl (fun b1 => ?_)
  refine o_alloc Try.zeroValue23 (fun b2 => o_nil ?_)
  refine k_seq (k_region ?_)
  refine o_val (ex_field (o := 0) 1 fa23_1 rfl rfl) ?_
  refine o_val (ex_load Try.isAgg3 rfl rfl) ?_
  refine o_val (ex_neg64 rfl (by assumption)) ?_
  refine o_val (ex_field (o := 0) 0 fa23_0 rfl rfl) ?_
  refine o_val (ex_load Try.isAgg3 rfl rfl) ?_
  refine o_val (ex_neg64 rfl (by assumption)) ?_
  refine o_val (ex_build bf23 rfl) ?_
  refine o_store Try.sizeOf23 rfl rfl (o_nil ?_)
  refine k_ret ?_
  exact finC rfl Try.isAgg23 Try.sizeOf23 rfl rfl fun W hW => ⟨rfl, hW.ext⟩

-- == f94 acme/die.times params [23, 3] results [23] in [('cell', ['4', '23'])] ntmps 14 nfree 0
theorem c94 (lo hi n : Int) {w : World} (h1 : I64 (lo * n)) (h2 : I64 (hi * n)) : Calls Try.prog 94 [.agg [.int .i64 lo, .int .i64 hi].toArray, .int .i64 n].toArray w fun e w' => e = .returned (.agg [.int .i64 (lo * n), .int .i64 (hi * n)].toArray) ∧ Ext [] w w' := by
  refine fn_start Try.func94 rfl (N := 14) rfl ?_
  refine k_seq (k_region ?_)
  refine o_box rfl (fun b2 => ?_)
  refine o_alloc Try.zeroValue23 (fun b4 => o_nil ?_)
  refine k_seq (k_region ?_)
  refine o_val (ex_field (o := 0) 0 fa23_0 rfl rfl) ?_
  refine o_val (ex_load Try.isAgg3 rfl rfl) ?_
  refine o_val (ex_move rfl) ?_
  refine o_val (ex_mul64 rfl rfl h1) ?_
  refine o_val (ex_field (o := 0) 1 fa23_1 rfl rfl) ?_
  refine o_val (ex_load Try.isAgg3 rfl rfl) ?_
  refine o_val (ex_move rfl) ?_
  refine o_val (ex_mul64 rfl rfl h2) ?_
  refine o_val (ex_build bf23 rfl) ?_
  refine o_store Try.sizeOf23 rfl rfl (o_nil ?_)
  refine k_ret ?_
  exact finC rfl Try.isAgg23 Try.sizeOf23 rfl rfl fun W hW => ⟨rfl, hW.ext⟩

-- == f44 acme/acmelaw07.span params [3, 3] results [23] in [('cell', ['4', '23'])] ntmps 8 nfree 0
theorem c44 (lo hi : Int) {w : World} : Calls Try.prog 44 [.int .i64 lo, .int .i64 hi].toArray w fun e w' => e = .returned (.agg [.int .i64 lo, .int .i64 hi].toArray) ∧ Ext [] w w' := by
  refine fn_start Try.func44 rfl (N := 8) rfl ?_
  refine k_seq (k_region ?_)
  refine o_alloc Try.zeroValue23 (fun b4 => o_nil ?_)
  refine k_seq (k_region ?_)
  refine o_val (ex_move rfl) ?_
  refine o_val (ex_move rfl) ?_
  refine o_val (ex_build bf23 rfl) ?_
  refine o_store Try.sizeOf23 rfl rfl (o_nil ?_)
  refine k_ret ?_
  exact finC rfl Try.isAgg23 Try.sizeOf23 rfl rfl fun W hW => ⟨rfl, hW.ext⟩

-- == f27 acme/acmeref07.In params [3, 3, 3] results [4] in [('tmp', ['6'])] ntmps 15 nfree 0
theorem c27 (n least most : Int) {w : World} : Calls Try.prog 27 [.int .i64 n, .int .i64 least, .int .i64 most].toArray w fun e w' => e = .returned (.bool (decide (least ≤ n) && decide (n ≤ most))) ∧ Ext [] w w' := by
  refine fn_start Try.func27 rfl (N := 15) rfl ?_
  refine k_seq (k_region ?_)
  refine o_val (ex_assign rfl) (o_nil ?_)
  refine k_seq (k_region ?_)
  refine o_val (ex_move rfl) ?_
  refine o_val (ex_move rfl) ?_
  refine o_val (ex_geq rfl rfl) ?_
  refine o_val (ex_move rfl) ?_
  refine o_and 3 (c := decide (n ≤ most)) (fun h => ?_) ?_
  · refine o_val_g (ex_move rfl) ?_
    refine o_val_g (ex_move rfl) ?_
    exact o_val_g (ex_leq rfl rfl) (o_nil (got rfl (.refl _)))
  refine o_val (ex_assign rfl) (o_nil ?_)
  refine k_ret ?_
  exact fin1 rfl rfl fun W hW => ⟨rfl, hW.ext⟩

-- == f45 acme/acmeref07.Span params [23, 3, 3] results [4] in [('tmp', ['6'])] ntmps 19 nfree 0
theorem c45 (lo hi least most : Int) {w : World} : Calls Try.prog 45 [.agg [.int .i64 lo, .int .i64 hi].toArray, .int .i64 least, .int .i64 most].toArray w fun e w' => e = .returned (.bool (isSp lo hi least most)) ∧ Ext [] w w' := by
  refine fn_start Try.func45 rfl (N := 19) rfl ?_
  refine k_seq (k_region ?_)
  refine o_box rfl (fun b3 => ?_)
  refine o_val (ex_assign rfl) (o_nil ?_)
  refine k_seq (k_region ?_)
  refine o_val (ex_field (o := 0) 0 fa23_0 rfl rfl) ?_
  refine o_val (ex_load Try.isAgg3 rfl rfl) ?_
  refine o_val (ex_move rfl) ?_
  refine o_val (ex_field (o := 0) 1 fa23_1 rfl rfl) ?_
  refine o_val (ex_load Try.isAgg3 rfl rfl) ?_
  refine o_val (ex_call Try.call27 rfl (fun W hW => c27 lo least hi)) ?_
  refine o_val (ex_move rfl) ?_
  refine o_and 4 (c := decide (hi ≤ most)) (fun h => ?_) ?_
  · refine o_val_g (ex_field (o := 0) 1 fa23_1 rfl rfl) ?_
    refine o_val_g (ex_load Try.isAgg3 rfl rfl) ?_
    refine o_val_g (ex_move rfl) ?_
    exact o_val_g (ex_leq rfl rfl) (o_nil (got rfl (.refl _)))
  refine o_val (ex_assign rfl) (o_nil ?_)
  refine k_ret ?_
  exact fin1 rfl rfl fun W hW => ⟨by rw [isSp3]; rfl, hW.ext⟩

-- == f46 acme/acmeref07.Zone params [23] results [4] in [('tmp', ['2'])] ntmps 5 nfree 0
theorem c46 (lo hi : Int) {w : World} : Calls Try.prog 46 [.agg [.int .i64 lo, .int .i64 hi].toArray].toArray w fun e w' => e = .returned (.bool (isSp lo hi 0 10000000000)) ∧ Ext [] w w' := by
  refine fn_start Try.func46 rfl (N := 5) rfl ?_
  refine k_seq (k_region ?_)
  refine o_box rfl (fun b1 => ?_)
  refine o_val (ex_assign rfl) (o_nil ?_)
  refine k_seq (k_region ?_)
  refine o_val (ex_loadA Try.isAgg23 Try.sizeOf23 rfl) ?_
  refine o_val (ex_call Try.call45 rfl (fun W hW => c45 lo hi 0 10000000000)) ?_
  refine o_val (ex_assign rfl) (o_nil ?_)
  refine k_ret ?_
  exact fin1 rfl rfl fun W hW => ⟨rfl, hW.ext⟩

-- == f43 acme/acmeref07.Size params [23] results [4] in [('tmp', ['2'])] ntmps 5 nfree 0
theorem c43 (lo hi : Int) {w : World} : Calls Try.prog 43 [.agg [.int .i64 lo, .int .i64 hi].toArray].toArray w fun e w' => e = .returned (.bool (isSp lo hi (-20000000000) 20000000000)) ∧ Ext [] w w' := by
  refine fn_start Try.func43 rfl (N := 5) rfl ?_
  refine k_seq (k_region ?_)
  refine o_box rfl (fun b1 => ?_)
  refine o_val (ex_assign rfl) (o_nil ?_)
  refine k_seq (k_region ?_)
  refine o_val (ex_loadA Try.isAgg23 Try.sizeOf23 rfl) ?_
  refine o_val (ex_call Try.call45 rfl (fun W hW => c45 lo hi (-20000000000) 20000000000)) ?_
  refine o_val (ex_assign rfl) (o_nil ?_)
  refine k_ret ?_
  exact fin1 rfl rfl fun W hW => ⟨rfl, hW.ext⟩

end Go.Proofs.Ytdflfnednaleeaa
