/- Own layer: structs compared. -/
import Derived.Test.YteecidddfcbabaaDraw2
import Derived.Test.YteecidddfcbabaaProg
import Derived.Tactics
import Derived.Tactics2
import Derived.Laws.StructEq
import Derived.Laws.Tables
import Derived.KernelRfl
namespace Go.Proofs.Yteecidddfcbabaa
open Go

section
variable {P : Program} {N : Nat} {w0 : World} {M : List Nat} {Γ : Gam} {H : Hp} {ty : Nat} {pos : String} {aft : Array Edge} {grd : Option (Nat × Bool)} {dst : Option Nat} {x y : Operand} {t t' : TypeId}
theorem ex_eqlS {xs ys : List Value} {r : Bool} (h : ∀ W, (Op.equalIn 10000 t (.agg xs.toArray) (.agg ys.toArray)).run P W = .ok r W) (hg : P.eqGuardType P.depth t = false) (hx : ev Γ x = some (.agg xs.toArray)) (hy : ev Γ y = some (.agg ys.toArray)) :
    ExV P N w0 M Γ H ⟨dst, .binOp .eql t x y t', ty, pos, aft, grd⟩ (.bool r) :=
  exv_run fun A W ha _ => by
    simp [execOp, ha.eval hx, ha.eval hy, eqGuard, hg, binOp, Op.equal, Op.maxDepth, h W]
theorem ex_neqS {xs ys : List Value} {r : Bool} (h : ∀ W, (Op.equalIn 10000 t (.agg xs.toArray) (.agg ys.toArray)).run P W = .ok r W) (hg : P.eqGuardType P.depth t = false) (hx : ev Γ x = some (.agg xs.toArray)) (hy : ev Γ y = some (.agg ys.toArray)) :
    ExV P N w0 M Γ H ⟨dst, .binOp .neq t x y t', ty, pos, aft, grd⟩ (.bool (!r)) :=
  exv_run fun A W ha _ => by
    simp [execOp, ha.eval hx, ha.eval hy, eqGuard, hg, binOp, Op.equal, Op.maxDepth, h W]
end

theorem equal23 (d : Nat) (a b c e : Int) (w : World) : (Op.equalIn (d + 2) 23 (.agg #[.int .i64 a, .int .i64 b]) (.agg #[.int .i64 c, .int .i64 e])).run Try.prog w = .ok (decide (a = c) && decide (b = e)) w := by
  have u3 := Try.runUnderlying3
  have a3 := Try.isAgg3
  have z3 := Try.sizeOf3
  have hS : Try.prog.underlying 23 = some (.struct (Try.prog.fieldsOf 23)) := by kernel_rfl
  rw [run_equalIn_agg w (d + 1) 23 _ _ hS (by kernel_rfl)]
  simp only [Program.fieldsOf, Try.underlying23]
  go_simp
  by_cases h1 : a = c <;> by_cases h2 : b = e <;> simp [h1, h2]

theorem equal47 (a a1 a2 a3 a4 a5 a6 b b1 b2 b3 b4 b5 b6 : Int) (w : World) :
    (Op.equalIn 10000 47 (.agg #[.int .i64 a, .int .i64 a1, .int .i64 a2, .int .i64 a3, .int .i64 a4, .int .i64 a5, .int .i64 a6]) (.agg #[.int .i64 b, .int .i64 b1, .int .i64 b2, .int .i64 b3, .int .i64 b4, .int .i64 b5, .int .i64 b6])).run Try.prog w =
      .ok (decide (a = b ∧ a1 = b1 ∧ a2 = b2 ∧ a3 = b3 ∧ a4 = b4 ∧ a5 = b5 ∧ a6 = b6)) w := by
  have u45 := Try.runUnderlying45
  have i45 := Try.isAgg45
  have z45 := Try.sizeOf45
  have i23 := Try.isAgg23
  have z23 := Try.sizeOf23
  have q23 := equal23 9997
  have hS : Try.prog.underlying 47 = some (.struct (Try.prog.fieldsOf 47)) := by kernel_rfl
  rw [show (10000 : Nat) = 9999 + 1 from rfl, run_equalIn_agg w 9999 47 _ _ hS (by kernel_rfl)]
  simp only [Program.fieldsOf, Try.underlying47]
  go_simp
  by_cases h0 : a = b <;> by_cases h1 : a1 = b1 <;> by_cases h2 : a2 = b2 <;> by_cases h3 : a3 = b3 <;> by_cases h4 : a4 = b4 <;> by_cases h5 : a5 = b5 <;> by_cases h6 : a6 = b6 <;> simp [h0, h1, h2, h3, h4, h5, h6]

section
variable {N : Nat} {w0 : World} {M : List Nat} {Γ : Gam} {H : Hp} {ty : Nat} {pos : String} {aft : Array Edge} {grd : Option (Nat × Bool)} {dst : Option Nat} {x y : Operand} {t t' : TypeId}
theorem ex_eql_23 {a b c e : Int} (hx : ev Γ x = some (.agg [Value.int .i64 a, Value.int .i64 b].toArray)) (hy : ev Γ y = some (.agg [Value.int .i64 c, Value.int .i64 e].toArray)) :
    ExV Try.prog N w0 M Γ H ⟨dst, .binOp .eql 23 x y t', ty, pos, aft, grd⟩ (.bool (decide (a = c) && decide (b = e))) := ex_eqlS (fun W => equal23 9998 a b c e W) (by kernel_rfl) hx hy
theorem ex_neq_23 {a b c e : Int} (hx : ev Γ x = some (.agg [Value.int .i64 a, Value.int .i64 b].toArray)) (hy : ev Γ y = some (.agg [Value.int .i64 c, Value.int .i64 e].toArray)) :
    ExV Try.prog N w0 M Γ H ⟨dst, .binOp .neq 23 x y t', ty, pos, aft, grd⟩ (.bool (!(decide (a = c) && decide (b = e)))) := ex_neqS (fun W => equal23 9998 a b c e W) (by kernel_rfl) hx hy
theorem ex_neq_47 {a a1 a2 a3 a4 a5 a6 b b1 b2 b3 b4 b5 b6 : Int} (hx : ev Γ x = some (.agg [Value.int .i64 a, Value.int .i64 a1, Value.int .i64 a2, Value.int .i64 a3, Value.int .i64 a4, Value.int .i64 a5, Value.int .i64 a6].toArray))
    (hy : ev Γ y = some (.agg [Value.int .i64 b, Value.int .i64 b1, Value.int .i64 b2, Value.int .i64 b3, Value.int .i64 b4, Value.int .i64 b5, Value.int .i64 b6].toArray)) :
    ExV Try.prog N w0 M Γ H ⟨dst, .binOp .neq 47 x y t', ty, pos, aft, grd⟩ (.bool (!decide (a = b ∧ a1 = b1 ∧ a2 = b2 ∧ a3 = b3 ∧ a4 = b4 ∧ a5 = b5 ∧ a6 = b6))) := ex_neqS (fun W => equal47 a a1 a2 a3 a4 a5 a6 b b1 b2 b3 b4 b5 b6 W) (by kernel_rfl) hx hy

variable {P : Program} {a b : Int}
theorem ex_min {ats : Array TypeId} (hx : ev Γ x = some (.int .i64 a)) (hy : ev Γ y = some (.int .i64 b)) : ExV P N w0 M Γ H ⟨dst, .call ⟨.builtin .min, #[x, y], ats⟩, ty, pos, aft, grd⟩ (.int .i64 (min a b)) :=
  exv_eq (by congr 1; split <;> omega) (ex_min2 hx hy)
theorem ex_max {ats : Array TypeId} (hx : ev Γ x = some (.int .i64 a)) (hy : ev Γ y = some (.int .i64 b)) : ExV P N w0 M Γ H ⟨dst, .call ⟨.builtin .max, #[x, y], ats⟩, ty, pos, aft, grd⟩ (.int .i64 (max a b)) :=
  exv_eq (by congr 1; split <;> omega) (ex_max2 hx hy)
theorem ex_conv64 {s d : TypeId} {k : IntKind} {sd : TypeDesc} (hs : ∀ W, (underlying s).run P W = .ok sd W) (hd : ∀ W, (underlying d).run P W = .ok (.int .i64) W) (hx : ev Γ x = some (.int k a)) (h : I64 a) :
    ExV P N w0 M Γ H ⟨dst, .convert s d x, ty, pos, aft, grd⟩ (.int .i64 a) := ex_conv hs hd hx (IntWalk.i64_in _ h)
theorem ex_quoE (hx : ev Γ x = some (.int .i64 a)) (hy : ev Γ y = some (.int .i64 b)) (h0 : 0 ≤ a) (hb : 1 ≤ b) (h : I64 a) : ExV P N w0 M Γ H ⟨dst, .binOp .quo t x y t', ty, pos, aft, grd⟩ (.int .i64 (a / b)) :=
  exv_eq (by rw [Int.tdiv_eq_ediv_of_nonneg h0]) (ex_quo64 hx hy hb h)
theorem ex_remE (hx : ev Γ x = some (.int .i64 a)) (hy : ev Γ y = some (.int .i64 b)) (h0 : 0 ≤ a) (hb : 1 ≤ b) : ExV P N w0 M Γ H ⟨dst, .binOp .rem t x y t', ty, pos, aft, grd⟩ (.int .i64 (a % b)) :=
  exv_eq (by rw [Int.tmod_eq_emod_of_nonneg h0]) (ex_rem64 hx hy hb)
end
end Go.Proofs.Yteecidddfcbabaa
