/- Structs, bools and slices compared, of this program's types. -/
import Derived.Test.YtdflfnednaleeaaEqG
import Derived.Test.YtdflfnednaleeaaProg
import Derived.Tactics
import Derived.Tactics2
import Derived.Laws.StructEq
import Derived.Laws.Tables
import Derived.KernelRfl
import Derived.Laws.Small
import Derived.Laws.Cover3
namespace Go.Proofs.Ytdflfnednaleeaa
open Go

theorem equal23 (d : Nat) (a b c e : Int) (w : World) : (Op.equalIn (d + 2) 23 (.agg #[.int .i64 a, .int .i64 b]) (.agg #[.int .i64 c, .int .i64 e])).run Try.prog w = .ok (decide (a = c) && decide (b = e)) w := by
  have u3 := Try.runUnderlying3
  have a3 := Try.isAgg3
  have z3 := Try.sizeOf3
  have hS : Try.prog.underlying 23 = some (.struct (Try.prog.fieldsOf 23)) := by kernel_rfl
  rw [run_equalIn_agg w (d + 1) 23 _ _ hS (by kernel_rfl)]
  simp only [Program.fieldsOf, Try.underlying23]
  go_simp
  by_cases h1 : a = c <;> by_cases h2 : b = e <;> simp [h1, h2]
theorem equal51 (d : Nat) (a b c e : Int) (w : World) : (Op.equalIn (d + 2) 51 (.agg #[.int .i64 a, .int .i64 b]) (.agg #[.int .i64 c, .int .i64 e])).run Try.prog w = .ok (decide (a = c) && decide (b = e)) w := by
  have u3 := Try.runUnderlying3
  have a3 := Try.isAgg3
  have z3 := Try.sizeOf3
  have hS : Try.prog.underlying 51 = some (.struct (Try.prog.fieldsOf 51)) := by kernel_rfl
  rw [run_equalIn_agg w (d + 1) 51 _ _ hS (by kernel_rfl)]
  simp only [Program.fieldsOf, Try.underlying51]
  go_simp
  by_cases h1 : a = c <;> by_cases h2 : b = e <;> simp [h1, h2]
theorem equal88 (a a1 a2 a3 b b1 b2 b3 : Int) (w : World) :
    (Op.equalIn 10000 88 (.agg #[.int .i64 a, .int .i64 a1, .int .i64 a2, .int .i64 a3]) (.agg #[.int .i64 b, .int .i64 b1, .int .i64 b2, .int .i64 b3])).run Try.prog w = .ok (decide (a = b ∧ a1 = b1 ∧ a2 = b2 ∧ a3 = b3)) w := by
  have u3 := Try.runUnderlying3
  have i3 := Try.isAgg3
  have z3 := Try.sizeOf3
  have i23 := Try.isAgg23
  have z23 := Try.sizeOf23
  have q23 := equal23 9997
  have hS : Try.prog.underlying 88 = some (.struct (Try.prog.fieldsOf 88)) := by kernel_rfl
  rw [show (10000 : Nat) = 9999 + 1 from rfl, run_equalIn_agg w 9999 88 _ _ hS (by kernel_rfl)]
  simp only [Program.fieldsOf, Try.underlying88]
  go_simp
  by_cases h0 : a = b <;> by_cases h1 : a1 = b1 <;> by_cases h2 : a2 = b2 <;> by_cases h3 : a3 = b3 <;> simp [h0, h1, h2, h3]

section
variable {N : Nat} {w0 : World} {M : List Nat} {Γ : Gam} {H : Hp} {ty : Nat} {pos : String} {aft : Array Edge} {grd : Option (Nat × Bool)} {dst : Option Nat} {x y : Operand} {t t' : TypeId}
theorem ex_eql_23 {a b c e : Int} (hx : ev Γ x = some (.agg [Value.int .i64 a, Value.int .i64 b].toArray)) (hy : ev Γ y = some (.agg [Value.int .i64 c, Value.int .i64 e].toArray)) :
    ExV Try.prog N w0 M Γ H ⟨dst, .binOp .eql 23 x y t', ty, pos, aft, grd⟩ (.bool (decide (a = c) && decide (b = e))) := ex_eqlS (fun W => equal23 9998 a b c e W) (by kernel_rfl) hx hy
theorem ex_neq_23 {a b c e : Int} (hx : ev Γ x = some (.agg [Value.int .i64 a, Value.int .i64 b].toArray)) (hy : ev Γ y = some (.agg [Value.int .i64 c, Value.int .i64 e].toArray)) :
    ExV Try.prog N w0 M Γ H ⟨dst, .binOp .neq 23 x y t', ty, pos, aft, grd⟩ (.bool (!(decide (a = c) && decide (b = e)))) := ex_neqS (fun W => equal23 9998 a b c e W) (by kernel_rfl) hx hy
theorem ex_eql_51 {a b c e : Int} (hx : ev Γ x = some (.agg [Value.int .i64 a, Value.int .i64 b].toArray)) (hy : ev Γ y = some (.agg [Value.int .i64 c, Value.int .i64 e].toArray)) :
    ExV Try.prog N w0 M Γ H ⟨dst, .binOp .eql 51 x y t', ty, pos, aft, grd⟩ (.bool (decide (a = c) && decide (b = e))) := ex_eqlS (fun W => equal51 9998 a b c e W) (by kernel_rfl) hx hy
theorem ex_neq_51 {a b c e : Int} (hx : ev Γ x = some (.agg [Value.int .i64 a, Value.int .i64 b].toArray)) (hy : ev Γ y = some (.agg [Value.int .i64 c, Value.int .i64 e].toArray)) :
    ExV Try.prog N w0 M Γ H ⟨dst, .binOp .neq 51 x y t', ty, pos, aft, grd⟩ (.bool (!(decide (a = c) && decide (b = e)))) := ex_neqS (fun W => equal51 9998 a b c e W) (by kernel_rfl) hx hy
theorem ex_neq_88 {a a1 a2 a3 b b1 b2 b3 : Int} (hx : ev Γ x = some (.agg [Value.int .i64 a, Value.int .i64 a1, Value.int .i64 a2, Value.int .i64 a3].toArray))
    (hy : ev Γ y = some (.agg [Value.int .i64 b, Value.int .i64 b1, Value.int .i64 b2, Value.int .i64 b3].toArray)) :
    ExV Try.prog N w0 M Γ H ⟨dst, .binOp .neq 88 x y t', ty, pos, aft, grd⟩ (.bool (!decide (a = b ∧ a1 = b1 ∧ a2 = b2 ∧ a3 = b3))) := ex_neqS (fun W => equal88 a a1 a2 a3 b b1 b2 b3 W) (by kernel_rfl) hx hy
theorem ex_eql_4 {a b : Bool} (hx : ev Γ x = some (.bool a)) (hy : ev Γ y = some (.bool b)) : ExV Try.prog N w0 M Γ H ⟨dst, .binOp .eql 4 x y t', ty, pos, aft, grd⟩ (.bool (a == b)) :=
  exv_run fun A W ha _ => by
    have hb : (binOp .eql 4 (.bool a) (.bool b)).run Try.prog W = .ok (.bool (a == b)) W := by
      simp only [binOp, Sem.run_bind, run_equal_bool W 4 a b Try.underlying4, Result.andThen, Sem.run_pure]
    simp [execOp, ha.eval hx, ha.eval hy, eqGuard, hb]
theorem ex_neq_4 {a b : Bool} (hx : ev Γ x = some (.bool a)) (hy : ev Γ y = some (.bool b)) : ExV Try.prog N w0 M Γ H ⟨dst, .binOp .neq 4 x y t', ty, pos, aft, grd⟩ (.bool (!(a == b))) :=
  exv_run fun A W ha _ => by
    have hb : (binOp .neq 4 (.bool a) (.bool b)).run Try.prog W = .ok (.bool (!(a == b))) W := by
      simp only [binOp, Sem.run_bind, run_equal_bool W 4 a b Try.underlying4, Result.andThen, Sem.run_pure]
    simp [execOp, ha.eval hx, ha.eval hy, eqGuard, hb]
/-- Whether a slice of ints is nil. -/
theorem ex_eql_52 {a : Option Addr} {l c : Nat} (hx : ev Γ x = some (.slice a l c)) (hy : ev Γ y = some (.slice none 0 0)) : ExV Try.prog N w0 M Γ H ⟨dst, .binOp .eql 52 x y t', ty, pos, aft, grd⟩ (.bool a.isNone) :=
  exv_run fun A W ha _ => by
    have hb : (binOp .eql 52 (.slice a l c) (.slice none 0 0)).run Try.prog W = .ok (.bool a.isNone) W := by
      simp only [binOp, Sem.run_bind, run_equal_slice_nil W 52 3 a l c Try.underlying52, Result.andThen, Sem.run_pure]
    simp [execOp, ha.eval hx, ha.eval hy, eqGuard, hb]
end
end Go.Proofs.Ytdflfnednaleeaa
