/- Own layer: structs compared; min, max, conversions, quotients. -/
import Derived.Test.YtdflfnednaleeaaDraw2
import Derived.Tactics
import Derived.Tactics2
import Derived.Laws.StructEq
import Derived.Laws.Tables
import Derived.KernelRfl
namespace Go.Proofs.Ytdflfnednaleeaa
open Go

section
variable {P : Program} {N : Nat} {w0 : World} {M : List Nat} {Γ : Gam} {H : Hp} {ty : Nat} {pos : String} {aft : Array Edge} {grd : Option (Nat × Bool)} {dst : Option Nat} {x y : Operand} {t t' : TypeId}
theorem ex_eqlS {xs ys : List Value} {r : Bool} (h : ∀ W, (Op.equalIn 10000 t (.agg xs.toArray) (.agg ys.toArray)).run P W = .ok r W) (hg : P.eqGuardType P.depth t = false) (hx : ev Γ x = some (.agg xs.toArray)) (hy : ev Γ y = some (.agg ys.toArray)) :
    ExV P N w0 M Γ H ⟨dst, .binOp .eql t x y t', ty, pos, aft, grd⟩ (.bool r) :=
  exv_run fun A W ha _ => by
    simp [execOp, ha.eval hx, ha.eval hy, eqGuard, hg, binOp, Op.equal, Op.maxDepth, h W]
theorem ex_neqS {xs ys : List Value} {r : Bool} (h : ∀ W, (Op.equalIn 10000 t (.agg xs.toArray) (.agg ys.toArray)).run P W = .ok r W) (hg : P.eqGuardType P.depth t = false) (hx : ev Γ x = some (.agg xs.toArray)) (hy : ev Γ y = some (.agg ys.toArray)) :
    ExV P N w0 M Γ H ⟨dst, .binOp .neq t x y t', ty, pos, aft, grd⟩ (.bool (!r)) :=
  exv_run fun A W ha _ => by
    simp [execOp, ha.eval hx, ha.eval hy, eqGuard, hg, binOp, Op.equal, Op.maxDepth, h W]
end

section
variable {N : Nat} {w0 : World} {M : List Nat} {Γ : Gam} {H : Hp} {ty : Nat} {pos : String} {aft : Array Edge} {grd : Option (Nat × Bool)} {dst : Option Nat} {x y : Operand} {t t' : TypeId}
variable {P : Program} {a b : Int}
theorem ex_min {ats : Array TypeId} (hx : ev Γ x = some (.int .i64 a)) (hy : ev Γ y = some (.int .i64 b)) : ExV P N w0 M Γ H ⟨dst, .call ⟨.builtin .min, #[x, y], ats⟩, ty, pos, aft, grd⟩ (.int .i64 (min a b)) :=
  exv_eq (by congr 1; split <;> omega) (ex_min2 hx hy)
theorem ex_max {ats : Array TypeId} (hx : ev Γ x = some (.int .i64 a)) (hy : ev Γ y = some (.int .i64 b)) : ExV P N w0 M Γ H ⟨dst, .call ⟨.builtin .max, #[x, y], ats⟩, ty, pos, aft, grd⟩ (.int .i64 (max a b)) :=
  exv_eq (by congr 1; split <;> omega) (ex_max2 hx hy)
theorem ex_conv64 {s d : TypeId} {k : IntKind} {sd : TypeDesc} (hs : ∀ W, (underlying s).run P W = .ok sd W) (hd : ∀ W, (underlying d).run P W = .ok (.int .i64) W) (hx : ev Γ x = some (.int k a)) (h : I64 a) :
    ExV P N w0 M Γ H ⟨dst, .convert s d x, ty, pos, aft, grd⟩ (.int .i64 a) := ex_conv hs hd hx (IntWalk.i64_in _ h)
theorem ex_quoE (hx : ev Γ x = some (.int .i64 a)) (hy : ev Γ y = some (.int .i64 b)) (h0 : 0 ≤ a) (hb : 1 ≤ b) (h : I64 a) : ExV P N w0 M Γ H ⟨dst, .binOp .quo t x y t', ty, pos, aft, grd⟩ (.int .i64 (a / b)) :=
  exv_eq (by rw [Int.tdiv_eq_ediv_of_nonneg h0]) (ex_quo64 hx hy hb h)
theorem ex_remE (hx : ev Γ x = some (.int .i64 a)) (hy : ev Γ y = some (.int .i64 b)) (h0 : 0 ≤ a) (hb : 1 ≤ b) : ExV P N w0 M Γ H ⟨dst, .binOp .rem t x y t', ty, pos, aft, grd⟩ (.int .i64 (a % b)) :=
  exv_eq (by rw [Int.tmod_eq_emod_of_nonneg h0]) (ex_rem64 hx hy hb)
end
end Go.Proofs.Ytdflfnednaleeaa
