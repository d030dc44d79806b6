/- The built-in clear of a slice of ints. -/
import Derived.Test.YtdflfnednaleeaaD11
import Derived.Lib.SliceRun
namespace Go.Proofs.Ytdflfnednaleeaa
open Go
set_option maxRecDepth 20000

theorem zeros_int (m : Nat) : (Builtin.zeroCells #[Value.int .i64 0] m).toList = List.replicate m (Value.int .i64 0) := by
  apply List.ext_getElem?
  intro i
  simp [Builtin.zeroCells, List.getElem?_map, List.getElem?_replicate, Nat.mod_one]
  by_cases h : i < m
  · simp [h]
  · simp [h]
section
variable {N : Nat} {w0 : World} {M : List Nat} {Γ : Gam} {H : Hp} {ty : Nat} {pos : String} {aft : Array Edge} {grd : Option (Nat × Bool)} {dst : Option Nat}
theorem ex_clear {x : Operand} {b o m c : Nat} {tb : TypeId} {cs cs' : List Value} {H' : Hp} (hx : ev Γ x = some (.slice (some ⟨b, o, none⟩) m c)) (hm : 0 < m) [he : HasE H b tb cs true] [hs : Spl cs o (List.replicate m (Value.int .i64 0)) cs'] [hh : SetE H b cs' H'] :
    Ex Try.prog N w0 M [b] Γ H ⟨dst, .call ⟨.builtin .clear, #[x], #[52]⟩, ty, pos, aft, grd⟩ (fun _ K => K = H') :=
  fun A W next Q ha hW hnx => by
    obtain ⟨W', e, r1, r2, r3, r4, r5, r6⟩ := run_storeCells (P := Try.prog) (b := b) o (List.replicate m (Value.int .i64 0)) 0 W cs (hW.cells he) (by have := hs.le; omega) (by simp [Value.oneCell'])
    obtain ⟨m', rfl⟩ : ∃ m', m = m' + 1 := ⟨m - 1, by omega⟩
    have e1 : (execOp A.eval ⟨dst, .call ⟨.builtin .clear, #[x], #[52]⟩, ty, pos, aft, grd⟩).run Try.prog W = .ok (.value (.tuple #[])) W' := by
      have e2 : (storeCells ⟨b, o, none⟩ (Builtin.zeroCells #[Value.int .i64 0] (m' + 1)).toList).run Try.prog W = .ok () W' := by rw [zeros_int]; exact e
      simp [execOp, resolve, invoke, builtin, ha.eval hx, Builtin.clear_, Try.runUnderlying52 W, Try.zeroValue3 W, Value.cells, e2]
    unfold Oper.wp
    rw [e1]
    refine hnx _ H' W' rfl (hW.set (cs' := cs') r1 r2 r3 r4 r5 ?_) ⟨r1, r2, r3, by omega, fun k _ hk => r5 k (by simpa using hk)⟩
    rw [r6, hs.eq]
    simp
end
section
variable {N : Nat} {w0 : World} {M : List Nat} {Γ : Gam} {H : Hp} {ty : Nat} {pos : String} {aft : Array Edge} {grd : Option (Nat × Bool)} {dst : Option Nat}
/-- A slice of ints compared with nil. -/
theorem ex_eqlNil {x y : Operand} {t' : TypeId} {A : Option Addr} {n c : Nat} (hx : ev Γ x = some (.slice A n c)) (hy : ev Γ y = some (.slice none 0 0)) : ExV Try.prog N w0 M Γ H ⟨dst, .binOp .eql 52 x y t', ty, pos, aft, grd⟩ (.bool A.isNone) :=
  exv_run fun B W ha _ => by
    have h : (Op.equalIn 10000 52 (.slice A n c) (.slice none 0 0)).run Try.prog W = .ok A.isNone W := Lib.run_equalIn_slice_nil W 9999 52 3 A n c 0 0 Try.underlying52
    simp [execOp, ha.eval hx, ha.eval hy, eqGuard, binOp, Op.equal, Op.maxDepth, h]
end
end Go.Proofs.Ytdflfnednaleeaa
