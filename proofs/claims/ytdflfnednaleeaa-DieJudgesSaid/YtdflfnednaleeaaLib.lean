/- Own layer: the operations' laws. -/
import Derived.Test.YtdflfnednaleeaaOps
namespace Go.Proofs.Ytdflfnednaleeaa
open Go

/-- It fits int. -/
def I64 (z : Int) : Prop := -9223372036854775808 ≤ z ∧ z ≤ 9223372036854775807

/-- The cells of a value. -/
class CellsOf (v : Value) (cs : outParam (List Value)) : Prop where
  eq : v.cells = cs.toArray
instance {l : List Value} : CellsOf (.agg l.toArray) l := ⟨rfl⟩
instance {k : IntKind} {n : Int} : CellsOf (.int k n) [.int k n] := ⟨rfl⟩
instance {b : Bool} : CellsOf (.bool b) [.bool b] := ⟨rfl⟩
instance {p : Option Addr} : CellsOf (.pointer p) [.pointer p] := ⟨rfl⟩
instance {p : Option Addr} {n c : Nat} : CellsOf (.slice p n c) [.slice p n c] := ⟨rfl⟩
instance {f : Fn} {a b : Array Value} : CellsOf (.func f a b) [.func f a b] := ⟨rfl⟩
instance {r : Option Nat} : CellsOf (.map r) [.map r] := ⟨rfl⟩

/-- 'vs' laid into 'cs' at 'off'. -/
class Spl (cs : List Value) (off : Nat) (vs : List Value) (out : outParam (List Value)) : Prop where
  eq : out = cs.take off ++ vs ++ cs.drop (off + vs.length)
  le : off + vs.length ≤ cs.length
instance Spl.nil {cs : List Value} : Spl cs 0 [] cs := ⟨by simp, by simp⟩
instance Spl.here {c v : Value} {cs vs out : List Value} [h : Spl cs 0 vs out] : Spl (c :: cs) 0 (v :: vs) (v :: out) :=
  ⟨by have := h.eq; simp at this ⊢; exact this, by have := h.le; simp at this ⊢; omega⟩
instance Spl.there {c : Value} {cs vs out : List Value} {n : Nat} [h : Spl cs n vs out] : Spl (c :: cs) (n + 1) vs (c :: out) :=
  ⟨by have := h.eq; rw [this]; simp [Nat.add_right_comm], by have := h.le; simp; omega⟩

/-- 'n' cells of 'cs' from 'off' on. -/
class Slc (cs : List Value) (off n : Nat) (out : outParam (List Value)) : Prop where
  eq : out = (cs.drop off).take n
  le : off + n ≤ cs.length
instance Slc.nil {cs : List Value} : Slc cs 0 0 [] := ⟨by simp, by simp⟩
instance Slc.here {c : Value} {cs out : List Value} {n : Nat} [h : Slc cs 0 n out] : Slc (c :: cs) 0 (n + 1) (c :: out) :=
  ⟨by have := h.eq; simp at this ⊢; exact this, by have := h.le; simp at this ⊢; omega⟩
instance Slc.there {c : Value} {cs out : List Value} {k n : Nat} [h : Slc cs k n out] : Slc (c :: cs) (k + 1) n out :=
  ⟨by have := h.eq; simpa using this, by have := h.le; simp; omega⟩

section
variable {P : Program} {N : Nat} {w0 : World} {M : List Nat} {Γ : Gam} {H : Hp}
variable {ty : Nat} {pos : String} {aft : Array Edge} {grd : Option (Nat × Bool)} {dst : Option Nat}

theorem exv_eq {o : Oper} {u v : Value} (e : u = v) (h : ExV P N w0 M Γ H o u) : ExV P N w0 M Γ H o v := e ▸ h

/-! ### Arithmetic -/
section
variable {x y : Operand} {a b : Int} {k : IntKind} {t t' : TypeId}
theorem eqGuard_int (op : BinOp) (t : TypeId) (x y : Operand) (k k' : IntKind) (a b : Int) (W : World) : (eqGuard op t x y (.int k a) (.int k' b)).run P W = .ok () W := by
  unfold eqGuard; split <;> rfl
theorem ex_bin {op : BinOp} {v : Value} (hx : ev Γ x = some (.int k a)) (hy : ev Γ y = some (.int k b)) (h : ∀ W, (binOp op t (.int k a) (.int k b)).run P W = .ok v W) :
    ExV P N w0 M Γ H ⟨dst, .binOp op t x y t', ty, pos, aft, grd⟩ v :=
  exv_run fun A W ha _ => by simp [execOp, ha.eval hx, ha.eval hy, eqGuard_int, h W]
theorem ex_add (hx : ev Γ x = some (.int k a)) (hy : ev Γ y = some (.int k b)) : ExV P N w0 M Γ H ⟨dst, .binOp .add t x y t', ty, pos, aft, grd⟩ (.int k (k.wrap (a + b))) :=
  ex_bin hx hy fun W => by simp [binOp, Op.intArith]
theorem ex_sub (hx : ev Γ x = some (.int k a)) (hy : ev Γ y = some (.int k b)) : ExV P N w0 M Γ H ⟨dst, .binOp .sub t x y t', ty, pos, aft, grd⟩ (.int k (k.wrap (a - b))) :=
  ex_bin hx hy fun W => by simp [binOp, Op.intArith]
theorem ex_mul (hx : ev Γ x = some (.int k a)) (hy : ev Γ y = some (.int k b)) : ExV P N w0 M Γ H ⟨dst, .binOp .mul t x y t', ty, pos, aft, grd⟩ (.int k (k.wrap (a * b))) :=
  ex_bin hx hy fun W => by simp [binOp, Op.intArith]
theorem ex_add64 (hx : ev Γ x = some (.int .i64 a)) (hy : ev Γ y = some (.int .i64 b)) (h : I64 (a + b)) : ExV P N w0 M Γ H ⟨dst, .binOp .add t x y t', ty, pos, aft, grd⟩ (.int .i64 (a + b)) :=
  exv_eq (by rw [IntWalk.i64_in _ h]) (ex_add hx hy)
theorem ex_sub64 (hx : ev Γ x = some (.int .i64 a)) (hy : ev Γ y = some (.int .i64 b)) (h : I64 (a - b)) : ExV P N w0 M Γ H ⟨dst, .binOp .sub t x y t', ty, pos, aft, grd⟩ (.int .i64 (a - b)) :=
  exv_eq (by rw [IntWalk.i64_in _ h]) (ex_sub hx hy)
theorem ex_mul64 (hx : ev Γ x = some (.int .i64 a)) (hy : ev Γ y = some (.int .i64 b)) (h : I64 (a * b)) : ExV P N w0 M Γ H ⟨dst, .binOp .mul t x y t', ty, pos, aft, grd⟩ (.int .i64 (a * b)) :=
  exv_eq (by rw [IntWalk.i64_in _ h]) (ex_mul hx hy)
theorem ex_quo64 (hx : ev Γ x = some (.int .i64 a)) (hy : ev Γ y = some (.int .i64 b)) (hb : 1 ≤ b) (h : I64 a) : ExV P N w0 M Γ H ⟨dst, .binOp .quo t x y t', ty, pos, aft, grd⟩ (.int .i64 (a.tdiv b)) :=
  ex_bin hx hy fun W => by
    have h0 : ¬ b = 0 := by omega
    simp only [binOp, Op.intDiv, h0, if_false, ne_eq, not_true, Sem.run_pure]
    rw [IntWalk.i64_quo' a b ⟨h.1, h.2, hb⟩]
theorem ex_rem64 (hx : ev Γ x = some (.int .i64 a)) (hy : ev Γ y = some (.int .i64 b)) (hb : 1 ≤ b) : ExV P N w0 M Γ H ⟨dst, .binOp .rem t x y t', ty, pos, aft, grd⟩ (.int .i64 (a.tmod b)) :=
  ex_bin hx hy fun W => by
    have h0 : ¬ b = 0 := by omega
    simp only [binOp, Op.intDiv, h0, if_false, ne_eq, not_true, Sem.run_pure]
theorem ex_rem (hx : ev Γ x = some (.int k a)) (hy : ev Γ y = some (.int k b)) (hb : 1 ≤ b) : ExV P N w0 M Γ H ⟨dst, .binOp .rem t x y t', ty, pos, aft, grd⟩ (.int k (a.tmod b)) :=
  ex_bin hx hy fun W => by
    have h0 : ¬ b = 0 := by omega
    simp only [binOp, Op.intDiv, h0, if_false, ne_eq, not_true, Sem.run_pure]
theorem ex_lss (hx : ev Γ x = some (.int k a)) (hy : ev Γ y = some (.int k b)) : ExV P N w0 M Γ H ⟨dst, .binOp .lss t x y t', ty, pos, aft, grd⟩ (.bool (decide (a < b))) :=
  ex_bin hx hy fun W => by simp [binOp, Op.intCmp]
theorem ex_leq (hx : ev Γ x = some (.int k a)) (hy : ev Γ y = some (.int k b)) : ExV P N w0 M Γ H ⟨dst, .binOp .leq t x y t', ty, pos, aft, grd⟩ (.bool (decide (a ≤ b))) :=
  ex_bin hx hy fun W => by simp [binOp, Op.intCmp]
theorem ex_gtr (hx : ev Γ x = some (.int k a)) (hy : ev Γ y = some (.int k b)) : ExV P N w0 M Γ H ⟨dst, .binOp .gtr t x y t', ty, pos, aft, grd⟩ (.bool (decide (b < a))) :=
  ex_bin hx hy fun W => by simp [binOp, Op.intCmp]
theorem ex_geq (hx : ev Γ x = some (.int k a)) (hy : ev Γ y = some (.int k b)) : ExV P N w0 M Γ H ⟨dst, .binOp .geq t x y t', ty, pos, aft, grd⟩ (.bool (decide (b ≤ a))) :=
  ex_bin hx hy fun W => by simp [binOp, Op.intCmp]
theorem ex_eql (hx : ev Γ x = some (.int k a)) (hy : ev Γ y = some (.int k b)) : ExV P N w0 M Γ H ⟨dst, .binOp .eql t x y t', ty, pos, aft, grd⟩ (.bool (decide (a = b))) :=
  ex_bin hx hy fun W => by simp [binOp, Op.intCmp]; rfl
theorem ex_neq (hx : ev Γ x = some (.int k a)) (hy : ev Γ y = some (.int k b)) : ExV P N w0 M Γ H ⟨dst, .binOp .neq t x y t', ty, pos, aft, grd⟩ (.bool (!decide (a = b))) :=
  ex_bin hx hy fun W => by simp [binOp, Op.intCmp]; rfl
theorem ex_neg64 (hx : ev Γ x = some (.int .i64 a)) (h : I64 (-a)) : ExV P N w0 M Γ H ⟨dst, .unOp .neg t x, ty, pos, aft, grd⟩ (.int .i64 (-a)) :=
  exv_run fun A W ha _ => by simp [execOp, ha.eval hx, Op.unary, Op.intArith, IntWalk.i64_in _ h]
/-- min and max of two. -/
theorem ex_min2 {ats : Array TypeId} (hx : ev Γ x = some (.int k a)) (hy : ev Γ y = some (.int k b)) : ExV P N w0 M Γ H ⟨dst, .call ⟨.builtin .min, #[x, y], ats⟩, ty, pos, aft, grd⟩ (.int k (if b < a then b else a)) :=
  exv_run fun A W ha _ => by simp [execOp, resolve, invoke, builtin, ha.eval hx, ha.eval hy, run_min_int2]
theorem ex_max2 {ats : Array TypeId} (hx : ev Γ x = some (.int k a)) (hy : ev Γ y = some (.int k b)) : ExV P N w0 M Γ H ⟨dst, .call ⟨.builtin .max, #[x, y], ats⟩, ty, pos, aft, grd⟩ (.int k (if a < b then b else a)) :=
  exv_run fun A W ha _ => by simp [execOp, resolve, invoke, builtin, ha.eval hx, ha.eval hy, run_max_int2]
/-- An integer turned into int. -/
theorem ex_conv {s d : TypeId} {k' : IntKind} {sd : TypeDesc} (hs : ∀ W, (underlying s).run P W = .ok sd W) (hd : ∀ W, (underlying d).run P W = .ok (.int k') W) (hx : ev Γ x = some (.int k a)) (h : k'.wrap a = a) :
    ExV P N w0 M Γ H ⟨dst, .convert s d x, ty, pos, aft, grd⟩ (.int k' a) :=
  exv_run fun A W ha _ => by simp [execOp, ha.eval hx, convert, hs W, hd W, Conv.intToInt, h]
end

theorem ex_len {x : Operand} {t e : TypeId} {p : Option Addr} {n c : Nat} (hs : ∀ W, (underlying t).run P W = .ok (.slice e) W) (hx : ev Γ x = some (.slice p n c)) :
    ExV P N w0 M Γ H ⟨dst, .call ⟨.builtin .len, #[x], #[t]⟩, ty, pos, aft, grd⟩ (.int .i64 n) :=
  exv_run fun A W ha _ => by simp [execOp, resolve, invoke, builtin, ha.eval hx, Builtin.len_, hs W, goInt]

/-! ### Memory that is read -/
theorem add_lit (b o n : Nat) : Addr.add ⟨b, o, none⟩ n = ⟨b, o + n, none⟩ := Addr.add_lit b o n

theorem cell_of {W : World} {b : Nat} {t : TypeId} {cs : List Value} (h : W.heap[b]? = some (.cells cs.toArray t (0, 0))) (o : Nat) : W.cell? ⟨b, o, none⟩ = cs[o]? := by
  rw [cell_of_row W b o cs.toArray t (0, 0) h]; simp

theorem run_loadVar_scalar {W : World} {t : TypeId} {a : Addr} {v : Value} (hA : (isAgg t).run P W = .ok false W) (h : W.cell? a = some v) : (loadVar t a).run P W = .ok v W := by
  simp [loadVar, hA, h]

theorem run_loadVar_agg {W : World} {t : TypeId} {a : Addr} {vs : List Value} {n : Nat} (hA : (isAgg t).run P W = .ok true W) (hS : (sizeOf t).run P W = .ok n W) (hn : vs.length = n)
    (h : ∀ j v, vs[j]? = some v → W.cell? (a.add j) = some v) : (loadVar t a).run P W = .ok (.agg vs.toArray) W := by
  have := run_loadCells_list (P := P) W a vs h
  rw [hn] at this
  simp [loadVar, hA, hS, this]

/-- A cell of a block that is known. -/
theorem ex_load {x : Operand} {t tb : TypeId} {b o : Nat} {cs : List Value} {own : Bool} {v : Value} (hA : ∀ W, (isAgg t).run P W = .ok false W) (hx : ev Γ x = some (.pointer (some ⟨b, o, none⟩)))
    [he : HasE H b tb cs own] (hv : cs[o]? = some v) : ExV P N w0 M Γ H ⟨dst, .load t x, ty, pos, aft, grd⟩ v :=
  exv_run fun A W ha hW => by
    have hc : W.cell? ⟨b, o, none⟩ = some v := by rw [cell_of (hW.cells he)]; exact hv
    simp [execOp, ha.eval hx, Instr.loadAt, Instr.sureAddr, run_loadVar_scalar (hA W) hc]

/-- A struct or array in a block that is known. -/
theorem ex_loadA {x : Operand} {t tb : TypeId} {b o n : Nat} {cs vs : List Value} {own : Bool} (hA : ∀ W, (isAgg t).run P W = .ok true W) (hS : ∀ W, (sizeOf t).run P W = .ok n W)
    (hx : ev Γ x = some (.pointer (some ⟨b, o, none⟩))) [he : HasE H b tb cs own] [hs : Slc cs o n vs] : ExV P N w0 M Γ H ⟨dst, .load t x, ty, pos, aft, grd⟩ (.agg vs.toArray) :=
  exv_run fun A W ha hW => by
    have h1 : (loadVar t ⟨b, o, none⟩).run P W = .ok (.agg vs.toArray) W := by
      refine run_loadVar_agg (hA W) (hS W) (by have := hs.le; rw [hs.eq]; simp; omega) fun j v hj => ?_
      rw [add_lit, cell_of (hW.cells he)]
      rw [hs.eq] at hj
      rw [List.getElem?_take] at hj
      split at hj
      · rw [List.getElem?_drop] at hj; exact hj
      · cases hj
    simp [execOp, ha.eval hx, Instr.loadAt, Instr.sureAddr, h1]

/-- A cell that was there when the call began. -/
theorem cell_old {W : World} (hW : Sat w0 M H W) {p : Addr} {v : Value} (h : w0.cell? p = some v) (hM : p.block ∉ M) : W.cell? p = some v := by
  rw [World.cell?_of_block (w := w0) (hW.ext.block p.block (World.block_lt_of_cell? w0 p h) hM)]; exact h

theorem ex_load_old {x : Operand} {t : TypeId} {p : Addr} {v : Value} (hA : ∀ W, (isAgg t).run P W = .ok false W) (hx : ev Γ x = some (.pointer (some p))) (h : w0.cell? p = some v) (hM : p.block ∉ M) :
    ExV P N w0 M Γ H ⟨dst, .load t x, ty, pos, aft, grd⟩ v :=
  exv_run fun A W ha hW => by
    simp [execOp, ha.eval hx, Instr.loadAt, Instr.sureAddr, run_loadVar_scalar (hA W) (cell_old hW h hM)]

theorem ex_loadA_old {x : Operand} {t : TypeId} {p : Addr} {vs : List Value} {n : Nat} (hA : ∀ W, (isAgg t).run P W = .ok true W) (hS : ∀ W, (sizeOf t).run P W = .ok n W) (hx : ev Γ x = some (.pointer (some p)))
    (hn : vs.length = n) (h : ∀ j v, vs[j]? = some v → w0.cell? (p.add j) = some v) (hM : p.block ∉ M) : ExV P N w0 M Γ H ⟨dst, .load t x, ty, pos, aft, grd⟩ (.agg vs.toArray) :=
  exv_run fun A W ha hW => by
    have h1 := run_loadVar_agg (P := P) (a := p) (hA W) (hS W) hn (fun j v hj => cell_old hW (h j v hj) (by unfold Addr.add; split <;> exact hM))
    simp [execOp, ha.eval hx, Instr.loadAt, Instr.sureAddr, h1]

/-! ### Addresses -/
/-- Field f of type t lies at cell 'off'. -/
def FieldAt (P : Program) (t : TypeId) (f off : Nat) : Prop := ∀ a W, (Instr.fieldAt t (.pointer (some a)) f).run P W = .ok (.pointer (some (a.add off))) W

theorem FieldAt.mk {t : TypeId} {f : Nat} {fs : Array Field} {n off : Nat} (ft : TypeId) (hu : ∀ W, (underlying t).run P W = .ok (.struct fs) W) (hS : ∀ W, (sizeOf ft).run P W = .ok n W) (hn : ¬ n = 0)
    (hf : (fs[f]?).map (fun d => (d.type, d.offset)) = some (ft, off)) : FieldAt P t f off := by
  intro a W
  cases hd : fs[f]? with
  | none => rw [hd] at hf; cases hf
  | some fd =>
    rw [hd] at hf
    simp only [Option.map_some, Option.some.injEq, Prod.mk.injEq] at hf
    obtain ⟨h1, h2⟩ := hf
    simp [Instr.fieldAt, hu W, hd, Instr.sureAddr, fieldPlace, h1, h2, hS W, hn]

theorem ex_field {x : Operand} {t : TypeId} {f b o off : Nat} (o' : Nat) (hF : FieldAt P t f off) (hx : ev Γ x = some (.pointer (some ⟨b, o, none⟩))) (ho : o + off = o') :
    ExV P N w0 M Γ H ⟨dst, .fieldAddr t x f, ty, pos, aft, grd⟩ (.pointer (some ⟨b, o', none⟩)) :=
  exv_run fun A W ha _ => by simp [execOp, ha.eval hx, hF _ W, add_lit, ho]

theorem ex_field_old {x : Operand} {t : TypeId} {f off : Nat} {p : Addr} (hF : FieldAt P t f off) (hx : ev Γ x = some (.pointer (some p))) :
    ExV P N w0 M Γ H ⟨dst, .fieldAddr t x f, ty, pos, aft, grd⟩ (.pointer (some (p.add off))) :=
  exv_run fun A W ha _ => by simp [execOp, ha.eval hx, hF _ W]

theorem ex_nilCheck {x : Operand} {p : Addr} (hx : ev Γ x = some (.pointer (some p))) : ExV P N w0 M Γ H ⟨dst, .nilCheck x, ty, pos, aft, grd⟩ (.pointer (some p)) :=
  exv_run fun A W ha _ => by simp [execOp, ha.eval hx]

/-- An element of a slice. -/
theorem run_indexAt_sl {W : World} {t e : TypeId} {a : Addr} {len cap s : Nat} {i : Int} {k : IntKind} (hu : (underlying t).run P W = .ok (.slice e) W) (hS : (sizeOf e).run P W = .ok s W) (h0 : 0 ≤ i) (h1 : i < len) :
    (Instr.indexAt t (.slice (some a) len cap) (.int k i)).run P W = .ok (.pointer (some (a.add (i.toNat * s)))) W := by
  simp [Instr.indexAt, asIntOf, hu, hS, h0, h1]

theorem ex_index {x ix : Operand} {t e : TypeId} {b o len cap s : Nat} {i : Int} {k : IntKind} (o' : Nat) (hu : ∀ W, (underlying t).run P W = .ok (.slice e) W) (hS : ∀ W, (sizeOf e).run P W = .ok s W)
    (hx : ev Γ x = some (.slice (some ⟨b, o, none⟩) len cap)) (hi : ev Γ ix = some (.int k i)) (h0 : 0 ≤ i) (h1 : i < len) (ho : o + i.toNat * s = o') :
    ExV P N w0 M Γ H ⟨dst, .indexAddr t x ix, ty, pos, aft, grd⟩ (.pointer (some ⟨b, o', none⟩)) :=
  exv_run fun A W ha _ => by simp [execOp, ha.eval hx, ha.eval hi, run_indexAt_sl (hu W) (hS W) h0 h1, add_lit, ho]

theorem ex_index_old {x ix : Operand} {t e : TypeId} {a : Addr} {len cap s : Nat} {i : Int} {k : IntKind} (hu : ∀ W, (underlying t).run P W = .ok (.slice e) W) (hS : ∀ W, (sizeOf e).run P W = .ok s W)
    (hx : ev Γ x = some (.slice (some a) len cap)) (hi : ev Γ ix = some (.int k i)) (h0 : 0 ≤ i) (h1 : i < len) :
    ExV P N w0 M Γ H ⟨dst, .indexAddr t x ix, ty, pos, aft, grd⟩ (.pointer (some (a.add (i.toNat * s)))) :=
  exv_run fun A W ha _ => by simp [execOp, ha.eval hx, ha.eval hi, run_indexAt_sl (hu W) (hS W) h0 h1]

/-- An element of an array in a variable. -/
theorem ex_indexArr {x ix : Operand} {t e : TypeId} {b o len s : Nat} {i : Int} {k : IntKind} (o' : Nat) (hu : ∀ W, (underlying t).run P W = .ok (.array len e) W) (hS : ∀ W, (sizeOf e).run P W = .ok s W)
    (hx : ev Γ x = some (.pointer (some ⟨b, o, none⟩))) (hi : ev Γ ix = some (.int k i)) (h0 : 0 ≤ i) (h1 : i < len) (ho : o + i.toNat * s = o') :
    ExV P N w0 M Γ H ⟨dst, .indexAddr t x ix, ty, pos, aft, grd⟩ (.pointer (some ⟨b, o', none⟩)) :=
  exv_run fun A W ha _ => by simp [execOp, ha.eval hx, ha.eval hi, Instr.indexAt, asIntOf, Instr.sureAddr, hu W, hS W, h0, h1, add_lit, ho]

/-- An element of an array value. -/
theorem ex_indexVal {x ix : Operand} {t e : TypeId} {len s : Nat} {i : Int} {k : IntKind} {cs : List Value} {v : Value} (hu : ∀ W, (underlying t).run P W = .ok (.array len e) W) (hS : ∀ W, (sizeOf e).run P W = .ok s W) (hA : ∀ W, (isAgg e).run P W = .ok false W)
    (hx : ev Γ x = some (.agg cs.toArray)) (hi : ev Γ ix = some (.int k i)) (h0 : 0 ≤ i) (h1 : i < len) (hv : cs[i.toNat * s]? = some v) :
    ExV P N w0 M Γ H ⟨dst, .index t x ix, ty, pos, aft, grd⟩ v :=
  exv_run fun A W ha _ => by simp [execOp, ha.eval hx, ha.eval hi, Instr.index, asIntOf, hu W, hS W, h0, h1, part, hA W, hv]
theorem ex_indexValA {x ix : Operand} {t e : TypeId} {len s : Nat} {i : Int} {k : IntKind} {cs vs : List Value} (hu : ∀ W, (underlying t).run P W = .ok (.array len e) W) (hS : ∀ W, (sizeOf e).run P W = .ok s W) (hA : ∀ W, (isAgg e).run P W = .ok true W)
    (hx : ev Γ x = some (.agg cs.toArray)) (hi : ev Γ ix = some (.int k i)) (h0 : 0 ≤ i) (h1 : i < len) (hv : (cs.drop (i.toNat * s)).take s = vs) :
    ExV P N w0 M Γ H ⟨dst, .index t x ix, ty, pos, aft, grd⟩ (.agg vs.toArray) :=
  exv_run fun A W ha _ => by simp [execOp, ha.eval hx, ha.eval hi, Instr.index, asIntOf, hu W, hS W, h0, h1, part, hA W, hv]

theorem ex_extract {x : Operand} {ix : Nat} {vs : List Value} {v : Value} (hx : ev Γ x = some (.tuple vs.toArray)) (hv : vs[ix]? = some v) : ExV P N w0 M Γ H ⟨dst, .extract x ix, ty, pos, aft, grd⟩ v :=
  exv_run fun A W ha _ => by simp [execOp, ha.eval hx, Instr.extract, hv]

/-- Several operands. -/
def evs (Γ : Gam) : List Operand → Option (List Value)
  | [] => some []
  | x :: r => match ev Γ x with
    | some v => match evs Γ r with
      | some vs => some (v :: vs)
      | none => none
    | none => none

theorem Holds.evals {a : Act} (ha : Holds N Γ a) : ∀ {l : List Operand} {vs : List Value}, evs Γ l = some vs → l.map a.eval = vs
  | [], vs, h => by cases h; rfl
  | x :: r, vs, h => by
    unfold evs at h
    split at h
    · rename_i v hv
      split at h
      · rename_i us hu
        cases h
        rw [List.map_cons, ha.eval hv, ha.evals hu]
      · cases h
    · cases h

theorem ex_makeFunc {fn : Fn} {first captured : List Operand} {fs cs : List Value} (hf : evs Γ first = some fs) (hc : evs Γ captured = some cs) :
    ExV P N w0 M Γ H ⟨dst, .makeFunc fn first.toArray captured.toArray, ty, pos, aft, grd⟩ (.func fn fs.toArray cs.toArray) :=
  exv_run fun A W ha _ => by simp [execOp, Instr.makeFunc, ha.evals hf, ha.evals hc]

/-! ### Calls -/
theorem ex_call {f : Nat} {args : List Operand} {vs : List Value} {ats : Array TypeId} {v : Value} (hcall : ∀ as W, (callFunc f as).run P W = .ok (.enter f as) W) (hargs : evs Γ args = some vs)
    (hc : ∀ W, Sat w0 M H W → Calls P f vs.toArray W (fun e W' => e = .returned v ∧ Ext [] W W')) :
    ExV P N w0 M Γ H ⟨dst, .call ⟨.value (.func f), args.toArray, ats⟩, ty, pos, aft, grd⟩ v :=
  fun A W next Q ha hW hn => by
    have e1 : (execOp A.eval ⟨dst, .call ⟨.value (.func f), args.toArray, ats⟩, ty, pos, aft, grd⟩).run P W = .ok (.enter f vs.toArray) W := by
      have ef : A.eval (.func f) = .func (.func f) #[] #[] := rfl
      simp [execOp, resolve, Deferred.ofValue, invoke, ef, ha.evals hargs, hcall]
    unfold Oper.wp
    rw [e1]
    exact (hc W hW).mono fun e W' ⟨he, hE⟩ => by subst he; exact hn W' hE

theorem ex_callF {bs : List Nat} {f : Nat} {args : List Operand} {vs : List Value} {ats : Array TypeId} {φ : Value → Hp → Prop} (hcall : ∀ as W, (callFunc f as).run P W = .ok (.enter f as) W) (hargs : evs Γ args = some vs)
    (hc : ∀ W, Sat w0 M H W → Calls P f vs.toArray W (fun e W' => ∃ v H', e = .returned v ∧ φ v H' ∧ Sat w0 M H' W' ∧ Ext bs W W')) :
    Ex P N w0 M bs Γ H ⟨dst, .call ⟨.value (.func f), args.toArray, ats⟩, ty, pos, aft, grd⟩ φ :=
  fun A W next Q ha hW hn => by
    have e1 : (execOp A.eval ⟨dst, .call ⟨.value (.func f), args.toArray, ats⟩, ty, pos, aft, grd⟩).run P W = .ok (.enter f vs.toArray) W := by
      have ef : A.eval (.func f) = .func (.func f) #[] #[] := rfl
      simp [execOp, resolve, Deferred.ofValue, invoke, ef, ha.evals hargs, hcall]
    unfold Oper.wp
    rw [e1]
    exact (hc W hW).mono fun e W' ⟨v, H', he, hφ, hS, hE⟩ => by subst he; exact hn v H' W' hφ hS hE

/-- A call of a function value. -/
theorem ex_callV {f : Nat} {x : Operand} {args : List Operand} {vs fs cs : List Value} {ats : Array TypeId} {v : Value} (hcall : ∀ as W, (callFunc f as).run P W = .ok (.enter f as) W) (hx : ev Γ x = some (.func (.func f) fs.toArray cs.toArray)) (hargs : evs Γ args = some vs)
    (hc : ∀ W, Sat w0 M H W → Calls P f (fs ++ vs ++ cs).toArray W (fun e W' => e = .returned v ∧ Ext [] W W')) :
    ExV P N w0 M Γ H ⟨dst, .call ⟨.value x, args.toArray, ats⟩, ty, pos, aft, grd⟩ v :=
  fun A W next Q ha hW hn => by
    have e1 : (execOp A.eval ⟨dst, .call ⟨.value x, args.toArray, ats⟩, ty, pos, aft, grd⟩).run P W = .ok (.enter f (fs ++ vs ++ cs).toArray) W := by
      simp [execOp, resolve, Deferred.ofValue, invoke, ha.eval hx, ha.evals hargs, hcall]
    unfold Oper.wp
    rw [e1]
    exact (hc W hW).mono fun e W' ⟨he, hE⟩ => by subst he; exact hn W' hE

/-! ### New blocks -/
/-- Behind a new block: its number is whatever it is. -/
def NewBox (t : TypeId) (cs : List Value) (H : Hp) (v : Value) (H' : Hp) : Prop := ∃ b, v = .pointer (some ⟨b, 0, none⟩) ∧ H' = ⟨b, t, cs, true⟩ :: H

theorem ex_box {x : Operand} {t : TypeId} {v : Value} {cs : List Value} (hx : ev Γ x = some v) [hc : CellsOf v cs] : Ex P N w0 M [] Γ H ⟨dst, .box t x, ty, pos, aft, grd⟩ (NewBox t cs H) :=
  fun A W next Q ha hW hn => by
    have e1 : (execOp A.eval ⟨dst, .box t x, ty, pos, aft, grd⟩).run P W = .ok (.value (.pointer (some ⟨W.heap.size, 0, none⟩))) (W.alloc (.cells cs.toArray t)) := by
      simp [execOp, ha.eval hx, Instr.box, newVar, newRow, hc.eq]
    unfold Oper.wp
    rw [e1]
    exact hn _ _ _ ⟨W.heap.size, rfl, rfl⟩ (hW.alloc cs t) (Ext.alloc _ _)

theorem ex_alloc {t : TypeId} {z : Value} {cs : List Value} (hz : ∀ W, (zeroValue t).run P W = .ok z W) [hc : CellsOf z cs] : Ex P N w0 M [] Γ H ⟨dst, .alloc t, ty, pos, aft, grd⟩ (NewBox t cs H) :=
  fun A W next Q _ hW hn => by
    have e1 : (execOp A.eval ⟨dst, .alloc t, ty, pos, aft, grd⟩).run P W = .ok (.value (.pointer (some ⟨W.heap.size, 0, none⟩))) (W.alloc (.cells cs.toArray t)) := by
      simp [execOp, Instr.alloc, hz W, newVar, newRow, hc.eq]
    unfold Oper.wp
    rw [e1]
    exact hn _ _ _ ⟨W.heap.size, rfl, rfl⟩ (hW.alloc cs t) (Ext.alloc _ _)

/-- Cells stored into a block that is known. -/
theorem run_storeCells {t : TypeId} {b : Nat} (o : Nat) : ∀ (vs : List Value) (i : Nat) (W : World) (cs : List Value), W.heap[b]? = some (.cells cs.toArray t (0, 0)) → o + i + vs.length ≤ cs.length → vs.all (·.oneCell') = true →
    ∃ W', (storeCells ⟨b, o, none⟩ vs i).run P W = .ok () W' ∧ W'.os = W.os ∧ W'.tape = W.tape ∧ W'.output = W.output ∧ W'.heap.size = W.heap.size ∧ (∀ k, k ≠ b → W'.heap[k]? = W.heap[k]?) ∧
      W'.heap[b]? = some (.cells (cs.take (o + i) ++ vs ++ cs.drop (o + i + vs.length)).toArray t (0, 0))
  | [], i, W, cs, hb, _, _ => ⟨W, by simp [storeCells], rfl, rfl, rfl, rfl, fun _ _ => rfl, by simpa using hb⟩
  | v :: vs, i, W, cs, hb, hl, h1 => by
    simp only [List.all_cons, Bool.and_eq_true] at h1
    simp only [List.length_cons] at hl
    have hlt : o + i < cs.length := by omega
    have hc : W.cell? ⟨b, o + i, none⟩ = some cs[o + i] := by rw [cell_of hb]; simp
    have hf : W.frozen? ⟨b, o + i, none⟩ = false := frozen_of_row W b (o + i) cs.toArray t hb
    have hb2 : (W.setCell ⟨b, o + i, none⟩ v).heap[b]? = some (.cells (cs.set (o + i) v).toArray t (0, 0)) := by
      rw [heap_setCell_same W b (o + i) cs.toArray t v hb]
      simp
    obtain ⟨W', e, r1, r2, r3, r4, r5, r6⟩ := run_storeCells o vs (i + 1) (W.setCell ⟨b, o + i, none⟩ v) (cs.set (o + i) v) hb2 (by simp; omega) h1.2
    refine ⟨W', ?_, r1, r2, r3, by rw [r4]; simp [World.setCell], fun k hk => by rw [r5 k hk]; exact heap_setCell_other W _ k v hk, ?_⟩
    · simp only [storeCells, Sem.run_bind, add_lit, run_store P W _ v .plain h1.1, hc, hf, Bool.false_eq_true, if_false, Result.andThen_ok]
      exact e
    · rw [r6]
      congr 2
      have e1 : (cs.set (o + i) v).take (o + (i + 1)) = cs.take (o + i) ++ [v] := by
        rw [show o + (i + 1) = o + i + 1 from by omega, List.take_succ_eq_append_getElem (by simp; omega)]
        simp [List.take_set_of_le]
      have e2 : (cs.set (o + i) v).drop (o + (i + 1) + vs.length) = cs.drop (o + i + (v :: vs).length) := by
        rw [List.drop_set_of_lt (by omega)]
        congr 1
        simp; omega
      rw [e1, e2]
      simp

theorem ex_store {x y : Operand} {t tb : TypeId} {b o n : Nat} {v : Value} {vs cs cs' : List Value} {H' : Hp} (hS : ∀ W, (sizeOf t).run P W = .ok n W) (hx : ev Γ x = some (.pointer (some ⟨b, o, none⟩))) (hy : ev Γ y = some v)
    [hc : CellsOf v vs] (hn : vs.length = n) (h1 : vs.all (·.oneCell') = true) [he : HasE H b tb cs true] [hs : Spl cs o vs cs'] [hh : SetE H b cs' H'] :
    Ex P N w0 M [b] Γ H ⟨dst, .store t x y, ty, pos, aft, grd⟩ (fun u K => u = undef ∧ K = H') :=
  fun A W next Q ha hW hnx => by
    obtain ⟨W', e, r1, r2, r3, r4, r5, r6⟩ := run_storeCells (P := P) (b := b) o vs 0 W cs (hW.cells he) (by have := hs.le; omega) h1
    have e1 : (execOp A.eval ⟨dst, .store t x y, ty, pos, aft, grd⟩).run P W = .ok .skip W' := by
      have hsz : v.cells.size = n := by rw [hc.eq]; simpa using hn
      have e' : (storeCells ⟨b, o, none⟩ vs).run P W = .ok () W' := e
      have e2 : (storeCells ⟨b, o, none⟩ v.cells.toList).run P W = .ok () W' := by rw [hc.eq]; exact e'
      simp [execOp, ha.eval hx, ha.eval hy, Instr.storeAt, Instr.sureAddr, storeVar, hS W, hsz, e2]
    unfold Oper.wp
    rw [e1]
    refine hnx undef H' W' ⟨rfl, rfl⟩ (hW.set (cs' := cs') r1 r2 r3 r4 r5 ?_) ⟨r1, r2, r3, by omega, fun k _ hk => r5 k (by simpa using hk)⟩
    rw [r6, hs.eq]
    simp

end
end Go.Proofs.Ytdflfnednaleeaa
