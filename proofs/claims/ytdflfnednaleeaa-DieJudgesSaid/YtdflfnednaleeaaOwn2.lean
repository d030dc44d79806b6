/- Own layer: append in regions that draw their order; shifts and bits. -/
import Derived.Test.YtdflfnednaleeaaOwn
import Derived.Test.YtdflfnednaleeaaEqG
namespace Go.Proofs.Ytdflfnednaleeaa
open Go

/-- 'b' is no block of this part. -/
class OutE (H Hx : Hp) (b : Nat) : Prop where
  out : ∀ (w0 : World) (M : List Nat) (W : World), Sat w0 M H W → b ∉ Hx.map (·.b)

section
variable {P : Program} {N : Nat} {w0 : World} {M : List Nat} {Γ : Gam} {H : Hp}

theorem SegE.mem {Hx : Hp} {C : Hp → Hp} (h : SegE H Hx C) {b : Nat} (hb : b ∈ Hx.map (·.b)) : b ∈ H.map (·.b) := by
  obtain ⟨l, r, h1, _⟩ := h.seg
  rw [h1]
  simp only [List.map_append, List.mem_append]
  exact .inr (.inl hb)

instance OutE.here {H Hx : Hp} {C : Hp → Hp} {b : Nat} {t : TypeId} {cs : List Value} {own : Bool} [h : SegE H Hx C] : OutE (⟨b, t, cs, own⟩ :: H) Hx b :=
  ⟨fun w0 M W hW hb => by
    have := hW.nodup
    simp only [List.map_cons, List.nodup_cons] at this
    exact this.1 (h.mem hb)⟩
instance (priority := low) OutE.there {e : Ent} {H Hx : Hp} {b : Nat} [h : OutE H Hx b] : OutE (e :: H) Hx b := ⟨fun w0 M W hW => h.out w0 M W hW.tail⟩
instance OutE.seg {Hx r : Hp} {b : Nat} {t : TypeId} {cs : List Value} {own : Bool} [h : HasE r b t cs own] : OutE (Hx ++ r) Hx b :=
  ⟨fun w0 M W hW hb => by
    have := hW.nodup
    rw [List.map_append, List.nodup_append] at this
    exact this.2.2 b hb b (List.mem_map.2 ⟨_, h.mem, rfl⟩) rfl⟩
instance (priority := low) OutE.app {Hy H Hx : Hp} {b : Nat} [h : OutE H Hx b] : OutE (Hy ++ H) Hx b := ⟨fun w0 M W hW => h.out w0 M W (hW.drop (List.sublist_append_right _ _))⟩

/-- None of these blocks is of this part. -/
class NotX (H Hx Hn : Hp) : Prop where
  no : ∀ (w0 : World) (M : List Nat) (W : World), Sat w0 M H W → ∀ e, e ∈ Hn → e.b ∉ Hx.map (·.b)
instance NotX.nil {H Hx : Hp} : NotX H Hx [] := ⟨fun _ _ _ _ _ h => by cases h⟩
instance NotX.cons {H Hx Hn : Hp} {b' : Nat} {t : TypeId} {cs : List Value} {own : Bool} [h1 : OutE H Hx b'] [h2 : NotX H Hx Hn] : NotX H Hx (⟨b', t, cs, own⟩ :: Hn) :=
  ⟨fun w0 M W hW e he => by
    rcases List.mem_cons.1 he with rfl | he
    · exact h1.out w0 M W hW
    · exact h2.no w0 M W hW e he⟩

/-- The det operations that an append must leave alone. -/
class KeepsX (H Hx : Hp) (pr : List Nat) (D : List DetOp) : Prop where
  ok : ∀ (w0 : World) (M : List Nat) (W : World), Sat w0 M H W → ∀ x, x ∈ D → x.i ∈ pr ∨ ∀ e, e ∈ x.needs → e.b ∉ Hx.map (·.b)
instance KeepsX.nil {H Hx : Hp} {pr : List Nat} : KeepsX H Hx pr [] := ⟨fun _ _ _ _ _ h => by cases h⟩
instance (priority := low) KeepsX.pre {H Hx : Hp} {d i : Nat} {pr : List Nat} {D : List DetOp} {Hn : Hp} {v : Value} [h1 : InL i pr] [h2 : KeepsX H Hx pr D] : KeepsX H Hx pr (⟨i, d, Hn, v⟩ :: D) :=
  ⟨fun w0 M W hW x hx => by
    rcases List.mem_cons.1 hx with rfl | hx
    · exact .inl h1.mem
    · exact h2.ok w0 M W hW x hx⟩
instance KeepsX.no {H Hx : Hp} {d i : Nat} {pr : List Nat} {D : List DetOp} {Hn : Hp} {v : Value} [h1 : NotX H Hx Hn] [h2 : KeepsX H Hx pr D] : KeepsX H Hx pr (⟨i, d, Hn, v⟩ :: D) :=
  ⟨fun w0 M W hW x hx => by
    rcases List.mem_cons.1 hx with rfl | hx
    · exact .inr (h1.no w0 M W hW)
    · exact h2.ok w0 M W hW x hx⟩

theorem OwnsV.block {e : TypeId} {size n : Nat} {v : Value} {xs : List Value} {Hx : Hp} (h : OwnsV e size v n xs Hx) {b : Nat} (hb : b ∈ v.ownBlock.toList) : b ∈ Hx.map (·.b) := by
  rcases h.2 with ⟨rfl, _⟩ | ⟨g, cap, cs, rfl, rfl, _⟩
  · simp [Value.ownBlock] at hb
  · simpa [Value.ownBlock] using hb

variable {ops : Array Oper} {n r : AW} {xs : List (Nat × AW)} {D : List DetOp} {m : Nat} {L : Array Bool}

theorem rs_append {j d : Nat} {x y : Operand} {t e tb : TypeId} {b k' c size bytes cnt : Nat} {v : Value} {own : Bool} {es news : List Value} {Hx : Hp} {C : Hp → Hp} {ty : Nat} {pos : String} {aft : Array Edge} (pr : List Nat)
    (hj : ops[j]? = some ⟨some d, .call ⟨.builtin .append, #[x, y], #[t, t]⟩, ty, pos, aft, none⟩) (ho : OwnsV e size v cnt es Hx) (ht : P.underlying t = some (.slice e)) (hB : eltB P e size bytes = true)
    (hx : ev Γ x = some v) (hy : ev Γ y = some (.slice (some ⟨b, 0, none⟩) k' c)) [hseg : SegE H Hx C] [he : HasE H b tb news own] [hk : KeepsX H Hx pr D] (h63 : cnt + k' ≤ maxLen) (hbytes : (cnt + k') * bytes ≤ 140737488355328)
    (k : ∀ v' Hx', OwnsV e size v' (cnt + k') (es ++ news) Hx' → RestJ P ops N w0 M n r xs D m (L.setIfInBounds j true) ((d, v') :: Γ) (C Hx'))
    (hpr : preds ⟨some d, .call ⟨.builtin .append, #[x, y], #[t, t]⟩, ty, pos, aft, none⟩ = pr := by kernel_rfl) (hl : news.length = k' * size := by rfl) (h1 : news.all (·.oneCell') = true := by rfl) (hm : Nat.ble 1 k' = true := by rfl) (hN : Nat.blt d N = true := by rfl) :
    RSt P ops N w0 M n r xs D m L Γ H j := by
  have hk' : Keeps w0 M H ⟨some d, .call ⟨.builtin .append, #[x, y], #[t, t]⟩, ty, pos, aft, none⟩ D v.ownBlock.toList := fun W hW x hx => by
    rcases hk.ok w0 M W hW x hx with h | h
    · exact .inl (hpr ▸ h)
    · exact .inr fun e' he' hb => h e' he' (ho.block hb)
  exact rs_step (ex_append ho ht hB hx hy h63 hbytes hl h1 hm) hk' (by rintro v' _ ⟨Hx', h2, rfl⟩; exact k v' Hx' h2) hj rfl rfl hN

theorem rs_buildSlice {j d : Nat} {t e : TypeId} {cnt s : Nat} {parts : List (Nat × Operand)} {z : Value} {out : List Value} {vs : List (Nat × Value)} {ty : Nat} {pos : String} {aft : Array Edge} (zs : List Value) (pl : List (Nat × Nat))
    (hj : ops[j]? = some ⟨some d, .buildSlice t cnt parts.toArray, ty, pos, aft, none⟩)
    (hu : ∀ W, (underlying t).run P W = .ok (.slice e) W) (hS : ∀ W, (sizeOf e).run P W = .ok s W) (hz : ∀ W, (zeroValue e).run P W = .ok z W) (hp : parts? Γ parts = some vs) [Fil pl zs vs out]
    (k : ∀ b, RestJ P ops N w0 M n r xs D m (L.setIfInBounds j true) ((d, .slice (some ⟨b, 0, none⟩) cnt cnt) :: Γ) (⟨b, e, out, true⟩ :: H))
    (hsm : Nat.ble (cnt * s) 1000 = true := by rfl) (hzs : (Array.range (cnt * s)).map (z.cells[· % z.cells.size]!) = zs.toArray := by kernel_rfl) (hn0 : Nat.beq (cnt * s) 0 = false := by rfl)
    (hpl : (vs.all fun p => pl[p.1]? == some (p.1 * s, s)) = true := by rfl) (hN : Nat.blt d N = true := by rfl) : RSt P ops N w0 M n r xs D m L Γ H j :=
  rs_step (ex_buildSlice hu hS hz hp hsm hzs hn0 hpl (out := out)) Keeps.none (by rintro _ _ ⟨b, rfl, rfl⟩; exact k b) hj rfl rfl hN

/-! ### An empty literal; slices handed back -/
/-- A slice of one's own that a call hands back. -/
def FreshV (e : TypeId) (size : Nat) (v : Value) (n : Nat) (xs : List Value) (w w' : World) : Prop :=
  xs.length = n * size ∧ ((v = .slice none 0 0 ∧ n = 0) ∨ ∃ (g cap : Nat) (cs : List Value), v = .slice (some ⟨g, 0, none⟩) n cap ∧ w.heap.size ≤ g ∧ w'.heap[g]? = some (.cells cs.toArray e (0, 0)) ∧ n ≤ cap ∧ cap ≤ maxLen ∧ cs.length = cap * size ∧ cs.take (n * size) = xs)

theorem OwnsV.fresh {e : TypeId} {size cnt : Nat} {v : Value} {es : List Value} {Hx : Hp} {C : Hp → Hp} {W : World} (h : OwnsV e size v cnt es Hx) [hseg : SegE H Hx C] (hW : Sat w0 [] H W) : FreshV e size v cnt es w0 W := by
  obtain ⟨l, r, hH, _⟩ := hseg.seg
  refine ⟨h.1, ?_⟩
  rcases h.2 with ⟨rfl, rfl, _⟩ | ⟨g, cap, cs, rfl, rfl, h1, h2, h3, h4⟩
  · exact .inl ⟨rfl, rfl⟩
  · have hm : (⟨g, e, cs, true⟩ : Ent) ∈ H := by rw [hH]; simp
    refine .inr ⟨g, cap, cs, rfl, ?_, hW.at_ _ hm, h1, h2, h3, h4⟩
    rcases hW.new _ hm with h | h
    · exact h
    · cases h

theorem FreshV.take {e : TypeId} {size cnt : Nat} {v : Value} {es : List Value} {W W' : World} (h : FreshV e size v cnt es W W') (hW : Sat w0 M H W) (k : Ext [] W W') : ∃ Hx, OwnsV e size v cnt es Hx ∧ Sat w0 M (Hx ++ H) W' := by
  rcases h.2 with ⟨rfl, rfl⟩ | ⟨g, cap, cs, rfl, hg, hb, h1, h2, h3, h4⟩
  · exact ⟨[], ⟨h.1, .inl ⟨rfl, rfl, rfl⟩⟩, hW.ext0 k⟩
  · exact ⟨[⟨g, e, cs, true⟩], ⟨h.1, .inr ⟨g, cap, cs, rfl, rfl, h1, h2, h3, h4⟩⟩, hW.take k ⟨g, e, cs, true⟩ hg hb⟩

section
variable {Q : Exit → Act → World → Prop} {next : AW} {rest : List Oper} {ty : Nat} {pos : String} {aft : Array Edge} {grd : Option (Nat × Bool)} {dst : Option Nat} {d : Nat} {t e : TypeId}
theorem o_buildNil {s : Nat} (hu : ∀ W, (underlying t).run P W = .ok (.slice e) W) (hS : ∀ W, (sizeOf e).run P W = .ok s W)
    (k : ∀ v Hx, OwnsV e s v 0 [] Hx → OpsN P ops Q next N w0 M rest ((d, v) :: Γ) (Hx ++ H)) (hdN : d < N := by decide) : OpsN P ops Q next N w0 M (⟨some d, .buildSlice t 0 #[], ty, pos, aft, none⟩ :: rest) Γ H := by
  refine o_step (φ := fun v H' => ∃ b, v = .slice (some ⟨b, 0, none⟩) 0 0 ∧ H' = ⟨b, e, [], true⟩ :: H) (bs := []) ?_ ?_ rfl rfl hdN
  · intro A W nx Q ha hW hn
    have e1 : (execOp A.eval ⟨some d, .buildSlice t 0 #[], ty, pos, aft, none⟩).run P W = .ok (.value (.slice (some ⟨W.heap.size, 0, none⟩) 0 0)) (W.alloc (.cells #[] e)) := by
      simp [execOp, Instr.buildSlice, hu W, hS W, Instr.fill, newRow, show Array.range 0 = #[] from by kernel_rfl]
    unfold Oper.wp
    rw [e1]
    exact hn _ _ _ ⟨W.heap.size, rfl, rfl⟩ (hW.alloc [] e) (Ext.alloc _ _)
  · rintro _ _ ⟨b, rfl, rfl⟩
    exact k _ [⟨b, e, [], true⟩] ⟨by simp, .inr ⟨b, 0, [], rfl, rfl, Nat.le_refl _, Nat.zero_le _, by simp, by simp⟩⟩

/-- A call that hands back a slice of its own. -/
theorem ex_callO {f size cnt : Nat} {args : List Operand} {vs : List Value} {ats : Array TypeId} {es : List Value} (hcall : ∀ l W, (callFunc f l).run P W = .ok (.enter f l) W) (hargs : evs Γ args = some vs)
    (hc : ∀ W, Sat w0 M H W → Calls P f vs.toArray W (fun x W' => ∃ v, x = .returned v ∧ FreshV e size v cnt es W W' ∧ Ext [] W W')) :
    Ex P N w0 M [] Γ H ⟨dst, .call ⟨.value (.func f), args.toArray, ats⟩, ty, pos, aft, grd⟩ (fun v H' => ∃ Hx, OwnsV e size v cnt es Hx ∧ H' = Hx ++ H) :=
  ex_callF hcall hargs fun W hW => (hc W hW).mono fun x W' ⟨v, hx, hF, hE⟩ => by
    obtain ⟨Hx, h1, h2⟩ := hF.take hW hE
    exact ⟨v, Hx ++ H, hx, ⟨Hx, h1, rfl⟩, h2, hE⟩
theorem o_callO {f size cnt : Nat} {args : List Operand} {vs : List Value} {ats : Array TypeId} {es : List Value} (hcall : ∀ l W, (callFunc f l).run P W = .ok (.enter f l) W) (hargs : evs Γ args = some vs)
    (hc : ∀ W, Sat w0 M H W → Calls P f vs.toArray W (fun x W' => ∃ v, x = .returned v ∧ FreshV e size v cnt es W W' ∧ Ext [] W W'))
    (k : ∀ v Hx, OwnsV e size v cnt es Hx → OpsN P ops Q next N w0 M rest ((d, v) :: Γ) (Hx ++ H)) (hdN : d < N := by decide) : OpsN P ops Q next N w0 M (⟨some d, .call ⟨.value (.func f), args.toArray, ats⟩, ty, pos, aft, none⟩ :: rest) Γ H :=
  o_step (ex_callO hcall hargs hc) (by rintro v _ ⟨Hx, h, rfl⟩; exact k v Hx h) rfl rfl hdN
end

theorem finC11 {fn : Func} {R : Ending → World → Prop} {t u s : Nat} {T tb : TypeId} {b cnt : Nat} {cs : List Value} {own : Bool} {v v' : Value} (hr : fn.results = #[.cell t T, .tmp u, .tmp s]) (hA : ∀ W, (isAgg T).run P W = .ok true W) (hS : ∀ W, (sizeOf T).run P W = .ok cnt W)
    (hv : gl Γ t = some (.pointer (some ⟨b, 0, none⟩))) [he : HasE H b tb cs own] (hn : cs.length = cnt) (hu : gl Γ u = some v) (hs : gl Γ s = some v') (h : ∀ W, Sat w0 M H W → R (.returned (.tuple #[.agg cs.toArray, v, v'])) W) : Kn N w0 M Γ H (Fin P fn R) :=
  fun a W ha hW => ⟨ha.defers, _, by simp [results, hr, getD_of ha hv, getD_of ha hu, getD_of ha hs, asAddr, loadVar_ent hW hA hS hn], h W hW⟩

/-- The cells of a block, by address. -/
theorem cells_ent {W : World} (hW : Sat w0 M H W) (b : Nat) {t : TypeId} {cs : List Value} {own : Bool} [he : HasE H b t cs own] : ∀ j v, cs[j]? = some v → W.cell? ((⟨b, 0, none⟩ : Addr).add j) = some v := fun j v hj => by
  rw [add_lit, cell_of (hW.cells he)]; simpa using hj

/-- a[:] of an array in a block. -/
theorem ex_sliceArr {ty : Nat} {pos : String} {aft : Array Edge} {grd : Option (Nat × Bool)} {dst : Option Nat} {x : Operand} {t e : TypeId} {b len s : Nat} (hu : ∀ W, (underlying t).run P W = .ok (.array len e) W) (hS : ∀ W, (sizeOf e).run P W = .ok s W) (hx : ev Γ x = some (.pointer (some ⟨b, 0, none⟩))) :
    ExV P N w0 M Γ H ⟨dst, .slice t x none none none, ty, pos, aft, grd⟩ (.slice (some ⟨b, 0, none⟩) len len) :=
  exv_run fun A W ha _ => by simp [execOp, ha.eval hx, Instr.sliceAt, hu W, hS W, Instr.sureAddr, Instr.sliceBounds, add_lit]

/-! ### Shifts and bits -/
variable {ty : Nat} {pos : String} {aft : Array Edge} {grd : Option (Nat × Bool)} {dst : Option Nat} {x y : Operand} {t t' : TypeId} {a : Int}
theorem ex_shr64 {k' : IntKind} {s : Nat} (hx : ev Γ x = some (.int .i64 a)) (hy : ev Γ y = some (.int k' s)) (hs : s ≤ 63) : ExV P N w0 M Γ H ⟨dst, .binOp .shr t x y t', ty, pos, aft, grd⟩ (.int .i64 (a / 2 ^ s)) :=
  exv_run fun A W ha _ => by
    have e1 : min s 64 = s := by omega
    have e2 : a.fdiv (2 ^ s) = a / 2 ^ s := Int.fdiv_eq_ediv_of_nonneg _ (by exact Int.le_of_lt (Int.pow_pos (by decide)))
    simp [execOp, ha.eval hx, ha.eval hy, eqGuard, binOp]
theorem ex_and1 (hx : ev Γ x = some (.int .i64 a)) (hy : ev Γ y = some (.int .i64 1)) (h0 : 0 ≤ a) (h1 : I64 a) : ExV P N w0 M Γ H ⟨dst, .binOp .and t x y t', ty, pos, aft, grd⟩ (.int .i64 (a % 2)) :=
  exv_run fun A W ha _ => by
    have e1 : ((BitVec.ofInt 64 a &&& BitVec.ofInt 64 1).toNat : Int) = a % 2 := by
      unfold I64 at h1
      have : (BitVec.ofInt 64 a).toNat = a.toNat := by
        rw [BitVec.toNat_ofInt]; congr 1; omega
      rw [BitVec.toNat_and, this, show (BitVec.ofInt 64 1).toNat = 1 from rfl, Nat.and_one_is_mod]
      omega
    have e2 : IntKind.i64.wrap (a % 2) = a % 2 := IntWalk.i64_in _ (by omega)
    simp [execOp, ha.eval hx, ha.eval hy, eqGuard, binOp, Op.intBits, IntKind.bits]
    exact (congrArg IntKind.i64.wrap e1).trans e2
end
end Go.Proofs.Ytdflfnednaleeaa
