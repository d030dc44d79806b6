/- Own layer: parts of slices; append of any row that is known. -/
import Derived.Test.YtdflfnednaleeaaOwn2
namespace Go.Proofs.Ytdflfnednaleeaa
open Go

instance SegE.one {e : Ent} {H : Hp} : SegE (e :: H) [e] (fun Y => Y ++ H) := ⟨[], H, rfl, fun _ => rfl⟩

theorem OwnsV.made {e : TypeId} {size n b : Nat} {cs : List Value} (hl : cs.length = n * size) (hn : n ≤ maxLen) : OwnsV e size (.slice (some ⟨b, 0, none⟩) n n) n cs [⟨b, e, cs, true⟩] :=
  ⟨hl, .inr ⟨b, n, cs, rfl, rfl, Nat.le_refl _, hn, hl, by rw [← hl]; exact List.take_length⟩⟩

section
variable {P : Program} {N : Nat} {w0 : World} {M : List Nat} {Γ : Gam} {H : Hp}
variable {ty : Nat} {pos : String} {aft : Array Edge} {grd : Option (Nat × Bool)} {dst : Option Nat} {x y : Operand} {t e : TypeId} {v : Value} {n m size bytes : Nat} {xs news : List Value} {Hx : Hp} {C : Hp → Hp}

theorem Sat.own_cell {W : World} {g : Nat} {cs : List Value} (hW : Sat w0 M H W) (hseg : SegE H [⟨g, e, cs, true⟩] C) (j : Nat) (u : Value) (hu : cs[j]? = some u) : W.cell? ⟨g, j, none⟩ = some u := by
  obtain ⟨l, r, hH, _⟩ := hseg.seg
  have hm : (⟨g, e, cs, true⟩ : Ent) ∈ H := by rw [hH]; simp
  rw [cell_of (hW.at_ _ hm)]
  simpa using hu

/-- x[:k] of a slice of one's own. -/
theorem own_head (hS : ∀ W, (sizeOf e).run P W = .ok size W) (ht : P.underlying t = some (.slice e)) (ho : OwnsV e size v n xs Hx) {k : Nat} (hk : k ≤ n) :
    ∃ u, OwnsV e size u k (xs.take (k * size)) Hx ∧ ∀ W, (Instr.sliceAt t v none (some (.int .i64 k)) none).run P W = .ok u W := by
  have hte : P.underlying t = some (.slice (P.elem t)) := by rw [ht]; simp [Program.elem, ht]
  have hee : P.elem t = e := by simp [Program.elem, ht]
  obtain ⟨hl, hc⟩ := ho
  have hlen : (xs.take (k * size)).length = k * size := by rw [List.length_take, hl]; exact Nat.min_eq_left (Nat.mul_le_mul_right _ hk)
  rcases hc with ⟨rfl, rfl, rfl⟩ | ⟨g, cap, cs, rfl, rfl, hnc, hcm, hcs, htake⟩
  · have hk0 : k = 0 := by omega
    subst hk0
    refine ⟨.slice none 0 0, ⟨hlen, .inl ⟨rfl, rfl, rfl⟩⟩, fun W => ?_⟩
    rw [run_sliceAt_slice W t _ _ _ _ hte, run_slice_h W t none 0 0 hte .i64 _ (by omega) (by omega), hee, hS W]
    rfl
  · refine ⟨.slice (some ⟨g, 0, none⟩) k cap, ⟨hlen, .inr ⟨g, cap, cs, rfl, rfl, by omega, hcm, hcs, ?_⟩⟩, fun W => ?_⟩
    · rw [← htake, List.take_take, Nat.min_eq_left (Nat.mul_le_mul_right _ hk)]
    · rw [run_sliceAt_slice W t _ _ _ _ hte, run_slice_h W t (some ⟨g, 0, none⟩) n cap hte .i64 _ (by omega) (by omega), hee, hS W]
      simp [sliced, Addr.add, Result.andThen]

/-- x[k:] of a slice of one's own: its cells. -/
theorem own_tail (hS : ∀ W, (sizeOf e).run P W = .ok size W) (ht : P.underlying t = some (.slice e)) (ho : OwnsV e size v n xs Hx) {k : Nat} (hk : k ≤ n) :
    ∃ A c, (∀ W, (Instr.sliceAt t v (some (.int .i64 k)) none none).run P W = .ok (.slice A (n - k) c) W) ∧
      ∀ (w0 : World) (M : List Nat) (H : Hp) (C : Hp → Hp) (W : World), SegE H Hx C → Sat w0 M H W → ∀ j u, (xs.drop (k * size))[j]? = some u → ∃ a, A = some a ∧ W.cell? (a.add j) = some u := by
  have hte : P.underlying t = some (.slice (P.elem t)) := by rw [ht]; simp [Program.elem, ht]
  have hee : P.elem t = e := by simp [Program.elem, ht]
  obtain ⟨hl, hc⟩ := ho
  rcases hc with ⟨rfl, rfl, rfl⟩ | ⟨g, cap, cs, rfl, rfl, hnc, hcm, hcs, htake⟩
  · have hk0 : k = 0 := by omega
    subst hk0
    refine ⟨none, 0, fun W => ?_, fun w0 M H C W _ _ j u hu => ?_⟩
    · rw [run_sliceAt_slice W t _ _ _ _ hte, run_slice_l W t none 0 0 hte .i64 _ (by omega) (by omega), hee, hS W]
      rfl
    · have hx : xs = [] := List.eq_nil_of_length_eq_zero (by simpa using hl)
      subst hx
      simp at hu
  · refine ⟨if cap = k then some ⟨g, 0, none⟩ else some ⟨g, k * size, none⟩, cap - k, fun W => ?_, fun w0 M H C W hseg hW j u hu => ?_⟩
    · rw [run_sliceAt_slice W t _ _ _ _ hte, run_slice_l W t (some ⟨g, 0, none⟩) n cap hte .i64 _ (by omega) (by omega), hee, hS W]
      simp only [Result.andThen, sliced, Int.toNat_natCast, Option.map_some, add_lit, Nat.zero_add]
    · rw [List.getElem?_drop] at hu
      have hlt : k * size + j < n * size := by rw [← hl]; exact (List.getElem?_eq_some_iff.1 hu).1
      have hck : ¬ cap = k := fun e => by
        subst e
        have hcn : cap = n := by omega
        rw [hcn] at hlt
        omega
      rw [if_neg hck]
      refine ⟨_, rfl, ?_⟩
      rw [add_lit]
      refine hW.own_cell hseg _ _ ?_
      rw [← htake, List.getElem?_take, if_pos hlt] at hu
      exact hu

theorem ex_slice {u : Value} {lo hi : Option Operand} {vl vh : Option Value} (hx : ev Γ x = some v) (hl : lo.map (ev Γ) = vl.map some) (hh : hi.map (ev Γ) = vh.map some) (hr : ∀ W, (Instr.sliceAt t v vl vh none).run P W = .ok u W) :
    ExV P N w0 M Γ H ⟨dst, .slice t x lo hi none, ty, pos, aft, grd⟩ u :=
  exv_run fun A W ha _ => by
    have e1 : lo.map A.eval = vl := by
      cases lo with
      | none => cases vl with
        | none => rfl
        | some _ => cases hl
      | some l => cases vl with
        | none => cases hl
        | some z => simp only [Option.map_some, Option.some.injEq] at hl ⊢; exact ha.eval hl
    have e2 : hi.map A.eval = vh := by
      cases hi with
      | none => cases vh with
        | none => rfl
        | some _ => cases hh
      | some l => cases vh with
        | none => cases hh
        | some z => simp only [Option.map_some, Option.some.injEq] at hh ⊢; exact ha.eval hh
    simp [execOp, ha.eval hx, e1, e2, hr W]

theorem run_append_zero {W : World} {i : TypeInfo} (ht : P.underlying t = some (.slice e)) (hi : P.info? e = some i) {v : Value} {n : Nat} (ho : OwnsV e size v n xs Hx) (A : Option Addr) (c : Nat) :
    (Builtin.append_ #[t, t] ty #[v, .slice A 0 c]).run P W = .ok v W := by
  rcases ho.2 with ⟨rfl, rfl, rfl⟩ | ⟨g, cap, cs, rfl, rfl, hnc, _⟩
  · cases A <;> simp [Builtin.append_, run_underlying ht, sizeOf, typeInfo, hi, Builtin.lenOf, Builtin.firstCells, loadCells, loadCellsFrom]
  · cases A <;> simp [Builtin.append_, run_underlying ht, sizeOf, typeInfo, hi, Builtin.lenOf, Builtin.firstCells, loadCells, loadCellsFrom, hnc, storeCells]

/-- append(x, y..), the cells of y known. -/
theorem ex_appendW {A : Option Addr} {c : Nat} (ho : OwnsV e size v n xs Hx) (ht : P.underlying t = some (.slice e)) (hB : eltB P e size bytes = true) (hsz : 0 < size)
    (hx : ev Γ x = some v) (hy : ev Γ y = some (.slice A m c)) [hseg : SegE H Hx C] (hc : ∀ W, Sat w0 M H W → ∀ j u, news[j]? = some u → ∃ a, A = some a ∧ W.cell? (a.add j) = some u) (h63 : n + m ≤ maxLen) (hbytes : (n + m) * bytes ≤ 140737488355328)
    (hl : news.length = m * size) (h1 : ∀ u ∈ news, u.oneCell' = true) :
    Ex P N w0 M v.ownBlock.toList Γ H ⟨dst, .call ⟨.builtin .append, #[x, y], #[t, t]⟩, ty, pos, aft, grd⟩ (Appended e size (n + m) (xs ++ news) C) :=
  fun B W next Q ha hW hn => by
    obtain ⟨i, z, hi, hz, hsize, hby, hzs⟩ := eltB_out hB
    have key : ∃ v' W' Hx', (Builtin.append_ #[t, t] ty #[v, .slice A m c]).run P W = .ok v' W' ∧ OwnsV e size v' (n + m) (xs ++ news) Hx' ∧ Sat w0 M (C Hx') W' ∧ Ext v.ownBlock.toList W W' := by
      by_cases hm : m = 0
      · subst hm
        have hnews : news = [] := List.eq_nil_of_length_eq_zero (by simpa using hl)
        subst hnews
        obtain ⟨l, r, hH, hC⟩ := hseg.seg
        refine ⟨v, W, Hx, run_append_zero ht hi ho A c, by simpa using ho, ?_, Ext.refl _ _⟩
        rw [hC, ← hH]
        exact hW
      · have hpos : 0 < news.length := by rw [hl]; exact Nat.mul_pos (by omega) hsz
        obtain ⟨a, hA, _⟩ := hc W hW 0 news[0] (by simp [hpos])
        subst hA
        exact run_append_ext (ty := ty) ht hi hz hsize hby hzs ho hW a m c news hl (fun j u hj => by
          obtain ⟨a', ha', hcell⟩ := hc W hW j u hj
          cases ha'
          exact hcell) h1 (by omega) h63 hbytes
    obtain ⟨v', W', Hx', hr, h2, h3, h4⟩ := key
    have e1 : (execOp B.eval ⟨dst, .call ⟨.builtin .append, #[x, y], #[t, t]⟩, ty, pos, aft, grd⟩).run P W = .ok (.value v') W' := by
      simp only [execOp, resolve, invoke, builtin, Sem.run_bind, Sem.run_pure, Result.andThen_ok, List.map_toArray, List.map_cons, List.map_nil, ha.eval hx, ha.eval hy, hr]
    unfold Oper.wp
    rw [e1]
    exact hn v' _ W' ⟨Hx', h2, rfl⟩ h3 h4

theorem o_appendW {ops : Array Oper} {Q : Exit → Act → World → Prop} {next : AW} {rest : List Oper} {d : Nat} {A : Option Addr} {c : Nat} (ho : OwnsV e size v n xs Hx) (ht : P.underlying t = some (.slice e)) (hB : eltB P e size bytes = true) (hsz : 0 < size)
    (hx : ev Γ x = some v) (hy : ev Γ y = some (.slice A m c)) [hseg : SegE H Hx C] (hc : ∀ W, Sat w0 M H W → ∀ j u, news[j]? = some u → ∃ a, A = some a ∧ W.cell? (a.add j) = some u) (h63 : n + m ≤ maxLen) (hbytes : (n + m) * bytes ≤ 140737488355328)
    (hl : news.length = m * size) (h1 : ∀ u ∈ news, u.oneCell' = true) (k : ∀ v' Hx', OwnsV e size v' (n + m) (xs ++ news) Hx' → OpsN P ops Q next N w0 M rest ((d, v') :: Γ) (C Hx')) (hdN : d < N := by decide) :
    OpsN P ops Q next N w0 M (⟨some d, .call ⟨.builtin .append, #[x, y], #[t, t]⟩, ty, pos, aft, none⟩ :: rest) Γ H :=
  o_step (ex_appendW ho ht hB hsz hx hy hc h63 hbytes hl h1) (by rintro v' _ ⟨Hx', h2, rfl⟩; exact k v' Hx' h2) rfl rfl hdN

theorem rs_appendW {ops : Array Oper} {nx r : AW} {qs : List (Nat × AW)} {D : List DetOp} {m' : Nat} {L : Array Bool} {j d : Nat} {A : Option Addr} {c : Nat} (pr : List Nat)
    (hj : ops[j]? = some ⟨some d, .call ⟨.builtin .append, #[x, y], #[t, t]⟩, ty, pos, aft, none⟩) (ho : OwnsV e size v n xs Hx) (ht : P.underlying t = some (.slice e)) (hB : eltB P e size bytes = true) (hsz : 0 < size)
    (hx : ev Γ x = some v) (hy : ev Γ y = some (.slice A m c)) [hseg : SegE H Hx C] [hk : KeepsX H Hx pr D] (hc : ∀ W, Sat w0 M H W → ∀ j u, news[j]? = some u → ∃ a, A = some a ∧ W.cell? (a.add j) = some u) (h63 : n + m ≤ maxLen) (hbytes : (n + m) * bytes ≤ 140737488355328)
    (hl : news.length = m * size) (h1 : ∀ u ∈ news, u.oneCell' = true)
    (k : ∀ v' Hx', OwnsV e size v' (n + m) (xs ++ news) Hx' → RestJ P ops N w0 M nx r qs D m' (L.setIfInBounds j true) ((d, v') :: Γ) (C Hx'))
    (hpr : preds ⟨some d, .call ⟨.builtin .append, #[x, y], #[t, t]⟩, ty, pos, aft, none⟩ = pr := by kernel_rfl) (hN : Nat.blt d N = true := by rfl) :
    RSt P ops N w0 M nx r qs D m' L Γ H j := by
  have hk' : Keeps w0 M H ⟨some d, .call ⟨.builtin .append, #[x, y], #[t, t]⟩, ty, pos, aft, none⟩ D v.ownBlock.toList := fun W hW z hz => by
    rcases hk.ok w0 M W hW z hz with h | h
    · exact .inl (hpr ▸ h)
    · exact .inr fun e' he' hb => h e' he' (ho.block hb)
  exact rs_step (ex_appendW ho ht hB hsz hx hy hc h63 hbytes hl h1) hk' (by rintro v' _ ⟨Hx', h2, rfl⟩; exact k v' Hx' h2) hj rfl rfl hN
end
instance SubE.seg {Hy B : Hp} : SubE Hy (Hy ++ B) := ⟨List.sublist_append_left _ _⟩

theorem OwnsV.cast {e : TypeId} {size n n' : Nat} {v : Value} {xs xs' : List Value} {Hx : Hp} (h : OwnsV e size v n xs Hx) (hn : n = n') (hx : xs = xs') : OwnsV e size v n' xs' Hx := by subst hn hx; exact h

/-- Where the cells of a slice of one's own lie. -/
theorem own_at {e : TypeId} {size n : Nat} {v : Value} {xs : List Value} {Hx : Hp} (ho : OwnsV e size v n xs Hx) (hn : 0 < n) :
    ∃ g cap, v = .slice (some ⟨g, 0, none⟩) n cap ∧ ∀ (w0 : World) (M : List Nat) (W : World), Sat w0 M Hx W → ∀ j u, xs[j]? = some u → W.cell? ⟨g, j, none⟩ = some u := by
  rcases ho.2 with ⟨_, h0, _⟩ | ⟨g, cap, cs, rfl, rfl, hnc, hcm, hcs, htake⟩
  · omega
  · refine ⟨g, cap, rfl, fun w0 M W hW j u hu => ?_⟩
    rw [cell_of (hW.at_ _ (List.mem_singleton.2 rfl))]
    rw [← htake, List.getElem?_take] at hu
    split at hu
    · simpa using hu
    · cases hu

section
variable {P : Program} {N : Nat} {w0 : World} {M : List Nat} {Γ : Gam} {H : Hp} {ty : Nat} {pos : String} {aft : Array Edge} {grd : Option (Nat × Bool)} {dst : Option Nat}
/-- A load of cells that are known by what is known of memory. -/
theorem ex_load_at {x : Operand} {t : TypeId} {p : Addr} {v : Value} (hA : ∀ W, (isAgg t).run P W = .ok false W) (hx : ev Γ x = some (.pointer (some p))) (h : ∀ W, Sat w0 M H W → W.cell? p = some v) :
    ExV P N w0 M Γ H ⟨dst, .load t x, ty, pos, aft, grd⟩ v :=
  exv_run fun A W ha hW => by
    simp [execOp, ha.eval hx, Instr.loadAt, Instr.sureAddr, run_loadVar_scalar (hA W) (h W hW)]
theorem ex_loadA_at {x : Operand} {t : TypeId} {p : Addr} {vs : List Value} {n : Nat} (hA : ∀ W, (isAgg t).run P W = .ok true W) (hS : ∀ W, (sizeOf t).run P W = .ok n W) (hx : ev Γ x = some (.pointer (some p)))
    (hn : vs.length = n) (h : ∀ W, Sat w0 M H W → ∀ j v, vs[j]? = some v → W.cell? (p.add j) = some v) : ExV P N w0 M Γ H ⟨dst, .load t x, ty, pos, aft, grd⟩ (.agg vs.toArray) :=
  exv_run fun A W ha hW => by
    have h1 := run_loadVar_agg (P := P) (a := p) (hA W) (hS W) hn (fun j v hj => h W hW j v hj)
    simp [execOp, ha.eval hx, Instr.loadAt, Instr.sureAddr, h1]
end
end Go.Proofs.Ytdflfnednaleeaa
