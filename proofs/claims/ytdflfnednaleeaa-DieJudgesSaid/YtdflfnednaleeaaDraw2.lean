/- Own layer: a region that leaves its order open, step by step. -/
import Derived.Test.YtdflfnednaleeaaDraw
import Derived.KernelRfl
namespace Go.Proofs.Ytdflfnednaleeaa
open Go

section
variable {P : Program} {N : Nat} {w0 : World} {M : List Nat} {Γ : Gam} {H : Hp} {ops : Array Oper} {n r : AW} {xs : List (Nat × AW)}

/-- A det operation's value, its guard looked at. -/
def YieldG (P : Program) (ops : Array Oper) (N : Nat) (w0 : World) (M : List Nat) (Γ : Gam) (Hn : Hp) (o : Oper) (v : Value) : Prop :=
  (o.guard = none ∧ ExV P N w0 M Γ Hn o v) ∨ (∃ g w b, gslot ops o.guard = some (g, w) ∧ gl Γ g = some (.bool b) ∧ ((b = w ∧ ExV P N w0 M Γ Hn o v) ∨ (b ≠ w ∧ v = undef))) ∨ (∃ g w, gslot ops o.guard = some (g, w) ∧ gl Γ g = some undef ∧ v = undef)

theorem wanted_undefD {ops : Array Oper} {a : Act} {o : Oper} {d : Nat} {want : Bool} (hg : gslot ops o.guard = some (d, want)) (hb : a.tmps[d]? = some undef) : Region.wanted o (yielded ops a.tmps) = false := by
  unfold gslot at hg
  split at hg
  · rename_i j w heq
    split at hg
    · rename_i oj hj
      split at hg
      · rename_i d' hd
        cases hg
        simp [Region.wanted, heq, yielded, hj, hd, hb, undef]
      · cases hg
    · cases hg
  · cases hg
/-- The det operations, in the order of the text. -/
def DPass (P : Program) (ops : Array Oper) (N : Nat) (w0 : World) (M : List Nat) (H : Hp) (K : List DetOp → Gam → Prop) : List Oper → List Bool → Nat → List DetOp → Gam → Prop
  | [], _, _, D, Γ => K D Γ
  | o :: l, true :: bs, i, D, Γ => ∃ d v Hn, o.dst = some d ∧ d < N ∧ gl Γ d = none ∧ Hn.Sublist H ∧ YieldG P ops N w0 M Γ Hn o v ∧ DPass P ops N w0 M H K l bs (i + 1) (⟨i, d, Hn, v⟩ :: D) ((d, v) :: Γ)
  | _ :: l, false :: bs, i, D, Γ => DPass P ops N w0 M H K l bs (i + 1) D Γ
  | _ :: l, [], i, D, Γ => DPass P ops N w0 M H K l [] (i + 1) D Γ

structure DInv (P : Program) (ops : Array Oper) (N : Nat) (w0 : World) (M : List Nat) (H : Hp) (full : List Bool) (Γ0 : Gam) (i : Nat) (D : List DetOp) (Γ : Gam) : Prop where
  dist : Dist D
  each : ∀ x, x ∈ D → x.i < i ∧ isDet full x.i = true ∧ x.d < N ∧ gl Γ x.d ≠ none ∧ x.needs.Sublist H ∧ ∃ o Γx, ops[x.i]? = some o ∧ o.dst = some x.d ∧ Sub Γ Γx ∧ YieldG P ops N w0 M Γx x.needs o x.v
  all : ∀ j, j < i → isDet full j = true → ∃ x, x ∈ D ∧ x.i = j
  holds : ∀ a, Holds N Γ0 a → Holds N Γ (fill D a)

theorem drop_step {α : Type} {l : List α} {i : Nat} {x : α} {r : List α} (h : l.drop i = x :: r) : l[i]? = some x ∧ l.drop (i + 1) = r := by
  constructor
  · have : (l.drop i)[0]? = some x := by rw [h]; rfl
    simpa using this
  · have : (l.drop i).drop 1 = r := by rw [h]; rfl
    simpa [Nat.add_comm] using this

theorem dpass_collect {K : List DetOp → Gam → Prop} {full : List Bool} {Γ0 : Gam} : ∀ (suf : List Oper) (bs : List Bool) (i : Nat) (D : List DetOp) (Γ : Gam),
    DPass P ops N w0 M H K suf bs i D Γ → ops.toList.drop i = suf → full.drop i = bs → i ≤ ops.size → DInv P ops N w0 M H full Γ0 i D Γ → ∃ Df Γf, K Df Γf ∧ DInv P ops N w0 M H full Γ0 ops.size Df Γf := by
  intro suf
  induction suf with
  | nil =>
    intro bs i D Γ h hs _ hi hI
    have : i = ops.size := by
      have := congrArg List.length hs
      simp at this
      omega
    subst this
    exact ⟨D, Γ, by unfold DPass at h; exact h, hI⟩
  | cons o l ih =>
    intro bs i D Γ h hs hb hi hI
    obtain ⟨h1, h2⟩ := drop_step hs
    have hlt : i < ops.size := by
      have := (List.getElem?_eq_some_iff.1 h1).1
      simpa using this
    have ho : ops[i]? = some o := by simpa using h1
    cases bs with
    | nil =>
      unfold DPass at h
      have hf : full.drop (i + 1) = [] := by
        rw [List.drop_eq_nil_iff] at hb ⊢; omega
      refine ih [] (i + 1) D Γ h h2 hf hlt ⟨hI.dist, fun x hx => ?_, fun j hj hD => ?_, hI.holds⟩
      · obtain ⟨a, b⟩ := hI.each x hx; exact ⟨by omega, b⟩
      · by_cases hji : j = i
        · subst hji
          exfalso
          rw [List.drop_eq_nil_iff] at hb
          simp [isDet, List.getElem?_eq_none hb] at hD
        · exact hI.all j (by omega) hD
    | cons b bs =>
      obtain ⟨g1, g2⟩ := drop_step hb
      cases b with
      | false =>
        unfold DPass at h
        refine ih bs (i + 1) D Γ h h2 g2 hlt ⟨hI.dist, fun x hx => ?_, fun j hj hD => ?_, hI.holds⟩
        · obtain ⟨a, b⟩ := hI.each x hx; exact ⟨by omega, b⟩
        · by_cases hji : j = i
          · subst hji; simp [isDet, g1] at hD
          · exact hI.all j (by omega) hD
      | true =>
        unfold DPass at h
        obtain ⟨d, v, Hn, hd, hdN, hf, hsub, hy, hk⟩ := h
        refine ih bs (i + 1) _ _ hk h2 g2 hlt ⟨⟨fun y hy e => ?_, hI.dist⟩, fun x hx => ?_, fun j hj hD => ?_, fun a ha => ?_⟩
        · exact (hI.each y hy).2.2.2.1 (by rw [e]; exact hf)
        · rcases List.mem_cons.1 hx with rfl | hx
          · exact ⟨by simp, by simp [isDet, g1], hdN, by simp only; rw [gl_cons_same]; simp, hsub, o, Γ, ho, hd, Sub.skip hf (Sub.refl _), hy⟩
          · obtain ⟨a1, a2, a3, a4, a5, o', Γx, a6, a7, a8, a9⟩ := hI.each x hx
            have hne : d ≠ x.d := fun e => a4 (by rw [← e]; exact hf)
            refine ⟨by omega, a2, a3, by rw [gl_cons_other hne]; exact a4, a5, o', Γx, a6, a7, fun j u hj => ?_, a9⟩
            have := a8 j u hj
            rw [gl_cons_other (fun e => by rw [← e, hf] at this; cases this)]
            exact this
        · by_cases hji : j = i
          · exact ⟨_, List.mem_cons_self .., hji.symm⟩
          · obtain ⟨x, hx, e⟩ := hI.all j (by omega) hD
            exact ⟨x, List.mem_cons_of_mem _ hx, e⟩
        · exact (hI.holds a ha).put hdN v

/-- What is left of a region once its det operations are done. -/
def RestJ (P : Program) (ops : Array Oper) (N : Nat) (w0 : World) (M : List Nat) (n r : AW) (xs : List (Nat × AW)) (D : List DetOp) (m : Nat) (L : Array Bool) (Γ : Gam) (H : Hp) : Prop :=
  ∀ b W, Holds N Γ b → Sat w0 M H W → restAny P ops (Qof n r xs) n (PrOf w0 M D ops) m L b W

theorem LD_start (full : List Bool) (k : Nat) (h : full.length = k) : LD full (Array.replicate k false) = full.toArray := by
  apply Array.ext_getElem?
  intro i
  by_cases hi : i < k
  · have : i < full.length := by omega
    simp [LD, hi, isDet, this]
  · rw [Array.getElem?_eq_none (by simp [LD]; omega), Array.getElem?_eq_none (by simp; omega)]

theorem cw_region_any {ρ : Option Nat} {ops : Array Oper} {Q : Exit → Act → World → Prop} (hnd : ops.toList.all ndB = true) (hQ : ¬ LetsOut Q) {id : Nat} {a : Act} {w : World} (hm : P.follows .mixedOrders = true)
    (h : wpAny P .any ops Q ops.size (Array.replicate ops.size false) a { w with drawn := w.drawn + 1 }) : cw ρ P (Code.region id ops true) Q a w :=
  wpIn_region_draw fun t => wpOps_in hnd hQ _ (by
    simp only [Region.schedule, hm, Bool.true_or, if_true]
    exact wpAny_sound ops.size t _ a _ h)

theorem k_draw {ρ : Option Nat} {id : Nat} {l : List Oper} (full : List Bool) (m : Nat) (h : DPass P l.toArray N w0 M H (fun D Γf => RestJ P l.toArray N w0 M n r xs D m full.toArray Γf H) l full 0 [] Γ)
    (hm : P.follows .mixedOrders = true) (hok : okDraw l.toArray full = true) (hlen : full.length = l.length) (hnd : l.all ndB = true := by rfl) : Kn N w0 M Γ H (cw ρ P (Code.region id l.toArray true) (Qof n r xs)) := by
  intro a W ha hW
  refine cw_region_any (by simpa using hnd) Qof.kept hm ?_
  obtain ⟨D, Γf, hK, hI⟩ := dpass_collect (ops := l.toArray) (full := full) (Γ0 := Γ) l full 0 [] Γ h (by simp) (by simp) (Nat.zero_le _)
    ⟨trivial, fun x hx => (by cases hx), fun j hj => absurd hj (Nat.not_lt_zero j), fun a ha => ha⟩
  have hW1 : Sat w0 M H { W with drawn := W.drawn + 1 } := hW.ext0 (Ext.drew W)
  have hG : Good P l.toArray w0 M full D a := by
    refine ⟨hI.dist, fun x hx => ?_, fun i hi hD => hI.all i hi hD, fun x hx => by rw [ha.size]; exact (hI.each x hx).2.2.1, fun x hx o ho Wx hc => ?_⟩
    · obtain ⟨_, h2, _, _, _, o, _, ho, hd, _⟩ := hI.each x hx
      exact ⟨h2, o, ho, hd⟩
    · obtain ⟨_, _, _, _, hsub, o', Γx, ho', _, hs, hy⟩ := hI.each x hx
      rw [ho] at ho'
      cases ho'
      have hb : Holds N Γx (fill D a) := (hI.holds a ha).sub hs
      have hSx : Sat w0 M x.needs Wx := ⟨hc.1, hc.2, fun e he => hW.new e (hsub.subset he), hW.nodup.sublist (hsub.map _)⟩
      have hyield : ExV P N w0 M Γx x.needs o x.v → Yield P o (fill D a) Wx x.v := fun hx => hx _ Wx _ _ hb hSx (fun W' hE => ⟨rfl, hE⟩)
      rcases hy with ⟨hg, hx⟩ | ⟨g, w, b, hg, hgl, hy⟩ | ⟨g, w, hg, hgl, hv⟩
      · exact .inl ⟨by simp [Region.wanted, hg], hyield hx⟩
      · rw [wanted_gslot hg (hb.at_ _ _ hgl)]
        rcases hy with ⟨e, hx⟩ | ⟨e, hv⟩
        · exact .inl ⟨by rw [e]; simp, hyield hx⟩
        · exact .inr ⟨by simpa using e, hv⟩
      · exact .inr ⟨wanted_undefD hg (hb.at_ _ _ hgl), hv⟩
  have hrep : ∀ j df, df = false → (Array.replicate l.toArray.size false).getD j df = false := fun j df e => by
    subst e
    simp only [Array.getD_eq_getD_getElem?, Array.getElem?_replicate]
    split <;> rfl
  refine draw_main (fit_of hok) hG l.toArray.size m _ a _ (by simp) rfl ?_ (fun x _ h => by rw [hrep _ _ rfl] at h; cases h) (fun _ _ => rfl) (fun j o _ h => by rw [hrep _ _ rfl] at h; cases h) (fun x hx _ => ?_) (fun W' hE => ?_)
  · unfold unl
    refine Nat.le_trans (List.countP_le_length) (by simp)
  · obtain ⟨_, _, _, _, hsub, _⟩ := hI.each x hx
    exact ⟨hW1.ext, fun e he => hW1.at_ e (hsub.subset he)⟩
  · rw [LD_start full l.toArray.size (by simpa using hlen)]
    exact hK _ W' (hI.holds a ha) (hW1.ext0 hE)

/-! ### The steps -/
variable {K : List DetOp → Gam → Prop} {D : List DetOp} {i m : Nat} {bs : List Bool} {l : List Oper} {L : Array Bool}

/-- A sub-list, found. -/
class SubE (Hn H : Hp) : Prop where
  sub : Hn.Sublist H
instance SubE.nil {H : Hp} : SubE [] H := ⟨List.nil_sublist _⟩
instance (priority := low) SubE.skip {Hn H : Hp} {e : Ent} [h : SubE Hn H] : SubE Hn (e :: H) := ⟨h.sub.cons _⟩
instance SubE.cons {Hn H : Hp} {e : Ent} [h : SubE Hn H] : SubE (e :: Hn) (e :: H) := ⟨h.sub.cons_cons _⟩

theorem d_val {o : Oper} {v : Value} {d : Nat} (Hn : Hp) (hx : ExV P N w0 M Γ Hn o v) (k : DPass P ops N w0 M H K l bs (i + 1) (⟨i, d, Hn, v⟩ :: D) ((d, v) :: Γ)) [hs : SubE Hn H]
    (hg : o.guard = none := by rfl) (hd : o.dst = some d := by rfl) (hN : Nat.blt d N = true := by rfl) (hf : gl Γ d = none := by rfl) : DPass P ops N w0 M H K (o :: l) (true :: bs) i D Γ :=
  ⟨d, v, Hn, hd, Nat.le_of_ble_eq_true hN, hf, hs.sub, .inl ⟨hg, hx⟩, k⟩

theorem d_val_g {o : Oper} {v : Value} {d g : Nat} {w : Bool} (Hn : Hp) (hx : ExV P N w0 M Γ Hn o v) (k : DPass P ops N w0 M H K l bs (i + 1) (⟨i, d, Hn, v⟩ :: D) ((d, v) :: Γ)) [hs : SubE Hn H]
    (hg : gslot ops o.guard = some (g, w) := by rfl) (hb : gl Γ g = some (.bool w) := by rfl) (hd : o.dst = some d := by rfl) (hN : Nat.blt d N = true := by rfl) (hf : gl Γ d = none := by rfl) : DPass P ops N w0 M H K (o :: l) (true :: bs) i D Γ :=
  ⟨d, v, Hn, hd, Nat.le_of_ble_eq_true hN, hf, hs.sub, .inr (.inl ⟨g, w, w, hg, hb, .inl ⟨rfl, hx⟩⟩), k⟩

theorem d_skip {o : Oper} {d g : Nat} {w b : Bool} (k : DPass P ops N w0 M H K l bs (i + 1) (⟨i, d, [], undef⟩ :: D) ((d, undef) :: Γ))
    (hg : gslot ops o.guard = some (g, w) := by rfl) (hb : gl Γ g = some (.bool b) := by rfl) (hne : (b == w) = false := by rfl) (hd : o.dst = some d := by rfl) (hN : Nat.blt d N = true := by rfl) (hf : gl Γ d = none := by rfl) : DPass P ops N w0 M H K (o :: l) (true :: bs) i D Γ :=
  ⟨d, undef, [], hd, Nat.le_of_ble_eq_true hN, hf, List.nil_sublist _, .inr (.inl ⟨g, w, b, hg, hb, .inr ⟨by simpa using hne, rfl⟩⟩), k⟩

/-- An operation whose guard was itself passed over. -/
theorem d_skip_undef {o : Oper} {d g : Nat} {w : Bool} (k : DPass P ops N w0 M H K l bs (i + 1) (⟨i, d, [], undef⟩ :: D) ((d, undef) :: Γ))
    (hg : gslot ops o.guard = some (g, w) := by rfl) (hb : gl Γ g = some undef := by rfl) (hd : o.dst = some d := by rfl) (hN : Nat.blt d N = true := by rfl) (hf : gl Γ d = none := by rfl) : DPass P ops N w0 M H K (o :: l) (true :: bs) i D Γ :=
  ⟨d, undef, [], hd, Nat.le_of_ble_eq_true hN, hf, List.nil_sublist _, .inr (.inr ⟨g, w, hg, hb, rfl⟩), k⟩

theorem d_rest {o : Oper} (k : DPass P ops N w0 M H K l bs (i + 1) D Γ) : DPass P ops N w0 M H K (o :: l) (false :: bs) i D Γ := k
theorem d_nil (k : K D Γ) : DPass P ops N w0 M H K [] bs i D Γ := k

/-- A cell of a block that is known: that block alone is needed. -/
theorem d_load {x : Operand} {t tb : TypeId} {b o d : Nat} {cs : List Value} {own : Bool} {v : Value} {ty : Nat} {pos : String} {aft : Array Edge} (hA : ∀ W, (isAgg t).run P W = .ok false W) (hx : ev Γ x = some (.pointer (some ⟨b, o, none⟩)))
    [he : HasE H b tb cs own] (hv : cs[o]? = some v) (k : DPass P ops N w0 M H K l bs (i + 1) (⟨i, d, [⟨b, tb, cs, own⟩], v⟩ :: D) ((d, v) :: Γ)) (hN : Nat.blt d N = true := by rfl) (hf : gl Γ d = none := by rfl) :
    DPass P ops N w0 M H K (⟨some d, .load t x, ty, pos, aft, none⟩ :: l) (true :: bs) i D Γ :=
  ⟨d, v, [⟨b, tb, cs, own⟩], rfl, Nat.le_of_ble_eq_true hN, hf, List.singleton_sublist.2 he.mem, .inl ⟨rfl, ex_load (tb := tb) (cs := cs) (own := own) (he := ⟨List.mem_singleton.2 rfl, he.tr⟩) hA hx hv⟩, k⟩
theorem d_loadA {x : Operand} {t tb : TypeId} {b o d k' : Nat} {cs vs : List Value} {own : Bool} {ty : Nat} {pos : String} {aft : Array Edge} (hA : ∀ W, (isAgg t).run P W = .ok true W) (hS : ∀ W, (sizeOf t).run P W = .ok k' W)
    (hx : ev Γ x = some (.pointer (some ⟨b, o, none⟩))) [he : HasE H b tb cs own] [Slc cs o k' vs] (k : DPass P ops N w0 M H K l bs (i + 1) (⟨i, d, [⟨b, tb, cs, own⟩], .agg vs.toArray⟩ :: D) ((d, .agg vs.toArray) :: Γ)) (hN : Nat.blt d N = true := by rfl) (hf : gl Γ d = none := by rfl) :
    DPass P ops N w0 M H K (⟨some d, .load t x, ty, pos, aft, none⟩ :: l) (true :: bs) i D Γ :=
  ⟨d, .agg vs.toArray, [⟨b, tb, cs, own⟩], rfl, Nat.le_of_ble_eq_true hN, hf, List.singleton_sublist.2 he.mem, .inl ⟨rfl, ex_loadA (tb := tb) (cs := cs) (own := own) (he := ⟨List.mem_singleton.2 rfl, he.tr⟩) hA hS hx⟩, k⟩
theorem d_load_g {x : Operand} {t tb : TypeId} {b o d : Nat} {cs : List Value} {own : Bool} {v : Value} {ty : Nat} {pos : String} {aft : Array Edge} {grd : Option (Nat × Bool)} {g : Nat} {w : Bool} (hA : ∀ W, (isAgg t).run P W = .ok false W) (hx : ev Γ x = some (.pointer (some ⟨b, o, none⟩)))
    [he : HasE H b tb cs own] (hv : cs[o]? = some v) (k : DPass P ops N w0 M H K l bs (i + 1) (⟨i, d, [⟨b, tb, cs, own⟩], v⟩ :: D) ((d, v) :: Γ)) (hg : gslot ops grd = some (g, w) := by rfl) (hb : gl Γ g = some (.bool w) := by rfl) (hN : Nat.blt d N = true := by rfl) (hf : gl Γ d = none := by rfl) :
    DPass P ops N w0 M H K (⟨some d, .load t x, ty, pos, aft, grd⟩ :: l) (true :: bs) i D Γ :=
  ⟨d, v, [⟨b, tb, cs, own⟩], rfl, Nat.le_of_ble_eq_true hN, hf, List.singleton_sublist.2 he.mem, .inr (.inl ⟨g, w, w, hg, hb, .inl ⟨rfl, ex_load (tb := tb) (cs := cs) (own := own) (he := ⟨List.mem_singleton.2 rfl, he.tr⟩) hA hx hv⟩⟩), k⟩
theorem d_loadA_g {x : Operand} {t tb : TypeId} {b o d k' : Nat} {cs vs : List Value} {own : Bool} {ty : Nat} {pos : String} {aft : Array Edge} {grd : Option (Nat × Bool)} {g : Nat} {w : Bool} (hA : ∀ W, (isAgg t).run P W = .ok true W) (hS : ∀ W, (sizeOf t).run P W = .ok k' W)
    (hx : ev Γ x = some (.pointer (some ⟨b, o, none⟩))) [he : HasE H b tb cs own] [Slc cs o k' vs] (k : DPass P ops N w0 M H K l bs (i + 1) (⟨i, d, [⟨b, tb, cs, own⟩], .agg vs.toArray⟩ :: D) ((d, .agg vs.toArray) :: Γ)) (hg : gslot ops grd = some (g, w) := by rfl) (hb : gl Γ g = some (.bool w) := by rfl) (hN : Nat.blt d N = true := by rfl) (hf : gl Γ d = none := by rfl) :
    DPass P ops N w0 M H K (⟨some d, .load t x, ty, pos, aft, grd⟩ :: l) (true :: bs) i D Γ :=
  ⟨d, .agg vs.toArray, [⟨b, tb, cs, own⟩], rfl, Nat.le_of_ble_eq_true hN, hf, List.singleton_sublist.2 he.mem, .inr (.inl ⟨g, w, w, hg, hb, .inl ⟨rfl, ex_loadA (tb := tb) (cs := cs) (own := own) (he := ⟨List.mem_singleton.2 rfl, he.tr⟩) hA hS hx⟩⟩), k⟩

/-- The rest: one operation that may come next. -/
def RSt (P : Program) (ops : Array Oper) (N : Nat) (w0 : World) (M : List Nat) (n r : AW) (xs : List (Nat × AW)) (D : List DetOp) (m : Nat) (L : Array Bool) (Γ : Gam) (H : Hp) (i : Nat) : Prop :=
  ∀ b W, Holds N Γ b → Sat w0 M H W → wpOp P ops (Qof n r xs) i (fun b' W' => PrOf w0 M D ops i W W' ∧ ∀ W'', Ext [] W' W'' → restAny P ops (Qof n r xs) n (PrOf w0 M D ops) m (L.setIfInBounds i true) b' W'') b W

theorem r_nil (k : Kn N w0 M Γ H n) (hr : Region.ready .any ops L = []) : RestJ P ops N w0 M n r xs D 0 L Γ H := fun b W hb hW => ⟨hr, k b W hb hW⟩
theorem restAny_step {Pr : Nat → World → World → Prop} {b : Act} {W : World} {x : Nat} {rs : List Nat} (hr : Region.ready .any ops L = x :: rs)
    (h : ∀ y, y ∈ x :: rs → wpOp P ops (Qof n r xs) y (fun b' W' => Pr y W W' ∧ ∀ W'', Ext [] W' W'' → restAny P ops (Qof n r xs) n Pr m (L.setIfInBounds y true) b' W'') b W) : restAny P ops (Qof n r xs) n Pr (m + 1) L b W := by
  refine ⟨fun h0 => ?_, fun y hy => h y (by rw [hr] at hy; exact hy)⟩
  rw [hr] at h0; cases h0

theorem r_one (j : Nat) (k : RSt P ops N w0 M n r xs D m L Γ H j) (hr : Region.ready .any ops L = [j]) : RestJ P ops N w0 M n r xs D (m + 1) L Γ H := fun b W hb hW =>
  restAny_step hr fun y hy => by
    rcases List.mem_singleton.1 hy with rfl
    exact k b W hb hW
theorem r_two (j j' : Nat) (k : RSt P ops N w0 M n r xs D m L Γ H j) (k' : RSt P ops N w0 M n r xs D m L Γ H j') (hr : Region.ready .any ops L = [j, j']) : RestJ P ops N w0 M n r xs D (m + 1) L Γ H := fun b W hb hW =>
  restAny_step hr fun y hy => by
    rcases List.mem_cons.1 hy with rfl | hy
    · exact k b W hb hW
    · rcases List.mem_singleton.1 hy with rfl
      exact k' b W hb hW
theorem r_three (j j' j'' : Nat) (k : RSt P ops N w0 M n r xs D m L Γ H j) (k' : RSt P ops N w0 M n r xs D m L Γ H j') (k'' : RSt P ops N w0 M n r xs D m L Γ H j'') (hr : Region.ready .any ops L = [j, j', j'']) : RestJ P ops N w0 M n r xs D (m + 1) L Γ H := fun b W hb hW =>
  restAny_step hr fun y hy => by
    rcases List.mem_cons.1 hy with rfl | hy
    · exact k b W hb hW
    · rcases List.mem_cons.1 hy with rfl | hy
      · exact k' b W hb hW
      · rcases List.mem_singleton.1 hy with rfl
        exact k'' b W hb hW

/-- What a rest operation may write is nothing that a det one needs that has not surely been done. -/
def Keeps (w0 : World) (M : List Nat) (H : Hp) (o : Oper) (D : List DetOp) (ws : List Nat) : Prop := ∀ W, Sat w0 M H W → ∀ x, x ∈ D → x.i ∈ preds o ∨ ∀ e, e ∈ x.needs → e.b ∉ ws

theorem Keeps.none {o : Oper} : Keeps w0 M H o D [] := fun _ _ _ _ => .inr fun _ _ h => by cases h

theorem rs_step {j d : Nat} {o : Oper} {ws : List Nat} {φ : Value → Hp → Prop} (hx : Ex P N w0 M ws Γ H o φ) (hk : Keeps w0 M H o D ws) (k : ∀ v H', φ v H' → RestJ P ops N w0 M n r xs D m (L.setIfInBounds j true) ((d, v) :: Γ) H')
    (hj : ops[j]? = some o := by rfl) (hg : o.guard = none := by rfl) (hd : o.dst = some d := by rfl) (hN : Nat.blt d N = true := by rfl) : RSt P ops N w0 M n r xs D m L Γ H j := by
  intro b W hb hW
  unfold wpOp
  simp only [hj, Region.wanted, hg, if_true]
  refine .inl (hx b W _ _ hb hW fun v H' W' hφ hS hE => ⟨fun x hx hp hc => ⟨hS.ext, fun e he => ?_⟩, fun W'' hE2 => ?_⟩)
  · have hb' := hc.2 e he
    rw [hE.block e.b (by
      by_cases hlt : e.b < W.heap.size
      · exact hlt
      · rw [Array.getElem?_eq_none (Nat.le_of_not_lt hlt)] at hb'; cases hb') (by
      rcases hk W hW x hx with h | h
      · exact absurd h (hp o hj)
      · exact h e he)]
    exact hb'
  · rw [hd]
    exact k v H' hφ _ W'' (hb.put (Nat.le_of_ble_eq_true hN) v) (hS.ext0 hE2)

theorem rs_step_none {j : Nat} {o : Oper} {ws : List Nat} {φ : Value → Hp → Prop} (hx : Ex P N w0 M ws Γ H o φ) (hk : Keeps w0 M H o D ws) (k : ∀ v H', φ v H' → RestJ P ops N w0 M n r xs D m (L.setIfInBounds j true) Γ H')
    (hj : ops[j]? = some o := by rfl) (hg : o.guard = none := by rfl) (hd : o.dst = none := by rfl) : RSt P ops N w0 M n r xs D m L Γ H j := by
  intro b W hb hW
  unfold wpOp
  simp only [hj, Region.wanted, hg, if_true]
  refine .inl (hx b W _ _ hb hW fun v H' W' hφ hS hE => ⟨fun x hx hp hc => ⟨hS.ext, fun e he => ?_⟩, fun W'' hE2 => ?_⟩)
  · have hb' := hc.2 e he
    rw [hE.block e.b (by
      by_cases hlt : e.b < W.heap.size
      · exact hlt
      · rw [Array.getElem?_eq_none (Nat.le_of_not_lt hlt)] at hb'; cases hb') (by
      rcases hk W hW x hx with h | h
      · exact absurd h (hp o hj)
      · exact h e he)]
    exact hb'
  · rw [hd]
    exact k v H' hφ _ W'' hb (hS.ext0 hE2)

theorem rs_val {j d : Nat} {o : Oper} {v : Value} (hj : ops[j]? = some o) (hx : ExV P N w0 M Γ H o v) (k : RestJ P ops N w0 M n r xs D m (L.setIfInBounds j true) ((d, v) :: Γ) H)
    (hg : o.guard = none := by rfl) (hd : o.dst = some d := by rfl) (hN : Nat.blt d N = true := by rfl) : RSt P ops N w0 M n r xs D m L Γ H j :=
  rs_step hx.ex Keeps.none (by rintro _ _ ⟨rfl, rfl⟩; exact k) hj hg hd hN

theorem rs_alloc {j d : Nat} {t : TypeId} {z : Value} {cs : List Value} {ty : Nat} {pos : String} {aft : Array Edge} (hj : ops[j]? = some ⟨some d, .alloc t, ty, pos, aft, none⟩) (hz : ∀ W, (zeroValue t).run P W = .ok z W) [CellsOf z cs]
    (k : ∀ b, RestJ P ops N w0 M n r xs D m (L.setIfInBounds j true) ((d, .pointer (some ⟨b, 0, none⟩)) :: Γ) (⟨b, t, cs, true⟩ :: H)) (hN : Nat.blt d N = true := by rfl) : RSt P ops N w0 M n r xs D m L Γ H j :=
  rs_step (ex_alloc hz) Keeps.none (by rintro _ _ ⟨b, rfl, rfl⟩; exact k b) hj rfl rfl hN

/-- Two blocks are two. -/
class NeE (H : Hp) (b b' : Nat) : Prop where
  ne : ∀ (w0 : World) (M : List Nat) (W : World), Sat w0 M H W → b ≠ b'
theorem Sat.tail {e : Ent} {H : Hp} {W : World} (h : Sat w0 M (e :: H) W) : Sat w0 M H W := h.drop (List.sublist_cons_self _ _)
instance NeE.hereL {H : Hp} {b b' : Nat} {t : TypeId} {cs : List Value} {own : Bool} {t' : TypeId} {cs' : List Value} {own' : Bool} [h : HasE H b' t' cs' own'] : NeE (⟨b, t, cs, own⟩ :: H) b b' :=
  ⟨fun w0 M W hW e => by
    have := hW.nodup
    simp only [List.map_cons, List.nodup_cons] at this
    exact this.1 (List.mem_map.2 ⟨_, h.mem, e.symm⟩)⟩
instance NeE.hereR {H : Hp} {b b' : Nat} {t : TypeId} {cs : List Value} {own : Bool} {t' : TypeId} {cs' : List Value} {own' : Bool} [h : HasE H b t' cs' own'] : NeE (⟨b', t, cs, own⟩ :: H) b b' :=
  ⟨fun w0 M W hW e => by
    have := hW.nodup
    simp only [List.map_cons, List.nodup_cons] at this
    exact this.1 (List.mem_map.2 ⟨_, h.mem, e⟩)⟩
instance (priority := low) NeE.there {e : Ent} {H : Hp} {b b' : Nat} [h : NeE H b b'] : NeE (e :: H) b b' := ⟨fun w0 M W hW => h.ne w0 M W hW.tail⟩

/-- 'b' is none of these. -/
class NotE (H : Hp) (b : Nat) (Hn : Hp) : Prop where
  no : ∀ (w0 : World) (M : List Nat) (W : World), Sat w0 M H W → ∀ e, e ∈ Hn → e.b ≠ b
instance NotE.nil {H : Hp} {b : Nat} : NotE H b [] := ⟨fun _ _ _ _ _ h => by cases h⟩
instance NotE.cons {H Hn : Hp} {b b' : Nat} {t : TypeId} {cs : List Value} {own : Bool} [h1 : NeE H b' b] [h2 : NotE H b Hn] : NotE H b (⟨b', t, cs, own⟩ :: Hn) :=
  ⟨fun w0 M W hW e he => by
    rcases List.mem_cons.1 he with rfl | he
    · exact h1.ne w0 M W hW
    · exact h2.no w0 M W hW e he⟩

/-- A number of a list. -/
class InL (x : Nat) (l : List Nat) : Prop where
  mem : x ∈ l
instance InL.here {x : Nat} {l : List Nat} : InL x (x :: l) := ⟨List.mem_cons_self ..⟩
instance (priority := low) InL.there {x y : Nat} {l : List Nat} [h : InL x l] : InL x (y :: l) := ⟨List.mem_cons_of_mem _ h.mem⟩

/-- The det operations that a store into 'b' must leave alone, those before it ('pr') left out. -/
class KeepsE (H : Hp) (b : Nat) (pr : List Nat) (D : List DetOp) : Prop where
  ok : ∀ (w0 : World) (M : List Nat) (W : World), Sat w0 M H W → ∀ x, x ∈ D → x.i ∈ pr ∨ ∀ e, e ∈ x.needs → e.b ≠ b
instance KeepsE.nil {H : Hp} {b : Nat} {pr : List Nat} : KeepsE H b pr [] := ⟨fun _ _ _ _ _ h => by cases h⟩
instance KeepsE.pre {H : Hp} {b d i : Nat} {pr : List Nat} {D : List DetOp} {Hn : Hp} {v : Value} [h1 : InL i pr] [h2 : KeepsE H b pr D] : KeepsE H b pr (⟨i, d, Hn, v⟩ :: D) :=
  ⟨fun w0 M W hW x hx => by
    rcases List.mem_cons.1 hx with rfl | hx
    · exact .inl h1.mem
    · exact h2.ok w0 M W hW x hx⟩
instance (priority := low) KeepsE.no {H : Hp} {b d i : Nat} {pr : List Nat} {D : List DetOp} {Hn : Hp} {v : Value} [h1 : NotE H b Hn] [h2 : KeepsE H b pr D] : KeepsE H b pr (⟨i, d, Hn, v⟩ :: D) :=
  ⟨fun w0 M W hW x hx => by
    rcases List.mem_cons.1 hx with rfl | hx
    · exact .inr (h1.no w0 M W hW)
    · exact h2.ok w0 M W hW x hx⟩

theorem rs_store {j : Nat} {x y : Operand} {t tb : TypeId} {b off n' : Nat} {v : Value} {vs cs cs' : List Value} {H' : Hp} {ty : Nat} {pos : String} {aft : Array Edge} (pr : List Nat) (hj : ops[j]? = some ⟨none, .store t x y, ty, pos, aft, none⟩)
    (hS : ∀ W, (sizeOf t).run P W = .ok n' W) (hx : ev Γ x = some (.pointer (some ⟨b, off, none⟩))) (hy : ev Γ y = some v) [CellsOf v vs] [HasE H b tb cs true] [Spl cs off vs cs'] [SetE H b cs' H'] [hk : KeepsE H b pr D]
    (k : RestJ P ops N w0 M n r xs D m (L.setIfInBounds j true) Γ H') (hpr : preds ⟨none, .store t x y, ty, pos, aft, none⟩ = pr := by kernel_rfl)
    (hn : vs.length = n' := by rfl) (h1 : vs.all (·.oneCell') = true := by rfl) : RSt P ops N w0 M n r xs D m L Γ H j := by
  have hk' : Keeps w0 M H ⟨none, .store t x y, ty, pos, aft, none⟩ D [b] := fun W hW x hx => by
    rcases hk.ok w0 M W hW x hx with h | h
    · exact .inl (hpr ▸ h)
    · exact .inr fun e he => by simpa using h e he
  exact rs_step_none (ex_store hS hx hy hn h1 (cs' := cs') (H' := H')) hk' (by rintro _ _ ⟨_, rfl⟩; exact k) hj rfl rfl

theorem Sat.swap {e e' : Ent} {W : World} (h : Sat w0 M (e :: e' :: H) W) : Sat w0 M (e' :: e :: H) W :=
  ⟨h.ext, fun x hx => h.at_ x (by simp only [List.mem_cons] at hx ⊢; rcases hx with h | h | h <;> simp [h]), fun x hx => h.new x (by simp only [List.mem_cons] at hx ⊢; rcases hx with h | h | h <;> simp [h]), by
    have := h.nodup
    simp only [List.map_cons, List.nodup_cons, List.mem_cons, not_or] at this ⊢
    exact ⟨⟨fun e => this.1.1 e.symm, this.2.1⟩, this.1.2, this.2.2⟩⟩

/-- Two new variables, in either order. -/
theorem r_allocs {j j' d d' : Nat} {t t' : TypeId} {z z' : Value} {cs cs' : List Value} {ty ty' : Nat} {pos pos' : String} {aft aft' : Array Edge} (h1 : Region.ready .any ops L = [j, j'])
    (h2 : Region.ready .any ops (L.setIfInBounds j true) = [j']) (h3 : Region.ready .any ops (L.setIfInBounds j' true) = [j]) (hj : ops[j]? = some ⟨some d, .alloc t, ty, pos, aft, none⟩) (hj' : ops[j']? = some ⟨some d', .alloc t', ty', pos', aft', none⟩)
    (hz : ∀ W, (zeroValue t).run P W = .ok z W) (hz' : ∀ W, (zeroValue t').run P W = .ok z' W) [CellsOf z cs] [CellsOf z' cs']
    (k : ∀ b b', RestJ P ops N w0 M n r xs D m ((L.setIfInBounds j true).setIfInBounds j' true) ((d', .pointer (some ⟨b', 0, none⟩)) :: (d, .pointer (some ⟨b, 0, none⟩)) :: Γ) (⟨b', t', cs', true⟩ :: ⟨b, t, cs, true⟩ :: H))
    (hN : Nat.blt d N = true := by rfl) (hN' : Nat.blt d' N = true := by rfl) (hne : Nat.beq d d' = false := by rfl) (hnj : Nat.beq j' j = false := by rfl) : RestJ P ops N w0 M n r xs D (m + 1 + 1) L Γ H := by
  refine r_two j j' ?_ ?_ h1
  · refine rs_alloc hj hz (fun b => ?_) hN
    refine r_one j' (rs_alloc hj' hz' (fun b' => ?_) hN') h2
    exact k b b'
  · refine rs_alloc hj' hz' (fun b' => ?_) hN'
    refine r_one j (rs_alloc hj hz (fun b => ?_) hN) h3
    have hdd : d ≠ d' := fun e => by rw [e, Nat.beq_refl] at hne; cases hne
    have hjj : j' ≠ j := fun e => by rw [e, Nat.beq_refl] at hnj; cases hnj
    rw [Array.setIfInBounds_comm _ _ hjj]
    intro x W hx hW
    refine k b b' x W (hx.sub fun i v hi => ?_) hW.swap
    by_cases h1 : d = i
    · subst h1
      rw [gl_cons_same]
      rw [gl_cons_other (fun e => hdd e.symm), gl_cons_same] at hi
      exact hi
    · rw [gl_cons_other h1]
      by_cases h2 : d' = i
      · subst h2
        rw [gl_cons_same] at hi ⊢
        exact hi
      · rw [gl_cons_other h2, gl_cons_other h1] at hi
        rw [gl_cons_other h2]
        exact hi

end
end Go.Proofs.Ytdflfnednaleeaa
