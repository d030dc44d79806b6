/- Own layer: guards, literals, rows. -/
import Derived.Test.YtdflfnednaleeaaFun
namespace Go.Proofs.Ytdflfnednaleeaa
open Go

section
variable {P : Program} {N : Nat} {w0 : World} {M : List Nat} {Γ : Gam} {H : Hp} {ops : Array Oper} {Q : Exit → Act → World → Prop} {next : AW}

/-! ### A stretch writes no slots but its own -/
def Agree (ds : List Nat) (a a' : Act) : Prop := ∀ i, i ∉ ds → a'.tmps[i]? = a.tmps[i]?

theorem Agree.refl (ds : List Nat) (a : Act) : Agree ds a a := fun _ _ => rfl
theorem Agree.trans {ds : List Nat} {a b c : Act} (h : Agree ds a b) (k : Agree ds b c) : Agree ds a c := fun i hi => (k i hi).trans (h i hi)

theorem Agree.put {ds : List Nat} (a : Act) {d : Option Nat} (h : ∀ x, d = some x → x ∈ ds) (v : Value) : Agree ds a (a.put d v) := by
  cases d with
  | none => exact Agree.refl _ _
  | some x =>
    intro i hi
    simp only [Act.put]
    rw [Array.getElem?_setIfInBounds_ne]
    intro e
    exact hi (by rw [← e]; exact h x rfl)

theorem Agree.put' {ds : List Nat} (a : Act) (df : List Deferred) {d : Option Nat} (h : ∀ x, d = some x → x ∈ ds) (v : Value) : Agree ds a ({ a with defers := df }.put d v) := by
  have := Agree.put { a with defers := df } h v
  exact this

theorem wp_frame {o : Oper} {a : Act} {W : World} {K : AW} {ds : List Nat} (hd : ∀ x, o.dst = some x → x ∈ ds) (h : o.wp P a W K Q) : o.wp P a W (fun a' W' => K a' W' ∧ Agree ds a a') Q := by
  unfold Oper.wp at *
  generalize (execOp a.eval o).run P W = r at *
  cases r with
  | ok n w' =>
    cases n <;> simp only [Oper.upon] at h ⊢
    case value v => exact ⟨h, Agree.put a hd _⟩
    case skip => exact ⟨h, Agree.put a hd _⟩
    case defer d => exact ⟨h, Agree.put' a _ hd _⟩
    case enter f args => exact h.mono fun e w'' he => by cases e <;> first | exact ⟨he, Agree.put a hd _⟩ | exact he
    case row row args => exact h.mono fun _ _ he => ⟨he, Agree.put a hd _⟩
  | halt x w' => cases x <;> simp only [Oper.upon] at h ⊢ <;> exact h

theorem wpOp_frame {i : Nat} {a : Act} {W : World} {K : AW} {ds : List Nat} (hd : ∀ o x, ops[i]? = some o → o.dst = some x → x ∈ ds) (h : wpOp P ops Q i K a W) : wpOp P ops Q i (fun a' W' => K a' W' ∧ Agree ds a a') a W := by
  unfold wpOp at *
  split
  · rename_i ho; simp only [ho] at h; exact ⟨h, Agree.refl _ _⟩
  · rename_i o ho
    simp only [ho] at h
    split
    · rename_i hw; simp only [hw, if_true] at h; exact h.imp (wp_frame (hd o · ho)) id
    · rename_i hw; simp only [hw] at h; exact ⟨h, Agree.put a (hd o · ho) _⟩

theorem wpL_frame {ds : List Nat} : ∀ (l : List Nat) (a : Act) (W : World), (∀ i, i ∈ l → ∀ o x, ops[i]? = some o → o.dst = some x → x ∈ ds) → wpL P ops Q next l a W → wpL P ops Q (fun a' W' => next a' W' ∧ Agree ds a a') l a W
  | [], a, _, _, h => ⟨h, Agree.refl _ _⟩
  | i :: rest, a, W, hd, h => by
    have h1 := wpOp_frame (hd i (List.mem_cons_self ..)) h
    refine wpOp_mono (fun a' W' hq => ?_) h1
    have h2 := wpL_frame rest a' W' (fun j hj => hd j (List.mem_cons_of_mem _ hj)) hq.1
    exact wpL_mono (fun a2 W2 h3 => ⟨h3.1, hq.2.trans h3.2⟩) rest a' W' h2

/-- The slots that a stretch writes. -/
def dsts : List Oper → List Nat
  | [] => []
  | o :: r => match o.dst with
    | some d => d :: dsts r
    | none => dsts r

theorem mem_dsts {l : List Oper} {o : Oper} {d : Nat} (h : o ∈ l) (hd : o.dst = some d) : d ∈ dsts l := by
  induction l with
  | nil => cases h
  | cons x r ih =>
    unfold dsts
    rcases List.mem_cons.1 h with rfl | h
    · rw [hd]; exact List.mem_cons_self ..
    · cases hx : x.dst with
      | none => exact ih h
      | some y => exact List.mem_cons_of_mem _ (ih h)

/-- What a side way comes to: one slot's value. -/
def Got (N : Nat) (w0 : World) (M : List Nat) (d : Nat) (v : Value) (H : Hp) : AW := fun a W => a.tmps.size = N ∧ a.defers = [] ∧ a.tmps[d]? = some v ∧ Sat w0 M H W

theorem got {Γ' : Gam} {H' : Hp} {d : Nat} {v : Value} (h : gl Γ' d = some v) (hs : H.Sublist H') : Kn N w0 M Γ' H' (Got N w0 M d v H) :=
  fun _ _ ha hW => ⟨ha.size, ha.defers, ha.at_ d v h, hW.drop hs⟩
theorem got' {Γ' : Gam} {H' : Hp} {d : Nat} {u v : Value} (h : gl Γ' d = some u) (e : u = v) (hs : H.Sublist H') : Kn N w0 M Γ' H' (Got N w0 M d v H) := got (e ▸ h) hs

def fresh (Γ : Gam) : List Nat → Bool
  | [] => true
  | d :: r => match gl Γ d with
    | none => fresh Γ r
    | some _ => false

theorem fresh_spec {ds : List Nat} (h : fresh Γ ds = true) : ∀ d, d ∈ ds → gl Γ d = none := by
  induction ds with
  | nil => intro d hd; cases hd
  | cons x r ih =>
    intro d hd
    unfold fresh at h
    split at h
    · rename_i hx
      rcases List.mem_cons.1 hd with rfl | hd
      · exact hx
      · exact ih h d hd
    · cases h

/-- All of a stretch is passed over. -/
def skips (ops : Array Oper) (g : Nat) (want : Bool) : List Oper → Bool
  | [] => true
  | o :: r => match gslot ops o.guard with
    | some (j, w) => match o.dst with
      | some _ => Nat.beq j g && (w == want) && skips ops g want r
      | none => false
    | none => false

theorem o_skips {l r : List Oper} {g : Nat} {want b : Bool} (hs : skips ops g want l = true) (hb : gl Γ g = some (.bool b)) (hne : (b == want) = false) (hg : g ∉ dsts l) (hf : ∀ d, d ∈ dsts l → gl Γ d = none) (hN : ∀ d, d ∈ dsts l → d < N)
    (k : OpsN P ops Q next N w0 M r Γ H) : OpsN P ops Q next N w0 M (l ++ r) Γ H := by
  induction l generalizing Γ with
  | nil => exact k
  | cons o l ih =>
    unfold skips at hs
    cases hgs : gslot ops o.guard with
    | none => rw [hgs] at hs; cases hs
    | some p =>
      obtain ⟨j, w⟩ := p
      rw [hgs] at hs
      cases hd : o.dst with
      | none => rw [hd] at hs; cases hs
      | some d =>
        rw [hd] at hs
        simp only [Bool.and_eq_true] at hs
        obtain ⟨⟨h1, h2⟩, h3⟩ := hs
        have hj : j = g := Nat.eq_of_beq_eq_true h1
        have hw : w = want := by simpa using h2
        subst hj; subst hw
        have hds : dsts (o :: l) = d :: dsts l := by simp only [dsts, hd]
        rw [hds] at hg hf hN
        have hdg : d ≠ j := fun e => hg (by rw [← e]; exact List.mem_cons_self ..)
        refine o_skip ?_ hgs hb hne hd (hN d (List.mem_cons_self ..))
        intro i hi a W ha hW
        -- the slot that was passed over is forgotten
        have ha' : Holds N Γ a := ⟨ha.size, ha.defers, fun x v hx => ha.at_ x v (by
          rw [gl_cons_other (fun e => by rw [← e, hf d (List.mem_cons_self ..)] at hx; cases hx)]; exact hx)⟩
        exact ih h3 hb (fun hm => hg (List.mem_cons_of_mem _ hm)) (fun x hx => hf x (List.mem_cons_of_mem _ hx)) (fun x hx => hN x (List.mem_cons_of_mem _ hx)) k i hi a W ha' hW

theorem o_take_drop {suf : List Oper} (m : Nat) (h : OpsN P ops Q next N w0 M (suf.take m ++ suf.drop m) Γ H) : OpsN P ops Q next N w0 M suf Γ H := by
  rwa [List.take_append_drop] at h

/-- A stretch, and what stands behind it, by a way that is cut. -/
theorem o_side {suf : List Oper} (m : Nat) {d : Nat} {v : Value} (hf : fresh Γ (dsts (suf.take m)) = true)
    (h : OpsN P ops Q (Got N w0 M d v H) N w0 M (suf.take m) Γ H) (k : OpsN P ops Q next N w0 M (suf.drop m) ((d, v) :: Γ) H) : OpsN P ops Q next N w0 M suf Γ H := by
  intro j hj a W ha hW
  have hlen : suf.length = (suf.take m).length + (suf.drop m).length := by rw [← List.length_append, List.take_append_drop]
  have e1 : (ops.toList.drop j).take (suf.take m).length = suf.take m := by
    have h0 : (suf.take m).length ≤ suf.length := by omega
    have : ((ops.toList.drop j).take suf.length).take (suf.take m).length = suf.take (suf.take m).length := by rw [hj]
    rw [List.take_take, Nat.min_eq_left h0] at this
    rw [this, List.length_take]
    rcases Nat.le_total m suf.length with hk | hk
    · rw [Nat.min_eq_left hk]
    · rw [Nat.min_eq_right hk, List.take_of_length_le (Nat.le_refl _), List.take_of_length_le hk]
  have e2 : (ops.toList.drop (j + (suf.take m).length)).take (suf.drop m).length = suf.drop m := by
    have : ((ops.toList.drop j).take suf.length).drop (suf.take m).length = suf.drop (suf.take m).length := by rw [hj]
    rw [List.drop_take, List.drop_drop] at this
    have hs : suf.drop (suf.take m).length = suf.drop m := by
      rw [List.length_take]
      rcases Nat.le_total m suf.length with hk | hk
      · rw [Nat.min_eq_left hk]
      · rw [Nat.min_eq_right hk, List.drop_of_length_le (Nat.le_refl _), List.drop_of_length_le hk]
    rw [hs] at this
    have hl : (suf.drop m).length = suf.length - (suf.take m).length := by omega
    rw [hl]; exact this
  rw [hlen]
  have : List.range' j ((suf.take m).length + (suf.drop m).length) = List.range' j (suf.take m).length ++ List.range' (j + (suf.take m).length) (suf.drop m).length := by
    rw [List.range'_append_1]
  rw [this, wpL_append]
  have h1 := wpL_frame (ds := dsts (suf.take m)) _ _ _ (fun i hi o x ho hx => by
    obtain ⟨hi1, hi2⟩ := List.mem_range'_1.1 hi
    have hget : (suf.take m)[i - j]? = some o := by
      rw [← e1, List.getElem?_take, if_pos (by omega), List.getElem?_drop, show j + (i - j) = i from by omega]
      simpa using ho
    exact mem_dsts (List.mem_of_getElem? hget) hx) (h j e1 a W ha hW)
  refine wpL_mono (fun a' W' hq => ?_) _ _ _ h1
  obtain ⟨⟨g1, g2, g3, g4⟩, hag⟩ := hq
  refine k _ e2 a' W' ⟨g1, g2, fun i u hi => ?_⟩ g4
  by_cases hid : d = i
  · subst hid
    rw [gl_cons_same] at hi
    rw [g3]; exact hi
  · rw [gl_cons_other hid] at hi
    rw [hag i (fun hm => by rw [fresh_spec hf i hm] at hi; cases hi)]
    exact ha.at_ i u hi

theorem OpsN.sub {suf : List Oper} {Γ' : Gam} {H' : Hp} (hs : Sub Γ Γ') (hh : H'.Sublist H) (h : OpsN P ops Q next N w0 M suf Γ' H') : OpsN P ops Q next N w0 M suf Γ H :=
  fun k hk a W ha hW => h k hk a W (ha.sub hs) (hW.drop hh)

theorem OpsN.known {suf : List Oper} {g : Nat} {v : Value} (hb : gl Γ g = some v) (h : OpsN P ops Q next N w0 M suf ((g, v) :: Γ) H) : OpsN P ops Q next N w0 M suf Γ H :=
  h.sub (Sub.cons hb (Sub.refl _)) (List.Sublist.refl _)

/-- A guarded stretch, wanted or not, and the 'pick' behind it. -/
theorem o_pick {suf rest : List Oper} (m : Nat) {g pd xs : Nat} {b w c : Bool} {ty : TypeId} {pos : String} {aft : Array Edge} {x y : Operand}
    (hb : gl Γ g = some (.bool b)) (hsk : skips ops g w (suf.take m) = true) (hp : suf.drop m = ⟨some pd, .pick (.tmp g) x y, ty, pos, aft, none⟩ :: rest)
    (hx : (if w then x else y) = .tmp xs) (hy : (if w then y else x) = .const (.bool (!w))) (hxs : (dsts (suf.take m)).contains xs = true)
    (hf : fresh Γ (dsts (suf.take m)) = true) (hN : (dsts (suf.take m)).all (Nat.blt · N) = true) (hpd : Nat.blt pd N = true)
    (h : b = w → OpsN P ops Q (Got N w0 M xs (.bool c) H) N w0 M (suf.take m) ((g, .bool w) :: Γ) H) (k : OpsN P ops Q next N w0 M rest ((pd, .bool (if b = w then c else !w)) :: Γ) H) : OpsN P ops Q next N w0 M suf Γ H := by
  have hgd : g ∉ dsts (suf.take m) := fun hm => by rw [fresh_spec hf g hm] at hb; cases hb
  have hxd : gl Γ xs = none := fresh_spec hf xs (by simpa using hxs)
  have hgx : xs ≠ g := fun e => by rw [← e, hxd] at hb; cases hb
  by_cases hbw : b = w
  · rw [if_pos hbw] at k
    refine o_side m hf (OpsN.known (by rw [hb, hbw]) (h hbw)) ?_
    rw [hp]
    have hev : ev ((xs, .bool c) :: Γ) (.tmp g) = some (.bool b) := by
      show gl _ g = _
      rw [gl_cons_other hgx]; exact hb
    refine o_val (v := .bool c) (ex_pick hev ?_) (OpsN.sub (Sub.both (Sub.skip hxd (Sub.refl _))) (List.Sublist.refl _) k) rfl rfl (Nat.le_of_ble_eq_true hpd)
    · subst hbw
      cases b with
      | true => simp only [if_true] at hx ⊢; rw [hx]; exact gl_cons_same _ _ _
      | false => simp only [Bool.false_eq_true, if_false] at hx ⊢; rw [hx]; exact gl_cons_same _ _ _
  · rw [if_neg hbw] at k
    refine o_take_drop m (o_skips hsk hb (by simpa using hbw) hgd (fresh_spec hf) (fun d hd => Nat.le_of_ble_eq_true (List.all_eq_true.1 hN d hd)) ?_)
    rw [hp]
    refine o_val (v := .bool (!w)) (ex_pick (show ev Γ (.tmp g) = _ from hb) ?_) k rfl rfl (Nat.le_of_ble_eq_true hpd)
    have hbn : b = !w := by cases b <;> cases w <;> simp_all
    subst hbn
    cases w with
    | true => simp only [Bool.not_true, Bool.false_eq_true, if_false, if_true] at hy ⊢; rw [hy]; rfl
    | false => simp only [Bool.not_false, if_true, Bool.false_eq_true, if_false] at hy ⊢; rw [hy]; rfl

/-- 'b && ..'. -/
theorem o_and {suf rest : List Oper} (m : Nat) {g pd xs : Nat} {b c : Bool} {ty : TypeId} {pos : String} {aft : Array Edge}
    (h : b = true → OpsN P ops Q (Got N w0 M xs (.bool c) H) N w0 M (suf.take m) ((g, .bool true) :: Γ) H) (k : OpsN P ops Q next N w0 M rest ((pd, .bool (b && c)) :: Γ) H)
    (hp : suf.drop m = ⟨some pd, .pick (.tmp g) (.tmp xs) (.const (.bool false)), ty, pos, aft, none⟩ :: rest := by rfl)
    (hb : gl Γ g = some (.bool b) := by rfl) (hsk : skips ops g true (suf.take m) = true := by rfl) (hxs : (dsts (suf.take m)).contains xs = true := by rfl)
    (hf : fresh Γ (dsts (suf.take m)) = true := by rfl) (hN : (dsts (suf.take m)).all (Nat.blt · N) = true := by rfl) (hpd : Nat.blt pd N = true := by rfl) : OpsN P ops Q next N w0 M suf Γ H :=
  o_pick m (w := true) (c := c) hb hsk hp rfl rfl hxs hf hN hpd h (by cases b <;> exact k)
/-- 'b || ..'. -/
theorem o_or {suf rest : List Oper} (m : Nat) {g pd xs : Nat} {b c : Bool} {ty : TypeId} {pos : String} {aft : Array Edge}
    (h : b = false → OpsN P ops Q (Got N w0 M xs (.bool c) H) N w0 M (suf.take m) ((g, .bool false) :: Γ) H) (k : OpsN P ops Q next N w0 M rest ((pd, .bool (b || c)) :: Γ) H)
    (hp : suf.drop m = ⟨some pd, .pick (.tmp g) (.const (.bool true)) (.tmp xs), ty, pos, aft, none⟩ :: rest := by rfl)
    (hb : gl Γ g = some (.bool b) := by rfl) (hsk : skips ops g false (suf.take m) = true := by rfl) (hxs : (dsts (suf.take m)).contains xs = true := by rfl)
    (hf : fresh Γ (dsts (suf.take m)) = true := by rfl) (hN : (dsts (suf.take m)).all (Nat.blt · N) = true := by rfl) (hpd : Nat.blt pd N = true := by rfl) : OpsN P ops Q next N w0 M suf Γ H :=
  o_pick m (w := false) (c := c) hb hsk hp rfl rfl hxs hf hN hpd h (by cases b <;> exact k)

theorem o_pick_g {suf rest : List Oper} (m : Nat) {g pd xs : Nat} {b w c : Bool} {ty : TypeId} {pos : String} {aft : Array Edge} {x y : Operand} {grd : Option (Nat × Bool)} {gj : Nat} {gw : Bool}
    (hgs : gslot ops grd = some (gj, gw)) (hgb : gl Γ gj = some (.bool gw)) (hb : gl Γ g = some (.bool b)) (hsk : skips ops g w (suf.take m) = true) (hp : suf.drop m = ⟨some pd, .pick (.tmp g) x y, ty, pos, aft, grd⟩ :: rest)
    (hx : (if w then x else y) = .tmp xs) (hy : (if w then y else x) = .const (.bool (!w))) (hxs : (dsts (suf.take m)).contains xs = true)
    (hf : fresh Γ (dsts (suf.take m)) = true) (hN : (dsts (suf.take m)).all (Nat.blt · N) = true) (hpd : Nat.blt pd N = true)
    (h : b = w → OpsN P ops Q (Got N w0 M xs (.bool c) H) N w0 M (suf.take m) ((g, .bool w) :: Γ) H) (k : OpsN P ops Q next N w0 M rest ((pd, .bool (if b = w then c else !w)) :: Γ) H) : OpsN P ops Q next N w0 M suf Γ H := by
  have hgd : g ∉ dsts (suf.take m) := fun hm => by rw [fresh_spec hf g hm] at hb; cases hb
  have hxd : gl Γ xs = none := fresh_spec hf xs (by simpa using hxs)
  have hgx : xs ≠ g := fun e => by rw [← e, hxd] at hb; cases hb
  by_cases hbw : b = w
  · rw [if_pos hbw] at k
    refine o_side m hf (OpsN.known (by rw [hb, hbw]) (h hbw)) ?_
    rw [hp]
    have hev : ev ((xs, .bool c) :: Γ) (.tmp g) = some (.bool b) := by
      show gl _ g = _
      rw [gl_cons_other hgx]; exact hb
    refine o_val_g (v := .bool c) (ex_pick hev ?_) (OpsN.sub (Sub.both (Sub.skip hxd (Sub.refl _))) (List.Sublist.refl _) k) hgs (by rw [gl_cons_other (fun e => by rw [← e, hxd] at hgb; cases hgb)]; exact hgb) rfl (Nat.le_of_ble_eq_true hpd)
    · subst hbw
      cases b with
      | true => simp only [if_true] at hx ⊢; rw [hx]; exact gl_cons_same _ _ _
      | false => simp only [Bool.false_eq_true, if_false] at hx ⊢; rw [hx]; exact gl_cons_same _ _ _
  · rw [if_neg hbw] at k
    refine o_take_drop m (o_skips hsk hb (by simpa using hbw) hgd (fresh_spec hf) (fun d hd => Nat.le_of_ble_eq_true (List.all_eq_true.1 hN d hd)) ?_)
    rw [hp]
    refine o_val_g (v := .bool (!w)) (ex_pick (show ev Γ (.tmp g) = _ from hb) ?_) k hgs hgb rfl (Nat.le_of_ble_eq_true hpd)
    have hbn : b = !w := by cases b <;> cases w <;> simp_all
    subst hbn
    cases w with
    | true => simp only [Bool.not_true, Bool.false_eq_true, if_false, if_true] at hy ⊢; rw [hy]; rfl
    | false => simp only [Bool.not_false, if_true, Bool.false_eq_true, if_false] at hy ⊢; rw [hy]; rfl

/-- 'b && ..'. -/
theorem o_and_g {suf rest : List Oper} (m : Nat) {g pd xs : Nat} {b c : Bool} {ty : TypeId} {pos : String} {aft : Array Edge} {grd : Option (Nat × Bool)} {gj : Nat} {gw : Bool}
    (h : b = true → OpsN P ops Q (Got N w0 M xs (.bool c) H) N w0 M (suf.take m) ((g, .bool true) :: Γ) H) (k : OpsN P ops Q next N w0 M rest ((pd, .bool (b && c)) :: Γ) H)
    (hp : suf.drop m = ⟨some pd, .pick (.tmp g) (.tmp xs) (.const (.bool false)), ty, pos, aft, grd⟩ :: rest := by rfl)
    (hb : gl Γ g = some (.bool b) := by rfl) (hsk : skips ops g true (suf.take m) = true := by rfl) (hxs : (dsts (suf.take m)).contains xs = true := by rfl)
    (hf : fresh Γ (dsts (suf.take m)) = true := by rfl) (hN : (dsts (suf.take m)).all (Nat.blt · N) = true := by rfl) (hpd : Nat.blt pd N = true := by rfl) (hgs : gslot ops grd = some (gj, gw) := by rfl) (hgb : gl Γ gj = some (.bool gw) := by rfl) : OpsN P ops Q next N w0 M suf Γ H :=
  o_pick_g m (w := true) (c := c) hgs hgb hb hsk hp rfl rfl hxs hf hN hpd h (by cases b <;> exact k)
/-- 'b || ..'. -/
theorem o_or_g {suf rest : List Oper} (m : Nat) {g pd xs : Nat} {b c : Bool} {ty : TypeId} {pos : String} {aft : Array Edge} {grd : Option (Nat × Bool)} {gj : Nat} {gw : Bool}
    (h : b = false → OpsN P ops Q (Got N w0 M xs (.bool c) H) N w0 M (suf.take m) ((g, .bool false) :: Γ) H) (k : OpsN P ops Q next N w0 M rest ((pd, .bool (b || c)) :: Γ) H)
    (hp : suf.drop m = ⟨some pd, .pick (.tmp g) (.const (.bool true)) (.tmp xs), ty, pos, aft, grd⟩ :: rest := by rfl)
    (hb : gl Γ g = some (.bool b) := by rfl) (hsk : skips ops g false (suf.take m) = true := by rfl) (hxs : (dsts (suf.take m)).contains xs = true := by rfl)
    (hf : fresh Γ (dsts (suf.take m)) = true := by rfl) (hN : (dsts (suf.take m)).all (Nat.blt · N) = true := by rfl) (hpd : Nat.blt pd N = true := by rfl) (hgs : gslot ops grd = some (gj, gw) := by rfl) (hgb : gl Γ gj = some (.bool gw) := by rfl) : OpsN P ops Q next N w0 M suf Γ H :=
  o_pick_g m (w := false) (c := c) hgs hgb hb hsk hp rfl rfl hxs hf hN hpd h (by cases b <;> exact k)

/-! ### Literals -/
theorem fold_setL (vs : List Value) : ∀ (cs : List Value) (k off : Nat), off + k + vs.length ≤ cs.length →
    (vs.zipIdx k).foldl (fun cs (c, j) => cs.setIfInBounds (off + j) c) cs.toArray = (cs.take (off + k) ++ vs ++ cs.drop (off + k + vs.length)).toArray := by
  induction vs with
  | nil => intro cs k off _; simp
  | cons v vs ih =>
    intro cs k off h
    simp only [List.length_cons] at h
    have e := ih (cs.set (off + k) v) (k + 1) off (by simp; omega)
    simp only [List.zipIdx_cons, List.foldl_cons, List.setIfInBounds_toArray, List.length_cons]
    rw [e]
    congr 1
    have e1 : (cs.set (off + k) v).take (off + (k + 1)) = cs.take (off + k) ++ [v] := by
      rw [show off + (k + 1) = off + k + 1 from by omega, List.take_succ_eq_append_getElem (by simp; omega)]
      simp [List.take_set_of_le]
    have e2 : (cs.set (off + k) v).drop (off + (k + 1) + vs.length) = cs.drop (off + k + (vs.length + 1)) := by
      rw [List.drop_set_of_lt (by omega)]
      congr 1
      omega
    rw [e1, e2]
    simp

theorem fold_set (vs cs : List Value) (off : Nat) (h : off + vs.length ≤ cs.length) :
    (vs.toArray.zipIdx).foldl (fun cs (c, j) => cs.setIfInBounds (off + j) c) cs.toArray = (cs.take off ++ vs ++ cs.drop (off + vs.length)).toArray := by
  rw [← Array.foldl_toList, Array.toList_zipIdx]
  exact fold_setL vs cs 0 off h

/-- Parts laid into their places. -/
class Fil (pl : List (Nat × Nat)) (zs : List Value) (parts : List (Nat × Value)) (out : outParam (List Value)) : Prop where
  eq : Instr.fill (fun i => pl[i]?) zs.toArray parts = some out.toArray
class PlaceOf (pl : List (Nat × Nat)) (i : Nat) (off size : outParam Nat) : Prop where
  eq : pl[i]? = some (off, size)
instance {p : List (Nat × Nat)} {o s : Nat} : PlaceOf ((o, s) :: p) 0 o s := ⟨rfl⟩
instance {x : Nat × Nat} {p : List (Nat × Nat)} {i o s : Nat} [h : PlaceOf p i o s] : PlaceOf (x :: p) (i + 1) o s := ⟨by have := h.eq; simpa using this⟩
instance Fil.nil {pl : List (Nat × Nat)} {zs : List Value} : Fil pl zs [] zs := ⟨rfl⟩
class LenIs (vs : List Value) (n : Nat) : Prop where
  eq : vs.length = n
instance : LenIs [] 0 := ⟨rfl⟩
instance {v : Value} {vs : List Value} {n : Nat} [h : LenIs vs n] : LenIs (v :: vs) (n + 1) := ⟨by simp [h.eq]⟩
instance Fil.cons {pl : List (Nat × Nat)} {zs zs' vs out : List Value} {i off size : Nat} {v : Value} {rest : List (Nat × Value)} [hp : PlaceOf pl i off size] [hc : CellsOf v vs] [hl : LenIs vs size] [hs : Spl zs off vs zs'] [hr : Fil pl zs' rest out] :
    Fil pl zs ((i, v) :: rest) out := ⟨by
  have hsz : v.cells.size = size := by rw [hc.eq]; simpa using hl.eq
  have hle := hs.le
  have hlv := hl.eq
  have hnot : ¬ (v.cells.size ≠ size ∨ off + v.cells.size > zs.toArray.size) := by
    rw [hsz]; simp; omega
  unfold Instr.fill
  simp only [hp.eq]
  rw [if_neg (by simpa using hnot), hc.eq]
  have e := fold_set vs zs off (by omega)
  rw [e, ← hs.eq]
  exact hr.eq⟩

/-- What 'build' does at a struct or an array. -/
def BuildAt (P : Program) (t : TypeId) (pl : List (Nat × Nat)) (zs : List Value) : Prop :=
  ∀ parts cells W, Instr.fill (fun i => pl[i]?) zs.toArray parts = some cells → (Instr.build t parts.toArray).run P W = .ok (.agg cells) W

def parts? (Γ : Gam) : List (Nat × Operand) → Option (List (Nat × Value))
  | [] => some []
  | (i, x) :: r => match ev Γ x with
    | some v => match parts? Γ r with
      | some vs => some ((i, v) :: vs)
      | none => none
    | none => none

theorem Holds.parts {a : Act} (ha : Holds N Γ a) : ∀ {l : List (Nat × Operand)} {vs : List (Nat × Value)}, parts? Γ l = some vs → l.map (fun (i, x) => (i, a.eval x)) = vs
  | [], vs, h => by cases h; rfl
  | (i, x) :: r, vs, h => by
    unfold parts? at h
    split at h
    · rename_i v hv
      split at h
      · rename_i us hu
        cases h
        rw [List.map_cons, ha.parts hu]
        show (i, a.eval x) :: us = _
        rw [ha.eval hv]
      · cases h
    · cases h

theorem ex_build {t : TypeId} {parts : List (Nat × Operand)} {pl : List (Nat × Nat)} {zs out : List Value} {vs : List (Nat × Value)} {dst : Option Nat} {ty : Nat} {pos : String} {aft : Array Edge} {grd : Option (Nat × Bool)}
    (hB : BuildAt P t pl zs) (hp : parts? Γ parts = some vs) [hf : Fil pl zs vs out] : ExV P N w0 M Γ H ⟨dst, .build t parts.toArray, ty, pos, aft, grd⟩ (.agg out.toArray) :=
  exv_run fun A W ha _ => by
    have e := hB vs out.toArray W hf.eq
    have e2 : (parts.toArray.map fun (i, x) => (i, A.eval x)) = vs.toArray := by rw [List.map_toArray, ha.parts hp]
    simp [execOp, e2, e]

theorem fill_congr {f g : Nat → Option (Nat × Nat)} : ∀ (parts : List (Nat × Value)) (cells : Array Value), (∀ p, p ∈ parts → f p.1 = g p.1) → Instr.fill f cells parts = Instr.fill g cells parts
  | [], _, _ => rfl
  | (i, v) :: rest, cells, h => by
    unfold Instr.fill
    rw [h (i, v) (List.mem_cons_self ..)]
    cases g i with
    | none => rfl
    | some p =>
      obtain ⟨off, size⟩ := p
      simp only
      split
      · rfl
      · exact fill_congr rest _ (fun p hp => h p (List.mem_cons_of_mem _ hp))

/-- Behind a new row: a slice of it. -/
def NewRow (e : TypeId) (n : Nat) (cs : List Value) (H : Hp) (v : Value) (H' : Hp) : Prop := ∃ b, v = .slice (some ⟨b, 0, none⟩) n n ∧ H' = ⟨b, e, cs, true⟩ :: H

theorem ex_buildSlice {t e : TypeId} {n s : Nat} {parts : List (Nat × Operand)} {z : Value} {zs out : List Value} {pl : List (Nat × Nat)} {vs : List (Nat × Value)} {dst : Option Nat} {ty : Nat} {pos : String} {aft : Array Edge} {grd : Option (Nat × Bool)}
    (hu : ∀ W, (underlying t).run P W = .ok (.slice e) W) (hS : ∀ W, (sizeOf e).run P W = .ok s W) (hz : ∀ W, (zeroValue e).run P W = .ok z W) (hp : parts? Γ parts = some vs)
    (hsm : Nat.ble (n * s) 1000 = true) (hzs : (Array.range (n * s)).map (z.cells[· % z.cells.size]!) = zs.toArray) (hn0 : Nat.beq (n * s) 0 = false)
    (hpl : (vs.all fun p => pl[p.1]? == some (p.1 * s, s)) = true) [hf : Fil pl zs vs out] : Ex P N w0 M [] Γ H ⟨dst, .buildSlice t n parts.toArray, ty, pos, aft, grd⟩ (NewRow e n out H) :=
  fun A W nx Q ha hW hn => by
    have e0 : Instr.fill (fun i => some (i * s, s)) zs.toArray vs = some out.toArray := by
      rw [fill_congr vs zs.toArray (g := fun i => pl[i]?) (fun p hp => by
        have := List.all_eq_true.1 hpl p hp
        simp only [beq_iff_eq] at this
        exact this.symm)]
      exact hf.eq
    have hle := Nat.le_of_ble_eq_true hsm
    have hne : ¬ n * s = 0 := fun h => by rw [h] at hn0; cases hn0
    have e2 : (parts.toArray.map fun (i, x) => (i, A.eval x)) = vs.toArray := by rw [List.map_toArray, ha.parts hp]
    have e1 : (execOp A.eval ⟨dst, .buildSlice t n parts.toArray, ty, pos, aft, grd⟩).run P W = .ok (.value (.slice (some ⟨W.heap.size, 0, none⟩) n n)) (W.alloc (.cells out.toArray e)) := by
      have hk : ¬ (n * s > 2 ^ 24) := by omega
      have e3 : (Instr.buildSlice t n vs.toArray).run P W = .ok (.slice (some ⟨W.heap.size, 0, none⟩) n n) (W.alloc (.cells out.toArray e)) := by
        simp only [Instr.buildSlice, Sem.run_bind, hu W, Result.andThen_ok, hS W, hk, if_false, hne, hz W, Sem.run_pure, hzs, e0, newRow, run_newObj, Sem.run_ite]
        rfl
      simp only [execOp, e2, Sem.run_bind, e3, Result.andThen_ok, Sem.run_pure]
    unfold Oper.wp
    rw [e1]
    exact hn _ _ _ ⟨W.heap.size, rfl, rfl⟩ (hW.alloc out e) (Ext.alloc _ _)

theorem o_buildSlice {t e : TypeId} {n s : Nat} {parts : List (Nat × Operand)} {z : Value} {out : List Value} {vs : List (Nat × Value)} {d : Nat} {ty : Nat} {pos : String} {aft : Array Edge} {rest : List Oper} (zs : List Value) (pl : List (Nat × Nat))
    (hu : ∀ W, (underlying t).run P W = .ok (.slice e) W) (hS : ∀ W, (sizeOf e).run P W = .ok s W) (hz : ∀ W, (zeroValue e).run P W = .ok z W) (hp : parts? Γ parts = some vs) [Fil pl zs vs out]
    (k : ∀ b, OpsN P ops Q next N w0 M rest ((d, .slice (some ⟨b, 0, none⟩) n n) :: Γ) (⟨b, e, out, true⟩ :: H))
    (hsm : Nat.ble (n * s) 1000 = true := by rfl) (hzs : (Array.range (n * s)).map (z.cells[· % z.cells.size]!) = zs.toArray := by kernel_rfl) (hn0 : Nat.beq (n * s) 0 = false := by rfl)
    (hpl : (vs.all fun p => pl[p.1]? == some (p.1 * s, s)) = true := by rfl) (hdN : d < N := by decide) : OpsN P ops Q next N w0 M (⟨some d, .buildSlice t n parts.toArray, ty, pos, aft, none⟩ :: rest) Γ H :=
  o_step (ex_buildSlice hu hS hz hp hsm hzs hn0 hpl (out := out)) (by rintro _ _ ⟨b, rfl, rfl⟩; exact k b) rfl rfl hdN
theorem o_buildSlice_g {t e : TypeId} {n s : Nat} {parts : List (Nat × Operand)} {z : Value} {out : List Value} {vs : List (Nat × Value)} {d dj : Nat} {want : Bool} {ty : Nat} {pos : String} {aft : Array Edge} {grd : Option (Nat × Bool)} {rest : List Oper} (zs : List Value) (pl : List (Nat × Nat))
    (hu : ∀ W, (underlying t).run P W = .ok (.slice e) W) (hS : ∀ W, (sizeOf e).run P W = .ok s W) (hz : ∀ W, (zeroValue e).run P W = .ok z W) (hp : parts? Γ parts = some vs) [Fil pl zs vs out]
    (k : ∀ b, OpsN P ops Q next N w0 M rest ((d, .slice (some ⟨b, 0, none⟩) n n) :: Γ) (⟨b, e, out, true⟩ :: H))
    (hsm : Nat.ble (n * s) 1000 = true := by rfl) (hzs : (Array.range (n * s)).map (z.cells[· % z.cells.size]!) = zs.toArray := by kernel_rfl) (hn0 : Nat.beq (n * s) 0 = false := by rfl)
    (hpl : (vs.all fun p => pl[p.1]? == some (p.1 * s, s)) = true := by rfl) (hg : gslot ops grd = some (dj, want) := by rfl) (hb : gl Γ dj = some (.bool want) := by rfl) (hdN : d < N := by decide) :
    OpsN P ops Q next N w0 M (⟨some d, .buildSlice t n parts.toArray, ty, pos, aft, grd⟩ :: rest) Γ H :=
  o_step_g (ex_buildSlice hu hS hz hp hsm hzs hn0 hpl (out := out)) (by rintro _ _ ⟨b, rfl, rfl⟩; exact k b) hg hb rfl hdN

/-! ### Rows of memory -/
/-- Cells in a row. (Of none nothing is said.) -/
def RowsAt (w : World) (A : Option Addr) (cs : List Value) : Prop := ∀ j v, cs[j]? = some v → ∃ a, A = some a ∧ w.cell? (a.add j) = some v

theorem row_ent {W : World} (hW : Sat w0 M H W) {b : Nat} {tb : TypeId} {cs : List Value} {own : Bool} [he : HasE H b tb cs own] : RowsAt W (some ⟨b, 0, none⟩) cs :=
  fun j v hj => ⟨_, rfl, by rw [add_lit, cell_of (hW.cells he)]; simpa using hj⟩

theorem row_ext {w W : World} {A : Option Addr} {cs : List Value} (h : RowsAt w A cs) (k : Ext [] w W) : RowsAt W A cs := fun j v hj => by
  obtain ⟨a, ha, hc⟩ := h j v hj
  refine ⟨a, ha, ?_⟩
  rw [World.cell?_of_block (w := w) (k.block _ (World.block_lt_of_cell? w _ hc) (by simp))]; exact hc

theorem row_none (w : World) (A : Option Addr) : RowsAt w A [] := fun j v hj => by cases hj

/-- Cells that are ints. -/
class IntsOf (cs : List Value) (l : outParam (List Int)) : Prop where
  eq : cs = l.map (.int .i64)
instance : IntsOf [] [] := ⟨rfl⟩
instance {n : Int} {cs : List Value} {l : List Int} [h : IntsOf cs l] : IntsOf (.int .i64 n :: cs) (n :: l) := ⟨by rw [h.eq]; rfl⟩

theorem BuildAt.struct {t : TypeId} {fs : Array Field} {pl : List (Nat × Nat)} {z : Value} {zs : List Value} (hu : ∀ W, (underlying t).run P W = .ok (.struct fs) W) (hz : ∀ W, (zeroValue t).run P W = .ok z W) [hc : CellsOf z zs]
    (hp : ∀ W, (fs.mapM fun (f : Field) => do pure (f.offset, ← sizeOf f.type)).run P W = .ok pl.toArray W) : BuildAt P t pl zs := fun parts cells W h => by
  have h' : Instr.fill (fun i => pl.toArray[i]?) zs.toArray parts = some cells := by simpa using h
  simp only [Instr.build, Sem.run_bind, hz W, Result.andThen_ok, hu W, hp W, hc.eq, h']
  rfl
theorem BuildAt.array {t e : TypeId} {n s : Nat} {pl : List (Nat × Nat)} {z : Value} {zs : List Value} (hu : ∀ W, (underlying t).run P W = .ok (.array n e) W) (hz : ∀ W, (zeroValue t).run P W = .ok z W) [hc : CellsOf z zs]
    (hS : ∀ W, (sizeOf e).run P W = .ok s W) (hpl : (List.range n).map (fun i => (i * s, s)) = pl) : BuildAt P t pl zs := fun parts cells W h => by
  have key : ∀ (parts : List (Nat × Value)) (cells0 cells : Array Value), Instr.fill (fun i => pl[i]?) cells0 parts = some cells → Instr.fill (fun i => some (i * s, s)) cells0 parts = some cells := by
    intro parts
    induction parts with
    | nil => intro c0 c h; exact h
    | cons p r ih =>
      intro c0 c h
      obtain ⟨i, v⟩ := p
      unfold Instr.fill at h ⊢
      cases hq : pl[i]? with
      | none => rw [hq] at h; cases h
      | some o =>
        have ho : o = (i * s, s) := by
          rw [← hpl, List.getElem?_map] at hq
          cases hr : (List.range n)[i]? with
          | none => rw [hr] at hq; cases hq
          | some j =>
            rw [hr] at hq
            have hj : j = i := by
              have := List.getElem?_eq_some_iff.1 hr
              obtain ⟨h1, h2⟩ := this
              simpa using h2.symm
            subst hj
            simpa using hq.symm
        rw [hq, ho] at h
        simp only at h ⊢
        split at h
        · cases h
        · rename_i hc
          rw [if_neg hc]
          exact ih _ _ h
  have h' := key parts _ _ h
  simp only [Instr.build, Sem.run_bind, hz W, Result.andThen_ok, hu W, hS W, hc.eq, h']
  rfl

end
end Go.Proofs.Ytdflfnednaleeaa
