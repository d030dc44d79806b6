/- The reference's view of a shop: the orders as they were given. -/
import Derived.Test.YtdflfnednaleeaaPl7
import Derived.Test.YtdflfnednaleeaaD9
namespace Go.Proofs.Ytdflfnednaleeaa
open Go

theorem po_of {os : List Od} (hpc : ∀ o, o ∈ os → 1 ≤ o.pc ∧ o.pc ≤ 10000) {p : Int} (h0 : 0 ≤ p) {i : Nat} (hi : i < os.length) (h1 : pre os i ≤ p) (h2 : p < pre os (i + 1)) : po os p = os[i] := by
  have hall := pre_mono hpc (i := i + 1) (j := os.length) (by omega) (Nat.le_refl _)
  obtain ⟨a, b, c⟩ := ordAt_spec os p (fun o ho => (hpc o ho).1) h0 (by unfold allP; omega)
  have e : ordAt os p = i := by
    by_cases hl : ordAt os p < i
    · have := pre_mono hpc (i := ordAt os p + 1) (j := i) (by omega) (by omega); omega
    · by_cases hg : i < ordAt os p
      · have := pre_mono hpc (i := i + 1) (j := ordAt os p) (by omega) (by omega); omega
      · omega
  unfold po
  rw [e]
  simp [List.getD, List.getElem?_eq_getElem hi]
theorem po_mem {os : List Od} (hpc : ∀ o, o ∈ os → 1 ≤ o.pc ∧ o.pc ≤ 10000) {p : Int} (h0 : 0 ≤ p) (h : p < allP os) : po os p ∈ os := by
  obtain ⟨a, b, c⟩ := ordAt_spec os p (fun o ho => (hpc o ho).1) h0 h
  rw [po_of hpc h0 a b c]
  exact List.getElem_mem a
theorem ordAt_turn : ∀ (os : List Od) (p : Int), ordAt (os.map turnO) p = ordAt os p
  | [], _ => rfl
  | o :: r, p => by
    rw [List.map_cons]
    unfold ordAt
    rw [show (turnO o).pc = o.pc from rfl, ordAt_turn r]
theorem po_turn (os : List Od) (p : Int) : po (os.map turnO) p = turnO (po os p) := by
  unfold po
  rw [ordAt_turn, List.getD_eq_getElem?_getD, List.getD_eq_getElem?_getD, List.getElem?_map]
  cases os[ordAt os p]? <;> rfl
theorem allP_open (t : To) (ws : List Sp) (os : List Od) : allP (openS t ws os).os = allP os := by
  unfold allP
  rw [openS_pre, (openS_len t ws os).1]
theorem stp_open (t : To) (ws : List Sp) (os : List Od) (p : Int) : stp (openS t ws os).ws (po (openS t ws os).os p) = stp ws (po os p) := by
  rw [(openS_len t ws os).2.1]
  unfold openS
  cases t.down
  · rfl
  · simp only [if_true]
    rw [po_turn]
    rfl
theorem pw_succ (S : Sh) (f : Int) (n : Nat) : pw S f (n + 1) = ⟨(pw S f n).lo + (stp S.ws (po S.os (f + n))).lo, (pw S f n).hi + (stp S.ws (po S.os (f + n))).hi⟩ := rfl
theorem pw_bound {S : Sh} (hS : S.Ok) (f : Int) : ∀ n : Nat, 0 ≤ (pw S f n).lo ∧ (pw S f n).lo ≤ 100000 * n ∧ 0 ≤ (pw S f n).hi ∧ (pw S f n).hi ≤ 100000 * n
  | 0 => by unfold pw; simp
  | n + 1 => by
    have ih := pw_bound hS f n
    have hb := stp_bound hS (po S.os (f + n))
    rw [pw_succ]
    dsimp only
    omega
/-- One more piece, as the reference sees it. -/
theorem ref_lo (t : To) (ws : List Sp) (os : List Od) (f : Int) (k : Nat) : (turnS t.down (ptg (openS t ws os) f (k + 1))).lo = max (turnS t.down (ptg (openS t ws os) f k)).lo ((po os (f + k)).zl - (t.sl + (turnS t.down (pw (openS t ws os) f k)).lo + t.cl)) := by
  have hsl : (openS t ws os).sl = if t.down = true then -t.sh else t.sl := by unfold openS; split <;> rfl
  have hsh : (openS t ws os).sh = if t.down = true then -t.sl else t.sh := by unfold openS; split <;> rfl
  have hcl : (openS t ws os).cl = if t.down = true then -t.ch else t.cl := by unfold openS; split <;> rfl
  have hch : (openS t ws os).ch = if t.down = true then -t.cl else t.ch := by unfold openS; split <;> rfl
  have ho : (openS t ws os).os = if t.down = true then os.map turnO else os := by unfold openS; split <;> rfl
  unfold turnS
  by_cases hd : t.down = true
  · rw [if_pos hd] at hsl hsh hcl hch ho
    rw [if_pos hd, if_pos hd, if_pos hd]
    simp only [ptg, pxh, hsh, hch, ho, po_turn, turnO]
    omega
  · rw [if_neg hd] at hsl hsh hcl hch ho
    rw [if_neg hd, if_neg hd, if_neg hd]
    simp only [ptg, pxl, hsl, hcl, ho]
    omega
theorem ref_hi (t : To) (ws : List Sp) (os : List Od) (f : Int) (k : Nat) : (turnS t.down (ptg (openS t ws os) f (k + 1))).hi = min (turnS t.down (ptg (openS t ws os) f k)).hi ((po os (f + k)).zh - (t.sh + (turnS t.down (pw (openS t ws os) f k)).hi + t.ch)) := by
  have hsl : (openS t ws os).sl = if t.down = true then -t.sh else t.sl := by unfold openS; split <;> rfl
  have hsh : (openS t ws os).sh = if t.down = true then -t.sl else t.sh := by unfold openS; split <;> rfl
  have hcl : (openS t ws os).cl = if t.down = true then -t.ch else t.cl := by unfold openS; split <;> rfl
  have hch : (openS t ws os).ch = if t.down = true then -t.cl else t.ch := by unfold openS; split <;> rfl
  have ho : (openS t ws os).os = if t.down = true then os.map turnO else os := by unfold openS; split <;> rfl
  unfold turnS
  by_cases hd : t.down = true
  · rw [if_pos hd] at hsl hsh hcl hch ho
    rw [if_pos hd, if_pos hd, if_pos hd]
    simp only [ptg, pxl, hsl, hcl, ho, po_turn, turnO]
    omega
  · rw [if_neg hd] at hsl hsh hcl hch ho
    rw [if_neg hd, if_neg hd, if_neg hd]
    simp only [ptg, pxh, hsh, hch, ho]
    omega
theorem chk_pc {t : To} {ws : List Sp} {os : List Od} (h : chkE t ws os = 0) : ∀ o, o ∈ os → 1 ≤ o.pc ∧ o.pc ≤ 10000 := fun o ho => by
  have := odE_ok.1 ((chkE_ok.1 h).2.2.2 o ho); omega

section
variable {t : To} {ws : List Sp} {os : List Od} (hok : chkE t ws os = 0) {a b : Int}
include hok
theorem range_bad (h : ((decide (a < 0) || decide (b < a)) || decide (allP os < b)) = true) : wearR t ws os a b = (⟨0, 0⟩, 3) ∧ targR t ws os a b = (⟨0, 0⟩, 3) := by
  simp only [Bool.or_eq_true, decide_eq_true_eq] at h
  have hw : (!wi 0 (allP (openS t ws os).os) [a, b] || decide (b < a)) = true := by
    rw [allP_open, wi_two]
    simp only [Bool.or_eq_true, Bool.not_eq_true', decide_eq_false_iff_not, decide_eq_true_eq]
    omega
  have ht : (!wi 0 (allP (openS t ws os).os) [a, b] || decide (b ≤ a)) = true := by
    rw [allP_open, wi_two]
    simp only [Bool.or_eq_true, Bool.not_eq_true', decide_eq_false_iff_not, decide_eq_true_eq]
    omega
  exact ⟨(if_neg (by simp [hok])).trans (if_pos hw), (if_neg (by simp [hok])).trans (if_pos ht)⟩
theorem wear_good (h : ((decide (a < 0) || decide (b < a)) || decide (allP os < b)) = false) : wearR t ws os a b = (pw (openS t ws os) a (b - a).toNat, 0) := by
  simp only [Bool.or_eq_false_iff, decide_eq_false_iff_not] at h
  have hw : ¬ (!wi 0 (allP (openS t ws os).os) [a, b] || decide (b < a)) = true := by
    rw [allP_open, wi_two]
    simp only [Bool.or_eq_true, Bool.not_eq_true', decide_eq_false_iff_not, decide_eq_true_eq]
    omega
  have e : wearR t ws os a b = ((openS t ws os).wear a b, 0) := (if_neg (by simp [hok])).trans (if_neg hw)
  rw [e]
  have hp := wear_pieces (openS_ok hok) (f := a) (n := (b - a).toNat) (by omega) (by rw [allP_open]; omega)
  rw [show a + ((b - a).toNat : Int) = b by omega] at hp
  rw [hp]
theorem targ_eq (h : b = a) : targR t ws os a b = (⟨0, 0⟩, 3) := by
  subst h
  exact (if_neg (by simp [hok])).trans (if_pos (by simp))
theorem targ_good (h : ((decide (a < 0) || decide (b < a)) || decide (allP os < b)) = false) (hab : ¬ a = b) : targR t ws os a b = if (turnS t.down (ptg (openS t ws os) a (b - a).toNat)).hi < (turnS t.down (ptg (openS t ws os) a (b - a).toNat)).lo then (⟨0, 0⟩, 9) else (turnS t.down (ptg (openS t ws os) a (b - a).toNat), 0) := by
  simp only [Bool.or_eq_false_iff, decide_eq_false_iff_not] at h
  have hw : ¬ (!wi 0 (allP (openS t ws os).os) [a, b] || decide (b ≤ a)) = true := by
    rw [allP_open, wi_two]
    simp only [Bool.or_eq_true, Bool.not_eq_true', decide_eq_false_iff_not, decide_eq_true_eq]
    omega
  have hp := targets_pieces (openS_ok hok) (f := a) (n := (b - a).toNat) (by omega) (by omega) (by rw [allP_open]; omega)
  rw [show a + ((b - a).toNat : Int) = b by omega] at hp
  have e : targR t ws os a b = if (openS t ws os).can a b = false then (⟨0, 0⟩, 9) else (turnS (openS t ws os).down ((openS t ws os).tg a b), 0) := (if_neg (by simp [hok])).trans (if_neg hw)
  rw [e]
  unfold Sh.can
  rw [hp, (openS_len t ws os).2.2]
  have hi : (decide ((ptg (openS t ws os) a (b - a).toNat).lo ≤ (ptg (openS t ws os) a (b - a).toNat).hi) = false) ↔ (turnS t.down (ptg (openS t ws os) a (b - a).toNat)).hi < (turnS t.down (ptg (openS t ws os) a (b - a).toNat)).lo := by
    rw [decide_eq_false_iff_not]
    unfold turnS
    split
    · dsimp only; omega
    · omega
  by_cases hc : (turnS t.down (ptg (openS t ws os) a (b - a).toNat)).hi < (turnS t.down (ptg (openS t ws os) a (b - a).toNat)).lo
  · rw [if_pos hc, if_pos (hi.2 hc)]
  · rw [if_neg hc, if_neg (fun e => hc (hi.1 e))]
end
end Go.Proofs.Ytdflfnednaleeaa
