/- The reference's Judge, piece by piece, and the program's, setting by setting. -/
import Derived.Test.YtdflfnednaleeaaD22
import Derived.Test.YtdflfnednaleeaaD27
namespace Go.Proofs.Ytdflfnednaleeaa
open Go

/-- Whether a target is among those of n pieces from one on, piece by piece. -/
def fitP (t : To) (S : Sh) (f tg : Int) (n : Nat) : Prop := (turnS t.down (ptg S f n)).lo ≤ tg ∧ tg ≤ (turnS t.down (ptg S f n)).hi
def judF (S : Sh) (l : List Stg) : Int := if l.length = 0 ∨ 0 < (l.getD 0 dS).fr then 0 else judL S l l.length 0
def wornJ (S : Sh) (l : List Stg) (p : Nat) : Nat → Sp
  | 0 => ⟨0, 0⟩
  | m + 1 => pw S (l.getD m dS).fr (p - (l.getD m dS).fr).toNat

section
variable {t : To} {ws : List Sp} {os : List Od} (hok : chkE t ws os = 0)
theorem fitP_zero {f tg : Int} (h : -1152921504606846976 ≤ tg ∧ tg ≤ 1152921504606846976) : fitP t (openS t ws os) f tg 0 := by
  unfold fitP turnS
  split <;> exact h
theorem fitP_succ {f tg : Int} {n : Nat} : fitP t (openS t ws os) f tg (n + 1) ↔ fitP t (openS t ws os) f tg n ∧ (po os (f + n)).zl ≤ tg + (t.sl + (turnS t.down (pw (openS t ws os) f n)).lo + t.cl) ∧ tg + (t.sh + (turnS t.down (pw (openS t ws os) f n)).hi + t.ch) ≤ (po os (f + n)).zh := by
  unfold fitP
  rw [ref_lo, ref_hi]
  omega
theorem fitP_mono {f tg : Int} {m n : Nat} (h : m ≤ n) (hn : fitP t (openS t ws os) f tg n) : fitP t (openS t ws os) f tg m := by
  have := ptg_mono (openS t ws os) f h
  unfold fitP turnS at *
  by_cases hd : t.down = true
  · rw [if_pos hd] at hn ⊢; dsimp only at hn ⊢; omega
  · rw [if_neg hd] at hn ⊢; omega
include hok in
theorem fits_iff {f tg : Int} (hf : 0 ≤ f) {n : Nat} (h0 : 0 < n) (h : f + n ≤ allP os) : (openS t ws os).fits f tg n = true ↔ fitP t (openS t ws os) f tg n := by
  unfold Sh.fits fitP
  rw [targets_pieces (openS_ok hok) hf h0 (by rw [allP_open]; exact h), (openS_len t ws os).2.2, wi_one, decide_eq_true_eq]
include hok in
theorem jud_is {x : Stg} {to : Int} (hf : 0 ≤ x.fr) (hto : to ≤ allP os) {n : Nat} (hn : x.fr + n ≤ to) (h : fitP t (openS t ws os) x.fr x.tg n) (he : x.fr + n = to ∨ ¬ fitP t (openS t ws os) x.fr x.tg (n + 1)) : (openS t ws os).jud x to = x.fr + n := by
  unfold Sh.jud
  rw [lead_is (fun i => (openS t ws os).fits x.fr x.tg (i + 1)) (to - x.fr).toNat n (by omega) (fun i hi => (fits_iff hok hf (by omega) (by omega)).2 (fitP_mono (by omega) h)) (fun hl => by
    rcases he with he | he
    · omega
    · cases hq : (openS t ws os).fits x.fr x.tg (n + 1) with
      | false => rfl
      | true => exact absurd ((fits_iff hok hf (by omega) (by omega)).1 hq) he)]

/-- What holds of the reference's Judge at a piece. -/
def JudI (t : To) (S : Sh) (l : List Stg) (p m : Nat) : Prop :=
  m ≤ l.length ∧ (m = 0 → p = 0) ∧ (0 < m → ¬ (l.length = 0 ∨ 0 < (l.getD 0 dS).fr) ∧ (l.getD (m - 1) dS).fr ≤ p ∧ (p : Int) ≤ judTo S l (m - 1) ∧ fitP t S (l.getD (m - 1) dS).fr (l.getD (m - 1) dS).tg (p - (l.getD (m - 1) dS).fr).toNat ∧ judL S l (l.length - (m - 1)) (m - 1) = judL S l l.length 0)
/-- The same, once the setting of the piece is known. -/
def JudM (t : To) (S : Sh) (l : List Stg) (p m : Nat) : Prop :=
  m ≤ l.length ∧ (m = 0 → p = 0 ∧ (l.length = 0 ∨ 0 < (l.getD 0 dS).fr)) ∧ (0 < m → ¬ (l.length = 0 ∨ 0 < (l.getD 0 dS).fr) ∧ (l.getD (m - 1) dS).fr ≤ p ∧ (p : Int) < judTo S l (m - 1) ∧ fitP t S (l.getD (m - 1) dS).fr (l.getD (m - 1) dS).tg (p - (l.getD (m - 1) dS).fr).toNat ∧ judL S l (l.length - (m - 1)) (m - 1) = judL S l l.length 0)

variable {l : List Stg} (hpl : isPlanB (openS t ws os) l = true) {p m : Nat}
include hok hpl
theorem judI_new (hI : JudI t (openS t ws os) l p m) (hm : m < l.length) (he : (l.getD m dS).fr = p) : JudM t (openS t ws os) l p (m + 1) := by
  obtain ⟨h1, h2, h3⟩ := hI
  have hg := isPlan_iff.1 hpl m hm
  have hjt := judTo_bound hpl hm
  have hia := isPlan_at hpl hm
  have ho := allP_open t ws os
  refine ⟨hm, fun h => by omega, fun _ => ?_⟩
  simp only [Nat.add_sub_cancel]
  have hlt : (p : Int) < judTo (openS t ws os) l m := by
    unfold judTo
    split
    · rename_i h4; have := hia.2.2 h4; omega
    · omega
  refine ⟨?_, by omega, hlt, ?_, ?_⟩
  · by_cases hz : 0 < m
    · exact (h3 hz).1
    · have e : m = 0 := by omega
      have := h2 e
      subst e
      omega
  · rw [he, show ((p : Int) - (p : Int)).toNat = 0 by omega]
    exact fitP_zero (by have := hg.2; omega)
  · by_cases hz : 0 < m
    · obtain ⟨_, q1, q2, q3, q4⟩ := h3 hz
      have hto : judTo (openS t ws os) l (m - 1) = p := by
        unfold judTo
        rw [if_pos (by omega), show m - 1 + 1 = m by omega, he]
      have hf := (isPlan_at hpl (i := m - 1) (by omega)).1
      have hj := jud_is hok (x := l.getD (m - 1) dS) (to := p) hf (by omega) (n := (p - (l.getD (m - 1) dS).fr).toNat) (by omega) q3 (.inl (by omega))
      rw [show l.length - (m - 1) = (l.length - m) + 1 by omega, judL_succ, hto, hj, if_neg (by omega), show m - 1 + 1 = m by omega] at q4
      exact q4
    · rw [show m = 0 by omega]; rfl
omit hok in
theorem judI_old (hI : JudI t (openS t ws os) l p m) (hp : (p : Int) < allP os) (hne : ¬ (m < l.length ∧ (l.getD m dS).fr = p)) : JudM t (openS t ws os) l p m := by
  obtain ⟨h1, h2, h3⟩ := hI
  refine ⟨h1, fun h => ⟨h2 h, ?_⟩, fun h => ?_⟩
  · subst h
    have := h2 rfl
    by_cases hz : l.length = 0
    · exact .inl hz
    · have := (isPlan_at hpl (i := 0) (by omega)).1
      exact .inr (by omega)
  · obtain ⟨q0, q1, q2, q3, q4⟩ := h3 h
    refine ⟨q0, q1, ?_, q3, q4⟩
    have ho := allP_open t ws os
    by_cases hm : m < l.length
    · have e : judTo (openS t ws os) l (m - 1) = (l.getD m dS).fr := by
        unfold judTo
        rw [if_pos (by omega), show m - 1 + 1 = m by omega]
      rw [e] at q2 ⊢
      omega
    · have e : judTo (openS t ws os) l (m - 1) = allP os := by
        unfold judTo
        rw [if_neg (by omega), ho]
      omega
omit hok hpl in
theorem judM_stop (hM : JudM t (openS t ws os) l p m) (h0 : m = 0) : judF (openS t ws os) l = p := by
  unfold judF
  rw [if_pos (hM.2.1 h0).2, (hM.2.1 h0).1]
  rfl
theorem judM_bad (hM : JudM t (openS t ws os) l p m) (h0 : 0 < m) (hn : ¬ fitP t (openS t ws os) (l.getD (m - 1) dS).fr (l.getD (m - 1) dS).tg ((p - (l.getD (m - 1) dS).fr).toNat + 1)) : judF (openS t ws os) l = p := by
  obtain ⟨q0, q1, q2, q3, q4⟩ := hM.2.2 h0
  have h1 := hM.1
  have hia := isPlan_at hpl (i := m - 1) (by omega)
  have hjt := judTo_bound hpl (i := m - 1) (by omega)
  rw [allP_open] at hjt
  have hj := jud_is hok (x := l.getD (m - 1) dS) (to := judTo (openS t ws os) l (m - 1)) hia.1 hjt.2 (n := (p - (l.getD (m - 1) dS).fr).toNat) (by omega) q3 (.inr hn)
  rw [show l.length - (m - 1) = (l.length - m) + 1 by omega, judL_succ, hj, if_pos (by omega)] at q4
  unfold judF
  rw [if_neg q0, ← q4]
  omega
omit hok in
theorem judM_on (hM : JudM t (openS t ws os) l p m) (h0 : 0 < m) (hn : fitP t (openS t ws os) (l.getD (m - 1) dS).fr (l.getD (m - 1) dS).tg ((p - (l.getD (m - 1) dS).fr).toNat + 1)) : JudI t (openS t ws os) l (p + 1) m := by
  obtain ⟨q0, q1, q2, q3, q4⟩ := hM.2.2 h0
  have hia := isPlan_at hpl (i := m - 1) (by have := hM.1; omega)
  refine ⟨hM.1, fun h => by omega, fun _ => ⟨q0, by omega, by omega, ?_, q4⟩⟩
  rw [show (((p + 1 : Nat) : Int) - (l.getD (m - 1) dS).fr).toNat = (p - (l.getD (m - 1) dS).fr).toNat + 1 by omega]
  exact hn
theorem judI_end (hI : JudI t (openS t ws os) l p m) (hp : (p : Int) = allP os) : judF (openS t ws os) l = allP os := by
  obtain ⟨h1, h2, h3⟩ := hI
  have hall := (openS_ok hok).all
  have ho := allP_open t ws os
  have h0 : 0 < m := by
    by_cases e : m = 0
    · have := h2 e; omega
    · omega
  obtain ⟨q0, q1, q2, q3, q4⟩ := h3 h0
  have hm : m = l.length := by
    by_cases e : m < l.length
    · have e2 : judTo (openS t ws os) l (m - 1) = (l.getD m dS).fr := by
        unfold judTo
        rw [if_pos (by omega), show m - 1 + 1 = m by omega]
      have := (isPlan_at hpl e).2.1
      omega
    · omega
  have hto : judTo (openS t ws os) l (m - 1) = allP os := by
    unfold judTo
    rw [if_neg (by omega), ho]
  have hia := isPlan_at hpl (i := m - 1) (by omega)
  have hj := jud_is hok (x := l.getD (m - 1) dS) (to := allP os) hia.1 (Int.le_refl _) (n := (p - (l.getD (m - 1) dS).fr).toNat) (by omega) q3 (.inl (by omega))
  rw [show l.length - (m - 1) = 0 + 1 by omega, judL_succ, hto, hj, if_neg (by omega), judL_zero, ho] at q4
  unfold judF
  rw [if_neg q0, ← q4]
end
end Go.Proofs.Ytdflfnednaleeaa
