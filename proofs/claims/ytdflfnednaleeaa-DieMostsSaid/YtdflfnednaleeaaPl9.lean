/- With as few settings as can be: greedy is best. -/
import Derived.Test.YtdflfnednaleeaaPl7
namespace Go.Proofs.Ytdflfnednaleeaa
open Go

theorem pw_add (S : Sh) (f : Int) (d : Nat) : ∀ n : Nat, (pw S f (d + n)).lo = (pw S f d).lo + (pw S (f + d) n).lo ∧ (pw S f (d + n)).hi = (pw S f d).hi + (pw S (f + d) n).hi
  | 0 => by simp [pw]
  | n + 1 => by
    have ih := pw_add S f d n
    rw [show d + (n + 1) = d + n + 1 by omega]
    simp only [pw]
    rw [show f + ((d + n : Nat) : Int) = f + d + n by omega]
    omega
theorem ptg_shift {S : Sh} (hS : S.Ok) {f : Int} (hf : 0 ≤ f) (d : Nat) (h0 : 0 ≤ (pw S f d).lo) (h1 : (pw S f d).lo ≤ (pw S f d).hi) : ∀ n : Nat, f + d + n ≤ allP S.os →
    (ptg S (f + d) n).lo ≤ (ptg S f (d + n)).lo + (pw S f d).lo ∧ -1152921504606846976 ≤ (ptg S f (d + n)).lo ∧ ((ptg S f (d + n)).hi + (pw S f d).hi ≤ (ptg S (f + d) n).hi ∨ (ptg S (f + d) n).hi = 1152921504606846976) ∧ (ptg S (f + d) n).lo ≤ 1000000000000
  | 0, _ => by
    have hm := ptg_mono S f (m := 0) (n := d) (Nat.zero_le _)
    have hlow : ∀ n, -1152921504606846976 ≤ (ptg S f n).lo := fun n => (ptg_mono S f (m := 0) (n := n) (Nat.zero_le _)).1
    have := hlow d
    simp only [Nat.add_zero]
    refine ⟨?_, this, .inr rfl, ?_⟩
    · show -1152921504606846976 ≤ _; omega
    · show (-1152921504606846976 : Int) ≤ _; omega
  | n + 1, h => by
    obtain ⟨a, b, c, e⟩ := ptg_shift hS hf d h0 h1 n (by omega)
    have hpa := pw_add S f d n
    have hpo : po S.os (f + ((d + n : Nat) : Int)) = po S.os (f + d + n) := by congr 1; omega
    have hoo := hS.o _ (po_bound hS (p := f + d + n) (by omega) (by omega))
    have hs := hS.s
    have hcc := hS.c
    have hw : 0 ≤ (pw S (f + d) n).lo := by
      have : ∀ (g : Int) (m : Nat), 0 ≤ (pw S g m).lo := fun g m => by
        induction m with
        | zero => exact Int.le_refl _
        | succ m ih => simp only [pw]; have := stp_bound hS (po S.os (g + m)); omega
      exact this _ _
    rw [show d + (n + 1) = d + n + 1 by omega]
    simp only [ptg, pxl, pxh, hpo]
    omega
/-- What can be done from a piece on can be done from a later one on. -/
theorem can_later {S : Sh} (hS : S.Ok) {f g i : Int} (hf : 0 ≤ f) (hfg : f ≤ g) (hgi : g < i) (hi : i ≤ allP S.os) (h : S.can f i = true) : S.can g i = true := by
  obtain ⟨d, rfl⟩ : ∃ d : Nat, g = f + d := ⟨(g - f).toNat, by omega⟩
  obtain ⟨n, rfl⟩ : ∃ n : Nat, i = f + d + n := ⟨(i - (f + d)).toNat, by omega⟩
  have hw : ∀ m : Nat, 0 ≤ (pw S f m).lo ∧ (pw S f m).lo ≤ (pw S f m).hi := fun m => by
    induction m with
    | zero => exact ⟨Int.le_refl _, Int.le_refl _⟩
    | succ m ih => simp only [pw]; have := stp_bound hS (po S.os (f + m)); omega
  have hs := ptg_shift hS hf d (hw d).1 (hw d).2 n hi
  unfold Sh.can at h ⊢
  rw [show f + (d : Int) + n = f + ((d + n : Nat) : Int) by omega, targets_pieces hS hf (by omega) (by omega), decide_eq_true_eq] at h
  rw [targets_pieces hS (by omega) (by omega) hi, decide_eq_true_eq]
  have := hw d
  omega

theorem can_reach {S : Sh} (_hS : S.Ok) {f i : Int} (_hf : 0 ≤ f) (h1 : f < i) (h2 : i ≤ S.reach f) (_hfa : f ≤ allP S.os) : S.can f i = true := by
  have ok := lead_ok (fun i => S.can f (f + ((i + 1 : Nat) : Int))) (allP S.os - f).toNat
  have := ok.2.1 (i - f - 1).toNat (by unfold Sh.reach Sh.far at h2; omega)
  rw [show f + (((i - f - 1).toNat + 1 : Nat) : Int) = i by omega] at this
  exact this
theorem reach_can {S : Sh} (hS : S.Ok) {f i : Int} (hf : 0 ≤ f) (h1 : f < i) (hi : i ≤ allP S.os) (h : S.can f i = true) : i ≤ S.reach f := by
  have ok := lead_ok (fun i => S.can f (f + ((i + 1 : Nat) : Int))) (allP S.os - f).toNat
  unfold Sh.reach Sh.far
  refine Classical.byContradiction fun hn => ?_
  have hlt : lead (fun i => S.can f (f + ((i + 1 : Nat) : Int))) (allP S.os - f).toNat < (allP S.os - f).toNat := by omega
  have hf2 := ok.2.2 hlt
  rw [can_mono hS hf (n := (i - f).toNat) (by omega) (by omega) (by omega) (by rw [show f + ((i - f).toNat : Int) = i by omega]; exact h)] at hf2
  cases hf2
theorem reach_mono {S : Sh} (hS : S.Ok) {f g : Int} (hf : 0 ≤ f) (hfg : f ≤ g) (hg : g ≤ allP S.os) : S.reach f ≤ S.reach g := by
  have h1 := reach_bound S (f := f) (by omega)
  have h2 := reach_bound S hg
  by_cases hl : S.reach f ≤ g
  · omega
  · by_cases he : f = S.reach f
    · omega
    · exact reach_can hS (by omega) (by omega) h1.2 (can_later hS hf hfg (by omega) h1.2 (can_reach hS hf (by omega) (Int.le_refl _) (by omega)))
theorem at_mono {S : Sh} (hS : S.Ok) {j k : Nat} (h : j ≤ k) : S.at j ≤ S.at k := by
  induction k with
  | zero => have : j = 0 := by omega
            subst this; exact Int.le_refl _
  | succ k ih =>
    by_cases e : j = k + 1
    · subst e; exact Int.le_refl _
    · exact Int.le_trans (ih (by omega)) (at_le hS k)
theorem at_stop {S : Sh} (hS : S.Ok) : ∀ k, S.sure ≤ k → S.at k = S.at S.sure
  | 0, h => by rw [show S.sure = 0 by omega]
  | k + 1, h => by
    by_cases e : S.sure = k + 1
    · rw [e]
    · have ih := at_stop hS k (by omega)
      show S.reach (S.at k) = _
      rw [ih]
      by_cases hl : S.at S.sure < allP S.os
      · exact sure_end hS hl
      · have hb := at_bound hS S.sure
        have := reach_bound S hb.2
        omega
theorem at_min {S : Sh} (hS : S.Ok) (k : Nat) : S.at (min k S.sure) = S.at k := by
  by_cases h : k ≤ S.sure
  · rw [Nat.min_eq_left h]
  · rw [Nat.min_eq_right (by omega), at_stop hS k (by omega)]

/-- The fewest settings: the last one tried from each piece on, from the last one to the first. -/
def bst (S : Sh) (out : List Int) (n : Nat) : Nat → Int
  | 0 => 1000000
  | k + 1 => if (decide (out.getD (n - 1 - k) 0 < 1000000) && S.can ((n - 1 - k : Nat) : Int) n) = true then min (bst S out n k) (out.getD (n - 1 - k) 0 + 1) else bst S out n k
def fewL (S : Sh) : Nat → List Int
  | 0 => [0]
  | n + 1 => fewL S n ++ [bst S (fewL S n) (n + 1) (n + 1)]
theorem fewL_len (S : Sh) : ∀ n, (fewL S n).length = n + 1
  | 0 => rfl
  | n + 1 => by simp [fewL, fewL_len S n]
theorem fewL_get (S : Sh) {i n m : Nat} (h : i ≤ n) (h2 : n ≤ m) : (fewL S m).getD i 0 = (fewL S n).getD i 0 := by
  induction m with
  | zero => rw [show n = 0 by omega]
  | succ m ih =>
    by_cases e : n = m + 1
    · rw [e]
    · rw [← ih (by omega)]
      show (fewL S m ++ [bst S (fewL S m) (m + 1) (m + 1)]).getD i 0 = _
      rw [List.getD_eq_getElem?_getD, List.getD_eq_getElem?_getD, List.getElem?_append_left (by rw [fewL_len]; omega)]
def few (S : Sh) (i : Nat) : Int := (fewL S i).getD i 0
theorem few_zero (S : Sh) : few S 0 = 0 := rfl
theorem few_succ (S : Sh) (n : Nat) : few S (n + 1) = bst S (fewL S n) (n + 1) (n + 1) := by
  unfold few
  show (fewL S n ++ [bst S (fewL S n) (n + 1) (n + 1)]).getD (n + 1) 0 = _
  rw [List.getD_eq_getElem?_getD, List.getElem?_append_right (by rw [fewL_len]; omega), fewL_len]
  simp
theorem bst_le (S : Sh) (out : List Int) (n : Nat) {fr : Nat} : ∀ k, k ≤ n → n - k ≤ fr → fr < n → out.getD fr 0 < 1000000 → S.can fr n = true → bst S out n k ≤ out.getD fr 0 + 1
  | 0, _, h1, h2, _, _ => by omega
  | k + 1, hk, h1, h2, h3, h4 => by
    unfold bst
    by_cases e : n - 1 - k = fr
    · rw [e, decide_eq_true h3, h4]
      rw [if_pos (by rfl)]
      omega
    · have ih := bst_le S out n k (by omega) (by omega) h2 h3 h4
      split <;> omega
theorem bst_is (S : Sh) (out : List Int) (n : Nat) : ∀ k, k ≤ n → bst S out n k = 1000000 ∨ ∃ fr : Nat, fr < n ∧ out.getD fr 0 < 1000000 ∧ S.can fr n = true ∧ bst S out n k = out.getD fr 0 + 1
  | 0, _ => .inl rfl
  | k + 1, hk => by
    unfold bst
    have ih := bst_is S out n k (by omega)
    split
    · rename_i h
      rw [Bool.and_eq_true, decide_eq_true_eq] at h
      rcases Int.le_total (bst S out n k) (out.getD (n - 1 - k) 0 + 1) with hm | hm
      · rw [Int.min_eq_left hm]; exact ih
      · rw [Int.min_eq_right hm]; exact .inr ⟨n - 1 - k, by omega, h.1, h.2, rfl⟩
    · exact ih
theorem few_step {S : Sh} {fr n : Nat} (h : fr < n) (h1 : few S fr < 1000000) (h2 : S.can fr n = true) : few S n ≤ few S fr + 1 := by
  obtain ⟨m, rfl⟩ : ∃ m, n = m + 1 := ⟨n - 1, by omega⟩
  rw [few_succ]
  have e : (fewL S m).getD fr 0 = few S fr := fewL_get S (Nat.le_refl _) (by omega)
  have := bst_le S (fewL S m) (m + 1) (fr := fr) (m + 1) (Nat.le_refl _) (by omega) h (by rw [e]; exact h1) h2
  rw [e] at this
  exact this
theorem few_from {S : Sh} {n : Nat} (h : 0 < n) (h1 : few S n < 1000000) : ∃ fr : Nat, fr < n ∧ S.can fr n = true ∧ few S n = few S fr + 1 := by
  obtain ⟨m, rfl⟩ : ∃ m, n = m + 1 := ⟨n - 1, by omega⟩
  rw [few_succ] at h1 ⊢
  rcases bst_is S (fewL S m) (m + 1) (m + 1) (Nat.le_refl _) with e | ⟨fr, a, b, c, d⟩
  · omega
  · exact ⟨fr, a, c, by rw [d, fewL_get S (n := fr) (Nat.le_refl _) (by omega)]; rfl⟩
theorem few_low {S : Sh} (hS : S.Ok) : ∀ k : Nat, k < 900000 → ∀ i : Nat, (i : Int) ≤ S.at k → few S i ≤ k
  | 0, _, i, hi => by
    have h : (i : Int) ≤ 0 := hi
    have : i = 0 := by omega
    subst this
    rw [few_zero]
    exact Int.le_refl _
  | k + 1, hk, i, hi => by
    have hb := at_bound hS k
    by_cases h : (i : Int) ≤ S.at k
    · have := few_low hS k (by omega) i h; omega
    · have hl := few_low hS k (by omega) (S.at k).toNat (by omega)
      have := few_step (S := S) (fr := (S.at k).toNat) (n := i) (by omega) (by omega) (by rw [show (((S.at k).toNat : Nat) : Int) = S.at k by omega]; exact can_reach hS hb.1 (by omega) hi hb.2)
      omega
theorem few_high {S : Sh} (hS : S.Ok) : ∀ (i : Nat) (k : Nat), k < 1000000 → (i : Int) ≤ allP S.os → few S i ≤ k → (i : Int) ≤ S.at k := by
  intro i
  induction i using Nat.strongRecOn with
  | ind i ih =>
    intro k hk hi h
    by_cases h0 : i = 0
    · subst h0; exact (at_bound hS k).1
    · obtain ⟨fr, h1, h2, h3⟩ := few_from (S := S) (n := i) (by omega) (by omega)
      cases k with
      | zero =>
        have : 0 ≤ few S fr := by
          have : ∀ j : Nat, 0 ≤ few S j := fun j => by
            induction j using Nat.strongRecOn with
            | ind j jh =>
              by_cases e : j = 0
              · subst e; rw [few_zero]; exact Int.le_refl _
              · by_cases hq : few S j < 1000000
                · obtain ⟨f2, q1, _, q3⟩ := few_from (S := S) (n := j) (by omega) hq
                  have := jh f2 q1
                  omega
                · omega
          exact this fr
        omega
      | succ k =>
        have hfr := ih fr h1 k (by omega) (by omega) (by omega)
        have hb := at_bound hS k
        show (i : Int) ≤ S.reach (S.at k)
        exact Int.le_trans (reach_can hS (by omega) (by omega) hi h2) (reach_mono hS (by omega) hfr hb.2)
/-- How many pieces can be sure, all settings tried. -/
def mostI (l : List Int) (n : Int) : Nat → Nat
  | 0 => 0
  | k + 1 => if l.getD k 0 ≤ n then k else mostI l n k
theorem most_ref {S : Sh} (hS : S.Ok) {n : Int} (h0 : 0 ≤ n) (h1 : n ≤ 1000) : ∀ k : Nat, (k : Int) ≤ allP S.os + 1 → S.at n.toNat < k → ((mostI (fewL S (allP S.os).toNat) n k : Nat) : Int) = S.at n.toNat
  | 0, _, h => by have := at_bound hS n.toNat; omega
  | k + 1, hk, h => by
    have hb := at_bound hS n.toNat
    have hg : (fewL S (allP S.os).toNat).getD k 0 = few S k := fewL_get S (Nat.le_refl _) (by omega)
    unfold mostI
    rw [hg]
    by_cases hl : (k : Int) ≤ S.at n.toNat
    · have := few_low hS n.toNat (by omega) k hl
      rw [if_pos (by omega)]
      omega
    · have : ¬ few S k ≤ n := fun hq => hl (few_high hS k n.toNat (by omega) (by omega) (by omega))
      rw [if_neg this]
      exact most_ref hS h0 h1 k (by omega) (by omega)
end Go.Proofs.Ytdflfnednaleeaa
