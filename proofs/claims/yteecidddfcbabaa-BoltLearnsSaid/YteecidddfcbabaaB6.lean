/- What the reference's Learn finds is what Learn returns. -/
import Derived.Test.YteecidddfcbabaaB5
namespace Go.Proofs.Yteecidddfcbabaa
open Go

theorem can_iff {b : Bo} (hb : b.Ok) {tl th fl fh p q : Int} (hp : b.tl ≤ p ∧ p ≤ b.th) (hq : b.hl ≤ q ∧ q ≤ b.hh) (ht0 : 0 ≤ tl) (ht : tl ≤ th) (hf : 0 ≤ fl) (hff : fl ≤ fh) :
    can b tl th fl fh p q = true ↔ kLo fh tl b.armLo ≤ b.arm p q ∧ b.arm p q ≤ kHi fl th b.armHi := by
  have tl0 := hb.tl0
  have hl0 := hb.hl0
  have l0 := hb.l0
  have a1 : b.armLo ≤ b.arm p q := by
    have m1 := Int.mul_le_mul_of_nonneg_left hp.1 hb.t0
    have m2 := Int.mul_le_mul_of_nonneg_left hq.1 hb.h0
    unfold Bo.armLo Bo.arm Bo.fric
    omega
  have a2 : b.arm p q ≤ b.armHi := by
    have m1 := Int.mul_le_mul_of_nonneg_left hp.2 hb.t0
    have m2 := Int.mul_le_mul_of_nonneg_left hq.2 hb.h0
    unfold Bo.armHi Bo.arm Bo.fric
    omega
  unfold can lst kLo kHi
  rw [decide_eq_true_eq]
  have a0 : 1000 ≤ b.arm p q := by have := hb.arm; omega
  generalize b.arm p q = A at a0 a1 a2 ⊢
  have m3 : fl * A + A ≤ (fh + 1) * A := by
    have := Int.mul_le_mul_of_nonneg_right (show fl + 1 ≤ fh + 1 by omega) (show 0 ≤ A by omega)
    rw [Int.add_mul fl 1 A, Int.one_mul] at this
    exact this
  have k1 : 1000 * tl / (fh + 1) < A ↔ 1000 * tl < (fh + 1) * A := by
    rw [Int.ediv_lt_iff_lt_mul (by omega), Int.mul_comm A]
  have k2 : 0 < fl → (A ≤ 1000 * th / fl ↔ fl * A ≤ 1000 * th) := fun h => by
    rw [Int.le_ediv_iff_mul_le h, Int.mul_comm A]
  have k3 : fl = 0 → fl * A = 0 := fun h => by rw [h, Int.zero_mul]
  generalize 1000 * tl / (fh + 1) = u at k1 ⊢
  generalize 1000 * th / fl = v at k2 ⊢
  generalize fl * A = x at m3 k2 k3 ⊢
  generalize (fh + 1) * A = y at m3 k1 ⊢
  by_cases h : 0 < fl
  · have k2 := k2 h
    rw [if_pos h]
    constructor
    · intro hh
      have : tl ≤ (y + 999) / 1000 - 1 := by omega
      have : (x + 999) / 1000 ≤ th := by omega
      have := k1.2 (by omega)
      have := k2.2 (by omega)
      omega
    · intro hh
      have := k1.1 (by omega)
      have := k2.1 (by omega)
      omega
  · have k3 := k3 (by omega)
    rw [if_neg h]
    constructor
    · intro hh
      have : tl ≤ (y + 999) / 1000 - 1 := by omega
      have := k1.2 (by omega)
      omega
    · intro hh
      have := k1.1 (by omega)
      have : (x + 999) / 1000 ≤ th := by omega
      omega

theorem h_spec {b : Bo} (hb : b.Ok) (aL aH p : Int) : (hLo b aL aH p ≤ hHi b aL aH p → b.hl ≤ hLo b aL aH p ∧ hHi b aL aH p ≤ b.hh) ∧
    ∀ q, b.hl ≤ q → q ≤ b.hh → ((hLo b aL aH p ≤ q ∧ q ≤ hHi b aL aH p) ↔ aL ≤ b.arm p q ∧ b.arm p q ≤ aH) := by
  have h0 := hb.h0
  have hh := hb.hh
  have e : ∀ q, b.arm p q = (1000 * b.lead + b.thread * p) + b.head * q := fun q => by unfold Bo.arm Bo.fric; omega
  simp only [e]
  unfold hLo hHi fitLo fitHi
  generalize 1000 * b.lead + b.thread * p = ad
  by_cases hz : b.head = 0
  · rw [if_pos hz, if_pos hz, wi_one, hz]
    simp only [Int.zero_mul, Int.add_zero]
    by_cases h : aL ≤ ad ∧ ad ≤ aH
    · rw [if_pos (decide_eq_true h), if_pos (decide_eq_true h)]
      exact ⟨fun _ => ⟨by omega, by omega⟩, fun q h1 h2 => ⟨fun _ => h, fun _ => ⟨h1, h2⟩⟩⟩
    · have h' : ¬ decide (aL ≤ ad ∧ ad ≤ aH) = true := by rw [decide_eq_true_eq]; exact h
      rw [if_neg h', if_neg h']
      exact ⟨fun h => absurd h (by omega), fun q h1 h2 => ⟨fun h => absurd h (by omega), fun k => absurd k h⟩⟩
  · rw [if_neg hz, if_neg hz]
    refine ⟨fun _ => ⟨by omega, by omega⟩, fun q h1 h2 => ?_⟩
    have u := upq_le (n := aL - ad) (d := b.head) (t := q) (by omega)
    have v := Int.le_ediv_iff_mul_le (a := q) (b := aH - ad) (c := b.head) (by omega)
    rw [Int.mul_comm] at v
    generalize b.head * q = x at u v ⊢
    generalize upq (aL - ad) b.head = y at u ⊢
    generalize (aH - ad) / b.head = z at v ⊢
    constructor
    · intro h
      have := u.1 (by omega)
      have := v.1 (by omega)
      omega
    · intro h
      have := u.2 (by omega)
      have := v.2 (by omega)
      omega

/-- What one row of tries comes to. -/
def Ls.run (s : Ls) (p A m : Int) : Ls := if s.ok then ⟨true, min s.xl p, max s.xh p, min s.yl A, max s.yh m⟩ else ⟨true, p, p, A, m⟩

theorem lsI_eq {c : Int → Bool} {p lo hi A B : Int} (s : Ls) (hAB : A ≤ B → lo ≤ A ∧ B ≤ hi) (hc : ∀ q, lo ≤ q → q ≤ hi → (c q = true ↔ A ≤ q ∧ q ≤ B)) : ∀ n : Nat, lo + n ≤ hi + 1 →
    lsI c p lo n s = if A ≤ min B (lo + n - 1) then s.run p A (min B (lo + n - 1)) else s
  | 0, _ => by
    rw [if_neg (by intro h; have := hAB (by omega); omega)]
    rfl
  | n + 1, hn => by
    have ih := lsI_eq (p := p) s hAB hc n (by omega)
    have hq := hc (lo + n) (by omega) (by omega)
    show (if c (lo + n) = true then (lsI c p lo n s).add p (lo + n) else lsI c p lo n s) = _
    rw [ih]
    by_cases h : A ≤ lo + n ∧ lo + n ≤ B
    · rw [if_pos (hq.2 h)]
      have e : min B (lo + ((n + 1 : Nat) : Int) - 1) = lo + n := by omega
      rw [e, if_pos (show A ≤ lo + (n : Int) from h.1)]
      by_cases h2 : A = lo + n
      · rw [if_neg (show ¬ A ≤ min B (lo + (n : Int) - 1) by omega), h2]
        unfold Ls.run Ls.add
        rfl
      · rw [if_pos (show A ≤ min B (lo + (n : Int) - 1) by omega)]
        have e2 : min B (lo + (n : Int) - 1) = lo + n - 1 := by omega
        rw [e2]
        unfold Ls.run Ls.add
        by_cases ho : s.ok = true
        · rw [if_pos ho, if_pos ho, if_pos rfl]
          simp only [Ls.mk.injEq, true_and]
          omega
        · rw [if_neg ho, if_neg ho, if_pos rfl]
          simp only [Ls.mk.injEq, true_and]
          omega
    · rw [if_neg (fun k => h (hq.1 k))]
      by_cases h2 : A ≤ min B (lo + (n : Int) - 1)
      · have e : min B (lo + ((n + 1 : Nat) : Int) - 1) = min B (lo + (n : Int) - 1) := by omega
        rw [e]
      · rw [if_neg h2, if_neg (show ¬ A ≤ min B (lo + ((n + 1 : Nat) : Int) - 1) by omega)]

theorem lmin_snoc {l : List Int} (h : l ≠ []) (x : Int) : lmin (l ++ [x]) = min (lmin l) x := by
  cases l with
  | nil => exact absurd rfl h
  | cons y r => simp [lmin, List.foldl_append]
theorem lmax_snoc {l : List Int} (h : l ≠ []) (x : Int) : lmax (l ++ [x]) = max (lmax l) x := by
  cases l with
  | nil => exact absurd rfl h
  | cons y r => simp [lmax, List.foldl_append]

/-- What the list of frictions comes to. -/
def sumL (b : Bo) (aL aH : Int) (L : List Int) : Ls := if L = [] then ⟨false, 0, 0, 0, 0⟩ else ⟨true, L[0]?.getD 0, L[L.length - 1]?.getD 0, lmin (L.map (hLo b aL aH)), lmax (L.map (hHi b aL aH))⟩

theorem sumL_snoc {b : Bo} {aL aH : Int} {L : List Int} {x : Int} (hx : ∀ y, y ∈ L → y < x) : sumL b aL aH (L ++ [x]) = (sumL b aL aH L).run x (hLo b aL aH x) (hHi b aL aH x) := by
  unfold sumL
  rw [if_neg (by simp)]
  by_cases h : L = []
  · subst h
    rfl
  · rw [if_neg h]
    have hp : 0 < L.length := by cases L with | nil => exact absurd rfl h | cons _ _ => simp
    have h1 := hx L[0] (by simp)
    have h2 := hx L[L.length - 1] (by simp)
    have e1 : (L ++ [x])[0]?.getD 0 = L[0] := by simp [hp]
    have e2 : (L ++ [x])[(L ++ [x]).length - 1]?.getD 0 = x := by simp
    have e3 : L[0]?.getD 0 = L[0] := by simp [hp]
    have e4 : L[L.length - 1]?.getD 0 = L[L.length - 1] := by rw [List.getElem?_eq_getElem (by omega)]; rfl
    rw [e1, e2, e3, e4, List.map_append, List.map_append]
    unfold Ls.run
    rw [if_pos rfl]
    have f : ∀ g : Int → Int, L.map g ≠ [] := fun g => by simpa using h
    show Ls.mk _ _ _ (lmin (_ ++ [_])) (lmax (_ ++ [_])) = _
    rw [lmin_snoc (f _), lmax_snoc (f _)]
    simp only [Ls.mk.injEq, true_and]
    exact ⟨by omega, by omega, trivial⟩

theorem lsO_eq {b : Bo} (hb : b.Ok) {tl th fl fh : Int} (ht0 : 0 ≤ tl) (ht : tl ≤ th) (hf : 0 ≤ fl) (hff : fl ≤ fh) : ∀ n, n ≤ nT b →
    lsO (can b tl th fl fh) b n = sumL b (kLo fh tl b.armLo) (kHi fl th b.armHi) (tsL b (kLo fh tl b.armLo) (kHi fl th b.armHi) n) ∧ ∀ y, y ∈ tsL b (kLo fh tl b.armLo) (kHi fl th b.armHi) n → y < b.tl + n
  | 0, _ => ⟨rfl, fun y h => by simp [tsL] at h⟩
  | n + 1, hn => by
    obtain ⟨ih, il⟩ := lsO_eq hb ht0 ht hf hff n (by omega)
    have hs := h_spec hb (kLo fh tl b.armLo) (kHi fl th b.armHi) (b.tl + n)
    have tt := hb.tt
    have hh := hb.hh
    have hnT : ((nT b : Nat) : Int) = b.th - b.tl + 1 := by unfold nT; omega
    have hnH : ((nH b : Nat) : Int) = b.hh - b.hl + 1 := by unfold nH; omega
    have e := lsI_eq (c := can b tl th fl fh (b.tl + n)) (p := b.tl + n) (lsO (can b tl th fl fh) b n) hs.1 (fun q h1 h2 => by
      rw [can_iff hb ⟨by omega, by omega⟩ ⟨h1, h2⟩ ht0 ht hf hff, hs.2 q h1 h2]) (nH b) (by omega)
    have e2 : b.hl + ((nH b : Nat) : Int) - 1 = b.hh := by omega
    rw [e2] at e
    have eo : lsO (can b tl th fl fh) b (n + 1) = lsI (can b tl th fl fh (b.tl + n)) (b.tl + n) b.hl (nH b) (lsO (can b tl th fl fh) b n) := rfl
    rw [eo, e, ih]
    by_cases h : hLo b (kLo fh tl b.armLo) (kHi fl th b.armHi) (b.tl + n) ≤ hHi b (kLo fh tl b.armLo) (kHi fl th b.armHi) (b.tl + n)
    · have h3 := hs.1 h
      have et : tsL b (kLo fh tl b.armLo) (kHi fl th b.armHi) (n + 1) = tsL b (kLo fh tl b.armLo) (kHi fl th b.armHi) n ++ [b.tl + n] := by show (if _ then _ else _) = _; rw [if_pos h]
      have em : min (hHi b (kLo fh tl b.armLo) (kHi fl th b.armHi) (b.tl + n)) b.hh = hHi b (kLo fh tl b.armLo) (kHi fl th b.armHi) (b.tl + n) := by omega
      rw [em, if_pos h, et, sumL_snoc il]
      refine ⟨rfl, fun y hy => ?_⟩
      rcases List.mem_append.1 hy with hy | hy
      · have := il y hy; omega
      · simp at hy; omega
    · have et : tsL b (kLo fh tl b.armLo) (kHi fl th b.armHi) (n + 1) = tsL b (kLo fh tl b.armLo) (kHi fl th b.armHi) n := by show (if _ then _ else _) = _; rw [if_neg h]
      rw [if_neg (by omega), et]
      exact ⟨rfl, fun y hy => by have := il y hy; omega⟩

/-- If no arm can be, there is no friction. -/
theorem tsL_none {b : Bo} (hb : b.Ok) {aL aH : Int} (h : ¬ aL ≤ aH) : ∀ n, tsL b aL aH n = []
  | 0 => rfl
  | n + 1 => by
    have hs := h_spec hb aL aH (b.tl + n)
    show (if _ then _ else _) = _
    rw [if_neg, tsL_none hb h n]
    intro k
    have h1 := hs.1 k
    have := (hs.2 (hLo b aL aH (b.tl + n)) (by omega) (by omega)).1 ⟨by omega, k⟩
    omega

end Go.Proofs.Yteecidddfcbabaa
