/- Plain law: the forces of all truths of ends are those of two truths. -/
import Derived.Test.YteecidddfcbabaaA7
import Derived.Test.YteecidddfcbabaaB1
namespace Go.Proofs.Yteecidddfcbabaa
open Go

theorem stF_lo (b : Bo) (y : Wa) : ∀ n, (∀ k, k < n → (stF b y n).lo ≤ refF b y.kind (truth b y k)) ∧ (0 < n → ∃ k, k < n ∧ (stF b y n).lo = refF b y.kind (truth b y k))
  | 0 => ⟨fun _ h => by omega, fun h => by omega⟩
  | n + 1 => by
    obtain ⟨h1, h2⟩ := stF_lo b y n
    simp only [stF]
    refine ⟨fun k hk => ?_, fun _ => ?_⟩
    · by_cases hn : n = 0
      · rw [if_pos hn]
        have : k = n := by omega
        subst this; omega
      · rw [if_neg hn]
        by_cases hk2 : k = n
        · subst hk2; omega
        · have := h1 k (by omega); omega
    · by_cases hn : n = 0
      · rw [if_pos hn]; exact ⟨n, by omega, by omega⟩
      · rw [if_neg hn]
        obtain ⟨k, hk, e⟩ := h2 (by omega)
        by_cases hle : (stF b y n).lo ≤ refF b y.kind (truth b y n)
        · exact ⟨k, by omega, by omega⟩
        · exact ⟨n, by omega, by omega⟩
theorem stF_hi (b : Bo) (y : Wa) : ∀ n, (∀ k, k < n → refF b y.kind (truth b y k) ≤ (stF b y n).hi) ∧ (0 < n → ∃ k, k < n ∧ (stF b y n).hi = refF b y.kind (truth b y k))
  | 0 => ⟨fun _ h => by omega, fun h => by omega⟩
  | n + 1 => by
    obtain ⟨h1, h2⟩ := stF_hi b y n
    simp only [stF]
    refine ⟨fun k hk => ?_, fun _ => ?_⟩
    · by_cases hn : n = 0
      · rw [if_pos hn]
        have : k = n := by omega
        subst this; omega
      · rw [if_neg hn]
        by_cases hk2 : k = n
        · subst hk2; omega
        · have := h1 k (by omega); omega
    · by_cases hn : n = 0
      · rw [if_pos hn]; exact ⟨n, by omega, by omega⟩
      · rw [if_neg hn]
        obtain ⟨k, hk, e⟩ := h2 (by omega)
        by_cases hle : refF b y.kind (truth b y n) ≤ (stF b y n).hi
        · exact ⟨k, by omega, by omega⟩
        · exact ⟨n, by omega, by omega⟩
theorem stF_su (b : Bo) (y : Wa) : ∀ n, (stF b y n).su = true ↔ ∀ k, k < n → refF b y.kind (truth b y k) ≤ (truth b y k).yield
  | 0 => by simp [stF]
  | n + 1 => by
    simp only [stF, Bool.and_eq_true, decide_eq_true_eq, stF_su b y n]
    constructor
    · intro ⟨h1, h2⟩ k hk
      by_cases hk2 : k = n
      · subst hk2; exact h2
      · exact h1 k (by omega)
    · intro h
      exact ⟨fun k hk => h k (by omega), h n (by omega)⟩
theorem stF_po (b : Bo) (y : Wa) : ∀ n, (stF b y n).po = true ↔ ∃ k, k < n ∧ refF b y.kind (truth b y k) ≤ (truth b y k).yield
  | 0 => by simp [stF]
  | n + 1 => by
    simp only [stF, Bool.or_eq_true, decide_eq_true_eq, stF_po b y n]
    constructor
    · rintro (⟨k, hk, h⟩ | h)
      · exact ⟨k, by omega, h⟩
      · exact ⟨n, by omega, h⟩
    · rintro ⟨k, hk, h⟩
      by_cases hk2 : k = n
      · subst hk2; exact .inr h
      · exact .inl ⟨k, by omega, h⟩

theorem pk_mem {lo hi : Int} (h : lo ≤ hi) (k bit : Nat) : lo ≤ pk lo hi k bit ∧ pk lo hi k bit ≤ hi := by
  unfold pk; split <;> omega

/-- What a way may be where the reference is asked. -/
structure Wa.Fit (y : Wa) : Prop where
  (t : y.tl ≤ y.th ∧ 0 ≤ y.tl ∧ y.th ≤ 30000000000000) (a : y.al ≤ y.ah ∧ 0 ≤ y.al ∧ y.ah ≤ 100000) (s : y.sl ≤ y.sh ∧ 0 ≤ y.sl ∧ y.sh ≤ 100000)

theorem Wa.Ok.toFit {y : Wa} (h : y.Ok) : y.Fit := ⟨by have := h.t; omega, h.a, h.s⟩

theorem truth_fit {b : Bo} (hb : b.Ok) {y : Wa} (hy : y.Fit) (k : Nat) : (truth b y k).Fit := by
  have := pk_mem hb.tt k 0; have := pk_mem hb.hh k 1; have := pk_mem hb.ss k 2; have := pk_mem hb.pp k 3
  have := pk_mem hy.t.1 k 5; have := pk_mem hy.a.1 k 6; have := pk_mem hy.s.1 k 7
  have := hb.tl0; have := hb.th1; have := hb.hl0; have := hb.hh1; have := hb.sl0; have := hb.sh1; have := hb.pl0; have := hb.ph1
  have := hy.t; have := hy.a; have := hy.s
  constructor <;> simp only [truth] <;> omega

theorem div_anti {a c d : Int} (h0 : 0 ≤ a) (hc : 0 < c) (hd : c ≤ d) : a / d ≤ a / c := by
  rw [Int.le_ediv_iff_mul_le hc]
  have h1 : 0 ≤ a / d := Int.ediv_nonneg h0 (by omega)
  have h2 := Int.mul_le_mul_of_nonneg_left hd h1
  have h3 := Int.ediv_mul_le a (b := d) (by omega)
  omega

theorem refF_between {b : Bo} (hb : b.Ok) {y : Wa} (hy : y.Fit) (k : Nat) : b.fLo y ≤ refF b y.kind (truth b y k) ∧ refF b y.kind (truth b y k) ≤ b.fHi y := by
  have ft := truth_fit hb hy k
  have p0 := pk_mem hb.tt k 0; have p1 := pk_mem hb.hh k 1; have p2 := pk_mem hb.ss k 2; have p3 := pk_mem hb.pp k 3
  have p5 := pk_mem hy.t.1 k 5; have p6 := pk_mem hy.a.1 k 6; have p7 := pk_mem hy.s.1 k 7
  have ht := hy.t; have ha := hy.a; have hs := hy.s
  have arm := hb.armB ft.t ft.h
  have al : b.armLo ≤ b.arm (truth b y k).t (truth b y k).h := by
    have m1 := Int.mul_le_mul_of_nonneg_left p0.1 hb.t0
    have m2 := Int.mul_le_mul_of_nonneg_left p1.1 hb.h0
    unfold Bo.armLo Bo.arm Bo.fric; simp only [truth]; omega
  have ah : b.arm (truth b y k).t (truth b y k).h ≤ b.armHi := by
    have m1 := Int.mul_le_mul_of_nonneg_left p0.2 hb.t0
    have m2 := Int.mul_le_mul_of_nonneg_left p1.2 hb.h0
    unfold Bo.armHi Bo.arm Bo.fric; simp only [truth]; omega
  have hal := hb.arm
  have hsl := hb.sl0
  have hpl := hb.pl0
  have d1 : 1000 * y.tl / b.armHi ≤ 1000 * (truth b y k).torque / b.arm (truth b y k).t (truth b y k).h :=
    Int.le_trans (div_anti (by omega) (by omega) ah) (Int.ediv_le_ediv (by omega) (by show 1000 * y.tl ≤ 1000 * pk y.tl y.th k 5; omega))
  have d2 : 1000 * (truth b y k).torque / b.arm (truth b y k).t (truth b y k).h ≤ 1000 * y.th / b.armLo :=
    Int.le_trans (Int.ediv_le_ediv (by omega) (by show 1000 * pk y.tl y.th k 5 ≤ 1000 * y.th; omega)) (div_anti (by omega) (by omega) al)
  have m1 : b.sl * y.al ≤ (truth b y k).stiff * (truth b y k).angle := Int.mul_le_mul p2.1 p6.1 (by omega) (by show 0 ≤ pk b.sl b.sh k 2; omega)
  have m2 : (truth b y k).stiff * (truth b y k).angle ≤ b.sh * y.ah := Int.mul_le_mul p2.2 p6.2 (by show 0 ≤ pk y.al y.ah k 6; omega) (by omega)
  have m3 : b.pl * y.sl ≤ (truth b y k).spring * (truth b y k).stretch := Int.mul_le_mul p3.1 p7.1 (by omega) (by show 0 ≤ pk b.pl b.ph k 3; omega)
  have m4 : (truth b y k).spring * (truth b y k).stretch ≤ b.ph * y.sh := Int.mul_le_mul p3.2 p7.2 (by show 0 ≤ pk y.sl y.sh k 7; omega) (by omega)
  have e1 := Int.ediv_le_ediv (c := 1000) (by omega) m1
  have e2 := Int.ediv_le_ediv (c := 1000) (by omega) m2
  unfold Bo.fLo Bo.fHi endF refF
  by_cases h3 : y.kind = 3
  · simp only [if_pos h3]; exact ⟨m3, m4⟩
  · simp only [if_neg h3]
    by_cases h2 : y.kind = 2
    · simp only [if_pos h2]; omega
    · simp only [if_neg h2]; omega

theorem refF_3 {b : Bo} {y : Wa} {k : Nat} (h : k = 3 ∨ k = 19) : refF b y.kind (truth b y k) = b.fLo y := by
  rcases h with rfl | rfl <;>
  · simp only [Bo.fLo, endF, refF, truth, Bo.arm, Bo.armHi, pk]
    simp
    split <;> omega
theorem refF_236 {b : Bo} {y : Wa} : refF b y.kind (truth b y 236) = b.fHi y := by
  simp only [Bo.fHi, endF, refF, truth, Bo.arm, Bo.armLo, pk]
  simp
  split <;> omega

theorem stF_all {b : Bo} (hb : b.Ok) {y : Wa} (hy : y.Fit) : stF b y 256 = ⟨b.fLo y, b.fHi y, decide (b.fHi y ≤ b.yl), decide (b.fLo y ≤ b.yh)⟩ := by
  have hB := refF_between hb hy
  obtain ⟨l1, l2⟩ := stF_lo b y 256
  obtain ⟨h1, h2⟩ := stF_hi b y 256
  have hyy := hb.yy
  have e3 : refF b y.kind (truth b y 3) = b.fLo y := refF_3 (.inl rfl)
  have e19 : refF b y.kind (truth b y 19) = b.fLo y := refF_3 (.inr rfl)
  have e236 : refF b y.kind (truth b y 236) = b.fHi y := refF_236
  have a1 : (stF b y 256).lo = b.fLo y := by
    obtain ⟨k, _, e⟩ := l2 (by omega)
    have := l1 3 (by omega)
    have := (hB k).1
    omega
  have a2 : (stF b y 256).hi = b.fHi y := by
    obtain ⟨k, _, e⟩ := h2 (by omega)
    have := h1 236 (by omega)
    have := (hB k).2
    omega
  have y236 : (truth b y 236).yield = b.yl := by simp [truth, pk]
  have y19 : (truth b y 19).yield = b.yh := by simp [truth, pk]
  have a3 : (stF b y 256).su = decide (b.fHi y ≤ b.yl) := by
    rw [Bool.eq_iff_iff, stF_su, decide_eq_true_eq]
    constructor
    · intro h
      have := h 236 (by omega)
      rw [e236, y236] at this; exact this
    · intro h k _
      have := (hB k).2
      have : b.yl ≤ (truth b y k).yield := (pk_mem hyy k 4).1
      omega
  have a4 : (stF b y 256).po = decide (b.fLo y ≤ b.yh) := by
    rw [Bool.eq_iff_iff, stF_po, decide_eq_true_eq]
    constructor
    · rintro ⟨k, _, h⟩
      have := (hB k).1
      have : (truth b y k).yield ≤ b.yh := (pk_mem hyy k 4).2
      omega
    · intro h
      exact ⟨19, by omega, by rw [e19, y19]; exact h⟩
  rw [← a3, ← a4, ← a1, ← a2]
end Go.Proofs.Yteecidddfcbabaa
