/- The plain law of the statement on plated bolts: no program in sight. -/
import Derived.Test.YteecidddfcbabaaA5
namespace Go.Proofs.Yteecidddfcbabaa
open Go

theorem upq_spec {n d : Int} (hd : 1 ≤ d) : n ≤ d * upq n d ∧ d * upq n d < n + d := by
  have h1 := Int.mul_ediv_add_emod (-n) d
  have h2 := Int.emod_nonneg (-n) (show d ≠ 0 by omega)
  have h3 := Int.emod_lt_of_pos (-n) (show 0 < d by omega)
  unfold upq
  rw [Int.mul_neg]
  omega

/-- The bolt of one half of the frictions of the thread. -/
def halves (b : Bo) (half : Int) (k : Nat) : Bo := if k = 0 then { b with th := half } else { b with tl := half }

structure Narrow (b k : Bo) : Prop where
  (lo : b.armLo ≤ k.armLo) (hi : k.armHi ≤ b.armHi) (y : k.yl = b.yl)

theorem halves_ok {b : Bo} (hb : b.Ok) {half : Int} (h0 : b.tl ≤ half) (h1 : half ≤ b.th) (k : Nat) : (halves b half k).Ok ∧ Narrow b (halves b half k) := by
  have := hb.l0; have := hb.l1; have ht0 := hb.t0; have := hb.t1; have := hb.h0; have := hb.h1
  have := hb.tt; have := hb.tl0; have := hb.th1; have := hb.hh; have := hb.hl0; have := hb.hh1
  have := hb.ss; have := hb.sl0; have := hb.sh1; have := hb.pp; have := hb.pl0; have := hb.ph1; have := hb.yy; have := hb.yl0; have := hb.yh1
  have m1 := Int.mul_le_mul_of_nonneg_left h0 ht0
  have m2 := Int.mul_le_mul_of_nonneg_left h1 ht0
  unfold halves
  split
  · refine ⟨by constructor <;> simp only [] <;> omega, ?_⟩
    constructor <;> simp only [Bo.armLo, Bo.armHi, Bo.fric] <;> omega
  · refine ⟨by constructor <;> simp only [] <;> omega, ?_⟩
    constructor <;> simp only [Bo.armLo, Bo.armHi, Bo.fric] <;> omega

/-- The way of a torque that is wrong by 20. -/
def way20 (q : Int) : Wa := ⟨1, max 0 (q - 20), q + 20, 0, 0, 0, 0⟩

theorem plated_law {b k : Bo} (hb : b.Ok) (hk : k.Ok) (nn : Narrow b k) {lo hi : Int} (h0 : 0 ≤ lo) (h1 : lo ≤ hi) (h2 : hi ≤ 30000) (hE : b.rightE lo hi (-20) 20 = 0) :
    (∀ q, q = b.rLo lo (-20) ∨ q = b.rHi hi 20 → openE k [way20 q] = 0 ∧ lo ≤ k.fLo (way20 q) ∧ k.fHi (way20 q) ≤ hi ∧ 0 ≤ q ∧ q ≤ 9000000000000) ∧ k.rightE lo hi (-20) 20 = 0 ∧ k.rLo lo (-20) ≤ b.rLo lo (-20) ∧ b.rHi hi 20 ≤ k.rHi hi 20 := by
  have hbc := b.chk_iff.2 hb
  have hkc := k.chk_iff.2 hk
  have o1 : openE b [] = 0 := by simp [openE, hbc]
  have o2 : openE k [] = 0 := by simp [openE, hkc]
  have sp : (isSp lo hi 0 100000000 && isSp (-20) 20 (-10000000000000) 10000000000000) = true := by
    rw [Bool.and_eq_true, isSp_iff, isSp_iff]; omega
  have hle : b.rLo lo (-20) ≤ b.rHi hi 20 := by
    unfold Bo.rightE at hE
    rw [if_pos o1, if_pos sp] at hE
    by_cases h : b.rHi hi 20 < b.rLo lo (-20)
    · rw [if_pos h] at hE; cases hE
    · omega
  have ab := hb.arm
  have ak := hk.arm
  have hy0 := hb.yl0
  have ny := nn.y
  have nlo := nn.lo
  have nhi := nn.hi
  have a1 := Int.mul_le_mul_of_nonneg_left nhi h0
  have a2 := Int.mul_le_mul_of_nonneg_left nlo (show 0 ≤ min hi b.yl + 1 by omega)
  have s1 := upq_spec (n := lo * b.armHi) (d := 1000) (by omega)
  have s2 := upq_spec (n := lo * k.armHi) (d := 1000) (by omega)
  have s3 := upq_spec (n := (min hi b.yl + 1) * b.armLo) (d := 1000) (by omega)
  have s4 := upq_spec (n := (min hi b.yl + 1) * k.armLo) (d := 1000) (by omega)
  have p1 := mulB (a := lo) (A := 30000) (b := b.armHi) (B := 300000000) (by omega) (by omega) (by omega) (by omega)
  have p2 := mulB (a := min hi b.yl + 1) (A := 30001) (b := b.armLo) (B := 300000000) (by omega) (by omega) (by omega) (by omega)
  have p3 := mulB (a := lo) (A := 30000) (b := k.armHi) (B := 300000000) (by omega) (by omega) (by omega) (by omega)
  have p4 := mulB (a := min hi b.yl + 1) (A := 30001) (b := k.armLo) (B := 300000000) (by omega) (by omega) (by omega) (by omega)
  have eRl : b.rLo lo (-20) = if 0 < upq (lo * b.armHi) 1000 then max 0 (upq (lo * b.armHi) 1000 + 20) else 0 := by unfold Bo.rLo; simp only [Int.sub_neg]
  have eKl : k.rLo lo (-20) = if 0 < upq (lo * k.armHi) 1000 then max 0 (upq (lo * k.armHi) 1000 + 20) else 0 := by unfold Bo.rLo; simp only [Int.sub_neg]
  have eRh : b.rHi hi 20 = min 10000000000000 (upq ((min hi b.yl + 1) * b.armLo) 1000 - 1 - 20) := rfl
  have eKh : k.rHi hi 20 = min 10000000000000 (upq ((min hi b.yl + 1) * k.armLo) 1000 - 1 - 20) := by unfold Bo.rHi; rw [ny]
  have l1 : k.rLo lo (-20) ≤ b.rLo lo (-20) := by
    rw [eRl, eKl]
    split <;> split <;> omega
  have l2 : b.rHi hi 20 ≤ k.rHi hi 20 := by rw [eRh, eKh]; omega
  refine ⟨fun q hq => ?_, ?_, l1, l2⟩
  · have q0 : b.rLo lo (-20) ≤ q ∧ q ≤ b.rHi hi 20 := by rcases hq with h | h <;> omega
    have r0 : 0 ≤ b.rLo lo (-20) := by rw [eRl]; split <;> omega
    have q1 : q ≤ 9000000000000 := by rw [eRh] at q0; omega
    have wc : (way20 q).chk = true := by
      unfold way20 Wa.chk
      simp only [if_true, decide_true, Bool.and_self, Bool.and_true]
      rw [isSp_iff]; omega
    refine ⟨by simp [openE, hkc, wc], ?_, ?_, by omega, q1⟩
    · have e : k.fLo (way20 q) = 1000 * max 0 (q - 20) / k.armHi := by simp [Bo.fLo, way20, endF]
      rw [e, Int.le_ediv_iff_mul_le (by omega)]
      have : 0 ≤ 1000 * max 0 (q - 20) := by omega
      by_cases hz : 0 < upq (lo * b.armHi) 1000
      · rw [eRl, if_pos hz] at q0
        omega
      · omega
    · have e : k.fHi (way20 q) = 1000 * (q + 20) / k.armLo := by simp [Bo.fHi, way20, endF]
      have : 1000 * (q + 20) / k.armLo < min hi b.yl + 1 := by
        rw [Int.ediv_lt_iff_lt_mul (by omega)]
        rw [eRh] at q0
        omega
      rw [e]; omega
  · unfold Bo.rightE
    rw [if_pos o2, if_pos sp, if_neg (by omega)]

theorem aft_bef {lo hi tl th num den : Int} : aftLo (befLo lo tl num den) tl num den = lo ∧ aftHi (befHi hi th num den) th num den = hi := by
  unfold aftLo befLo aftHi befHi upq
  rw [Int.neg_neg]
  omega
end Go.Proofs.Yteecidddfcbabaa
