/- The walks of small functions: what each call hands back, and that nothing that was there has turned. Printed by a program of this session (wip/tools/gen.py). -/
import Derived.Test.YteecidddfcbabaaB3
namespace Go.Proofs.Yteecidddfcbabaa
open Go
attribute [local irreducible] ExV Ex
set_option synthInstance.maxSize 2000
set_option synthInstance.maxHeartbeats 200000

theorem c18f (b : Bo) (y : Wa) {w : World} (hb : b.Ok) (hy : y.Fit) : Calls Try.prog 18 [.agg [.int .i64 b.lead, .int .i64 b.thread, .int .i64 b.head, .int .i64 b.tl, .int .i64 b.th, .int .i64 b.hl, .int .i64 b.hh, .int .i64 b.sl, .int .i64 b.sh, .int .i64 b.pl, .int .i64 b.ph, .int .i64 b.yl, .int .i64 b.yh].toArray, .agg [.int .i64 y.kind, .int .i64 y.tl, .int .i64 y.th, .int .i64 y.al, .int .i64 y.ah, .int .i64 y.sl, .int .i64 y.sh].toArray].toArray w fun e w' => e = .returned (.tuple #[.agg [.int .i64 (b.fLo y), .int .i64 (b.fHi y)].toArray, .bool (decide (b.fHi y ≤ b.yl)), .bool (decide (b.fLo y ≤ b.yh))]) ∧ Ext [] w w' :=
  (c18 b y hb (fun k _ => truth_fit hb hy k)).mono fun e w' h => ⟨h.1.trans (by rw [stF_all hb hy]), h.2⟩

def setW (q wl wh : Int) : Wa := ⟨1, max 0 (q + wl), max 0 (q + wh), 0, 0, 0, 0⟩

theorem setW_fit {q wl wh : Int} (h : wl ≤ wh) (h0 : q ≤ 10000000000001) (h1 : wh ≤ 10000000000000) : (setW q wl wh).Fit := by
  unfold setW
  constructor <;> simp only [] <;> omega

theorem upq_le {n d t : Int} (hd : 1 ≤ d) : upq n d ≤ t ↔ n ≤ d * t := by
  have h := upq_spec (n := n) hd
  constructor
  · intro k
    have := Int.mul_le_mul_of_nonneg_left k (show 0 ≤ d by omega)
    omega
  · intro k
    by_cases hc : upq n d ≤ t
    · exact hc
    · exfalso
      have := Int.mul_le_mul_of_nonneg_left (show t + 1 ≤ upq n d by omega) (show 0 ≤ d by omega)
      rw [Int.mul_add] at this
      omega

theorem right_lo {b : Bo} (hb : b.Ok) {lo q wl wh : Int} (h0 : 0 ≤ lo) (hq : 0 ≤ q) : lo ≤ b.fLo (setW q wl wh) ↔ b.rLo lo wl ≤ q := by
  have ha := hb.arm
  have e : b.fLo (setW q wl wh) = 1000 * max 0 (q + wl) / b.armHi := by simp [Bo.fLo, setW, endF]
  rw [e, Int.le_ediv_iff_mul_le (by omega), ← upq_le (by omega)]
  unfold Bo.rLo
  split <;> omega

theorem right_hi {b : Bo} (hb : b.Ok) {hi q wl wh : Int} (h0 : 0 ≤ hi) (hq : q ≤ 10000000000000) : (decide (b.fHi (setW q wl wh) ≤ b.yl) && decide (b.fHi (setW q wl wh) ≤ hi)) = true ↔ q ≤ b.rHi hi wh := by
  have ha := hb.arm
  have hy := hb.yl0
  have e : b.fHi (setW q wl wh) = 1000 * max 0 (q + wh) / b.armLo := by simp [Bo.fHi, setW, endF]
  have e2 : 1000 * max 0 (q + wh) / b.armLo < min hi b.yl + 1 ↔ ¬ upq ((min hi b.yl + 1) * b.armLo) 1000 ≤ max 0 (q + wh) := by
    rw [Int.ediv_lt_iff_lt_mul (by omega), upq_le (by omega)]
    omega
  have hp : 0 < (min hi b.yl + 1) * b.armLo := Int.mul_pos (by omega) (by omega)
  have hs := upq_spec (n := (min hi b.yl + 1) * b.armLo) (d := 1000) (by omega)
  rw [e, Bool.and_eq_true, decide_eq_true_eq, decide_eq_true_eq]
  unfold Bo.rHi
  constructor
  · intro h
    have := e2.1 (by omega)
    omega
  · intro h
    have := e2.2 (by omega)
    omega

-- == f14 acme/acmeref09.Right params [25, 23, 23] results [23] in [('cell', ['6', '23'])] ntmps 76 nfree 0
theorem c14 (b : Bo) (lo hi wl wh : Int) {w : World} (hb : b.Ok) (hs : isSp lo hi 0 100000000 = true) (hw : isSp wl wh (-10000000000000) 10000000000000 = true) : Calls Try.prog 14 [.agg [.int .i64 b.lead, .int .i64 b.thread, .int .i64 b.head, .int .i64 b.tl, .int .i64 b.th, .int .i64 b.hl, .int .i64 b.hh, .int .i64 b.sl, .int .i64 b.sh, .int .i64 b.pl, .int .i64 b.ph, .int .i64 b.yl, .int .i64 b.yh].toArray, .agg [.int .i64 lo, .int .i64 hi].toArray, .agg [.int .i64 wl, .int .i64 wh].toArray].toArray w fun e w' => e = .returned (.agg [.int .i64 (min 10000000000001 (b.rLo lo wl)), .int .i64 (max (-1) (b.rHi hi wh))].toArray) ∧ Ext [] w w' := by
  have hs1 := isSp_iff.1 hs
  have hw1 := isSp_iff.1 hw
  refine fn_start Try.func14 rfl (N := 76) rfl ?_
  refine k_seq (k_region ?_)
  refine o_box rfl (fun b3 => ?_)
  refine o_box rfl (fun b4 => ?_)
  refine o_box rfl (fun b5 => ?_)
  refine o_alloc Try.zeroValue23 (fun b6 => o_nil ?_)
  refine k_seq (k_region ?_)
  refine o_val (ex_assign rfl) ?_
  refine o_val (ex_assign rfl) (o_nil ?_)
  refine k_seq (k_block ?_)
  refine k_loop (ι := Int × Int) (fun k => [(3, .pointer (some ⟨b3, 0, none⟩)), (4, .pointer (some ⟨b4, 0, none⟩)), (5, .pointer (some ⟨b5, 0, none⟩)), (6, .pointer (some ⟨b6, 0, none⟩)), (7, .int .i64 k.1), (8, .int .i64 k.2)]) (fun k => [⟨b6, 23, [.int .i64 0, .int .i64 0], true⟩, ⟨b5, 23, [.int .i64 wl, .int .i64 wh], true⟩, ⟨b4, 23, [.int .i64 lo, .int .i64 hi], true⟩, ⟨b3, 25, [.int .i64 b.lead, .int .i64 b.thread, .int .i64 b.head, .int .i64 b.tl, .int .i64 b.th, .int .i64 b.hl, .int .i64 b.hh, .int .i64 b.sl, .int .i64 b.sh, .int .i64 b.pl, .int .i64 b.ph, .int .i64 b.yl, .int .i64 b.yh], true⟩]) (fun k => -1 ≤ k.1 ∧ k.1 < k.2 ∧ k.2 ≤ 10000000000001 ∧ (k.1 = -1 ∨ k.1 < b.rLo lo wl) ∧ (k.2 = 10000000000001 ∨ b.rLo lo wl ≤ k.2)) (fun k => (k.2 - k.1).toNat) (-1, 10000000000001) ⟨by decide, by decide, by decide, .inl rfl, .inl rfl⟩ (Sub.cons rfl (Sub.cons rfl (Sub.cons rfl (Sub.cons rfl (Sub.cons rfl (Sub.cons rfl (Sub.nil _))))))) SubE.sub (fun k hk => ?_)
  obtain ⟨no, yes⟩ := k
  dsimp only at hk ⊢
  refine k_seq (k_seq (k_region ?_))
  refine o_val (ex_move rfl) ?_
  refine o_val (ex_move rfl) ?_
  refine o_val (ex_sub64 rfl rfl (by unfold I64; omega)) ?_
  refine o_val (ex_gtr rfl rfl) (o_nil ?_)
  refine k_cond rfl (fun h => ?_) (fun h => ?_)
  ·
    have hgt : 1 < yes - no := of_decide_eq_true h
    refine k_skip ?_
    refine k_block ?_
    refine k_seq (k_region ?_)
    refine o_val (ex_move rfl) ?_
    refine o_val (ex_move rfl) ?_
    refine o_val (ex_add64 rfl rfl (by unfold I64; omega)) ?_
    refine o_val (ex_quoE rfl rfl (by omega) (by omega) (by unfold I64; omega)) ?_
    refine o_val (ex_assign rfl) (o_nil ?_)
    refine k_seq (k_draw [true, true, true, true, true, true, true, true, true, false, false, false, false] 4 ?_ mixed (by kernel_rfl) rfl)
    refine d_loadA (i := 0) Try.isAgg25 Try.sizeOf25 rfl ?_
    refine d_val (i := 1) [] (ex_move rfl) ?_
    refine d_loadA (i := 2) Try.isAgg23 Try.sizeOf23 rfl ?_
    refine d_val (i := 3) [] (ex_call Try.call45 rfl (fun W hW => (by exact c45 ((no + yes) / 2) wl wh (by omega) (by omega) (by omega)))) ?_
    refine d_val (i := 4) [] (ex_call Try.call18 rfl (fun W hW => (by exact c18f b (setW ((no + yes) / 2) wl wh) hb (setW_fit (by omega) (by omega) (by omega))))) ?_
    refine d_val (i := 5) [] (ex_move rfl) ?_
    refine d_val (i := 6) [] (ex_extract rfl rfl) ?_
    refine d_val (i := 7) [] (ex_extract rfl rfl) ?_
    refine d_val (i := 8) [] (ex_extract rfl rfl) ?_
    refine d_rest ?_
    refine d_rest ?_
    refine d_rest ?_
    refine d_rest ?_
    refine d_nil ?_
    refine r_one 9 (rs_alloc rfl Try.zeroValue23 (fun b10 => ?_)) (by kernel_rfl)
    refine r_one 10 (rs_store [9, 6, 4, 0, 1, 2, 3, 4, 5, 6, 9] rfl Try.sizeOf23 rfl rfl ?_) (by kernel_rfl)
    refine r_one 11 (rs_val rfl (ex_assign rfl) ?_) (by kernel_rfl)
    refine r_one 12 (rs_val rfl (ex_assign rfl) ?_) (by kernel_rfl)
    refine r_nil ?_ (by kernel_rfl)
    refine k_seq (k_region ?_)
    refine o_val (ex_field (o := 0) 0 fa23_0 rfl rfl) ?_
    refine o_val (ex_load Try.isAgg3 rfl rfl) ?_
    refine o_val (ex_field (o := 0) 0 fa23_0 rfl rfl) ?_
    refine o_val (ex_load Try.isAgg3 rfl rfl) ?_
    refine o_val (ex_geq rfl rfl) (o_nil ?_)
    refine k_cut (ι := Int × Int) (fun r => [(3, .pointer (some ⟨b3, 0, none⟩)), (4, .pointer (some ⟨b4, 0, none⟩)), (5, .pointer (some ⟨b5, 0, none⟩)), (6, .pointer (some ⟨b6, 0, none⟩)), (7, .int .i64 r.1), (8, .int .i64 r.2)]) (fun r => [⟨b6, 23, [.int .i64 0, .int .i64 0], true⟩, ⟨b5, 23, [.int .i64 wl, .int .i64 wh], true⟩, ⟨b4, 23, [.int .i64 lo, .int .i64 hi], true⟩, ⟨b3, 25, [.int .i64 b.lead, .int .i64 b.thread, .int .i64 b.head, .int .i64 b.tl, .int .i64 b.th, .int .i64 b.hl, .int .i64 b.hh, .int .i64 b.sl, .int .i64 b.sh, .int .i64 b.pl, .int .i64 b.ph, .int .i64 b.yl, .int .i64 b.yh], true⟩]) (fun r => (-1 ≤ r.1 ∧ r.1 < r.2 ∧ r.2 ≤ 10000000000001 ∧ (r.1 = -1 ∨ r.1 < b.rLo lo wl) ∧ (r.2 = 10000000000001 ∨ b.rLo lo wl ≤ r.2)) ∧ (r.2 - r.1).toNat < (yes - no).toNat) ?_ (fun r hr => ?_)
    · refine k_cond rfl (fun h_1 => ?_) (fun h_1 => ?_)
      ·
        have hp : b.rLo lo wl ≤ (no + yes) / 2 := (right_lo hb hs1.2.1 (by omega)).1 (of_decide_eq_true h_1)
        refine k_region ?_
        refine o_val (ex_move rfl) ?_
        refine o_val (ex_assign rfl) (o_nil ?_)
        exact k_some (no, (no + yes) / 2) (by simp only []; omega) (Sub.cons rfl (Sub.cons rfl (Sub.cons rfl (Sub.cons rfl (Sub.cons rfl (Sub.cons rfl (Sub.nil _))))))) SubE.sub
      ·
        have hp : ¬ b.rLo lo wl ≤ (no + yes) / 2 := fun hc => of_decide_eq_false h_1 ((right_lo hb hs1.2.1 (by omega)).2 hc)
        refine k_region ?_
        refine o_val (ex_move rfl) ?_
        refine o_val (ex_assign rfl) (o_nil ?_)
        exact k_some ((no + yes) / 2, yes) (by simp only []; omega) (Sub.cons rfl (Sub.cons rfl (Sub.cons rfl (Sub.cons rfl (Sub.cons rfl (Sub.cons rfl (Sub.nil _))))))) SubE.sub
    exact k_some r hr (Sub.cons rfl (Sub.cons rfl (Sub.cons rfl (Sub.cons rfl (Sub.cons rfl (Sub.cons rfl (Sub.nil _))))))) SubE.sub
  ·
    have hle : ¬ 1 < yes - no := of_decide_eq_false h
    have r0 : 0 ≤ b.rLo lo wl := by unfold Bo.rLo; split <;> omega
    have ey : yes = min 10000000000001 (b.rLo lo wl) := by omega
    clear hk
    subst ey
    refine k_exit rfl ?_
    refine k_seq (k_region ?_)
    refine o_val (ex_move rfl) ?_
    refine o_val (ex_build bf23 rfl) ?_
    refine o_alloc Try.zeroValue23 (fun b13 => ?_)
    refine o_store Try.sizeOf23 rfl rfl (o_nil ?_)
    refine k_seq (k_region ?_)
    refine o_val (ex_assign rfl) ?_
    refine o_val (ex_assign rfl) (o_nil ?_)
    refine k_seq (k_block ?_)
    refine k_loop (ι := Int × Int) (fun k => [(3, .pointer (some ⟨b3, 0, none⟩)), (4, .pointer (some ⟨b4, 0, none⟩)), (5, .pointer (some ⟨b5, 0, none⟩)), (6, .pointer (some ⟨b6, 0, none⟩)), (13, .pointer (some ⟨b13, 0, none⟩)), (14, .int .i64 k.1), (15, .int .i64 k.2)]) (fun k => [⟨b13, 23, [.int .i64 (min 10000000000001 (b.rLo lo wl)), .int .i64 0], true⟩, ⟨b6, 23, [.int .i64 0, .int .i64 0], true⟩, ⟨b5, 23, [.int .i64 wl, .int .i64 wh], true⟩, ⟨b4, 23, [.int .i64 lo, .int .i64 hi], true⟩, ⟨b3, 25, [.int .i64 b.lead, .int .i64 b.thread, .int .i64 b.head, .int .i64 b.tl, .int .i64 b.th, .int .i64 b.hl, .int .i64 b.hh, .int .i64 b.sl, .int .i64 b.sh, .int .i64 b.pl, .int .i64 b.ph, .int .i64 b.yl, .int .i64 b.yh], true⟩]) (fun k => -1 ≤ k.1 ∧ k.1 < k.2 ∧ k.2 ≤ 10000000000001 ∧ (k.1 = -1 ∨ k.1 ≤ b.rHi hi wh) ∧ (k.2 = 10000000000001 ∨ b.rHi hi wh < k.2)) (fun k => (k.2 - k.1).toNat) (-1, 10000000000001) ⟨by decide, by decide, by decide, .inl rfl, .inl rfl⟩ (Sub.cons rfl (Sub.cons rfl (Sub.cons rfl (Sub.cons rfl (Sub.cons rfl (Sub.cons rfl (Sub.cons rfl (Sub.nil _)))))))) SubE.sub (fun k hk => ?_)
    obtain ⟨good, bad⟩ := k
    dsimp only at hk ⊢
    refine k_seq (k_seq (k_region ?_))
    refine o_val (ex_move rfl) ?_
    refine o_val (ex_move rfl) ?_
    refine o_val (ex_sub64 rfl rfl (by unfold I64; omega)) ?_
    refine o_val (ex_gtr rfl rfl) (o_nil ?_)
    refine k_cond rfl (fun h_1 => ?_) (fun h_1 => ?_)
    ·
      have hgt : 1 < bad - good := of_decide_eq_true h_1
      refine k_skip ?_
      refine k_block ?_
      refine k_seq (k_region ?_)
      refine o_val (ex_move rfl) ?_
      refine o_val (ex_move rfl) ?_
      refine o_val (ex_add64 rfl rfl (by unfold I64; omega)) ?_
      refine o_val (ex_quoE rfl rfl (by omega) (by omega) (by unfold I64; omega)) ?_
      refine o_val (ex_assign rfl) (o_nil ?_)
      refine k_seq (k_draw [true, true, true, true, true, true, true, true, true, false, false, false, false] 4 ?_ mixed (by kernel_rfl) rfl)
      refine d_loadA (i := 0) Try.isAgg25 Try.sizeOf25 rfl ?_
      refine d_val (i := 1) [] (ex_move rfl) ?_
      refine d_loadA (i := 2) Try.isAgg23 Try.sizeOf23 rfl ?_
      refine d_val (i := 3) [] (ex_call Try.call45 rfl (fun W hW => (by exact c45 ((good + bad) / 2) wl wh (by omega) (by omega) (by omega)))) ?_
      refine d_val (i := 4) [] (ex_call Try.call18 rfl (fun W hW => (by exact c18f b (setW ((good + bad) / 2) wl wh) hb (setW_fit (by omega) (by omega) (by omega))))) ?_
      refine d_val (i := 5) [] (ex_move rfl) ?_
      refine d_val (i := 6) [] (ex_extract rfl rfl) ?_
      refine d_val (i := 7) [] (ex_extract rfl rfl) ?_
      refine d_val (i := 8) [] (ex_extract rfl rfl) ?_
      refine d_rest ?_
      refine d_rest ?_
      refine d_rest ?_
      refine d_rest ?_
      refine d_nil ?_
      refine r_one 9 (rs_alloc rfl Try.zeroValue23 (fun b17 => ?_)) (by kernel_rfl)
      refine r_one 10 (rs_store [9, 6, 4, 0, 1, 2, 3, 4, 5, 6, 9] rfl Try.sizeOf23 rfl rfl ?_) (by kernel_rfl)
      refine r_one 11 (rs_val rfl (ex_assign rfl) ?_) (by kernel_rfl)
      refine r_one 12 (rs_val rfl (ex_assign rfl) ?_) (by kernel_rfl)
      refine r_nil ?_ (by kernel_rfl)
      refine k_seq (k_region ?_)
      refine o_val (ex_move rfl) ?_
      refine o_val (ex_move rfl) ?_
      refine o_and 5 (c := decide (b.fHi (setW ((good + bad) / 2) wl wh) ≤ hi)) (fun h => ?_) (o_nil ?_)
      · refine o_val_g (ex_field (o := 0) 1 fa23_1 rfl rfl) ?_
        refine o_val_g (ex_load Try.isAgg3 rfl rfl) ?_
        refine o_val_g (ex_field (o := 0) 1 fa23_1 rfl rfl) ?_
        refine o_val_g (ex_load Try.isAgg3 rfl rfl) ?_
        exact o_val_g (ex_leq rfl rfl) (o_nil (got rfl (.refl _)))
      refine k_cut (ι := Int × Int) (fun r => [(3, .pointer (some ⟨b3, 0, none⟩)), (4, .pointer (some ⟨b4, 0, none⟩)), (5, .pointer (some ⟨b5, 0, none⟩)), (6, .pointer (some ⟨b6, 0, none⟩)), (13, .pointer (some ⟨b13, 0, none⟩)), (14, .int .i64 r.1), (15, .int .i64 r.2)]) (fun r => [⟨b13, 23, [.int .i64 (min 10000000000001 (b.rLo lo wl)), .int .i64 0], true⟩, ⟨b6, 23, [.int .i64 0, .int .i64 0], true⟩, ⟨b5, 23, [.int .i64 wl, .int .i64 wh], true⟩, ⟨b4, 23, [.int .i64 lo, .int .i64 hi], true⟩, ⟨b3, 25, [.int .i64 b.lead, .int .i64 b.thread, .int .i64 b.head, .int .i64 b.tl, .int .i64 b.th, .int .i64 b.hl, .int .i64 b.hh, .int .i64 b.sl, .int .i64 b.sh, .int .i64 b.pl, .int .i64 b.ph, .int .i64 b.yl, .int .i64 b.yh], true⟩]) (fun r => (-1 ≤ r.1 ∧ r.1 < r.2 ∧ r.2 ≤ 10000000000001 ∧ (r.1 = -1 ∨ r.1 ≤ b.rHi hi wh) ∧ (r.2 = 10000000000001 ∨ b.rHi hi wh < r.2)) ∧ (r.2 - r.1).toNat < (bad - good).toNat) ?_ (fun r hr => ?_)
      · refine k_cond rfl (fun h_2 => ?_) (fun h_2 => ?_)
        ·
          have hp : (good + bad) / 2 ≤ b.rHi hi wh := (right_hi (wl := wl) hb (by omega) (by omega)).1 h_2
          refine k_region ?_
          refine o_val (ex_move rfl) ?_
          refine o_val (ex_assign rfl) (o_nil ?_)
          exact k_some ((good + bad) / 2, bad) (by simp only []; omega) (Sub.cons rfl (Sub.cons rfl (Sub.cons rfl (Sub.cons rfl (Sub.cons rfl (Sub.cons rfl (Sub.cons rfl (Sub.nil _)))))))) SubE.sub
        ·
          have hp : ¬ (good + bad) / 2 ≤ b.rHi hi wh := fun hc => by
            rw [(right_hi (wl := wl) hb (by omega) (by omega)).2 hc] at h_2
            cases h_2
          refine k_region ?_
          refine o_val (ex_move rfl) ?_
          refine o_val (ex_assign rfl) (o_nil ?_)
          exact k_some (good, (good + bad) / 2) (by simp only []; omega) (Sub.cons rfl (Sub.cons rfl (Sub.cons rfl (Sub.cons rfl (Sub.cons rfl (Sub.cons rfl (Sub.cons rfl (Sub.nil _)))))))) SubE.sub
      exact k_some r hr (Sub.cons rfl (Sub.cons rfl (Sub.cons rfl (Sub.cons rfl (Sub.cons rfl (Sub.cons rfl (Sub.cons rfl (Sub.nil _)))))))) SubE.sub
    ·
      have hle2 : ¬ 1 < bad - good := of_decide_eq_false h_1
      have r1 : b.rHi hi wh ≤ 10000000000000 := by unfold Bo.rHi; omega
      have eg : good = max (-1) (b.rHi hi wh) := by omega
      clear hk
      subst eg
      refine k_exit rfl ?_
      refine k_seq (k_region ?_)
      refine o_val (ex_move rfl) ?_
      refine o_val (ex_field (o := 0) 1 fa23_1 rfl rfl) ?_
      refine o_store Try.sizeOf3 rfl rfl (o_nil ?_)
      refine k_seq (k_region ?_)
      refine o_val (ex_loadA Try.isAgg23 Try.sizeOf23 rfl) ?_
      refine o_store Try.sizeOf23 rfl rfl (o_nil ?_)
      refine k_ret ?_
      exact finC rfl Try.isAgg23 Try.sizeOf23 rfl rfl fun W hW => ⟨rfl, hW.ext⟩

end Go.Proofs.Yteecidddfcbabaa
