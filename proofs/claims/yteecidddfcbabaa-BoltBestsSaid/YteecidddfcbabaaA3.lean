/- The walks of small functions: what each call hands back, and that nothing that was there has turned. Printed by a program of this session (wip/tools/gen.py). -/
import Derived.Test.YteecidddfcbabaaA2
namespace Go.Proofs.Yteecidddfcbabaa
open Go
attribute [local irreducible] ExV Ex
set_option synthInstance.maxSize 2000
set_option synthInstance.maxHeartbeats 200000

/-- A way's integers. -/
structure Wa where
  (kind tl th al ah sl sh : Int)

/-- Whether a way is valid. -/
def Wa.chk (y : Wa) : Bool :=
  if y.kind = 1 then isSp y.tl y.th 0 10000000000000 && (decide (y.al = 0) && decide (y.ah = 0)) && (decide (y.sl = 0) && decide (y.sh = 0))
  else if y.kind = 2 then isSp y.tl y.th 0 10000000000000 && isSp y.al y.ah 0 100000 && (decide (y.sl = 0) && decide (y.sh = 0))
  else if y.kind = 3 then isSp y.sl y.sh 0 100000 && (decide (y.tl = 0) && decide (y.th = 0)) && (decide (y.al = 0) && decide (y.ah = 0))
  else false

/-- What a valid way is. -/
structure Wa.Ok (y : Wa) : Prop where
  (k : y.kind = 1 ∨ y.kind = 2 ∨ y.kind = 3) (t : y.tl ≤ y.th ∧ 0 ≤ y.tl ∧ y.th ≤ 10000000000000) (a : y.al ≤ y.ah ∧ 0 ≤ y.al ∧ y.ah ≤ 100000) (s : y.sl ≤ y.sh ∧ 0 ≤ y.sl ∧ y.sh ≤ 100000)

theorem Wa.chk_ok {y : Wa} (h : y.chk = true) : y.Ok := by
  unfold Wa.chk isSp at h
  by_cases h1 : y.kind = 1
  · simp [h1] at h; exact ⟨.inl h1, by omega, by omega, by omega⟩
  · by_cases h2 : y.kind = 2
    · simp [h2] at h; exact ⟨.inr (.inl h2), by omega, by omega, by omega⟩
    · by_cases h3 : y.kind = 3
      · simp [h3] at h; exact ⟨.inr (.inr h3), by omega, by omega, by omega⟩
      · simp [h1, h2, h3] at h

/-- Whether a bolt is valid. -/
def Bo.chk (b : Bo) : Bool :=
  wi 1 100000 [b.lead] && wi 0 100000 [b.thread, b.head] && isSp b.tl b.th 0 1000 && isSp b.hl b.hh 0 1000 && isSp b.sl b.sh 1 100000000 && isSp b.pl b.ph 1 100000 && isSp b.yl b.yh 1 100000000

theorem wi_two (least most n m : Int) : wi least most [n, m] = decide (least ≤ n ∧ n ≤ most ∧ least ≤ m ∧ m ≤ most) := by
  unfold wi
  rw [Bool.eq_iff_iff]
  simp only [List.any_cons, List.any_nil, Bool.or_false, Bool.not_eq_true', Bool.or_eq_false_iff, decide_eq_false_iff_not, decide_eq_true_eq]
  omega

theorem Bo.chk_iff (b : Bo) : b.chk = true ↔ b.Ok := by
  unfold Bo.chk
  rw [wi_one, wi_two]
  unfold isSp
  simp only [Bool.and_eq_true, decide_eq_true_eq]
  constructor
  · intro h; constructor <;> omega
  · intro h
    have := h.l0; have := h.l1; have := h.t0; have := h.t1; have := h.h0; have := h.h1
    have := h.tt; have := h.tl0; have := h.th1; have := h.hh; have := h.hl0; have := h.hh1
    have := h.ss; have := h.sl0; have := h.sh1; have := h.pp; have := h.pl0; have := h.ph1; have := h.yy; have := h.yl0; have := h.yh1
    omega

/-- The force at one end. -/
def endF (arm stiff spring kind t a s : Int) : Int := if kind = 3 then spring * s else (if kind = 2 then stiff * a / 1000 else 0) + 1000 * t / arm

def Bo.fLo (b : Bo) (y : Wa) : Int := endF b.armHi b.sl b.pl y.kind y.tl y.al y.sl
def Bo.fHi (b : Bo) (y : Wa) : Int := endF b.armLo b.sh b.ph y.kind y.th y.ah y.sh

-- == f22 acme/acmetop.armSpan params [3, 3] results [23] in [('cell', ['4', '23'])] ntmps 8 nfree 0
theorem c22 (lo hi : Int) {w : World} : Calls Try.prog 22 [.int .i64 lo, .int .i64 hi].toArray w fun e w' => e = .returned (.agg [.int .i64 lo, .int .i64 hi].toArray) ∧ Ext [] w w' := by
  refine fn_start Try.func22 rfl (N := 8) rfl ?_
  refine k_seq (k_region ?_)
  refine o_alloc Try.zeroValue23 (fun b4 => o_nil ?_)
  refine k_seq (k_region ?_)
  refine o_val (ex_move rfl) ?_
  refine o_val (ex_move rfl) ?_
  refine o_val (ex_build bf23 rfl) ?_
  refine o_store Try.sizeOf23 rfl rfl (o_nil ?_)
  refine k_ret ?_
  exact finC rfl Try.isAgg23 Try.sizeOf23 rfl rfl fun W hW => ⟨rfl, hW.ext⟩

-- == f72 acme/bolt.low params [23] results [3] in [('tmp', ['2'])] ntmps 5 nfree 0
theorem c72 (lo hi : Int) {w : World} : Calls Try.prog 72 [.agg [.int .i64 lo, .int .i64 hi].toArray].toArray w fun e w' => e = .returned (.int .i64 lo) ∧ Ext [] w w' := by
  refine fn_start Try.func72 rfl (N := 5) rfl ?_
  refine k_seq (k_region ?_)
  refine o_box rfl (fun b1 => ?_)
  refine o_val (ex_assign rfl) (o_nil ?_)
  refine k_seq (k_region ?_)
  refine o_val (ex_field (o := 0) 0 fa23_0 rfl rfl) ?_
  refine o_val (ex_load Try.isAgg3 rfl rfl) ?_
  refine o_val (ex_assign rfl) (o_nil ?_)
  refine k_ret ?_
  exact fin1 rfl rfl fun W hW => ⟨rfl, hW.ext⟩

-- == f73 acme/bolt.high params [23] results [3] in [('tmp', ['2'])] ntmps 5 nfree 0
theorem c73 (lo hi : Int) {w : World} : Calls Try.prog 73 [.agg [.int .i64 lo, .int .i64 hi].toArray].toArray w fun e w' => e = .returned (.int .i64 hi) ∧ Ext [] w w' := by
  refine fn_start Try.func73 rfl (N := 5) rfl ?_
  refine k_seq (k_region ?_)
  refine o_box rfl (fun b1 => ?_)
  refine o_val (ex_assign rfl) (o_nil ?_)
  refine k_seq (k_region ?_)
  refine o_val (ex_field (o := 0) 1 fa23_1 rfl rfl) ?_
  refine o_val (ex_load Try.isAgg3 rfl rfl) ?_
  refine o_val (ex_assign rfl) (o_nil ?_)
  refine k_ret ?_
  exact fin1 rfl rfl fun W hW => ⟨rfl, hW.ext⟩

-- == f35 (acme/bolt.kind).within params [76, 23] results [23] in [('cell', ['4', '23'])] ntmps 15 nfree 0
theorem c35 (b : Bo) (lo hi : Int) {w : World} : Calls Try.prog 35 [.agg [.int .i64 b.lead, .int .i64 b.thread, .int .i64 b.head, .int .i64 b.tl, .int .i64 b.th, .int .i64 b.hl, .int .i64 b.hh, .int .i64 b.sl, .int .i64 b.sh, .int .i64 b.pl, .int .i64 b.ph, .int .i64 b.yl, .int .i64 b.yh].toArray, .agg [.int .i64 lo, .int .i64 hi].toArray].toArray w fun e w' => e = .returned (.agg [.int .i64 lo, .int .i64 (min hi b.yl)].toArray) ∧ Ext [] w w' := by
  refine fn_start Try.func35 rfl (N := 15) rfl ?_
  refine k_seq (k_region ?_)
  refine o_box rfl (fun b2 => ?_)
  refine o_box rfl (fun b3 => ?_)
  refine o_alloc Try.zeroValue23 (fun b4 => o_nil ?_)
  refine k_seq (k_region ?_)
  refine o_val (ex_field (o := 0) 0 fa23_0 rfl rfl) ?_
  refine o_val (ex_load Try.isAgg3 rfl rfl) ?_
  refine o_val (ex_field (o := 0) 1 fa23_1 rfl rfl) ?_
  refine o_val (ex_load Try.isAgg3 rfl rfl) ?_
  refine o_val (ex_field (o := 0) 0 fa76_0 rfl rfl) ?_
  refine o_val (ex_field (o := 0) 11 fa25_7 rfl rfl) ?_
  refine o_val (ex_field (o := 11) 11 fa23_0 rfl rfl) ?_
  refine o_val (ex_load Try.isAgg3 rfl rfl) ?_
  refine o_val (ex_min rfl rfl) ?_
  refine o_val (ex_build bf23 rfl) ?_
  refine o_store Try.sizeOf23 rfl rfl (o_nil ?_)
  refine k_ret ?_
  exact finC rfl Try.isAgg23 Try.sizeOf23 rfl rfl fun W hW => ⟨rfl, hW.ext⟩

-- == f71 (acme/bolt.kind).end params [76, 47, 129, 129] results [3] in [('tmp', ['8'])] ntmps 48 nfree 0
theorem l71 (b : Bo) (y : Wa) {w : World} (hb : b.Ok) (hy : y.Ok) : Calls Try.prog 71 [.agg [.int .i64 b.lead, .int .i64 b.thread, .int .i64 b.head, .int .i64 b.tl, .int .i64 b.th, .int .i64 b.hl, .int .i64 b.hh, .int .i64 b.sl, .int .i64 b.sh, .int .i64 b.pl, .int .i64 b.ph, .int .i64 b.yl, .int .i64 b.yh].toArray, .agg [.int .i64 y.kind, .int .i64 y.tl, .int .i64 y.th, .int .i64 y.al, .int .i64 y.ah, .int .i64 y.sl, .int .i64 y.sh].toArray, .func (.func 72) [].toArray [].toArray, .func (.func 73) [].toArray [].toArray].toArray w fun e w' => e = .returned (.int .i64 (b.fLo y)) ∧ Ext [] w w' := by
  have := hb.arm
  have := hb.ss
  have := hb.sl0
  have := hb.sh1
  have := hb.pp
  have := hb.pl0
  have := hb.ph1
  have ht := hy.t
  have ha := hy.a
  have hs := hy.s
  have m1 := mulB (a := b.sl) (A := 100000000) (b := y.al) (B := 100000) (by omega) (by omega) (by omega) (by omega)
  have m2 := mulB (a := b.pl) (A := 100000) (b := y.sl) (B := 100000) (by omega) (by omega) (by omega) (by omega)
  have d1 := div_bounds (n := b.sl * y.al) (d := 1000) (K := 10000000000000) (by omega) (by omega) (by omega) (by omega)
  have d2 := div_bounds (n := 1000 * y.tl) (d := b.armHi) (K := 10000000000000000) (by omega) (by omega) (by omega) (by omega)
  refine fn_start Try.func71 rfl (N := 48) rfl ?_
  refine k_seq (k_region ?_)
  refine o_box rfl (fun b4 => ?_)
  refine o_box rfl (fun b5 => ?_)
  refine o_val (ex_assign rfl) (o_nil ?_)
  refine k_seq (k_seq (k_region ?_))
  refine o_val (ex_field (o := 0) 0 fa47_0 rfl rfl) ?_
  refine o_val (ex_load Try.isAgg45 rfl rfl) (o_nil ?_)
  refine k_block ?_
  refine k_seq (k_block ?_)
  refine k_seq (k_block ?_)
  refine k_seq (k_seq (k_seq (k_region ?_)))
  refine o_val (ex_eql rfl rfl) ?_
  refine o_val (ex_assign rfl) (o_nil ?_)
  refine k_cond rfl (fun h => ?_) (fun h => ?_)
  ·
    refine k_exit rfl ?_
    refine k_draw [true, true, true, true, true, true, true, true, true, true, true, false] 1 ?_ mixed (by kernel_rfl) rfl
    refine d_val (i := 0) [] (ex_move rfl) ?_
    refine d_val (i := 1) [] (ex_field (o := 0) 0 fa76_0 rfl rfl) ?_
    refine d_val (i := 2) [] (ex_field (o := 0) 7 fa25_5 rfl rfl) ?_
    refine d_loadA (i := 3) Try.isAgg23 Try.sizeOf23 rfl ?_
    refine d_val (i := 4) [] (ex_callV Try.call72 rfl rfl (fun W hW => c72 b.sl b.sh)) ?_
    refine d_val (i := 5) [] (ex_move rfl) ?_
    refine d_val (i := 6) [] (ex_field (o := 0) 3 fa47_2 rfl rfl) ?_
    refine d_loadA (i := 7) Try.isAgg23 Try.sizeOf23 rfl ?_
    refine d_val (i := 8) [] (ex_callV Try.call72 rfl rfl (fun W hW => c72 y.al y.ah)) ?_
    refine d_val (i := 9) [] (ex_mul64 rfl rfl (by unfold I64; omega)) ?_
    refine d_val (i := 10) [] (ex_quoE rfl rfl (by omega) (by omega) (by unfold I64; omega)) ?_
    refine d_rest ?_
    refine d_nil ?_
    refine r_one 11 (rs_val rfl (ex_assign rfl) ?_) (by kernel_rfl)
    refine r_nil ?_ (by kernel_rfl)
    refine k_seq (k_seq (k_draw [true, true, true, true, true, true, true, true, true, true, true, true, false] 1 ?_ mixed (by kernel_rfl) rfl))
    refine d_val (i := 0) [] (ex_move rfl) ?_
    refine d_val (i := 1) [] (ex_move rfl) ?_
    refine d_val (i := 2) [] (ex_field (o := 0) 1 fa47_1 rfl rfl) ?_
    refine d_loadA (i := 3) Try.isAgg23 Try.sizeOf23 rfl ?_
    refine d_val (i := 4) [] (ex_callV Try.call72 rfl rfl (fun W hW => c72 y.tl y.th)) ?_
    refine d_val (i := 5) [] (ex_mul64 rfl rfl (by unfold I64; omega)) ?_
    refine d_val (i := 6) [] (ex_move rfl) ?_
    refine d_loadA (i := 7) Try.isAgg76 Try.sizeOf76 rfl ?_
    refine d_val (i := 8) [] (ex_call Try.call36 rfl (fun W hW => c36 b hb)) ?_
    refine d_val (i := 9) [] (ex_callV Try.call73 rfl rfl (fun W hW => c73 b.armLo b.armHi)) ?_
    refine d_val (i := 10) [] (ex_quoE rfl rfl (by omega) (by omega) (by unfold I64; omega)) ?_
    refine d_val (i := 11) [] (ex_add64 rfl rfl (by unfold I64; omega)) ?_
    refine d_rest ?_
    refine d_nil ?_
    refine r_one 12 (rs_val rfl (ex_assign rfl) ?_) (by kernel_rfl)
    refine r_nil ?_ (by kernel_rfl)
    refine k_ret ?_
    exact fin1 rfl rfl fun W hW => ⟨by simp_all [Bo.fLo, Bo.fHi, endF], hW.ext⟩
  ·
    refine k_skip ?_
    refine k_seq (k_region ?_)
    refine o_val (ex_eql rfl rfl) ?_
    refine o_val (ex_assign rfl) (o_nil ?_)
    refine k_cond rfl (fun h_1 => ?_) (fun h_1 => ?_)
    ·
      refine k_exit rfl ?_
      refine k_seq (k_seq (k_draw [true, true, true, true, true, true, true, true, true, true, true, true, false] 1 ?_ mixed (by kernel_rfl) rfl))
      refine d_val (i := 0) [] (ex_move rfl) ?_
      refine d_val (i := 1) [] (ex_move rfl) ?_
      refine d_val (i := 2) [] (ex_field (o := 0) 1 fa47_1 rfl rfl) ?_
      refine d_loadA (i := 3) Try.isAgg23 Try.sizeOf23 rfl ?_
      refine d_val (i := 4) [] (ex_callV Try.call72 rfl rfl (fun W hW => c72 y.tl y.th)) ?_
      refine d_val (i := 5) [] (ex_mul64 rfl rfl (by unfold I64; omega)) ?_
      refine d_val (i := 6) [] (ex_move rfl) ?_
      refine d_loadA (i := 7) Try.isAgg76 Try.sizeOf76 rfl ?_
      refine d_val (i := 8) [] (ex_call Try.call36 rfl (fun W hW => c36 b hb)) ?_
      refine d_val (i := 9) [] (ex_callV Try.call73 rfl rfl (fun W hW => c73 b.armLo b.armHi)) ?_
      refine d_val (i := 10) [] (ex_quoE rfl rfl (by omega) (by omega) (by unfold I64; omega)) ?_
      refine d_val (i := 11) [] (ex_add64 rfl rfl (by unfold I64; omega)) ?_
      refine d_rest ?_
      refine d_nil ?_
      refine r_one 12 (rs_val rfl (ex_assign rfl) ?_) (by kernel_rfl)
      refine r_nil ?_ (by kernel_rfl)
      refine k_ret ?_
      exact fin1 rfl rfl fun W hW => ⟨by simp_all [Bo.fLo, Bo.fHi, endF], hW.ext⟩
    ·
      refine k_skip ?_
      refine k_exit rfl ?_
      refine k_seq (k_draw [true, true, true, true, true, true, true, true, true, true, false] 1 ?_ mixed (by kernel_rfl) rfl)
      refine d_val (i := 0) [] (ex_move rfl) ?_
      refine d_val (i := 1) [] (ex_field (o := 0) 0 fa76_0 rfl rfl) ?_
      refine d_val (i := 2) [] (ex_field (o := 0) 9 fa25_6 rfl rfl) ?_
      refine d_loadA (i := 3) Try.isAgg23 Try.sizeOf23 rfl ?_
      refine d_val (i := 4) [] (ex_callV Try.call72 rfl rfl (fun W hW => c72 b.pl b.ph)) ?_
      refine d_val (i := 5) [] (ex_move rfl) ?_
      refine d_val (i := 6) [] (ex_field (o := 0) 5 fa47_3 rfl rfl) ?_
      refine d_loadA (i := 7) Try.isAgg23 Try.sizeOf23 rfl ?_
      refine d_val (i := 8) [] (ex_callV Try.call72 rfl rfl (fun W hW => c72 y.sl y.sh)) ?_
      refine d_val (i := 9) [] (ex_mul64 rfl rfl (by unfold I64; omega)) ?_
      refine d_rest ?_
      refine d_nil ?_
      refine r_one 10 (rs_val rfl (ex_assign rfl) ?_) (by kernel_rfl)
      refine r_nil ?_ (by kernel_rfl)
      refine k_ret ?_
      exact fin1 rfl rfl fun W hW => ⟨by have hk : y.kind = 3 := (by have := hy.k; simp only [decide_eq_false_iff_not] at h h_1; omega); simp [Bo.fLo, Bo.fHi, endF, hk], hW.ext⟩

-- == f71 (acme/bolt.kind).end params [76, 47, 129, 129] results [3] in [('tmp', ['8'])] ntmps 48 nfree 0
theorem h71 (b : Bo) (y : Wa) {w : World} (hb : b.Ok) (hy : y.Ok) : Calls Try.prog 71 [.agg [.int .i64 b.lead, .int .i64 b.thread, .int .i64 b.head, .int .i64 b.tl, .int .i64 b.th, .int .i64 b.hl, .int .i64 b.hh, .int .i64 b.sl, .int .i64 b.sh, .int .i64 b.pl, .int .i64 b.ph, .int .i64 b.yl, .int .i64 b.yh].toArray, .agg [.int .i64 y.kind, .int .i64 y.tl, .int .i64 y.th, .int .i64 y.al, .int .i64 y.ah, .int .i64 y.sl, .int .i64 y.sh].toArray, .func (.func 73) [].toArray [].toArray, .func (.func 72) [].toArray [].toArray].toArray w fun e w' => e = .returned (.int .i64 (b.fHi y)) ∧ Ext [] w w' := by
  have := hb.arm
  have := hb.ss
  have := hb.sl0
  have := hb.sh1
  have := hb.pp
  have := hb.pl0
  have := hb.ph1
  have ht := hy.t
  have ha := hy.a
  have hs := hy.s
  have m1 := mulB (a := b.sh) (A := 100000000) (b := y.ah) (B := 100000) (by omega) (by omega) (by omega) (by omega)
  have m2 := mulB (a := b.ph) (A := 100000) (b := y.sh) (B := 100000) (by omega) (by omega) (by omega) (by omega)
  have d1 := div_bounds (n := b.sh * y.ah) (d := 1000) (K := 10000000000000) (by omega) (by omega) (by omega) (by omega)
  have d2 := div_bounds (n := 1000 * y.th) (d := b.armLo) (K := 10000000000000000) (by omega) (by omega) (by omega) (by omega)
  refine fn_start Try.func71 rfl (N := 48) rfl ?_
  refine k_seq (k_region ?_)
  refine o_box rfl (fun b4 => ?_)
  refine o_box rfl (fun b5 => ?_)
  refine o_val (ex_assign rfl) (o_nil ?_)
  refine k_seq (k_seq (k_region ?_))
  refine o_val (ex_field (o := 0) 0 fa47_0 rfl rfl) ?_
  refine o_val (ex_load Try.isAgg45 rfl rfl) (o_nil ?_)
  refine k_block ?_
  refine k_seq (k_block ?_)
  refine k_seq (k_block ?_)
  refine k_seq (k_seq (k_seq (k_region ?_)))
  refine o_val (ex_eql rfl rfl) ?_
  refine o_val (ex_assign rfl) (o_nil ?_)
  refine k_cond rfl (fun h => ?_) (fun h => ?_)
  ·
    refine k_exit rfl ?_
    refine k_draw [true, true, true, true, true, true, true, true, true, true, true, false] 1 ?_ mixed (by kernel_rfl) rfl
    refine d_val (i := 0) [] (ex_move rfl) ?_
    refine d_val (i := 1) [] (ex_field (o := 0) 0 fa76_0 rfl rfl) ?_
    refine d_val (i := 2) [] (ex_field (o := 0) 7 fa25_5 rfl rfl) ?_
    refine d_loadA (i := 3) Try.isAgg23 Try.sizeOf23 rfl ?_
    refine d_val (i := 4) [] (ex_callV Try.call73 rfl rfl (fun W hW => c73 b.sl b.sh)) ?_
    refine d_val (i := 5) [] (ex_move rfl) ?_
    refine d_val (i := 6) [] (ex_field (o := 0) 3 fa47_2 rfl rfl) ?_
    refine d_loadA (i := 7) Try.isAgg23 Try.sizeOf23 rfl ?_
    refine d_val (i := 8) [] (ex_callV Try.call73 rfl rfl (fun W hW => c73 y.al y.ah)) ?_
    refine d_val (i := 9) [] (ex_mul64 rfl rfl (by unfold I64; omega)) ?_
    refine d_val (i := 10) [] (ex_quoE rfl rfl (by omega) (by omega) (by unfold I64; omega)) ?_
    refine d_rest ?_
    refine d_nil ?_
    refine r_one 11 (rs_val rfl (ex_assign rfl) ?_) (by kernel_rfl)
    refine r_nil ?_ (by kernel_rfl)
    refine k_seq (k_seq (k_draw [true, true, true, true, true, true, true, true, true, true, true, true, false] 1 ?_ mixed (by kernel_rfl) rfl))
    refine d_val (i := 0) [] (ex_move rfl) ?_
    refine d_val (i := 1) [] (ex_move rfl) ?_
    refine d_val (i := 2) [] (ex_field (o := 0) 1 fa47_1 rfl rfl) ?_
    refine d_loadA (i := 3) Try.isAgg23 Try.sizeOf23 rfl ?_
    refine d_val (i := 4) [] (ex_callV Try.call73 rfl rfl (fun W hW => c73 y.tl y.th)) ?_
    refine d_val (i := 5) [] (ex_mul64 rfl rfl (by unfold I64; omega)) ?_
    refine d_val (i := 6) [] (ex_move rfl) ?_
    refine d_loadA (i := 7) Try.isAgg76 Try.sizeOf76 rfl ?_
    refine d_val (i := 8) [] (ex_call Try.call36 rfl (fun W hW => c36 b hb)) ?_
    refine d_val (i := 9) [] (ex_callV Try.call72 rfl rfl (fun W hW => c72 b.armLo b.armHi)) ?_
    refine d_val (i := 10) [] (ex_quoE rfl rfl (by omega) (by omega) (by unfold I64; omega)) ?_
    refine d_val (i := 11) [] (ex_add64 rfl rfl (by unfold I64; omega)) ?_
    refine d_rest ?_
    refine d_nil ?_
    refine r_one 12 (rs_val rfl (ex_assign rfl) ?_) (by kernel_rfl)
    refine r_nil ?_ (by kernel_rfl)
    refine k_ret ?_
    exact fin1 rfl rfl fun W hW => ⟨by simp_all [Bo.fLo, Bo.fHi, endF], hW.ext⟩
  ·
    refine k_skip ?_
    refine k_seq (k_region ?_)
    refine o_val (ex_eql rfl rfl) ?_
    refine o_val (ex_assign rfl) (o_nil ?_)
    refine k_cond rfl (fun h_1 => ?_) (fun h_1 => ?_)
    ·
      refine k_exit rfl ?_
      refine k_seq (k_seq (k_draw [true, true, true, true, true, true, true, true, true, true, true, true, false] 1 ?_ mixed (by kernel_rfl) rfl))
      refine d_val (i := 0) [] (ex_move rfl) ?_
      refine d_val (i := 1) [] (ex_move rfl) ?_
      refine d_val (i := 2) [] (ex_field (o := 0) 1 fa47_1 rfl rfl) ?_
      refine d_loadA (i := 3) Try.isAgg23 Try.sizeOf23 rfl ?_
      refine d_val (i := 4) [] (ex_callV Try.call73 rfl rfl (fun W hW => c73 y.tl y.th)) ?_
      refine d_val (i := 5) [] (ex_mul64 rfl rfl (by unfold I64; omega)) ?_
      refine d_val (i := 6) [] (ex_move rfl) ?_
      refine d_loadA (i := 7) Try.isAgg76 Try.sizeOf76 rfl ?_
      refine d_val (i := 8) [] (ex_call Try.call36 rfl (fun W hW => c36 b hb)) ?_
      refine d_val (i := 9) [] (ex_callV Try.call72 rfl rfl (fun W hW => c72 b.armLo b.armHi)) ?_
      refine d_val (i := 10) [] (ex_quoE rfl rfl (by omega) (by omega) (by unfold I64; omega)) ?_
      refine d_val (i := 11) [] (ex_add64 rfl rfl (by unfold I64; omega)) ?_
      refine d_rest ?_
      refine d_nil ?_
      refine r_one 12 (rs_val rfl (ex_assign rfl) ?_) (by kernel_rfl)
      refine r_nil ?_ (by kernel_rfl)
      refine k_ret ?_
      exact fin1 rfl rfl fun W hW => ⟨by simp_all [Bo.fLo, Bo.fHi, endF], hW.ext⟩
    ·
      refine k_skip ?_
      refine k_exit rfl ?_
      refine k_seq (k_draw [true, true, true, true, true, true, true, true, true, true, false] 1 ?_ mixed (by kernel_rfl) rfl)
      refine d_val (i := 0) [] (ex_move rfl) ?_
      refine d_val (i := 1) [] (ex_field (o := 0) 0 fa76_0 rfl rfl) ?_
      refine d_val (i := 2) [] (ex_field (o := 0) 9 fa25_6 rfl rfl) ?_
      refine d_loadA (i := 3) Try.isAgg23 Try.sizeOf23 rfl ?_
      refine d_val (i := 4) [] (ex_callV Try.call73 rfl rfl (fun W hW => c73 b.pl b.ph)) ?_
      refine d_val (i := 5) [] (ex_move rfl) ?_
      refine d_val (i := 6) [] (ex_field (o := 0) 5 fa47_3 rfl rfl) ?_
      refine d_loadA (i := 7) Try.isAgg23 Try.sizeOf23 rfl ?_
      refine d_val (i := 8) [] (ex_callV Try.call73 rfl rfl (fun W hW => c73 y.sl y.sh)) ?_
      refine d_val (i := 9) [] (ex_mul64 rfl rfl (by unfold I64; omega)) ?_
      refine d_rest ?_
      refine d_nil ?_
      refine r_one 10 (rs_val rfl (ex_assign rfl) ?_) (by kernel_rfl)
      refine r_nil ?_ (by kernel_rfl)
      refine k_ret ?_
      exact fin1 rfl rfl fun W hW => ⟨by have hk : y.kind = 3 := (by have := hy.k; simp only [decide_eq_false_iff_not] at h h_1; omega); simp [Bo.fLo, Bo.fHi, endF, hk], hW.ext⟩

-- == f46 (acme/bolt.kind).force params [76, 47] results [23] in [('cell', ['4', '23'])] ntmps 12 nfree 0
theorem c46 (b : Bo) (y : Wa) {w : World} (hb : b.Ok) (hy : y.Ok) : Calls Try.prog 46 [.agg [.int .i64 b.lead, .int .i64 b.thread, .int .i64 b.head, .int .i64 b.tl, .int .i64 b.th, .int .i64 b.hl, .int .i64 b.hh, .int .i64 b.sl, .int .i64 b.sh, .int .i64 b.pl, .int .i64 b.ph, .int .i64 b.yl, .int .i64 b.yh].toArray, .agg [.int .i64 y.kind, .int .i64 y.tl, .int .i64 y.th, .int .i64 y.al, .int .i64 y.ah, .int .i64 y.sl, .int .i64 y.sh].toArray].toArray w fun e w' => e = .returned (.agg [.int .i64 (b.fLo y), .int .i64 (b.fHi y)].toArray) ∧ Ext [] w w' := by
  refine fn_start Try.func46 rfl (N := 12) rfl ?_
  refine k_seq (k_region ?_)
  refine o_box rfl (fun b2 => ?_)
  refine o_box rfl (fun b3 => ?_)
  refine o_alloc Try.zeroValue23 (fun b4 => o_nil ?_)
  refine k_seq (k_draw [true, true, true, true, true, true, true, false] 1 ?_ mixed (by kernel_rfl) rfl)
  refine d_loadA (i := 0) Try.isAgg76 Try.sizeOf76 rfl ?_
  refine d_loadA (i := 1) Try.isAgg47 Try.sizeOf47 rfl ?_
  refine d_val (i := 2) [] (ex_call Try.call71 rfl (fun W hW => l71 b y hb hy)) ?_
  refine d_loadA (i := 3) Try.isAgg76 Try.sizeOf76 rfl ?_
  refine d_loadA (i := 4) Try.isAgg47 Try.sizeOf47 rfl ?_
  refine d_val (i := 5) [] (ex_call Try.call71 rfl (fun W hW => h71 b y hb hy)) ?_
  refine d_val (i := 6) [] (ex_build bf23 rfl) ?_
  refine d_rest ?_
  refine d_nil ?_
  refine r_one 7 (rs_store [6, 5, 0, 1, 2, 3, 4, 5, 6] rfl Try.sizeOf23 rfl rfl ?_) (by kernel_rfl)
  refine r_nil ?_ (by kernel_rfl)
  refine k_ret ?_
  exact finC rfl Try.isAgg23 Try.sizeOf23 rfl rfl fun W hW => ⟨rfl, hW.ext⟩

-- == f65 acme/bolt.isWay params [47] results [4] in [('tmp', ['2'])] ntmps 56 nfree 0
theorem c65 (y : Wa) {w : World} : Calls Try.prog 65 [.agg [.int .i64 y.kind, .int .i64 y.tl, .int .i64 y.th, .int .i64 y.al, .int .i64 y.ah, .int .i64 y.sl, .int .i64 y.sh].toArray].toArray w fun e w' => e = .returned (.bool y.chk) ∧ Ext [] w w' := by
  refine fn_start Try.func65 rfl (N := 56) rfl ?_
  refine k_seq (k_region ?_)
  refine o_box rfl (fun b1 => ?_)
  refine o_val (ex_assign rfl) (o_nil ?_)
  refine k_seq (k_region ?_)
  refine o_alloc Try.zeroValue23 (fun b3 => o_nil ?_)
  refine k_seq (k_seq (k_region ?_))
  refine o_val (ex_field (o := 0) 0 fa47_0 rfl rfl) ?_
  refine o_val (ex_load Try.isAgg45 rfl rfl) (o_nil ?_)
  refine k_block ?_
  refine k_seq (k_region ?_)
  refine o_val (ex_eql rfl rfl) ?_
  refine o_val (ex_assign rfl) (o_nil ?_)
  refine k_cond rfl (fun h => ?_) (fun h => ?_)
  ·
    refine k_seq (k_region ?_)
    refine o_val (ex_field (o := 0) 1 fa47_1 rfl rfl) ?_
    refine o_val (ex_loadA Try.isAgg23 Try.sizeOf23 rfl) ?_
    refine o_val (ex_call Try.call52 rfl (fun W hW => c52 y.tl y.th)) ?_
    refine o_val (ex_move rfl) ?_
    refine o_and 4 (c := (decide (y.al = 0) && decide (y.ah = 0))) (fun h => ?_) ?_
    · refine o_val_g (ex_field (o := 0) 3 fa47_2 rfl rfl) ?_
      refine o_val_g (ex_loadA Try.isAgg23 Try.sizeOf23 rfl) ?_
      refine o_val_g (ex_loadA Try.isAgg23 Try.sizeOf23 rfl) ?_
      exact o_val_g (ex_eql_23 rfl rfl) (o_nil (got rfl (.refl _)))
    refine o_val (ex_move rfl) ?_
    refine o_and 4 (c := (decide (y.sl = 0) && decide (y.sh = 0))) (fun h => ?_) ?_
    · refine o_val_g (ex_field (o := 0) 5 fa47_3 rfl rfl) ?_
      refine o_val_g (ex_loadA Try.isAgg23 Try.sizeOf23 rfl) ?_
      refine o_val_g (ex_loadA Try.isAgg23 Try.sizeOf23 rfl) ?_
      exact o_val_g (ex_eql_23 rfl rfl) (o_nil (got rfl (.refl _)))
    refine o_val (ex_assign rfl) (o_nil ?_)
    refine k_ret ?_
    exact fin1 rfl rfl fun W hW => ⟨by simp_all [Wa.chk, Bool.and_assoc], hW.ext⟩
  ·
    refine k_seq (k_region ?_)
    refine o_val (ex_eql rfl rfl) ?_
    refine o_val (ex_assign rfl) (o_nil ?_)
    refine k_cond rfl (fun h_1 => ?_) (fun h_1 => ?_)
    ·
      refine k_seq (k_region ?_)
      refine o_val (ex_field (o := 0) 1 fa47_1 rfl rfl) ?_
      refine o_val (ex_loadA Try.isAgg23 Try.sizeOf23 rfl) ?_
      refine o_val (ex_call Try.call52 rfl (fun W hW => c52 y.tl y.th)) ?_
      refine o_val (ex_move rfl) ?_
      refine o_and 3 (c := isSp y.al y.ah 0 100000) (fun h => ?_) ?_
      · refine o_val_g (ex_field (o := 0) 3 fa47_2 rfl rfl) ?_
        refine o_val_g (ex_loadA Try.isAgg23 Try.sizeOf23 rfl) ?_
        exact o_val_g (ex_call Try.call34 rfl (fun W hW => c34 y.al y.ah 0 100000)) (o_nil (got rfl (.refl _)))
      refine o_val (ex_move rfl) ?_
      refine o_and 4 (c := (decide (y.sl = 0) && decide (y.sh = 0))) (fun h => ?_) ?_
      · refine o_val_g (ex_field (o := 0) 5 fa47_3 rfl rfl) ?_
        refine o_val_g (ex_loadA Try.isAgg23 Try.sizeOf23 rfl) ?_
        refine o_val_g (ex_loadA Try.isAgg23 Try.sizeOf23 rfl) ?_
        exact o_val_g (ex_eql_23 rfl rfl) (o_nil (got rfl (.refl _)))
      refine o_val (ex_assign rfl) (o_nil ?_)
      refine k_ret ?_
      exact fin1 rfl rfl fun W hW => ⟨by simp_all [Wa.chk, Bool.and_assoc], hW.ext⟩
    ·
      refine k_seq (k_region ?_)
      refine o_val (ex_eql rfl rfl) ?_
      refine o_val (ex_assign rfl) (o_nil ?_)
      refine k_cond rfl (fun h_2 => ?_) (fun h_2 => ?_)
      ·
        refine k_seq (k_region ?_)
        refine o_val (ex_field (o := 0) 5 fa47_3 rfl rfl) ?_
        refine o_val (ex_loadA Try.isAgg23 Try.sizeOf23 rfl) ?_
        refine o_val (ex_call Try.call34 rfl (fun W hW => c34 y.sl y.sh 0 100000)) ?_
        refine o_val (ex_move rfl) ?_
        refine o_and 4 (c := (decide (y.tl = 0) && decide (y.th = 0))) (fun h => ?_) ?_
        · refine o_val_g (ex_field (o := 0) 1 fa47_1 rfl rfl) ?_
          refine o_val_g (ex_loadA Try.isAgg23 Try.sizeOf23 rfl) ?_
          refine o_val_g (ex_loadA Try.isAgg23 Try.sizeOf23 rfl) ?_
          exact o_val_g (ex_eql_23 rfl rfl) (o_nil (got rfl (.refl _)))
        refine o_val (ex_move rfl) ?_
        refine o_and 4 (c := (decide (y.al = 0) && decide (y.ah = 0))) (fun h => ?_) ?_
        · refine o_val_g (ex_field (o := 0) 3 fa47_2 rfl rfl) ?_
          refine o_val_g (ex_loadA Try.isAgg23 Try.sizeOf23 rfl) ?_
          refine o_val_g (ex_loadA Try.isAgg23 Try.sizeOf23 rfl) ?_
          exact o_val_g (ex_eql_23 rfl rfl) (o_nil (got rfl (.refl _)))
        refine o_val (ex_assign rfl) (o_nil ?_)
        refine k_ret ?_
        exact fin1 rfl rfl fun W hW => ⟨by simp_all [Wa.chk, Bool.and_assoc], hW.ext⟩
      ·
        refine k_skip ?_
        refine k_seq (k_region ?_)
        refine o_val (ex_assign rfl) (o_nil ?_)
        refine k_ret ?_
        exact fin1 rfl rfl fun W hW => ⟨by simp_all [Wa.chk], hW.ext⟩

-- == f64 acme/bolt.open$1 params [47] results [4] in [('tmp', ['2'])] ntmps 6 nfree 0
theorem c64 (y : Wa) {w : World} : Calls Try.prog 64 [.agg [.int .i64 y.kind, .int .i64 y.tl, .int .i64 y.th, .int .i64 y.al, .int .i64 y.ah, .int .i64 y.sl, .int .i64 y.sh].toArray].toArray w fun e w' => e = .returned (.bool (!y.chk)) ∧ Ext [] w w' := by
  refine fn_start Try.func64 rfl (N := 6) rfl ?_
  refine k_seq (k_region ?_)
  refine o_box rfl (fun b1 => ?_)
  refine o_val (ex_assign rfl) (o_nil ?_)
  refine k_seq (k_region ?_)
  refine o_val (ex_loadA Try.isAgg47 Try.sizeOf47 rfl) ?_
  refine o_val (ex_call Try.call65 rfl (fun W hW => c65 y)) ?_
  refine o_val (ex_not rfl) ?_
  refine o_val (ex_assign rfl) (o_nil ?_)
  refine k_ret ?_
  exact fin1 rfl rfl fun W hW => ⟨rfl, hW.ext⟩

def Wa.cells (y : Wa) : List Value := [Value.int .i64 y.kind, Value.int .i64 y.tl, Value.int .i64 y.th, Value.int .i64 y.al, Value.int .i64 y.ah, Value.int .i64 y.sl, Value.int .i64 y.sh]

/-- Ways in a row. -/
def WaysAt (w : World) (A : Option Addr) (l : List Wa) : Prop := ∀ k (h : k < l.length), ∃ a, A = some a ∧ ∀ j v, (l[k].cells)[j]? = some v → w.cell? ((a.add (k * 7)).add j) = some v

theorem ways_ext {w W : World} {A : Option Addr} {l : List Wa} (h : WaysAt w A l) (k : Ext [] w W) : WaysAt W A l := fun i hi => by
  obtain ⟨a, e, h1⟩ := h i hi
  exact ⟨a, e, fun j v hj => by
    obtain ⟨a', e', h2⟩ := row_ext (w := w) (W := W) (A := some (a.add (i * 7))) (cs := l[i].cells) (fun j v hj => ⟨_, rfl, h1 j v hj⟩) k j v hj
    cases e'
    exact h2⟩

theorem ways_none (w : World) (A : Option Addr) : WaysAt w A [] := fun k h => by cases h

theorem ways_one {w0 : World} {M : List Nat} {H : Hp} {W : World} (hW : Sat w0 M H W) (b : Nat) (y : Wa) {t : TypeId} {own : Bool} [he : HasE H b t y.cells own] : WaysAt W (some ⟨b, 0, none⟩) [y] := fun k h => by
  have : k = 0 := by simpa using h
  subst this
  refine ⟨_, rfl, fun j v hj => ?_⟩
  rw [add_lit, add_lit, cell_of (hW.cells he)]
  simpa using hj

def openE (b : Bo) (l : List Wa) : Int := if b.chk then (if l.any (fun y => !y.chk) then 2 else 0) else 2

-- == f80 slices.IndexFunc[[]acme/api.BoltWay,acme/api.BoltWay] params [41, 48] results [3] in [('tmp', ['4'])] ntmps 19 nfree 0
theorem c80 {g : Nat} {cap : List Value} (p : Wa → Bool) (l : List Wa) {A : Option Addr} {c : Nat} {w : World} (hl : l.length < 4611686018427387904) (hcall : ∀ vs W, (callFunc g vs).run Try.prog W = .ok (.enter g vs) W) (hrow : WaysAt w A l)
    (hg : ∀ y : Wa, y ∈ l → ∀ W, Ext [] w W → Calls Try.prog g ([Value.agg y.cells.toArray] ++ cap).toArray W (fun e W' => e = .returned (.bool (p y)) ∧ Ext [] W W')) : Calls Try.prog 80 [.slice A l.length c, .func (.func g) [].toArray cap.toArray].toArray w fun e w' => e = .returned (.int .i64 (idxOf p l)) ∧ Ext [] w w' := by
  refine fn_start Try.func80 rfl (N := 19) rfl ?_
  refine k_seq (k_region ?_)
  refine o_val (ex_assign rfl) (o_nil ?_)
  refine k_seq (k_seq (k_region ?_))
  refine o_val (ex_move rfl) ?_
  refine o_val (ex_len Try.runUnderlying41 rfl) ?_
  refine o_val (ex_move rfl) (o_nil ?_)
  refine k_block ?_
  refine k_loop (ι := Nat) (fun k => [(0, .slice A l.length c), (1, .func (.func g) [].toArray cap.toArray), (7, .int .i64 l.length), (8, .int .i64 k)]) (fun k => []) (fun k => k ≤ l.length ∧ (l.take k).any p = false) (fun k => l.length - k) 0 ⟨Nat.zero_le _, rfl⟩ (Sub.cons rfl (Sub.cons rfl (Sub.cons rfl (Sub.cons rfl (Sub.nil _))))) SubE.sub (fun k hk => ?_)
  refine k_seq (k_region ?_)
  refine o_val (ex_lss rfl rfl) (o_nil ?_)
  refine k_seq (k_cond rfl (fun h => ?_) (fun h => ?_))
  ·
    obtain ⟨hk, hno⟩ := hk
    have hlt : k < l.length := by simpa using h
    obtain ⟨a, hA, hc⟩ := hrow k hlt
    subst hA
    refine k_skip ?_
    refine k_seq (k_block ?_)
    refine k_seq (k_region ?_)
    refine o_val (ex_move rfl) ?_
    refine o_val (ex_assign rfl) (o_nil ?_)
    refine k_seq (k_region ?_)
    refine o_val (ex_move rfl) ?_
    refine o_val (ex_move rfl) ?_
    refine o_val (ex_move rfl) ?_
    refine o_val (ex_index_old Try.runUnderlying41 Try.sizeOf47 rfl rfl (by omega) (by omega)) ?_
    refine o_val (ex_loadA_old Try.isAgg47 Try.sizeOf47 rfl rfl (vs := l[k].cells) hc (by simp)) ?_
    refine o_val (ex_callV hcall rfl rfl (fun W hW => (hg _ (List.getElem_mem hlt) W hW.ext))) (o_nil ?_)
    refine k_cond rfl (fun h_1 => ?_) (fun h_1 => ?_)
    ·
      refine k_seq (k_region ?_)
      refine o_val (ex_move rfl) ?_
      refine o_val (ex_assign rfl) (o_nil ?_)
      refine k_ret ?_
      exact fin1 rfl rfl fun W hW => ⟨by rw [idxOf_at p l k hlt hno h_1], hW.ext⟩
    ·
      refine k_skip ?_
      refine k_region ?_
      refine o_val (ex_add64 rfl rfl (by unfold I64; omega)) ?_
      refine o_val (ex_move rfl) (o_nil ?_)
      exact k_some (k + 1) ⟨⟨by omega, any_take_succ p l k hlt hno h_1⟩, by omega⟩ (Sub.cons rfl (Sub.cons rfl (Sub.cons rfl (Sub.cons rfl (Sub.nil _))))) SubE.sub
  ·
    obtain ⟨hk, hno⟩ := hk
    have hge : ¬ k < l.length := by simpa using h
    rw [List.take_of_length_le (by omega)] at hno
    refine k_exit rfl ?_
    refine k_seq (k_region ?_)
    refine o_val (ex_assign rfl) (o_nil ?_)
    refine k_ret ?_
    exact fin1 rfl rfl fun W hW => ⟨by rw [idxOf_none p l hno], hW.ext⟩

-- == f63 slices.ContainsFunc[[]acme/api.BoltWay,acme/api.BoltWay] params [41, 48] results [4] in [('tmp', ['4'])] ntmps 9 nfree 0
theorem c63 {g : Nat} {cap : List Value} (p : Wa → Bool) (l : List Wa) {A : Option Addr} {c : Nat} {w : World} (hl : l.length < 4611686018427387904) (hcall : ∀ vs W, (callFunc g vs).run Try.prog W = .ok (.enter g vs) W) (hrow : WaysAt w A l)
    (hg : ∀ y : Wa, y ∈ l → ∀ W, Ext [] w W → Calls Try.prog g ([Value.agg y.cells.toArray] ++ cap).toArray W (fun e W' => e = .returned (.bool (p y)) ∧ Ext [] W W')) : Calls Try.prog 63 [.slice A l.length c, .func (.func g) [].toArray cap.toArray].toArray w fun e w' => e = .returned (.bool (l.any p)) ∧ Ext [] w w' := by
  refine fn_start Try.func63 rfl (N := 9) rfl ?_
  refine k_seq (k_region ?_)
  refine o_val (ex_assign rfl) (o_nil ?_)
  refine k_seq (k_region ?_)
  refine o_val (ex_move rfl) ?_
  refine o_val (ex_move rfl) ?_
  refine o_val (ex_call Try.call80 rfl (fun W hW => c80 p l hl hcall (ways_ext hrow hW.ext) (fun y hy W1 h1 => hg y hy W1 (hW.ext.trans0 h1)))) ?_
  refine o_val (ex_geq rfl rfl) ?_
  refine o_val (ex_assign rfl) (o_nil ?_)
  refine k_ret ?_
  exact fin1 rfl rfl fun W hW => ⟨by rw [idxOf_any], hW.ext⟩

-- == f62 acme/bolt.Check params [25] results [29] in [('tmp', ['2'])] ntmps 47 nfree 0
theorem c62 (b : Bo) {w : World} : Calls Try.prog 62 [.agg [.int .i64 b.lead, .int .i64 b.thread, .int .i64 b.head, .int .i64 b.tl, .int .i64 b.th, .int .i64 b.hl, .int .i64 b.hh, .int .i64 b.sl, .int .i64 b.sh, .int .i64 b.pl, .int .i64 b.ph, .int .i64 b.yl, .int .i64 b.yh].toArray].toArray w fun e w' => e = .returned (.int .i64 (if b.chk then 0 else 2)) ∧ Ext [] w w' := by
  refine fn_start Try.func62 rfl (N := 47) rfl ?_
  refine k_seq (k_region ?_)
  refine o_box rfl (fun b1 => ?_)
  refine o_val (ex_assign rfl) (o_nil ?_)
  refine k_seq (k_seq (k_region ?_))
  refine o_val (ex_field (o := 0) 0 fa25_0 rfl rfl) ?_
  refine o_val (ex_load Try.isAgg3 rfl rfl) ?_
  refine o_buildSlice [.int .i64 0] [(0, 1)] Try.runUnderlying42 Try.sizeOf3 Try.zeroValue3 rfl (fun b7 => ?_)
  refine o_val (ex_call Try.call29 rfl (fun W hW => (by exact c29 1 100000 [b.lead] (by simp) (row_ints hW b7)))) ?_
  refine o_val (ex_not rfl) ?_
  refine o_val (ex_move rfl) ?_
  refine o_or 7 (c := !wi 0 100000 [b.thread, b.head]) (fun h => ?_) (o_nil ?_)
  · refine o_val_g (ex_field (o := 0) 1 fa25_1 rfl rfl) ?_
    refine o_val_g (ex_load Try.isAgg3 rfl rfl) ?_
    refine o_val_g (ex_field (o := 0) 2 fa25_2 rfl rfl) ?_
    refine o_val_g (ex_load Try.isAgg3 rfl rfl) ?_
    refine o_buildSlice_g [.int .i64 0, .int .i64 0] [(0, 1), (1, 1)] Try.runUnderlying42 Try.sizeOf3 Try.zeroValue3 rfl (fun b15 => ?_)
    refine o_val_g (ex_call Try.call29 rfl (fun W hW => (by exact c29 0 100000 [b.thread, b.head] (by simp) (row_ints hW b15)))) ?_
    exact o_val_g (ex_not rfl) (o_nil (got rfl (.cons _ (.refl _))))
  refine k_cond rfl (fun h => ?_) (fun h => ?_)
  ·
    refine k_seq (k_region ?_)
    refine o_val (ex_assign rfl) (o_nil ?_)
    refine k_ret ?_
    exact fin1 rfl rfl fun W hW => ⟨by rw [if_neg (by intro hc; simp_all [Bo.chk])], hW.ext⟩
  ·
    refine k_skip ?_
    refine k_seq (k_seq (k_region ?_))
    refine o_val (ex_field (o := 0) 3 fa25_3 rfl rfl) ?_
    refine o_val (ex_loadA Try.isAgg23 Try.sizeOf23 rfl) ?_
    refine o_val (ex_field (o := 0) 5 fa25_4 rfl rfl) ?_
    refine o_val (ex_loadA Try.isAgg23 Try.sizeOf23 rfl) ?_
    refine o_val (ex_build bf126 rfl) ?_
    refine o_val (ex_move rfl) (o_nil ?_)
    refine k_block ?_
    refine k_loop (ι := Nat) (fun k => [(1, .pointer (some ⟨b1, 0, none⟩)), (23, .agg [.int .i64 b.tl, .int .i64 b.th, .int .i64 b.hl, .int .i64 b.hh].toArray), (24, .int .i64 k)]) (fun k => [⟨b7, 3, [.int .i64 b.lead], true⟩, ⟨b1, 25, [.int .i64 b.lead, .int .i64 b.thread, .int .i64 b.head, .int .i64 b.tl, .int .i64 b.th, .int .i64 b.hl, .int .i64 b.hh, .int .i64 b.sl, .int .i64 b.sh, .int .i64 b.pl, .int .i64 b.ph, .int .i64 b.yl, .int .i64 b.yh], true⟩]) (fun k => k ≤ 2 ∧ (1 ≤ k → isSp b.tl b.th 0 1000 = true) ∧ (2 ≤ k → isSp b.hl b.hh 0 1000 = true)) (fun k => 2 - k) 0 ⟨by omega, by omega, by omega⟩ (Sub.cons rfl (Sub.cons rfl (Sub.cons rfl (Sub.nil _)))) SubE.sub (fun k hk => ?_)
    obtain ⟨hk, hk1, hk2⟩ := hk
    refine k_seq (k_region ?_)
    refine o_val (ex_lss rfl rfl) (o_nil ?_)
    refine k_seq (k_cond rfl (fun h_1 => ?_) (fun h_1 => ?_))
    ·
      have hk01 : k = 0 ∨ k = 1 := by simp at h_1; omega
      refine k_skip ?_
      refine k_seq (k_block ?_)
      refine k_seq (k_region ?_)
      refine o_val (ex_indexValA Try.runUnderlying126 Try.sizeOf23 Try.isAgg23 rfl rfl (by omega) (by omega) (show _ = [.int .i64 (if k = 0 then b.tl else b.hl), .int .i64 (if k = 0 then b.th else b.hh)] from by rcases hk01 with rfl | rfl <;> rfl)) ?_
      refine o_alloc Try.zeroValue23 (fun b4 => ?_)
      refine o_store Try.sizeOf23 rfl rfl (o_nil ?_)
      refine k_seq (k_region ?_)
      refine o_val (ex_loadA Try.isAgg23 Try.sizeOf23 rfl) ?_
      refine o_val (ex_call Try.call34 rfl (fun W hW => c34 (if k = 0 then b.tl else b.hl) (if k = 0 then b.th else b.hh) 0 1000)) ?_
      refine o_val (ex_not rfl) (o_nil ?_)
      refine k_cond rfl (fun h_2 => ?_) (fun h_2 => ?_)
      ·
        refine k_seq (k_region ?_)
        refine o_val (ex_assign rfl) (o_nil ?_)
        refine k_ret ?_
        exact fin1 rfl rfl fun W hW => ⟨by rw [if_neg (by intro hc; rcases hk01 with rfl | rfl <;> simp_all [Bo.chk])], hW.ext⟩
      ·
        refine k_skip ?_
        refine k_region ?_
        refine o_val (ex_add64 rfl rfl (by unfold I64; omega)) ?_
        refine o_val (ex_move rfl) (o_nil ?_)
        exact k_some (k + 1) ⟨⟨by omega, by intro _; rcases hk01 with rfl | rfl <;> simp_all, by intro _; rcases hk01 with rfl | rfl <;> simp_all⟩, by omega⟩ (Sub.cons rfl (Sub.cons rfl (Sub.cons rfl (Sub.nil _)))) SubE.sub
    ·
      have hk : k = 2 := by simp at h_1; omega
      subst hk
      have g1 := hk1 (by omega)
      have g2 := hk2 (by omega)
      refine k_exit rfl ?_
      refine k_seq (k_seq (k_region ?_))
      refine o_val (ex_field (o := 0) 7 fa25_5 rfl rfl) ?_
      refine o_val (ex_loadA Try.isAgg23 Try.sizeOf23 rfl) ?_
      refine o_val (ex_call Try.call34 rfl (fun W hW => c34 b.sl b.sh 1 100000000)) ?_
      refine o_val (ex_not rfl) ?_
      refine o_val (ex_move rfl) ?_
      refine o_or 4 (c := !isSp b.pl b.ph 1 100000) (fun h => ?_) ?_
      · refine o_val_g (ex_field (o := 0) 9 fa25_6 rfl rfl) ?_
        refine o_val_g (ex_loadA Try.isAgg23 Try.sizeOf23 rfl) ?_
        refine o_val_g (ex_call Try.call34 rfl (fun W hW => c34 b.pl b.ph 1 100000)) ?_
        exact o_val_g (ex_not rfl) (o_nil (got rfl (.refl _)))
      refine o_val (ex_move rfl) ?_
      refine o_or 4 (c := !isSp b.yl b.yh 1 100000000) (fun h => ?_) (o_nil ?_)
      · refine o_val_g (ex_field (o := 0) 11 fa25_7 rfl rfl) ?_
        refine o_val_g (ex_loadA Try.isAgg23 Try.sizeOf23 rfl) ?_
        refine o_val_g (ex_call Try.call34 rfl (fun W hW => c34 b.yl b.yh 1 100000000)) ?_
        exact o_val_g (ex_not rfl) (o_nil (got rfl (.refl _)))
      refine k_cond rfl (fun h_2 => ?_) (fun h_2 => ?_)
      ·
        refine k_seq (k_region ?_)
        refine o_val (ex_assign rfl) (o_nil ?_)
        refine k_ret ?_
        exact fin1 rfl rfl fun W hW => ⟨by rw [if_neg (by intro hc; simp_all [Bo.chk])], hW.ext⟩
      ·
        refine k_skip ?_
        refine k_seq (k_region ?_)
        refine o_val (ex_assign rfl) (o_nil ?_)
        refine k_ret ?_
        exact fin1 rfl rfl fun W hW => ⟨by rw [if_pos (by simp_all [Bo.chk])], hW.ext⟩

-- == f28 acme/bolt.open params [25, 41] results [76, 29] in [('cell', ['4', '76']), ('tmp', ['5'])] ntmps 18 nfree 0
theorem c28 (b : Bo) (l : List Wa) {A : Option Addr} {c : Nat} {w : World} (hl : l.length < 4611686018427387904) (hrow : WaysAt w A l) : Calls Try.prog 28 [.agg [.int .i64 b.lead, .int .i64 b.thread, .int .i64 b.head, .int .i64 b.tl, .int .i64 b.th, .int .i64 b.hl, .int .i64 b.hh, .int .i64 b.sl, .int .i64 b.sh, .int .i64 b.pl, .int .i64 b.ph, .int .i64 b.yl, .int .i64 b.yh].toArray, .slice A l.length c].toArray w fun e w' => e = .returned (.tuple #[.agg [.int .i64 b.lead, .int .i64 b.thread, .int .i64 b.head, .int .i64 b.tl, .int .i64 b.th, .int .i64 b.hl, .int .i64 b.hh, .int .i64 b.sl, .int .i64 b.sh, .int .i64 b.pl, .int .i64 b.ph, .int .i64 b.yl, .int .i64 b.yh].toArray, .int .i64 (openE b l)]) ∧ Ext [] w w' := by
  refine fn_start Try.func28 rfl (N := 18) rfl ?_
  refine k_seq (k_region ?_)
  refine o_box rfl (fun b2 => ?_)
  refine o_alloc Try.zeroValue76 (fun b4 => ?_)
  refine o_val (ex_assign rfl) (o_nil ?_)
  refine k_seq (k_region ?_)
  refine o_val (ex_loadA Try.isAgg25 Try.sizeOf25 rfl) ?_
  refine o_val (ex_call Try.call62 rfl (fun W hW => c62 b)) ?_
  refine o_val (ex_assign rfl) (o_nil ?_)
  refine k_seq (k_seq (k_region ?_))
  refine o_val (ex_move rfl) ?_
  refine o_val (ex_eql rfl rfl) ?_
  refine o_val (ex_move rfl) ?_
  refine o_and 2 (c := l.any (fun y => !y.chk)) (fun h => ?_) (o_nil ?_)
  · refine o_val_g (ex_move rfl) ?_
    exact o_val_g (ex_call Try.call63 rfl (fun W hW => c63 (g := 64) (cap := []) (fun y => !y.chk) l hl Try.call64 (ways_ext hrow hW.ext) (fun y _ W1 _ => c64 y))) (o_nil (got rfl (.refl _)))
  refine k_cut (ι := Unit) (fun _ => [(2, .pointer (some ⟨b2, 0, none⟩)), (4, .pointer (some ⟨b4, 0, none⟩)), (6, .int .i64 (openE b l))]) (fun _ => [⟨b4, 76, [.int .i64 0, .int .i64 0, .int .i64 0, .int .i64 0, .int .i64 0, .int .i64 0, .int .i64 0, .int .i64 0, .int .i64 0, .int .i64 0, .int .i64 0, .int .i64 0, .int .i64 0], true⟩, ⟨b2, 25, [.int .i64 b.lead, .int .i64 b.thread, .int .i64 b.head, .int .i64 b.tl, .int .i64 b.th, .int .i64 b.hl, .int .i64 b.hh, .int .i64 b.sl, .int .i64 b.sh, .int .i64 b.pl, .int .i64 b.ph, .int .i64 b.yl, .int .i64 b.yh], true⟩]) (fun _ => True) ?_ (fun _ _ => ?_)
  · refine k_cond rfl (fun h => ?_) (fun h => ?_)
    ·
      refine k_region ?_
      refine o_val (ex_assign rfl) (o_nil ?_)
      exact k_some () trivial (Sub.cons rfl (Sub.cons rfl (Sub.cons' rfl (by rw [Bool.and_eq_true, decide_eq_true_eq] at h; unfold openE; simp [h.2]) (Sub.nil _)))) SubE.sub
    ·
      refine k_skip ?_
      exact k_some () trivial (Sub.cons rfl (Sub.cons rfl (Sub.cons' rfl (by unfold openE; by_cases hb : b.chk = true <;> simp_all) (Sub.nil _)))) SubE.sub
  refine k_seq (k_region ?_)
  refine o_val (ex_loadA Try.isAgg25 Try.sizeOf25 rfl) ?_
  refine o_val (ex_build bf76 rfl) ?_
  refine o_val (ex_move rfl) ?_
  refine o_store Try.sizeOf76 rfl rfl ?_
  refine o_val (ex_assign rfl) (o_nil ?_)
  refine k_ret ?_
  exact finC1 rfl Try.isAgg76 Try.sizeOf76 rfl rfl rfl fun W hW => ⟨rfl, hW.ext⟩

theorem notF {x : Bool} (h : (!x) = true) : x = false := by simpa using h

theorem notT {x : Bool} (h : (!x) = true) : ¬ x = true := by simpa using h

theorem isSp_iff {lo hi least most : Int} : isSp lo hi least most = true ↔ lo ≤ hi ∧ least ≤ lo ∧ hi ≤ most := by unfold isSp; simp

theorem upq_bounds {n d K : Int} (hd : 1 ≤ d) (h0 : -K ≤ n) (h1 : n ≤ K) (hK : 0 ≤ K) : -K ≤ upq n d ∧ upq n d ≤ K := by
  have := div_bounds (n := -n) (K := K) hd (by omega) (by omega) hK
  unfold upq; omega

theorem openE_ok {b : Bo} {l : List Wa} (h : openE b l = 0) : b.Ok ∧ ∀ y, y ∈ l → y.chk = true := by
  unfold openE at h
  by_cases hb : b.chk = true
  · rw [if_pos hb] at h
    refine ⟨b.chk_iff.1 hb, fun y hy => ?_⟩
    by_cases ha : l.any (fun y => !y.chk) = true
    · rw [if_pos ha] at h; omega
    · simp only [List.any_eq_true, Bool.not_eq_true', not_exists, not_and, Bool.not_eq_false] at ha
      exact ha y hy
  · rw [if_neg hb] at h; omega

def Bo.rLo (b : Bo) (lo wl : Int) : Int := if 0 < upq (lo * b.armHi) 1000 then max 0 (upq (lo * b.armHi) 1000 - wl) else 0
def Bo.rHi (b : Bo) (hi wh : Int) : Int := min 10000000000000 (upq ((min hi b.yl + 1) * b.armLo) 1000 - 1 - wh)
def Bo.rightE (b : Bo) (lo hi wl wh : Int) : Int :=
  if openE b [] = 0 then (if isSp lo hi 0 100000000 && isSp wl wh (-10000000000000) 10000000000000 then (if b.rHi hi wh < b.rLo lo wl then 9 else 0) else 3) else openE b []

-- == f27 acme/bolt.Force params [25, 47] results [23, 29] in [('cell', ['4', '23']), ('tmp', ['5'])] ntmps 21 nfree 0
theorem c27 (b : Bo) (y : Wa) {w : World} : Calls Try.prog 27 [.agg [.int .i64 b.lead, .int .i64 b.thread, .int .i64 b.head, .int .i64 b.tl, .int .i64 b.th, .int .i64 b.hl, .int .i64 b.hh, .int .i64 b.sl, .int .i64 b.sh, .int .i64 b.pl, .int .i64 b.ph, .int .i64 b.yl, .int .i64 b.yh].toArray, .agg [.int .i64 y.kind, .int .i64 y.tl, .int .i64 y.th, .int .i64 y.al, .int .i64 y.ah, .int .i64 y.sl, .int .i64 y.sh].toArray].toArray w fun e w' => e = .returned (.tuple #[.agg [.int .i64 (if openE b [y] = 0 then b.fLo y else 0), .int .i64 (if openE b [y] = 0 then b.fHi y else 0)].toArray, .int .i64 (openE b [y])]) ∧ Ext [] w w' := by
  refine fn_start Try.func27 rfl (N := 21) rfl ?_
  refine k_seq (k_region ?_)
  refine o_box rfl (fun b2 => ?_)
  refine o_box rfl (fun b3 => ?_)
  refine o_alloc Try.zeroValue23 (fun b4 => ?_)
  refine o_val (ex_assign rfl) (o_nil ?_)
  refine k_seq (k_region ?_)
  refine o_val (ex_loadA Try.isAgg25 Try.sizeOf25 rfl) ?_
  refine o_val (ex_loadA Try.isAgg47 Try.sizeOf47 rfl) ?_
  refine o_buildSlice [.int .i64 0, .int .i64 0, .int .i64 0, .int .i64 0, .int .i64 0, .int .i64 0, .int .i64 0] [(0, 7)] Try.runUnderlying41 Try.sizeOf47 Try.zeroValue47 rfl (fun b10 => ?_)
  refine o_val (ex_call Try.call28 rfl (fun W hW => (by exact c28 b [y] (by simp) (ways_one hW b10 y)))) ?_
  refine o_val (ex_move rfl) ?_
  refine o_val (ex_extract rfl rfl) ?_
  refine o_val (ex_extract rfl rfl) ?_
  refine o_alloc Try.zeroValue76 (fun b6 => ?_)
  refine o_store Try.sizeOf76 rfl rfl ?_
  refine o_val (ex_assign rfl) (o_nil ?_)
  refine k_seq (k_seq (k_region ?_))
  refine o_val (ex_move rfl) ?_
  refine o_val (ex_neq rfl rfl) (o_nil ?_)
  refine k_cond rfl (fun h => ?_) (fun h => ?_)
  ·
    refine k_seq (k_region ?_)
    refine o_val (ex_loadA Try.isAgg23 Try.sizeOf23 rfl) ?_
    refine o_val (ex_move rfl) ?_
    refine o_store Try.sizeOf23 rfl rfl ?_
    refine o_val (ex_assign rfl) (o_nil ?_)
    refine k_ret ?_
    exact finC1 rfl Try.isAgg23 Try.sizeOf23 rfl rfl rfl fun W hW => ⟨by simp_all, hW.ext⟩
  ·
    have he : openE b [y] = 0 := by simpa using h
    have hk := openE_ok he
    refine k_skip ?_
    refine k_seq (k_region ?_)
    refine o_val (ex_loadA Try.isAgg76 Try.sizeOf76 rfl) ?_
    refine o_val (ex_loadA Try.isAgg47 Try.sizeOf47 rfl) ?_
    refine o_val (ex_call Try.call46 rfl (fun W hW => c46 b y hk.1 (Wa.chk_ok (hk.2 y (by simp))))) ?_
    refine o_store Try.sizeOf23 rfl rfl ?_
    refine o_val (ex_assign rfl) (o_nil ?_)
    refine k_ret ?_
    exact finC1 rfl Try.isAgg23 Try.sizeOf23 rfl rfl rfl fun W hW => ⟨by simp [he], hW.ext⟩

-- == f8 acme/bolt.Right params [25, 23, 23] results [23, 29] in [('cell', ['6', '23']), ('tmp', ['7'])] ntmps 71 nfree 0
theorem c8 (b : Bo) (lo hi wl wh : Int) {w : World} : Calls Try.prog 8 [.agg [.int .i64 b.lead, .int .i64 b.thread, .int .i64 b.head, .int .i64 b.tl, .int .i64 b.th, .int .i64 b.hl, .int .i64 b.hh, .int .i64 b.sl, .int .i64 b.sh, .int .i64 b.pl, .int .i64 b.ph, .int .i64 b.yl, .int .i64 b.yh].toArray, .agg [.int .i64 lo, .int .i64 hi].toArray, .agg [.int .i64 wl, .int .i64 wh].toArray].toArray w fun e w' => e = .returned (.tuple #[.agg [.int .i64 (if b.rightE lo hi wl wh = 0 then b.rLo lo wl else 0), .int .i64 (if b.rightE lo hi wl wh = 0 then b.rHi hi wh else 0)].toArray, .int .i64 (b.rightE lo hi wl wh)]) ∧ Ext [] w w' := by
  refine fn_start Try.func8 rfl (N := 71) rfl ?_
  refine k_seq (k_region ?_)
  refine o_box rfl (fun b3 => ?_)
  refine o_box rfl (fun b4 => ?_)
  refine o_box rfl (fun b5 => ?_)
  refine o_alloc Try.zeroValue23 (fun b6 => ?_)
  refine o_val (ex_assign rfl) (o_nil ?_)
  refine k_seq (k_region ?_)
  refine o_val (ex_loadA Try.isAgg25 Try.sizeOf25 rfl) ?_
  refine o_val (ex_call Try.call28 rfl (fun W hW => (by exact c28 b [] (by simp) (ways_none _ _)))) ?_
  refine o_val (ex_move rfl) ?_
  refine o_val (ex_extract rfl rfl) ?_
  refine o_val (ex_extract rfl rfl) ?_
  refine o_alloc Try.zeroValue76 (fun b8 => ?_)
  refine o_store Try.sizeOf76 rfl rfl ?_
  refine o_val (ex_assign rfl) (o_nil ?_)
  refine k_seq (k_block ?_)
  refine k_seq (k_region ?_)
  refine o_val (ex_move rfl) ?_
  refine o_val (ex_neq rfl rfl) ?_
  refine o_val (ex_assign rfl) (o_nil ?_)
  refine k_cond rfl (fun h => ?_) (fun h => ?_)
  ·
    refine k_seq (k_region ?_)
    refine o_val (ex_loadA Try.isAgg23 Try.sizeOf23 rfl) ?_
    refine o_val (ex_move rfl) ?_
    refine o_store Try.sizeOf23 rfl rfl ?_
    refine o_val (ex_assign rfl) (o_nil ?_)
    refine k_ret ?_
    exact finC1 rfl Try.isAgg23 Try.sizeOf23 rfl rfl rfl fun W hW => ⟨by have he : ¬ openE b [] = 0 := (by simpa using h); have hr : b.rightE lo hi wl wh = openE b [] := (by unfold Bo.rightE; rw [if_neg he]); rw [hr, if_neg he, if_neg he], hW.ext⟩
  ·
    have he : openE b [] = 0 := by simpa using h
    have hb := (openE_ok he).1
    refine k_seq (k_seq (k_region ?_))
    refine o_val (ex_loadA Try.isAgg23 Try.sizeOf23 rfl) ?_
    refine o_val (ex_call Try.call33 rfl (fun W hW => c33 lo hi)) ?_
    refine o_val (ex_not rfl) ?_
    refine o_val (ex_assign rfl) (o_nil ?_)
    refine k_cut (ι := Unit) (fun _ => [(4, .pointer (some ⟨b4, 0, none⟩)), (5, .pointer (some ⟨b5, 0, none⟩)), (6, .pointer (some ⟨b6, 0, none⟩)), (8, .pointer (some ⟨b8, 0, none⟩)), (23, .bool (!(isSp lo hi 0 100000000 && isSp wl wh (-10000000000000) 10000000000000)))]) (fun _ => [⟨b8, 76, [.int .i64 b.lead, .int .i64 b.thread, .int .i64 b.head, .int .i64 b.tl, .int .i64 b.th, .int .i64 b.hl, .int .i64 b.hh, .int .i64 b.sl, .int .i64 b.sh, .int .i64 b.pl, .int .i64 b.ph, .int .i64 b.yl, .int .i64 b.yh], true⟩, ⟨b6, 23, [.int .i64 0, .int .i64 0], true⟩, ⟨b5, 23, [.int .i64 wl, .int .i64 wh], true⟩, ⟨b4, 23, [.int .i64 lo, .int .i64 hi], true⟩, ⟨b3, 25, [.int .i64 b.lead, .int .i64 b.thread, .int .i64 b.head, .int .i64 b.tl, .int .i64 b.th, .int .i64 b.hl, .int .i64 b.hh, .int .i64 b.sl, .int .i64 b.sh, .int .i64 b.pl, .int .i64 b.ph, .int .i64 b.yl, .int .i64 b.yh], true⟩]) (fun _ => True) ?_ (fun _ _ => ?_)
    · refine k_cond rfl (fun h_1 => ?_) (fun h_1 => ?_)
      ·
        refine k_skip ?_
        exact k_some () trivial (Sub.cons rfl (Sub.cons rfl (Sub.cons rfl (Sub.cons rfl (Sub.cons' rfl (by simp_all) (Sub.nil _)))))) SubE.sub
      ·
        refine k_region ?_
        refine o_val (ex_loadA Try.isAgg23 Try.sizeOf23 rfl) ?_
        refine o_val (ex_call Try.call34 rfl (fun W hW => c34 wl wh (-10000000000000) 10000000000000)) ?_
        refine o_val (ex_not rfl) ?_
        refine o_val (ex_assign rfl) (o_nil ?_)
        exact k_some () trivial (Sub.cons rfl (Sub.cons rfl (Sub.cons rfl (Sub.cons rfl (Sub.cons' rfl (by simp_all) (Sub.nil _)))))) SubE.sub
    refine k_cond rfl (fun h_1 => ?_) (fun h_1 => ?_)
    ·
      refine k_seq (k_region ?_)
      refine o_val (ex_loadA Try.isAgg23 Try.sizeOf23 rfl) ?_
      refine o_store Try.sizeOf23 rfl rfl ?_
      refine o_val (ex_assign rfl) (o_nil ?_)
      refine k_ret ?_
      exact finC1 rfl Try.isAgg23 Try.sizeOf23 rfl rfl rfl fun W hW => ⟨by have hr : b.rightE lo hi wl wh = 3 := (by unfold Bo.rightE; rw [if_pos he, if_neg (notT h_1)]); rw [hr]; rfl, hW.ext⟩
    ·
      have hsp : isSp lo hi 0 100000000 = true ∧ isSp wl wh (-10000000000000) 10000000000000 = true := by simpa using h_1
      have hs1 := isSp_iff.1 hsp.1
      have hs2 := isSp_iff.1 hsp.2
      have ha := hb.arm
      have hy0 := hb.yl0
      have hy1 := hb.yy
      have hy2 := hb.yh1
      have m1 := mulB (a := lo) (A := 100000000) (b := b.armHi) (B := 300000000) (by omega) (by omega) (by omega) (by omega)
      have m2 := mulB (a := min hi b.yl + 1) (A := 100000001) (b := b.armLo) (B := 300000000) (by omega) (by omega) (by omega) (by omega)
      have u1 := upq_bounds (n := lo * b.armHi) (d := 1000) (K := 100000000000000000) (by omega) (by omega) (by omega) (by omega)
      have u2 := upq_bounds (n := (min hi b.yl + 1) * b.armLo) (d := 1000) (K := 100000000000000000) (by omega) (by omega) (by omega) (by omega)
      refine k_skip ?_
      refine k_seq (k_draw [true, true, true, true, true, false, false, false, false] 4 ?_ mixed (by kernel_rfl) rfl)
      refine d_loadA (i := 0) Try.isAgg76 Try.sizeOf76 rfl ?_
      refine d_loadA (i := 1) Try.isAgg23 Try.sizeOf23 rfl ?_
      refine d_val (i := 2) [] (ex_call Try.call35 rfl (fun W hW => c35 b lo hi)) ?_
      refine d_loadA (i := 3) Try.isAgg76 Try.sizeOf76 rfl ?_
      refine d_val (i := 4) [] (ex_call Try.call36 rfl (fun W hW => c36 b hb)) ?_
      refine d_rest ?_
      refine d_rest ?_
      refine d_rest ?_
      refine d_rest ?_
      refine d_nil ?_
      refine r_allocs (by kernel_rfl) (by kernel_rfl) (by kernel_rfl) rfl rfl (j := 5) (j' := 6) Try.zeroValue23 Try.zeroValue23 (fun b9 b10 => ?_)
      refine r_one 7 (rs_store [5, 2, 4, 0, 1, 2, 5, 6] rfl Try.sizeOf23 rfl rfl ?_) (by kernel_rfl)
      refine r_one 8 (rs_store [6, 4, 7, 0, 1, 2, 3, 4, 5, 6, 7] rfl Try.sizeOf23 rfl rfl ?_) (by kernel_rfl)
      refine r_nil ?_ (by kernel_rfl)
      refine k_seq (k_draw [true, true, true, true, true, true, true, true, true, true, true, true, true, true, false, false] 2 ?_ mixed (by kernel_rfl) rfl)
      refine d_val (i := 0) [] (ex_field (o := 0) 0 fa23_0 rfl rfl) ?_
      refine d_load (i := 1) Try.isAgg3 rfl rfl ?_
      refine d_val (i := 2) [] (ex_field (o := 0) 1 fa23_1 rfl rfl) ?_
      refine d_load (i := 3) Try.isAgg3 rfl rfl ?_
      refine d_val (i := 4) [] (ex_mul64 rfl rfl (by unfold I64; omega)) ?_
      refine d_val (i := 5) [] (ex_call Try.call30 rfl (fun W hW => c30 (lo * b.armHi) 1000 (by omega) (by omega))) ?_
      refine d_val (i := 6) [] (ex_field (o := 0) 1 fa23_1 rfl rfl) ?_
      refine d_load (i := 7) Try.isAgg3 rfl rfl ?_
      refine d_val (i := 8) [] (ex_add64 rfl rfl (by unfold I64; omega)) ?_
      refine d_val (i := 9) [] (ex_field (o := 0) 0 fa23_0 rfl rfl) ?_
      refine d_load (i := 10) Try.isAgg3 rfl rfl ?_
      refine d_val (i := 11) [] (ex_mul64 rfl rfl (by unfold I64; omega)) ?_
      refine d_val (i := 12) [] (ex_call Try.call30 rfl (fun W hW => c30 ((min hi b.yl + 1) * b.armLo) 1000 (by omega) (by omega))) ?_
      refine d_val (i := 13) [] (ex_sub64 rfl rfl (by unfold I64; omega)) ?_
      refine d_rest ?_
      refine d_rest ?_
      refine d_nil ?_
      refine r_one 14 (rs_val rfl (ex_assign rfl) ?_) (by kernel_rfl)
      refine r_one 15 (rs_val rfl (ex_assign rfl) ?_) (by kernel_rfl)
      refine r_nil ?_ (by kernel_rfl)
      refine k_seq (k_region ?_)
      refine o_val (ex_move rfl) ?_
      refine o_val (ex_field (o := 0) 1 fa23_1 rfl rfl) ?_
      refine o_val (ex_load Try.isAgg3 rfl rfl) ?_
      refine o_val (ex_sub64 rfl rfl (by unfold I64; omega)) ?_
      refine o_val (ex_min rfl rfl) ?_
      refine o_val (ex_build bf23 rfl) ?_
      refine o_store Try.sizeOf23 rfl rfl (o_nil ?_)
      refine k_seq (k_seq (k_region ?_))
      refine o_val (ex_move rfl) ?_
      refine o_val (ex_gtr rfl rfl) (o_nil ?_)
      refine k_cut (ι := Int) (fun r => [(6, .pointer (some ⟨b6, 0, none⟩))]) (fun r => [⟨b10, 23, [.int .i64 b.armLo, .int .i64 b.armHi], true⟩, ⟨b9, 23, [.int .i64 lo, .int .i64 (min hi b.yl)], true⟩, ⟨b8, 76, [.int .i64 b.lead, .int .i64 b.thread, .int .i64 b.head, .int .i64 b.tl, .int .i64 b.th, .int .i64 b.hl, .int .i64 b.hh, .int .i64 b.sl, .int .i64 b.sh, .int .i64 b.pl, .int .i64 b.ph, .int .i64 b.yl, .int .i64 b.yh], true⟩, ⟨b6, 23, [.int .i64 r, .int .i64 (b.rHi hi wh)], true⟩, ⟨b5, 23, [.int .i64 wl, .int .i64 wh], true⟩, ⟨b4, 23, [.int .i64 lo, .int .i64 hi], true⟩, ⟨b3, 25, [.int .i64 b.lead, .int .i64 b.thread, .int .i64 b.head, .int .i64 b.tl, .int .i64 b.th, .int .i64 b.hl, .int .i64 b.hh, .int .i64 b.sl, .int .i64 b.sh, .int .i64 b.pl, .int .i64 b.ph, .int .i64 b.yl, .int .i64 b.yh], true⟩]) (fun r => r = b.rLo lo wl) ?_ (fun r hr => ?_)
      · refine k_cond rfl (fun h_2 => ?_) (fun h_2 => ?_)
        ·
          refine k_region ?_
          refine o_val (ex_move rfl) ?_
          refine o_val (ex_field (o := 0) 0 fa23_0 rfl rfl) ?_
          refine o_val (ex_load Try.isAgg3 rfl rfl) ?_
          refine o_val (ex_sub64 rfl rfl (by unfold I64; omega)) ?_
          refine o_val (ex_max rfl rfl) ?_
          refine o_val (ex_field (o := 0) 0 fa23_0 rfl rfl) ?_
          refine o_store Try.sizeOf3 rfl rfl (o_nil ?_)
          exact k_some (max 0 (upq (lo * b.armHi) 1000 - wl)) (by have : 0 < upq (lo * b.armHi) 1000 := (by simpa using h_2); unfold Bo.rLo; rw [if_pos this]) (Sub.cons rfl (Sub.nil _)) (.refl _)
        ·
          refine k_skip ?_
          exact k_some 0 (by have : ¬ 0 < upq (lo * b.armHi) 1000 := (by simpa using h_2); unfold Bo.rLo; rw [if_neg this]) (Sub.cons rfl (Sub.nil _)) (.refl _)
      subst hr
      refine k_seq (k_seq (k_region ?_))
      refine o_val (ex_field (o := 0) 0 fa23_0 rfl rfl) ?_
      refine o_val (ex_load Try.isAgg3 rfl rfl) ?_
      refine o_val (ex_field (o := 0) 1 fa23_1 rfl rfl) ?_
      refine o_val (ex_load Try.isAgg3 rfl rfl) ?_
      refine o_val (ex_gtr rfl rfl) (o_nil ?_)
      refine k_cond rfl (fun h_2 => ?_) (fun h_2 => ?_)
      ·
        refine k_seq (k_region ?_)
        refine o_val (ex_build bf23 rfl) ?_
        refine o_store Try.sizeOf23 rfl rfl ?_
        refine o_val (ex_assign rfl) (o_nil ?_)
        refine k_ret ?_
        exact finC1 rfl Try.isAgg23 Try.sizeOf23 rfl rfl rfl fun W hW => ⟨by have hr : b.rightE lo hi wl wh = 9 := (by unfold Bo.rightE; rw [if_pos he, if_pos (by simp [hsp]), if_pos (by simpa using h_2)]); rw [hr]; rfl, hW.ext⟩
      ·
        refine k_skip ?_
        refine k_seq (k_region ?_)
        refine o_val (ex_loadA Try.isAgg23 Try.sizeOf23 rfl) ?_
        refine o_store Try.sizeOf23 rfl rfl ?_
        refine o_val (ex_assign rfl) (o_nil ?_)
        refine k_ret ?_
        exact finC1 rfl Try.isAgg23 Try.sizeOf23 rfl rfl rfl fun W hW => ⟨by have hr : b.rightE lo hi wl wh = 0 := (by unfold Bo.rightE; rw [if_pos he, if_pos (by simp [hsp]), if_neg (by simpa using h_2)]); rw [hr]; rfl, hW.ext⟩

end Go.Proofs.Yteecidddfcbabaa
