/- The walks of small functions: what each call hands back, and that nothing that was there has turned. Printed by a program of this session (wip/tools/gen.py). -/
import Derived.Test.YteecidddfcbabaaA8
namespace Go.Proofs.Yteecidddfcbabaa
open Go
attribute [local irreducible] ExV Ex
set_option synthInstance.maxSize 2000
set_option synthInstance.maxHeartbeats 200000

def Bo.torE (b : Bo) (force p q : Int) : Int := if openE b [] = 0 then (if wi 0 100000000 [force] then (if wi 0 1000 [p, q] then 0 else 2) else 3) else openE b []

-- == f7 acme/bolt.Torque params [25, 3, 26] results [3, 29] in [('tmp', ['6']), ('tmp', ['7'])] ntmps 40 nfree 0
theorem c7 (b : Bo) (force p q : Int) {w : World} : Calls Try.prog 7 [.agg [.int .i64 b.lead, .int .i64 b.thread, .int .i64 b.head, .int .i64 b.tl, .int .i64 b.th, .int .i64 b.hl, .int .i64 b.hh, .int .i64 b.sl, .int .i64 b.sh, .int .i64 b.pl, .int .i64 b.ph, .int .i64 b.yl, .int .i64 b.yh].toArray, .int .i64 force, .agg [.int .i64 p, .int .i64 q].toArray].toArray w fun e w' => e = .returned (.tuple #[.int .i64 (if b.torE force p q = 0 then upq (force * b.arm p q) 1000 else 0), .int .i64 (b.torE force p q)]) ∧ Ext [] w w' := by
  refine fn_start Try.func7 rfl (N := 40) rfl ?_
  refine k_seq (k_region ?_)
  refine o_box rfl (fun b3 => ?_)
  refine o_box rfl (fun b5 => ?_)
  refine o_val (ex_assign rfl) ?_
  refine o_val (ex_assign rfl) (o_nil ?_)
  refine k_seq (k_region ?_)
  refine o_val (ex_loadA Try.isAgg25 Try.sizeOf25 rfl) ?_
  refine o_val (ex_call Try.call28 rfl (fun W hW => (by exact c28 b [] (by simp) (ways_none _ _)))) ?_
  refine o_val (ex_move rfl) ?_
  refine o_val (ex_extract rfl rfl) ?_
  refine o_val (ex_extract rfl rfl) ?_
  refine o_alloc Try.zeroValue76 (fun b8 => ?_)
  refine o_store Try.sizeOf76 rfl rfl ?_
  refine o_val (ex_assign rfl) (o_nil ?_)
  refine k_seq (k_block ?_)
  refine k_seq (k_region ?_)
  refine o_val (ex_move rfl) ?_
  refine o_val (ex_neq rfl rfl) ?_
  refine o_val (ex_assign rfl) (o_nil ?_)
  refine k_cond rfl (fun h => ?_) (fun h => ?_)
  ·
    refine k_seq (k_region ?_)
    refine o_val (ex_move rfl) ?_
    refine o_val (ex_assign rfl) ?_
    refine o_val (ex_assign rfl) (o_nil ?_)
    refine k_ret ?_
    exact fin2 rfl rfl rfl fun W hW => ⟨by have he : ¬ openE b [] = 0 := (by simpa using h); have hr : b.torE force p q = openE b [] := (by unfold Bo.torE; rw [if_neg he]); rw [hr, if_neg he], hW.ext⟩
  ·
    have he : openE b [] = 0 := by simpa using h
    have hb := (openE_ok he).1
    refine k_seq (k_region ?_)
    refine o_val (ex_move rfl) ?_
    refine o_buildSlice [.int .i64 0] [(0, 1)] Try.runUnderlying42 Try.sizeOf3 Try.zeroValue3 rfl (fun b21 => ?_)
    refine o_val (ex_call Try.call29 rfl (fun W hW => (by exact c29 0 100000000 [force] (by simp) (row_ints hW b21)))) ?_
    refine o_val (ex_not rfl) ?_
    refine o_val (ex_assign rfl) (o_nil ?_)
    refine k_cond rfl (fun h_1 => ?_) (fun h_1 => ?_)
    ·
      refine k_seq (k_region ?_)
      refine o_val (ex_assign rfl) ?_
      refine o_val (ex_assign rfl) (o_nil ?_)
      refine k_ret ?_
      exact fin2 rfl rfl rfl fun W hW => ⟨by have hr : b.torE force p q = 3 := (by unfold Bo.torE; rw [if_pos he, if_neg (notT h_1)]); rw [hr]; rfl, hW.ext⟩
    ·
      have hf : wi 0 100000000 [force] = true := by simpa using h_1
      refine k_seq (k_region ?_)
      refine o_val (ex_sliceArr Try.runUnderlying26 Try.sizeOf3 rfl) ?_
      refine o_val (ex_call Try.call29 rfl (fun W hW => (by exact c29 0 1000 [p, q] (by simp) (row_ints hW b5)))) ?_
      refine o_val (ex_not rfl) ?_
      refine o_val (ex_assign rfl) (o_nil ?_)
      refine k_cond rfl (fun h_2 => ?_) (fun h_2 => ?_)
      ·
        refine k_seq (k_region ?_)
        refine o_val (ex_assign rfl) ?_
        refine o_val (ex_assign rfl) (o_nil ?_)
        refine k_ret ?_
        exact fin2 rfl rfl rfl fun W hW => ⟨by have hr : b.torE force p q = 2 := (by unfold Bo.torE; rw [if_pos he, if_pos hf, if_neg (notT h_2)]); rw [hr]; rfl, hW.ext⟩
      ·
        have hpq : wi 0 1000 [p, q] = true := by simpa using h_2
        have h1 := of_decide_eq_true (wi_one 0 100000000 force ▸ hf)
        have h2 := of_decide_eq_true (wi_two 0 1000 p q ▸ hpq)
        have ha := hb.armB (p := p) (q := q) (by omega) (by omega)
        have m1 := mulB (a := force) (A := 100000000) (b := b.arm p q) (B := 300000000) (by omega) (by omega) (by omega) (by omega)
        have l0 := hb.l0
        have l1 := hb.l1
        have fr := hb.fric (t := p) (h := q) (by omega) (by omega) (by omega) (by omega)
        refine k_skip ?_
        refine k_seq (k_draw [true, true, true, true, true, true, true, true, true, true, true, true, false, false] 2 ?_ mixed (by kernel_rfl) rfl)
        refine d_val (i := 0) [] (ex_move rfl) ?_
        refine d_loadA (i := 1) Try.isAgg76 Try.sizeOf76 rfl ?_
        refine d_val (i := 2) [] (ex_call Try.call31 rfl (fun W hW => c31 b (by omega) l1)) ?_
        refine d_loadA (i := 3) Try.isAgg76 Try.sizeOf76 rfl ?_
        refine d_val (i := 4) [] (ex_indexArr 0 Try.runUnderlying26 Try.sizeOf3 rfl rfl (by decide) (by decide) rfl) ?_
        refine d_load (i := 5) Try.isAgg3 rfl rfl ?_
        refine d_val (i := 6) [] (ex_indexArr 1 Try.runUnderlying26 Try.sizeOf3 rfl rfl (by decide) (by decide) rfl) ?_
        refine d_load (i := 7) Try.isAgg3 rfl rfl ?_
        refine d_val (i := 8) [] (ex_call Try.call32 rfl (fun W hW => c32 b p q hb (by omega) (by omega) (by omega) (by omega))) ?_
        refine d_val (i := 9) [] (ex_add64 rfl rfl (by unfold I64; omega)) ?_
        refine d_val (i := 10) [] (ex_mul64 rfl rfl (by show I64 (force * b.arm p q); unfold I64; omega)) ?_
        refine d_val (i := 11) [] (ex_call Try.call30 rfl (fun W hW => (by exact c30 (force * b.arm p q) 1000 (by omega) (by omega)))) ?_
        refine d_rest ?_
        refine d_rest ?_
        refine d_nil ?_
        refine r_one 12 (rs_val rfl (ex_assign rfl) ?_) (by kernel_rfl)
        refine r_one 13 (rs_val rfl (ex_assign rfl) ?_) (by kernel_rfl)
        refine r_nil ?_ (by kernel_rfl)
        refine k_ret ?_
        exact fin2 rfl rfl rfl fun W hW => ⟨by have hr : b.torE force p q = 0 := (by unfold Bo.torE; rw [if_pos he, if_pos hf, if_pos hpq]); rw [hr]; rfl, hW.ext⟩

-- == f41 acme/bolt.Left params [25, 47, 23] results [23, 29] in [('cell', ['6', '23']), ('tmp', ['7'])] ntmps 42 nfree 0
theorem c41 (b : Bo) (y : Wa) (lo hi : Int) {w : World} (he : openE b [y] = 0) (hl : isSp lo hi 0 100000000 = true) : Calls Try.prog 41 [.agg [.int .i64 b.lead, .int .i64 b.thread, .int .i64 b.head, .int .i64 b.tl, .int .i64 b.th, .int .i64 b.hl, .int .i64 b.hh, .int .i64 b.sl, .int .i64 b.sh, .int .i64 b.pl, .int .i64 b.ph, .int .i64 b.yl, .int .i64 b.yh].toArray, .agg [.int .i64 y.kind, .int .i64 y.tl, .int .i64 y.th, .int .i64 y.al, .int .i64 y.ah, .int .i64 y.sl, .int .i64 y.sh].toArray, .agg [.int .i64 lo, .int .i64 hi].toArray].toArray w fun e w' => e = .returned (.tuple #[.agg [.int .i64 (max 0 (b.fLo y - hi)), .int .i64 (max 0 (b.fHi y - lo))].toArray, .int .i64 0]) ∧ Ext [] w w' := by
  have hk := openE_ok he
  have hb := hk.1
  have hy := Wa.chk_ok (hk.2 y (by simp))
  have fb0 := refF_between hb hy.toFit 3
  have fb1 := refF_bounds hb y.kind (truth_fit hb hy.toFit 3)
  have fb2 := refF_bounds hb y.kind (truth_fit hb hy.toFit 236)
  rw [refF_3 (.inl rfl)] at fb1
  rw [refF_236] at fb2
  have hl1 := isSp_iff.1 hl
  refine fn_start Try.func41 rfl (N := 42) rfl ?_
  refine k_seq (k_region ?_)
  refine o_box rfl (fun b3 => ?_)
  refine o_box rfl (fun b4 => ?_)
  refine o_box rfl (fun b5 => ?_)
  refine o_alloc Try.zeroValue23 (fun b6 => ?_)
  refine o_val (ex_assign rfl) (o_nil ?_)
  refine k_seq (k_region ?_)
  refine o_val (ex_loadA Try.isAgg25 Try.sizeOf25 rfl) ?_
  refine o_val (ex_loadA Try.isAgg47 Try.sizeOf47 rfl) ?_
  refine o_buildSlice [.int .i64 0, .int .i64 0, .int .i64 0, .int .i64 0, .int .i64 0, .int .i64 0, .int .i64 0] [(0, 7)] Try.runUnderlying41 Try.sizeOf47 Try.zeroValue47 rfl (fun b12 => ?_)
  refine o_val (ex_call Try.call28 rfl (fun W hW => (by exact c28 b [y] (by simp) (ways_one hW b12 y)))) ?_
  refine o_val (ex_move rfl) ?_
  refine o_val (ex_extract rfl rfl) ?_
  refine o_val (ex_extract rfl rfl) ?_
  refine o_alloc Try.zeroValue76 (fun b8 => ?_)
  refine o_store Try.sizeOf76 rfl rfl ?_
  refine o_val (ex_assign rfl) (o_nil ?_)
  refine k_seq (k_block ?_)
  refine k_seq (k_region ?_)
  refine o_val (ex_move rfl) ?_
  refine o_val (ex_neq rfl rfl) ?_
  refine o_val (ex_assign rfl) (o_nil ?_)
  refine k_cond rfl (fun h => ?_) (fun h => ?_)
  ·
    rw [he] at h
    cases h
  ·
    refine k_seq (k_region ?_)
    refine o_val (ex_loadA Try.isAgg23 Try.sizeOf23 rfl) ?_
    refine o_val (ex_call Try.call33 rfl (fun W hW => c33 lo hi)) ?_
    refine o_val (ex_not rfl) ?_
    refine o_val (ex_assign rfl) (o_nil ?_)
    refine k_cond rfl (fun h_1 => ?_) (fun h_1 => ?_)
    ·
      rw [hl] at h_1
      cases h_1
    ·
      refine k_skip ?_
      refine k_seq (k_region ?_)
      refine o_val (ex_loadA Try.isAgg76 Try.sizeOf76 rfl) ?_
      refine o_val (ex_loadA Try.isAgg47 Try.sizeOf47 rfl) ?_
      refine o_val (ex_call Try.call46 rfl (fun W hW => c46 b y hb hy)) ?_
      refine o_store Try.sizeOf23 rfl rfl (o_nil ?_)
      refine k_seq (k_region ?_)
      refine o_val (ex_field (o := 0) 0 fa23_0 rfl rfl) ?_
      refine o_val (ex_load Try.isAgg3 rfl rfl) ?_
      refine o_val (ex_field (o := 0) 1 fa23_1 rfl rfl) ?_
      refine o_val (ex_load Try.isAgg3 rfl rfl) ?_
      refine o_val (ex_sub64 rfl rfl (by unfold I64; omega)) ?_
      refine o_val (ex_max rfl rfl) ?_
      refine o_val (ex_field (o := 0) 1 fa23_1 rfl rfl) ?_
      refine o_val (ex_load Try.isAgg3 rfl rfl) ?_
      refine o_val (ex_field (o := 0) 0 fa23_0 rfl rfl) ?_
      refine o_val (ex_load Try.isAgg3 rfl rfl) ?_
      refine o_val (ex_sub64 rfl rfl (by unfold I64; omega)) ?_
      refine o_val (ex_max rfl rfl) ?_
      refine o_val (ex_build bf23 rfl) ?_
      refine o_store Try.sizeOf23 rfl rfl ?_
      refine o_val (ex_assign rfl) (o_nil ?_)
      refine k_ret ?_
      exact finC1 rfl Try.isAgg23 Try.sizeOf23 rfl rfl rfl fun W hW => ⟨rfl, hW.ext⟩

-- == f42 acme/bolt.Safe params [25, 47] results [4, 4, 29] in [('tmp', ['4']), ('tmp', ['5']), ('tmp', ['6'])] ntmps 36 nfree 0
theorem c42 (b : Bo) (y : Wa) {w : World} (he : openE b [y] = 0) : Calls Try.prog 42 [.agg [.int .i64 b.lead, .int .i64 b.thread, .int .i64 b.head, .int .i64 b.tl, .int .i64 b.th, .int .i64 b.hl, .int .i64 b.hh, .int .i64 b.sl, .int .i64 b.sh, .int .i64 b.pl, .int .i64 b.ph, .int .i64 b.yl, .int .i64 b.yh].toArray, .agg [.int .i64 y.kind, .int .i64 y.tl, .int .i64 y.th, .int .i64 y.al, .int .i64 y.ah, .int .i64 y.sl, .int .i64 y.sh].toArray].toArray w fun e w' => e = .returned (.tuple #[.bool (decide (b.fHi y ≤ b.yl)), .bool (decide (b.fLo y ≤ b.yh)), .int .i64 0]) ∧ Ext [] w w' := by
  have hk := openE_ok he
  have hb := hk.1
  have hy := Wa.chk_ok (hk.2 y (by simp))
  refine fn_start Try.func42 rfl (N := 36) rfl ?_
  refine k_seq (k_region ?_)
  refine o_box rfl (fun b2 => ?_)
  refine o_box rfl (fun b3 => ?_)
  refine o_val (ex_assign rfl) ?_
  refine o_val (ex_assign rfl) ?_
  refine o_val (ex_assign rfl) (o_nil ?_)
  refine k_seq (k_region ?_)
  refine o_val (ex_loadA Try.isAgg25 Try.sizeOf25 rfl) ?_
  refine o_val (ex_loadA Try.isAgg47 Try.sizeOf47 rfl) ?_
  refine o_buildSlice [.int .i64 0, .int .i64 0, .int .i64 0, .int .i64 0, .int .i64 0, .int .i64 0, .int .i64 0] [(0, 7)] Try.runUnderlying41 Try.sizeOf47 Try.zeroValue47 rfl (fun b12 => ?_)
  refine o_val (ex_call Try.call28 rfl (fun W hW => (by exact c28 b [y] (by simp) (ways_one hW b12 y)))) ?_
  refine o_val (ex_move rfl) ?_
  refine o_val (ex_extract rfl rfl) ?_
  refine o_val (ex_extract rfl rfl) ?_
  refine o_alloc Try.zeroValue76 (fun b7 => ?_)
  refine o_store Try.sizeOf76 rfl rfl ?_
  refine o_val (ex_assign rfl) (o_nil ?_)
  refine k_seq (k_seq (k_region ?_))
  refine o_val (ex_move rfl) ?_
  refine o_val (ex_neq rfl rfl) (o_nil ?_)
  refine k_cond rfl (fun h => ?_) (fun h => ?_)
  ·
    rw [he] at h
    cases h
  ·
    refine k_skip ?_
    refine k_seq (k_region ?_)
    refine o_val (ex_loadA Try.isAgg76 Try.sizeOf76 rfl) ?_
    refine o_val (ex_loadA Try.isAgg47 Try.sizeOf47 rfl) ?_
    refine o_val (ex_call Try.call46 rfl (fun W hW => c46 b y hb hy)) ?_
    refine o_alloc Try.zeroValue23 (fun b8 => ?_)
    refine o_store Try.sizeOf23 rfl rfl (o_nil ?_)
    refine k_seq (k_draw [true, true, true, true, true, true, true, true, true, true, true, true, true, true, false, false, false] 3 ?_ mixed (by kernel_rfl) rfl)
    refine d_val (i := 0) [] (ex_field (o := 0) 1 fa23_1 rfl rfl) ?_
    refine d_load (i := 1) Try.isAgg3 rfl rfl ?_
    refine d_val (i := 2) [] (ex_field (o := 0) 0 fa76_0 rfl rfl) ?_
    refine d_val (i := 3) [] (ex_field (o := 0) 11 fa25_7 rfl rfl) ?_
    refine d_val (i := 4) [] (ex_field (o := 11) 11 fa23_0 rfl rfl) ?_
    refine d_load (i := 5) Try.isAgg3 rfl rfl ?_
    refine d_val (i := 6) [] (ex_leq rfl rfl) ?_
    refine d_val (i := 7) [] (ex_field (o := 0) 0 fa23_0 rfl rfl) ?_
    refine d_load (i := 8) Try.isAgg3 rfl rfl ?_
    refine d_val (i := 9) [] (ex_field (o := 0) 0 fa76_0 rfl rfl) ?_
    refine d_val (i := 10) [] (ex_field (o := 0) 11 fa25_7 rfl rfl) ?_
    refine d_val (i := 11) [] (ex_field (o := 11) 12 fa23_1 rfl rfl) ?_
    refine d_load (i := 12) Try.isAgg3 rfl rfl ?_
    refine d_val (i := 13) [] (ex_leq rfl rfl) ?_
    refine d_rest ?_
    refine d_rest ?_
    refine d_rest ?_
    refine d_nil ?_
    refine r_one 14 (rs_val rfl (ex_assign rfl) ?_) (by kernel_rfl)
    refine r_one 15 (rs_val rfl (ex_assign rfl) ?_) (by kernel_rfl)
    refine r_one 16 (rs_val rfl (ex_assign rfl) ?_) (by kernel_rfl)
    refine r_nil ?_ (by kernel_rfl)
    refine k_ret ?_
    exact fin3 rfl rfl rfl rfl fun W hW => ⟨rfl, hW.ext⟩

def looseF (b : Bo) (force friction : Int) : Int := max 0 (upq (force * (friction - 1000 * b.lead)) 1000)

-- == f70 acme/bolt.Loosen$1 params [3, 3] results [3] in [('tmp', ['5'])] ntmps 14 nfree 1
theorem c70 (b : Bo) (force friction : Int) {p : Addr} {w : World} (hb : b.Ok) (h0 : 0 ≤ force ∧ force ≤ 100000000) (h1 : 0 ≤ friction ∧ friction ≤ 200000000) (hp : ∀ j v, ([.int .i64 b.lead, .int .i64 b.thread, .int .i64 b.head, .int .i64 b.tl, .int .i64 b.th, .int .i64 b.hl, .int .i64 b.hh, .int .i64 b.sl, .int .i64 b.sh, .int .i64 b.pl, .int .i64 b.ph, .int .i64 b.yl, .int .i64 b.yh] : List Value)[j]? = some v → w.cell? (p.add j) = some v) : Calls Try.prog 70 [.int .i64 force, .int .i64 friction, .pointer (some p)].toArray w fun e w' => e = .returned (.int .i64 (looseF b force friction)) ∧ Ext [] w w' := by
  have l0 := hb.l0
  have l1 := hb.l1
  have m1 := Int.mul_le_mul_of_nonneg_left (show friction - 1000 * b.lead ≤ 200000000 by omega) h0.1
  have m2 := Int.mul_le_mul_of_nonneg_left (show -100000000 ≤ friction - 1000 * b.lead by omega) h0.1
  refine fn_start Try.func70 rfl (N := 14) rfl ?_
  refine k_seq (k_region ?_)
  refine o_val (ex_assign rfl) (o_nil ?_)
  refine k_seq (k_region ?_)
  refine o_val (ex_move rfl) ?_
  refine o_val (ex_move rfl) ?_
  refine o_val (ex_loadA_old Try.isAgg76 Try.sizeOf76 rfl rfl hp (by simp)) ?_
  refine o_val (ex_call Try.call31 rfl (fun W hW => c31 b (by omega) l1)) ?_
  refine o_val (ex_sub64 rfl rfl (by unfold I64; omega)) ?_
  refine o_val (ex_mul64 rfl rfl (by unfold I64; omega)) ?_
  refine o_val (ex_call Try.call30 rfl (fun W hW => c30 (force * (friction - 1000 * b.lead)) 1000 (by omega) (by omega))) ?_
  refine o_val (ex_max rfl rfl) ?_
  refine o_val (ex_assign rfl) (o_nil ?_)
  refine k_ret ?_
  exact fin1 rfl rfl fun W hW => ⟨rfl, hW.ext⟩

-- == f43 acme/bolt.Loosen params [25, 23] results [23, 29] in [('cell', ['4', '23']), ('tmp', ['5'])] ntmps 40 nfree 0
theorem c43 (b : Bo) (lo hi : Int) {w : World} (he : openE b [] = 0) (hl : isSp lo hi 0 100000000 = true) : Calls Try.prog 43 [.agg [.int .i64 b.lead, .int .i64 b.thread, .int .i64 b.head, .int .i64 b.tl, .int .i64 b.th, .int .i64 b.hl, .int .i64 b.hh, .int .i64 b.sl, .int .i64 b.sh, .int .i64 b.pl, .int .i64 b.ph, .int .i64 b.yl, .int .i64 b.yh].toArray, .agg [.int .i64 lo, .int .i64 hi].toArray].toArray w fun e w' => e = .returned (.tuple #[.agg [.int .i64 (looseF b lo (b.fric b.tl b.hl)), .int .i64 (looseF b hi (b.fric b.th b.hh))].toArray, .int .i64 0]) ∧ Ext [] w w' := by
  have hb := (openE_ok he).1
  have hl1 := isSp_iff.1 hl
  have f1 := hb.lo
  have f2 := hb.hi
  refine fn_start Try.func43 rfl (N := 40) rfl ?_
  refine k_seq (k_region ?_)
  refine o_box rfl (fun b2 => ?_)
  refine o_box rfl (fun b3 => ?_)
  refine o_alloc Try.zeroValue23 (fun b4 => ?_)
  refine o_val (ex_assign rfl) (o_nil ?_)
  refine k_seq (k_region ?_)
  refine o_val (ex_loadA Try.isAgg25 Try.sizeOf25 rfl) ?_
  refine o_val (ex_call Try.call28 rfl (fun W hW => (by exact c28 b [] (by simp) (ways_none _ _)))) ?_
  refine o_val (ex_move rfl) ?_
  refine o_val (ex_extract rfl rfl) ?_
  refine o_val (ex_extract rfl rfl) ?_
  refine o_alloc Try.zeroValue76 (fun b6 => ?_)
  refine o_store Try.sizeOf76 rfl rfl ?_
  refine o_val (ex_assign rfl) (o_nil ?_)
  refine k_seq (k_block ?_)
  refine k_seq (k_region ?_)
  refine o_val (ex_move rfl) ?_
  refine o_val (ex_neq rfl rfl) ?_
  refine o_val (ex_assign rfl) (o_nil ?_)
  refine k_cond rfl (fun h => ?_) (fun h => ?_)
  ·
    rw [he] at h
    cases h
  ·
    refine k_seq (k_region ?_)
    refine o_val (ex_loadA Try.isAgg23 Try.sizeOf23 rfl) ?_
    refine o_val (ex_call Try.call33 rfl (fun W hW => c33 lo hi)) ?_
    refine o_val (ex_not rfl) ?_
    refine o_val (ex_assign rfl) (o_nil ?_)
    refine k_cond rfl (fun h_1 => ?_) (fun h_1 => ?_)
    ·
      rw [hl] at h_1
      cases h_1
    ·
      refine k_skip ?_
      refine k_seq (k_region ?_)
      refine o_val (ex_loadA Try.isAgg76 Try.sizeOf76 rfl) ?_
      refine o_val (ex_call Try.call69 rfl (fun W hW => c69 b hb)) ?_
      refine o_alloc Try.zeroValue23 (fun b7 => ?_)
      refine o_store Try.sizeOf23 rfl rfl (o_nil ?_)
      refine k_seq (k_region ?_)
      refine o_val (ex_makeFunc rfl rfl) ?_
      refine o_val (ex_assign rfl) (o_nil ?_)
      refine k_seq (k_draw [true, true, true, true, true, true, true, true, true, true, true, true, true, false, false] 2 ?_ mixed (by kernel_rfl) rfl)
      refine d_val (i := 0) [] (ex_move rfl) ?_
      refine d_val (i := 1) [] (ex_field (o := 0) 0 fa23_0 rfl rfl) ?_
      refine d_load (i := 2) Try.isAgg3 rfl rfl ?_
      refine d_val (i := 3) [] (ex_field (o := 0) 0 fa23_0 rfl rfl) ?_
      refine d_load (i := 4) Try.isAgg3 rfl rfl ?_
      refine d_val (i := 5) [⟨b6, 76, [.int .i64 b.lead, .int .i64 b.thread, .int .i64 b.head, .int .i64 b.tl, .int .i64 b.th, .int .i64 b.hl, .int .i64 b.hh, .int .i64 b.sl, .int .i64 b.sh, .int .i64 b.pl, .int .i64 b.ph, .int .i64 b.yl, .int .i64 b.yh], true⟩] (ex_callV Try.call70 rfl rfl (fun W hW => (by exact c70 b lo (b.fric b.tl b.hl) hb (by omega) (by omega) (cells_ent hW b6)))) ?_
      refine d_val (i := 6) [] (ex_move rfl) ?_
      refine d_val (i := 7) [] (ex_field (o := 0) 1 fa23_1 rfl rfl) ?_
      refine d_load (i := 8) Try.isAgg3 rfl rfl ?_
      refine d_val (i := 9) [] (ex_field (o := 0) 1 fa23_1 rfl rfl) ?_
      refine d_load (i := 10) Try.isAgg3 rfl rfl ?_
      refine d_val (i := 11) [⟨b6, 76, [.int .i64 b.lead, .int .i64 b.thread, .int .i64 b.head, .int .i64 b.tl, .int .i64 b.th, .int .i64 b.hl, .int .i64 b.hh, .int .i64 b.sl, .int .i64 b.sh, .int .i64 b.pl, .int .i64 b.ph, .int .i64 b.yl, .int .i64 b.yh], true⟩] (ex_callV Try.call70 rfl rfl (fun W hW => (by exact c70 b hi (b.fric b.th b.hh) hb (by omega) (by omega) (cells_ent hW b6)))) ?_
      refine d_val (i := 12) [] (ex_build bf23 rfl) ?_
      refine d_rest ?_
      refine d_rest ?_
      refine d_nil ?_
      refine r_one 13 (rs_store [12, 11, 0, 1, 2, 3, 4, 5, 6, 7, 8, 9, 10, 11, 12] rfl Try.sizeOf23 rfl rfl ?_) (by kernel_rfl)
      refine r_one 14 (rs_val rfl (ex_assign rfl) ?_) (by kernel_rfl)
      refine r_nil ?_ (by kernel_rfl)
      refine k_ret ?_
      exact finC1 rfl Try.isAgg23 Try.sizeOf23 rfl rfl rfl fun W hW => ⟨rfl, hW.ext⟩

end Go.Proofs.Yteecidddfcbabaa
