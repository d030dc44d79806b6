/- The walks of small functions: what each call hands back, and that nothing that was there has turned. Printed by a program of this session (wip/tools/gen.py). -/
import Derived.Test.YteecidddfcbabaaA4
namespace Go.Proofs.Yteecidddfcbabaa
open Go
attribute [local irreducible] ExV Ex
set_option synthInstance.maxSize 2000
set_option synthInstance.maxHeartbeats 200000

def oneB : Bo := ⟨2000, 5000, 7000, 100, 160, 120, 150, 50000, 60000, 90, 110, 30000, 33000⟩

theorem one27 {w : World} : Calls Try.prog 27 [.agg [.int .i64 2000, .int .i64 5000, .int .i64 7000, .int .i64 100, .int .i64 160, .int .i64 120, .int .i64 150, .int .i64 50000, .int .i64 60000, .int .i64 90, .int .i64 110, .int .i64 30000, .int .i64 33000].toArray, .agg [.int .i64 1, .int .i64 66800000, .int .i64 66800000, .int .i64 0, .int .i64 0, .int .i64 0, .int .i64 0].toArray].toArray w fun e w' => e = .returned (.tuple #[.agg [.int .i64 17350, .int .i64 20000].toArray, .int .i64 0]) ∧ Ext [] w w' :=
  (c27 oneB ⟨1, 66800000, 66800000, 0, 0, 0, 0⟩).mono fun e w' h => ⟨h.1.trans (by kernel_rfl), h.2⟩
theorem one8 {w : World} : Calls Try.prog 8 [.agg [.int .i64 2000, .int .i64 5000, .int .i64 7000, .int .i64 100, .int .i64 160, .int .i64 120, .int .i64 150, .int .i64 50000, .int .i64 60000, .int .i64 90, .int .i64 110, .int .i64 30000, .int .i64 33000].toArray, .agg [.int .i64 17000, .int .i64 21000].toArray, .agg [.int .i64 (-500000), .int .i64 500000].toArray].toArray w fun e w' => e = .returned (.tuple #[.agg [.int .i64 65950000, .int .i64 69643339].toArray, .int .i64 0]) ∧ Ext [] w w' :=
  (c8 oneB 17000 21000 (-500000) 500000).mono fun e w' h => ⟨h.1.trans (by kernel_rfl), h.2⟩

-- == f26 acme/acmetop.armBolt params [] results [4] in [('tmp', ['0'])] ntmps 42 nfree 0
theorem c26 {w : World} : Calls Try.prog 26 [].toArray w fun e w' => e = .returned (.bool true) ∧ Ext [] w w' := by
  refine fn_start Try.func26 rfl (N := 42) rfl ?_
  refine k_seq (k_region ?_)
  refine o_val (ex_assign rfl) (o_nil ?_)
  refine k_seq (k_region ?_)
  refine o_val (ex_call Try.call22 rfl (fun W hW => c22 100 160)) ?_
  refine o_val (ex_call Try.call22 rfl (fun W hW => c22 120 150)) ?_
  refine o_val (ex_call Try.call22 rfl (fun W hW => c22 50000 60000)) ?_
  refine o_val (ex_call Try.call22 rfl (fun W hW => c22 90 110)) ?_
  refine o_val (ex_call Try.call22 rfl (fun W hW => c22 30000 33000)) ?_
  refine o_val (ex_build bf25 rfl) ?_
  refine o_alloc Try.zeroValue25 (fun b1 => ?_)
  refine o_store Try.sizeOf25 rfl rfl (o_nil ?_)
  refine k_seq (k_draw [true, true, true, true, true, true, true, false, false, false] 3 ?_ mixed (by kernel_rfl) rfl)
  refine d_loadA (i := 0) Try.isAgg25 Try.sizeOf25 rfl ?_
  refine d_val (i := 1) [] (ex_call Try.call22 rfl (fun W hW => c22 66800000 66800000)) ?_
  refine d_val (i := 2) [] (ex_build bf47 rfl) ?_
  refine d_val (i := 3) [] (ex_call Try.call27 rfl (fun W hW => one27)) ?_
  refine d_val (i := 4) [] (ex_move rfl) ?_
  refine d_val (i := 5) [] (ex_extract rfl rfl) ?_
  refine d_val (i := 6) [] (ex_extract rfl rfl) ?_
  refine d_rest ?_
  refine d_rest ?_
  refine d_rest ?_
  refine d_nil ?_
  refine r_one 7 (rs_alloc rfl Try.zeroValue23 (fun b2 => ?_)) (by kernel_rfl)
  refine r_one 8 (rs_store [7, 5, 3, 0, 1, 2, 3, 4, 5, 7] rfl Try.sizeOf23 rfl rfl ?_) (by kernel_rfl)
  refine r_one 9 (rs_val rfl (ex_assign rfl) ?_) (by kernel_rfl)
  refine r_nil ?_ (by kernel_rfl)
  refine k_seq (k_draw [true, true, true, true, true, true, true, false, false, false] 3 ?_ mixed (by kernel_rfl) rfl)
  refine d_loadA (i := 0) Try.isAgg25 Try.sizeOf25 rfl ?_
  refine d_val (i := 1) [] (ex_call Try.call22 rfl (fun W hW => c22 17000 21000)) ?_
  refine d_val (i := 2) [] (ex_call Try.call22 rfl (fun W hW => c22 (-500000) 500000)) ?_
  refine d_val (i := 3) [] (ex_call Try.call8 rfl (fun W hW => one8)) ?_
  refine d_val (i := 4) [] (ex_move rfl) ?_
  refine d_val (i := 5) [] (ex_extract rfl rfl) ?_
  refine d_val (i := 6) [] (ex_extract rfl rfl) ?_
  refine d_rest ?_
  refine d_rest ?_
  refine d_rest ?_
  refine d_nil ?_
  refine r_one 7 (rs_alloc rfl Try.zeroValue23 (fun b4 => ?_)) (by kernel_rfl)
  refine r_one 8 (rs_store [7, 5, 3, 0, 1, 2, 3, 4, 5, 7] rfl Try.sizeOf23 rfl rfl ?_) (by kernel_rfl)
  refine r_one 9 (rs_val rfl (ex_assign rfl) ?_) (by kernel_rfl)
  refine r_nil ?_ (by kernel_rfl)
  refine k_seq (k_draw [true, true, true, true, true, true, true, true, true, true, true, true, true, true, true, true, false] 1 ?_ mixed (by kernel_rfl) rfl)
  refine d_val (i := 0) [] (ex_move rfl) ?_
  refine d_val (i := 1) [] (ex_eql rfl rfl) ?_
  refine d_val (i := 2) [] (ex_move rfl) ?_
  refine d_val_g (i := 3) [] (ex_move rfl) ?_
  refine d_val_g (i := 4) [] (ex_eql rfl rfl) ?_
  refine d_val (i := 5) [] (ex_pick rfl rfl) ?_
  refine d_val (i := 6) [] (ex_move rfl) ?_
  refine d_loadA_g (i := 7) Try.isAgg23 Try.sizeOf23 rfl ?_
  refine d_val_g (i := 8) [] (ex_call Try.call22 rfl (fun W hW => c22 17350 20000)) ?_
  refine d_val_g (i := 9) [] (ex_eql_23 rfl rfl) ?_
  refine d_val (i := 10) [] (ex_pick rfl rfl) ?_
  refine d_val (i := 11) [] (ex_move rfl) ?_
  refine d_loadA_g (i := 12) Try.isAgg23 Try.sizeOf23 rfl ?_
  refine d_val_g (i := 13) [] (ex_call Try.call22 rfl (fun W hW => c22 65950000 69643339)) ?_
  refine d_val_g (i := 14) [] (ex_eql_23 rfl rfl) ?_
  refine d_val (i := 15) [] (ex_pick rfl rfl) ?_
  refine d_rest ?_
  refine d_nil ?_
  refine r_one 16 (rs_val rfl (ex_assign rfl) ?_) (by kernel_rfl)
  refine r_nil ?_ (by kernel_rfl)
  refine k_ret ?_
  exact fin1 rfl rfl fun W hW => ⟨rfl, hW.ext⟩

/-- The arm's bolt. -/
def armB (lead s1 s2 o0 o1 o2 o3 p0 p1 : Int) : Bo := ⟨lead, 20 * s1, 30 * s2, o0, o0 + o1 % 60, o2, o2 + o3 % 60, 1000, 1000, 1 + p0, 1 + p0 + p1 % 20, 20000, 30000⟩

theorem armB_ok {lead s1 s2 o0 o1 o2 o3 p0 p1 : Int} (hl : 1 ≤ lead ∧ lead ≤ 100000) (hs1 : 0 ≤ s1 ∧ s1 ≤ 255) (hs2 : 0 ≤ s2 ∧ s2 ≤ 255) (ho0 : 0 ≤ o0 ∧ o0 ≤ 255) (ho1 : 0 ≤ o1 ∧ o1 ≤ 255) (ho2 : 0 ≤ o2 ∧ o2 ≤ 255) (ho3 : 0 ≤ o3 ∧ o3 ≤ 255) (hp0 : 0 ≤ p0 ∧ p0 ≤ 255) (hp1 : 0 ≤ p1 ∧ p1 ≤ 255) : (armB lead s1 s2 o0 o1 o2 o3 p0 p1).Ok := by
  unfold armB
  constructor <;> simp only [] <;> omega

-- == f21 (acme/acmetop.ArmBolt).kind params [62, 3] results [25] in [('cell', ['4', '25'])] ntmps 66 nfree 0
theorem c21 (lead s0 s1 s2 o0 o1 o2 o3 p0 p1 : Int) {w : World} (hs0 : 0 ≤ s0 ∧ s0 ≤ 255) (hs1 : 0 ≤ s1 ∧ s1 ≤ 255) (hs2 : 0 ≤ s2 ∧ s2 ≤ 255) (ho0 : 0 ≤ o0 ∧ o0 ≤ 255) (ho1 : 0 ≤ o1 ∧ o1 ≤ 255) (ho2 : 0 ≤ o2 ∧ o2 ≤ 255) (ho3 : 0 ≤ o3 ∧ o3 ≤ 255) (hp0 : 0 ≤ p0 ∧ p0 ≤ 255) (hp1 : 0 ≤ p1 ∧ p1 ≤ 255) : Calls Try.prog 21 [.agg [.int .u8 s0, .int .u8 s1, .int .u8 s2, .int .u8 o0, .int .u8 o1, .int .u8 o2, .int .u8 o3, .int .u8 p0, .int .u8 p1].toArray, .int .i64 lead].toArray w fun e w' => e = .returned (.agg [.int .i64 (armB lead s1 s2 o0 o1 o2 o3 p0 p1).lead, .int .i64 (armB lead s1 s2 o0 o1 o2 o3 p0 p1).thread, .int .i64 (armB lead s1 s2 o0 o1 o2 o3 p0 p1).head, .int .i64 (armB lead s1 s2 o0 o1 o2 o3 p0 p1).tl, .int .i64 (armB lead s1 s2 o0 o1 o2 o3 p0 p1).th, .int .i64 (armB lead s1 s2 o0 o1 o2 o3 p0 p1).hl, .int .i64 (armB lead s1 s2 o0 o1 o2 o3 p0 p1).hh, .int .i64 (armB lead s1 s2 o0 o1 o2 o3 p0 p1).sl, .int .i64 (armB lead s1 s2 o0 o1 o2 o3 p0 p1).sh, .int .i64 (armB lead s1 s2 o0 o1 o2 o3 p0 p1).pl, .int .i64 (armB lead s1 s2 o0 o1 o2 o3 p0 p1).ph, .int .i64 (armB lead s1 s2 o0 o1 o2 o3 p0 p1).yl, .int .i64 (armB lead s1 s2 o0 o1 o2 o3 p0 p1).yh].toArray) ∧ Ext [] w w' := by
  refine fn_start Try.func21 rfl (N := 66) rfl ?_
  refine k_seq (k_region ?_)
  refine o_box rfl (fun b2 => ?_)
  refine o_alloc Try.zeroValue25 (fun b4 => o_nil ?_)
  refine k_seq (k_draw [true, true, true, true, true, true, true, true, true, true, true, true, true, true, true, true, true, true, true, true, true, true, true, true, true, true, true, true, true, true, true, true, true, true, true, true, true, true, true, true, true, true, true, true, true, true, true, true, true, true, true, true, true, true, true, true, true, true, true, true, true, false] 1 ?_ mixed (by kernel_rfl) rfl)
  refine d_val (i := 0) [] (ex_move rfl) ?_
  refine d_val (i := 1) [] (ex_field (o := 0) 0 fa62_0 rfl rfl) ?_
  refine d_val (i := 2) [] (ex_indexArr 1 Try.runUnderlying58 Try.sizeOf5 rfl rfl (by decide) (by decide) rfl) ?_
  refine d_load (i := 3) Try.isAgg5 rfl rfl ?_
  refine d_val (i := 4) [] (ex_conv64 Try.runUnderlying5 Try.runUnderlying3 rfl (by unfold I64; omega)) ?_
  refine d_val (i := 5) [] (ex_mul64 rfl rfl (by unfold I64; omega)) ?_
  refine d_val (i := 6) [] (ex_field (o := 0) 0 fa62_0 rfl rfl) ?_
  refine d_val (i := 7) [] (ex_indexArr 2 Try.runUnderlying58 Try.sizeOf5 rfl rfl (by decide) (by decide) rfl) ?_
  refine d_load (i := 8) Try.isAgg5 rfl rfl ?_
  refine d_val (i := 9) [] (ex_conv64 Try.runUnderlying5 Try.runUnderlying3 rfl (by unfold I64; omega)) ?_
  refine d_val (i := 10) [] (ex_mul64 rfl rfl (by unfold I64; omega)) ?_
  refine d_val (i := 11) [] (ex_field (o := 0) 3 fa62_1 rfl rfl) ?_
  refine d_val (i := 12) [] (ex_indexArr 3 Try.runUnderlying59 Try.sizeOf5 rfl rfl (by decide) (by decide) rfl) ?_
  refine d_load (i := 13) Try.isAgg5 rfl rfl ?_
  refine d_val (i := 14) [] (ex_conv64 Try.runUnderlying5 Try.runUnderlying3 rfl (by unfold I64; omega)) ?_
  refine d_val (i := 15) [] (ex_field (o := 0) 3 fa62_1 rfl rfl) ?_
  refine d_val (i := 16) [] (ex_indexArr 3 Try.runUnderlying59 Try.sizeOf5 rfl rfl (by decide) (by decide) rfl) ?_
  refine d_load (i := 17) Try.isAgg5 rfl rfl ?_
  refine d_val (i := 18) [] (ex_conv64 Try.runUnderlying5 Try.runUnderlying3 rfl (by unfold I64; omega)) ?_
  refine d_val (i := 19) [] (ex_field (o := 0) 3 fa62_1 rfl rfl) ?_
  refine d_val (i := 20) [] (ex_indexArr 4 Try.runUnderlying59 Try.sizeOf5 rfl rfl (by decide) (by decide) rfl) ?_
  refine d_load (i := 21) Try.isAgg5 rfl rfl ?_
  refine d_val (i := 22) [] (ex_conv64 Try.runUnderlying5 Try.runUnderlying3 rfl (by unfold I64; omega)) ?_
  refine d_val (i := 23) [] (ex_remE rfl rfl (by omega) (by omega)) ?_
  refine d_val (i := 24) [] (ex_add64 rfl rfl (by unfold I64; omega)) ?_
  refine d_val (i := 25) [] (ex_call Try.call22 rfl (fun W hW => c22 o0 (o0 + o1 % 60))) ?_
  refine d_val (i := 26) [] (ex_field (o := 0) 3 fa62_1 rfl rfl) ?_
  refine d_val (i := 27) [] (ex_indexArr 5 Try.runUnderlying59 Try.sizeOf5 rfl rfl (by decide) (by decide) rfl) ?_
  refine d_load (i := 28) Try.isAgg5 rfl rfl ?_
  refine d_val (i := 29) [] (ex_conv64 Try.runUnderlying5 Try.runUnderlying3 rfl (by unfold I64; omega)) ?_
  refine d_val (i := 30) [] (ex_field (o := 0) 3 fa62_1 rfl rfl) ?_
  refine d_val (i := 31) [] (ex_indexArr 5 Try.runUnderlying59 Try.sizeOf5 rfl rfl (by decide) (by decide) rfl) ?_
  refine d_load (i := 32) Try.isAgg5 rfl rfl ?_
  refine d_val (i := 33) [] (ex_conv64 Try.runUnderlying5 Try.runUnderlying3 rfl (by unfold I64; omega)) ?_
  refine d_val (i := 34) [] (ex_field (o := 0) 3 fa62_1 rfl rfl) ?_
  refine d_val (i := 35) [] (ex_indexArr 6 Try.runUnderlying59 Try.sizeOf5 rfl rfl (by decide) (by decide) rfl) ?_
  refine d_load (i := 36) Try.isAgg5 rfl rfl ?_
  refine d_val (i := 37) [] (ex_conv64 Try.runUnderlying5 Try.runUnderlying3 rfl (by unfold I64; omega)) ?_
  refine d_val (i := 38) [] (ex_remE rfl rfl (by omega) (by omega)) ?_
  refine d_val (i := 39) [] (ex_add64 rfl rfl (by unfold I64; omega)) ?_
  refine d_val (i := 40) [] (ex_call Try.call22 rfl (fun W hW => c22 o2 (o2 + o3 % 60))) ?_
  refine d_val (i := 41) [] (ex_call Try.call22 rfl (fun W hW => c22 1000 1000)) ?_
  refine d_val (i := 42) [] (ex_field (o := 0) 7 fa62_2 rfl rfl) ?_
  refine d_val (i := 43) [] (ex_indexArr 7 Try.runUnderlying60 Try.sizeOf5 rfl rfl (by decide) (by decide) rfl) ?_
  refine d_load (i := 44) Try.isAgg5 rfl rfl ?_
  refine d_val (i := 45) [] (ex_conv64 Try.runUnderlying5 Try.runUnderlying3 rfl (by unfold I64; omega)) ?_
  refine d_val (i := 46) [] (ex_add64 rfl rfl (by unfold I64; omega)) ?_
  refine d_val (i := 47) [] (ex_field (o := 0) 7 fa62_2 rfl rfl) ?_
  refine d_val (i := 48) [] (ex_indexArr 7 Try.runUnderlying60 Try.sizeOf5 rfl rfl (by decide) (by decide) rfl) ?_
  refine d_load (i := 49) Try.isAgg5 rfl rfl ?_
  refine d_val (i := 50) [] (ex_conv64 Try.runUnderlying5 Try.runUnderlying3 rfl (by unfold I64; omega)) ?_
  refine d_val (i := 51) [] (ex_add64 rfl rfl (by unfold I64; omega)) ?_
  refine d_val (i := 52) [] (ex_field (o := 0) 7 fa62_2 rfl rfl) ?_
  refine d_val (i := 53) [] (ex_indexArr 8 Try.runUnderlying60 Try.sizeOf5 rfl rfl (by decide) (by decide) rfl) ?_
  refine d_load (i := 54) Try.isAgg5 rfl rfl ?_
  refine d_val (i := 55) [] (ex_conv64 Try.runUnderlying5 Try.runUnderlying3 rfl (by unfold I64; omega)) ?_
  refine d_val (i := 56) [] (ex_remE rfl rfl (by omega) (by omega)) ?_
  refine d_val (i := 57) [] (ex_add64 rfl rfl (by unfold I64; omega)) ?_
  refine d_val (i := 58) [] (ex_call Try.call22 rfl (fun W hW => c22 (1 + p0) (1 + p0 + p1 % 20))) ?_
  refine d_val (i := 59) [] (ex_call Try.call22 rfl (fun W hW => c22 20000 30000)) ?_
  refine d_val (i := 60) [] (ex_build bf25 rfl) ?_
  refine d_rest ?_
  refine d_nil ?_
  refine r_one 61 (rs_store [60, 59, 0, 1, 2, 3, 4, 5, 6, 7, 8, 9, 10, 11, 12, 13, 14, 15, 16, 17, 18, 19, 20, 21, 22, 23, 24, 25, 26, 27, 28, 29, 30, 31, 32, 33, 34, 35, 36, 37, 38, 39, 40, 41, 42, 43, 44, 45, 46, 47, 48, 49, 50, 51, 52, 53, 54, 55, 56, 57, 58, 59, 60] rfl Try.sizeOf25 rfl rfl ?_) (by kernel_rfl)
  refine r_nil ?_ (by kernel_rfl)
  refine k_ret ?_
  exact finC rfl Try.isAgg25 Try.sizeOf25 rfl rfl fun W hW => ⟨rfl, hW.ext⟩

end Go.Proofs.Yteecidddfcbabaa
