/- The walks of small functions: what each call hands back, and that nothing that was there has turned. Printed by a program of this session (wip/tools/gen.py). -/
import Derived.Test.YteecidddfcbabaaA5
import Derived.Test.YteecidddfcbabaaOwn2
namespace Go.Proofs.Yteecidddfcbabaa
open Go
attribute [local irreducible] ExV Ex
set_option synthInstance.maxSize 2000
set_option synthInstance.maxHeartbeats 200000

-- == f11 acme/acmeref09.In params [3, 3, 3] results [4] in [('tmp', ['6'])] ntmps 15 nfree 0
theorem c11 (n least most : Int) {w : World} : Calls Try.prog 11 [.int .i64 n, .int .i64 least, .int .i64 most].toArray w fun e w' => e = .returned (.bool (decide (least ≤ n) && decide (n ≤ most))) ∧ Ext [] w w' := by
  refine fn_start Try.func11 rfl (N := 15) rfl ?_
  refine k_seq (k_region ?_)
  refine o_val (ex_assign rfl) (o_nil ?_)
  refine k_seq (k_region ?_)
  refine o_val (ex_move rfl) ?_
  refine o_val (ex_move rfl) ?_
  refine o_val (ex_geq rfl rfl) ?_
  refine o_val (ex_move rfl) ?_
  refine o_and 3 (c := decide (n ≤ most)) (fun h => ?_) ?_
  · refine o_val_g (ex_move rfl) ?_
    refine o_val_g (ex_move rfl) ?_
    exact o_val_g (ex_leq rfl rfl) (o_nil (got rfl (.refl _)))
  refine o_val (ex_assign rfl) (o_nil ?_)
  refine k_ret ?_
  exact fin1 rfl rfl fun W hW => ⟨rfl, hW.ext⟩

theorem spanIn (lo hi least most : Int) : (decide (least ≤ lo) && decide (lo ≤ hi) && decide (hi ≤ most)) = isSp lo hi least most := by
  unfold isSp
  rw [Bool.eq_iff_iff]
  simp only [Bool.and_eq_true, decide_eq_true_eq]
  omega
theorem Bo.chk_ref (b : Bo) : ((((((decide (1 ≤ b.lead) && decide (b.lead ≤ 100000) && (decide (0 ≤ b.thread) && decide (b.thread ≤ 100000))) && (decide (0 ≤ b.head) && decide (b.head ≤ 100000))) && isSp b.tl b.th 0 1000) && isSp b.hl b.hh 0 1000) && isSp b.sl b.sh 1 100000000) && isSp b.pl b.ph 1 100000 && isSp b.yl b.yh 1 100000000) = b.chk := by
  unfold Bo.chk isSp
  rw [wi_one, wi_two, Bool.eq_iff_iff]
  simp only [Bool.and_eq_true, decide_eq_true_eq]
  omega

-- == f13 acme/acmeref09.Span params [23, 3, 3] results [4] in [('tmp', ['6'])] ntmps 19 nfree 0
theorem c13 (lo hi least most : Int) {w : World} : Calls Try.prog 13 [.agg [.int .i64 lo, .int .i64 hi].toArray, .int .i64 least, .int .i64 most].toArray w fun e w' => e = .returned (.bool (isSp lo hi least most)) ∧ Ext [] w w' := by
  refine fn_start Try.func13 rfl (N := 19) rfl ?_
  refine k_seq (k_region ?_)
  refine o_box rfl (fun b3 => ?_)
  refine o_val (ex_assign rfl) (o_nil ?_)
  refine k_seq (k_region ?_)
  refine o_val (ex_field (o := 0) 0 fa23_0 rfl rfl) ?_
  refine o_val (ex_load Try.isAgg3 rfl rfl) ?_
  refine o_val (ex_move rfl) ?_
  refine o_val (ex_field (o := 0) 1 fa23_1 rfl rfl) ?_
  refine o_val (ex_load Try.isAgg3 rfl rfl) ?_
  refine o_val (ex_call Try.call11 rfl (fun W hW => c11 lo least hi)) ?_
  refine o_val (ex_move rfl) ?_
  refine o_and 4 (c := decide (hi ≤ most)) (fun h => ?_) ?_
  · refine o_val_g (ex_field (o := 0) 1 fa23_1 rfl rfl) ?_
    refine o_val_g (ex_load Try.isAgg3 rfl rfl) ?_
    refine o_val_g (ex_move rfl) ?_
    exact o_val_g (ex_leq rfl rfl) (o_nil (got rfl (.refl _)))
  refine o_val (ex_assign rfl) (o_nil ?_)
  refine k_ret ?_
  exact fin1 rfl rfl fun W hW => ⟨by rw [spanIn], hW.ext⟩

-- == f9 acme/acmeref09.Kind params [25] results [4] in [('tmp', ['2'])] ntmps 41 nfree 0
theorem c9 (b : Bo) {w : World} : Calls Try.prog 9 [.agg [.int .i64 b.lead, .int .i64 b.thread, .int .i64 b.head, .int .i64 b.tl, .int .i64 b.th, .int .i64 b.hl, .int .i64 b.hh, .int .i64 b.sl, .int .i64 b.sh, .int .i64 b.pl, .int .i64 b.ph, .int .i64 b.yl, .int .i64 b.yh].toArray].toArray w fun e w' => e = .returned (.bool b.chk) ∧ Ext [] w w' := by
  refine fn_start Try.func9 rfl (N := 41) rfl ?_
  refine k_seq (k_region ?_)
  refine o_box rfl (fun b1 => ?_)
  refine o_val (ex_assign rfl) (o_nil ?_)
  refine k_seq (k_region ?_)
  refine o_val (ex_field (o := 0) 0 fa25_0 rfl rfl) ?_
  refine o_val (ex_load Try.isAgg3 rfl rfl) ?_
  refine o_val (ex_call Try.call11 rfl (fun W hW => c11 b.lead 1 100000)) ?_
  refine o_val (ex_move rfl) ?_
  refine o_and 3 (c := decide (0 ≤ b.thread) && decide (b.thread ≤ 100000)) (fun h => ?_) ?_
  · refine o_val_g (ex_field (o := 0) 1 fa25_1 rfl rfl) ?_
    refine o_val_g (ex_load Try.isAgg3 rfl rfl) ?_
    exact o_val_g (ex_call Try.call11 rfl (fun W hW => c11 b.thread 0 100000)) (o_nil (got rfl (.refl _)))
  refine o_val (ex_move rfl) ?_
  refine o_and 3 (c := decide (0 ≤ b.head) && decide (b.head ≤ 100000)) (fun h => ?_) ?_
  · refine o_val_g (ex_field (o := 0) 2 fa25_2 rfl rfl) ?_
    refine o_val_g (ex_load Try.isAgg3 rfl rfl) ?_
    exact o_val_g (ex_call Try.call11 rfl (fun W hW => c11 b.head 0 100000)) (o_nil (got rfl (.refl _)))
  refine o_val (ex_move rfl) ?_
  refine o_and 3 (c := isSp b.tl b.th 0 1000) (fun h => ?_) ?_
  · refine o_val_g (ex_field (o := 0) 3 fa25_3 rfl rfl) ?_
    refine o_val_g (ex_loadA Try.isAgg23 Try.sizeOf23 rfl) ?_
    exact o_val_g (ex_call Try.call13 rfl (fun W hW => c13 b.tl b.th 0 1000)) (o_nil (got rfl (.refl _)))
  refine o_val (ex_move rfl) ?_
  refine o_and 3 (c := isSp b.hl b.hh 0 1000) (fun h => ?_) ?_
  · refine o_val_g (ex_field (o := 0) 5 fa25_4 rfl rfl) ?_
    refine o_val_g (ex_loadA Try.isAgg23 Try.sizeOf23 rfl) ?_
    exact o_val_g (ex_call Try.call13 rfl (fun W hW => c13 b.hl b.hh 0 1000)) (o_nil (got rfl (.refl _)))
  refine o_val (ex_move rfl) ?_
  refine o_and 3 (c := isSp b.sl b.sh 1 100000000) (fun h => ?_) ?_
  · refine o_val_g (ex_field (o := 0) 7 fa25_5 rfl rfl) ?_
    refine o_val_g (ex_loadA Try.isAgg23 Try.sizeOf23 rfl) ?_
    exact o_val_g (ex_call Try.call13 rfl (fun W hW => c13 b.sl b.sh 1 100000000)) (o_nil (got rfl (.refl _)))
  refine o_val (ex_move rfl) ?_
  refine o_and 3 (c := isSp b.pl b.ph 1 100000) (fun h => ?_) ?_
  · refine o_val_g (ex_field (o := 0) 9 fa25_6 rfl rfl) ?_
    refine o_val_g (ex_loadA Try.isAgg23 Try.sizeOf23 rfl) ?_
    exact o_val_g (ex_call Try.call13 rfl (fun W hW => c13 b.pl b.ph 1 100000)) (o_nil (got rfl (.refl _)))
  refine o_val (ex_move rfl) ?_
  refine o_and 3 (c := isSp b.yl b.yh 1 100000000) (fun h => ?_) ?_
  · refine o_val_g (ex_field (o := 0) 11 fa25_7 rfl rfl) ?_
    refine o_val_g (ex_loadA Try.isAgg23 Try.sizeOf23 rfl) ?_
    exact o_val_g (ex_call Try.call13 rfl (fun W hW => c13 b.yl b.yh 1 100000000)) (o_nil (got rfl (.refl _)))
  refine o_val (ex_assign rfl) (o_nil ?_)
  refine k_ret ?_
  exact fin1 rfl rfl fun W hW => ⟨by rw [Bo.chk_ref], hW.ext⟩

def pk (lo hi : Int) (k bit : Nat) : Int := if k / 2 ^ bit % 2 = 1 then hi else lo

structure Tr where
  (t h stiff spring yield torque angle stretch : Int)
def Tr.cells (x : Tr) : List Value := [Value.int .i64 x.t, Value.int .i64 x.h, Value.int .i64 x.stiff, Value.int .i64 x.spring, Value.int .i64 x.yield, Value.int .i64 x.torque, Value.int .i64 x.angle, Value.int .i64 x.stretch]
def truth (b : Bo) (y : Wa) (k : Nat) : Tr := ⟨pk b.tl b.th k 0, pk b.hl b.hh k 1, pk b.sl b.sh k 2, pk b.pl b.ph k 3, pk b.yl b.yh k 4, pk y.tl y.th k 5, pk y.al y.ah k 6, pk y.sl y.sh k 7⟩
def truths (b : Bo) (y : Wa) (n : Nat) : List Value := (List.range n).flatMap fun k => (truth b y k).cells
theorem truths_succ (b : Bo) (y : Wa) (n : Nat) : truths b y (n + 1) = truths b y n ++ (truth b y n).cells := by
  unfold truths
  rw [List.range_succ, List.flatMap_append]
  simp

theorem bit_int (k bit : Nat) : ((k : Int) / 2 ^ bit % 2 = 1) ↔ k / 2 ^ bit % 2 = 1 := by
  have : ((k / 2 ^ bit % 2 : Nat) : Int) = (k : Int) / 2 ^ bit % 2 := by
    rw [Int.natCast_emod, Int.natCast_ediv, Int.natCast_pow]; rfl
  omega
theorem bit_le (k bit : Nat) : (0 : Int) ≤ (k : Int) / 2 ^ bit ∧ (k : Int) / 2 ^ bit ≤ k := by
  have : ((k / 2 ^ bit : Nat) : Int) = (k : Int) / 2 ^ bit := by
    rw [Int.natCast_ediv, Int.natCast_pow]; rfl
  rw [← this]
  exact ⟨Int.natCast_nonneg _, Int.ofNat_le.2 (Nat.div_le_self k (2 ^ bit))⟩

-- == f75 acme/acmeref09.End params [23, 3, 3] results [3] in [('tmp', ['6'])] ntmps 17 nfree 0
theorem c75 (lo hi : Int) (k bit : Nat) {w : World} (hk : k ≤ 255) (hb : bit ≤ 7) : Calls Try.prog 75 [.agg [.int .i64 lo, .int .i64 hi].toArray, .int .i64 (k : Int), .int .i64 (bit : Int)].toArray w fun e w' => e = .returned (.int .i64 (pk lo hi k bit)) ∧ Ext [] w w' := by
  have hbl := bit_le k bit
  refine fn_start Try.func75 rfl (N := 17) rfl ?_
  refine k_seq (k_region ?_)
  refine o_box rfl (fun b3 => ?_)
  refine o_val (ex_assign rfl) (o_nil ?_)
  refine k_seq (k_seq (k_region ?_))
  refine o_val (ex_move rfl) ?_
  refine o_val (ex_move rfl) ?_
  refine o_val (ex_conv Try.runUnderlying3 Try.runUnderlying132 rfl (IntWalk.u64_in _ (by omega))) ?_
  refine o_val (ex_shr64 (s := bit) rfl rfl (by omega)) ?_
  refine o_val (ex_and1 rfl rfl (by omega) (by unfold I64; omega)) ?_
  refine o_val (ex_eql rfl rfl) (o_nil ?_)
  refine k_cond rfl (fun h => ?_) (fun h => ?_)
  ·
    refine k_seq (k_region ?_)
    refine o_val (ex_field (o := 0) 1 fa23_1 rfl rfl) ?_
    refine o_val (ex_load Try.isAgg3 rfl rfl) ?_
    refine o_val (ex_assign rfl) (o_nil ?_)
    refine k_ret ?_
    exact fin1 rfl rfl fun W hW => ⟨by unfold pk; rw [if_pos ((bit_int k bit).1 (of_decide_eq_true h))], hW.ext⟩
  ·
    refine k_skip ?_
    refine k_seq (k_region ?_)
    refine o_val (ex_field (o := 0) 0 fa23_0 rfl rfl) ?_
    refine o_val (ex_load Try.isAgg3 rfl rfl) ?_
    refine o_val (ex_assign rfl) (o_nil ?_)
    refine k_ret ?_
    exact fin1 rfl rfl fun W hW => ⟨by unfold pk; rw [if_neg (fun e => of_decide_eq_false h ((bit_int k bit).2 e))], hW.ext⟩

-- == f50 acme/acmeref09.Truths params [25, 47] results [97] in [('tmp', ['4'])] ntmps 50 nfree 0
theorem c50 (b : Bo) (y : Wa) {w : World} : Calls Try.prog 50 [.agg [.int .i64 b.lead, .int .i64 b.thread, .int .i64 b.head, .int .i64 b.tl, .int .i64 b.th, .int .i64 b.hl, .int .i64 b.hh, .int .i64 b.sl, .int .i64 b.sh, .int .i64 b.pl, .int .i64 b.ph, .int .i64 b.yl, .int .i64 b.yh].toArray, .agg [.int .i64 y.kind, .int .i64 y.tl, .int .i64 y.th, .int .i64 y.al, .int .i64 y.ah, .int .i64 y.sl, .int .i64 y.sh].toArray].toArray w fun e w' => ∃ v, e = .returned v ∧ FreshV 101 8 v 256 (truths b y 256) w w' ∧ Ext [] w w' := by
  refine fn_start Try.func50 rfl (N := 50) rfl ?_
  refine k_seq (k_region ?_)
  refine o_box rfl (fun b2 => ?_)
  refine o_box rfl (fun b3 => ?_)
  refine o_val (ex_assign rfl) (o_nil ?_)
  refine k_seq (k_region ?_)
  refine o_buildNil Try.runUnderlying97 Try.sizeOf101 (fun v7 x7 o7 => ?_)
  refine o_val (ex_assign rfl) (o_nil ?_)
  refine k_seq (k_seq (k_region ?_))
  refine o_val (ex_assign rfl) (o_nil ?_)
  refine k_block ?_
  refine k_loop (ι := Nat × Value × Hp) (fun k => [(2, .pointer (some ⟨b2, 0, none⟩)), (3, .pointer (some ⟨b3, 0, none⟩)), (5, k.2.1), (6, .int .i64 (k.1 : Int))]) (fun k => k.2.2 ++ [⟨b3, 47, [.int .i64 y.kind, .int .i64 y.tl, .int .i64 y.th, .int .i64 y.al, .int .i64 y.ah, .int .i64 y.sl, .int .i64 y.sh], true⟩, ⟨b2, 25, [.int .i64 b.lead, .int .i64 b.thread, .int .i64 b.head, .int .i64 b.tl, .int .i64 b.th, .int .i64 b.hl, .int .i64 b.hh, .int .i64 b.sl, .int .i64 b.sh, .int .i64 b.pl, .int .i64 b.ph, .int .i64 b.yl, .int .i64 b.yh], true⟩]) (fun k => OwnsV 101 8 k.2.1 k.1 (truths b y k.1) k.2.2 ∧ k.1 ≤ 256) (fun k => 256 - k.1) (0, v7, x7) ⟨o7, Nat.zero_le _⟩ (Sub.cons rfl (Sub.cons rfl (Sub.cons rfl (Sub.cons rfl (Sub.nil _))))) SubE.sub (fun k hk => ?_)
  obtain ⟨k, v, Hx⟩ := k
  dsimp only at hk ⊢
  obtain ⟨ho, hk⟩ := hk
  refine k_seq (k_seq (k_region ?_))
  refine o_val (ex_move rfl) ?_
  refine o_val (ex_lss rfl rfl) (o_nil ?_)
  refine k_cond rfl (fun h => ?_) (fun h => ?_)
  ·
    have hlt : k < 256 := by have : (k : Int) < 256 := of_decide_eq_true h; omega
    refine k_skip ?_
    refine k_seq (k_block ?_)
    refine k_draw [true, true, true, true, true, true, true, true, true, true, true, true, true, true, true, true, true, true, true, true, true, true, true, true, true, true, true, true, true, true, true, true, true, true, true, false, false, false] 3 ?_ mixed (by kernel_rfl) rfl
    refine d_val (i := 0) [] (ex_move rfl) ?_
    refine d_val (i := 1) [] (ex_field (o := 0) 3 fa25_3 rfl rfl) ?_
    refine d_loadA (i := 2) Try.isAgg23 Try.sizeOf23 rfl ?_
    refine d_val (i := 3) [] (ex_move rfl) ?_
    refine d_val (i := 4) [] (ex_call Try.call75 rfl (fun W hW => (by exact c75 b.tl b.th k 0 (by omega) (by omega)))) ?_
    refine d_val (i := 5) [] (ex_field (o := 0) 5 fa25_4 rfl rfl) ?_
    refine d_loadA (i := 6) Try.isAgg23 Try.sizeOf23 rfl ?_
    refine d_val (i := 7) [] (ex_move rfl) ?_
    refine d_val (i := 8) [] (ex_call Try.call75 rfl (fun W hW => (by exact c75 b.hl b.hh k 1 (by omega) (by omega)))) ?_
    refine d_val (i := 9) [] (ex_build bf26 rfl) ?_
    refine d_val (i := 10) [] (ex_field (o := 0) 7 fa25_5 rfl rfl) ?_
    refine d_loadA (i := 11) Try.isAgg23 Try.sizeOf23 rfl ?_
    refine d_val (i := 12) [] (ex_move rfl) ?_
    refine d_val (i := 13) [] (ex_call Try.call75 rfl (fun W hW => (by exact c75 b.sl b.sh k 2 (by omega) (by omega)))) ?_
    refine d_val (i := 14) [] (ex_field (o := 0) 9 fa25_6 rfl rfl) ?_
    refine d_loadA (i := 15) Try.isAgg23 Try.sizeOf23 rfl ?_
    refine d_val (i := 16) [] (ex_move rfl) ?_
    refine d_val (i := 17) [] (ex_call Try.call75 rfl (fun W hW => (by exact c75 b.pl b.ph k 3 (by omega) (by omega)))) ?_
    refine d_val (i := 18) [] (ex_field (o := 0) 11 fa25_7 rfl rfl) ?_
    refine d_loadA (i := 19) Try.isAgg23 Try.sizeOf23 rfl ?_
    refine d_val (i := 20) [] (ex_move rfl) ?_
    refine d_val (i := 21) [] (ex_call Try.call75 rfl (fun W hW => (by exact c75 b.yl b.yh k 4 (by omega) (by omega)))) ?_
    refine d_val (i := 22) [] (ex_field (o := 0) 1 fa47_1 rfl rfl) ?_
    refine d_loadA (i := 23) Try.isAgg23 Try.sizeOf23 rfl ?_
    refine d_val (i := 24) [] (ex_move rfl) ?_
    refine d_val (i := 25) [] (ex_call Try.call75 rfl (fun W hW => (by exact c75 y.tl y.th k 5 (by omega) (by omega)))) ?_
    refine d_val (i := 26) [] (ex_field (o := 0) 3 fa47_2 rfl rfl) ?_
    refine d_loadA (i := 27) Try.isAgg23 Try.sizeOf23 rfl ?_
    refine d_val (i := 28) [] (ex_move rfl) ?_
    refine d_val (i := 29) [] (ex_call Try.call75 rfl (fun W hW => (by exact c75 y.al y.ah k 6 (by omega) (by omega)))) ?_
    refine d_val (i := 30) [] (ex_field (o := 0) 5 fa47_3 rfl rfl) ?_
    refine d_loadA (i := 31) Try.isAgg23 Try.sizeOf23 rfl ?_
    refine d_val (i := 32) [] (ex_move rfl) ?_
    refine d_val (i := 33) [] (ex_call Try.call75 rfl (fun W hW => (by exact c75 y.sl y.sh k 7 (by omega) (by omega)))) ?_
    refine d_val (i := 34) [] (ex_build bf101 rfl) ?_
    refine d_rest ?_
    refine d_rest ?_
    refine d_rest ?_
    refine d_nil ?_
    refine r_one 35 (rs_buildSlice [.int .i64 0, .int .i64 0, .int .i64 0, .int .i64 0, .int .i64 0, .int .i64 0, .int .i64 0, .int .i64 0] [(0, 8)] rfl Try.runUnderlying97 Try.sizeOf101 Try.zeroValue101 rfl (fun b47 => ?_)) (by kernel_rfl)
    refine r_one 36 (rs_append (bytes := 64) [0, 35, 33] rfl ho Try.underlying97 (by kernel_rfl) rfl rfl (by unfold maxLen; omega) (by omega) (fun v48 x48 o48 => ?_)) (by kernel_rfl)
    refine r_one 37 (rs_val rfl (ex_assign rfl) ?_) (by kernel_rfl)
    refine r_nil ?_ (by kernel_rfl)
    refine k_region ?_
    refine o_val (ex_move rfl) ?_
    refine o_val (ex_add64 rfl rfl (by unfold I64; omega)) ?_
    refine o_val (ex_assign rfl) (o_nil ?_)
    exact k_some (k + 1, v48, x48) ⟨⟨by rw [truths_succ]; exact o48, hlt⟩, (by show 256 - (k + 1) < 256 - k; omega)⟩ (Sub.cons rfl (Sub.cons rfl (Sub.cons rfl (Sub.cons rfl (Sub.nil _))))) SubE.sub
  ·
    have hk : k = 256 := by have : ¬ (k : Int) < 256 := of_decide_eq_false h; omega
    subst hk
    refine k_exit rfl ?_
    refine k_seq (k_region ?_)
    refine o_val (ex_move rfl) ?_
    refine o_val (ex_assign rfl) (o_nil ?_)
    refine k_ret ?_
    exact fin1 rfl rfl fun W hW => ⟨_, rfl, ho.fresh hW, hW.ext⟩

end Go.Proofs.Yteecidddfcbabaa
