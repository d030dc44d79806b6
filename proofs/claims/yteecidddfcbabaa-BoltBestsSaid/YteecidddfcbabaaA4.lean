/- The walks of small functions: what each call hands back, and that nothing that was there has turned. Printed by a program of this session (wip/tools/gen.py). -/
import Derived.Test.YteecidddfcbabaaA3
namespace Go.Proofs.Yteecidddfcbabaa
open Go
attribute [local irreducible] ExV Ex
set_option synthInstance.maxSize 2000
set_option synthInstance.maxHeartbeats 200000

theorem dwn_eq {n d : Int} (hd : 1 ≤ d) : (n - (n.tmod d + d).tmod d).tdiv d = n / d := by
  have e1 := Int.mul_tdiv_add_tmod n d
  have e2 : -d < n.tmod d := by
    have := Int.lt_tmod_of_pos n (show 0 < d by omega)
    omega
  have e3 : (n.tmod d + d).tmod d = n % d := by
    rw [Int.tmod_eq_emod_of_nonneg (by omega), Int.add_emod_right]
    have : n.tmod d = n - d * n.tdiv d := by omega
    rw [this, Int.sub_mul_emod_self_left]
  rw [e3]
  have e4 := Int.mul_ediv_add_emod n d
  rw [show n - n % d = d * (n / d) from by omega, Int.mul_tdiv_cancel_left _ (by omega)]

-- == f84 acme/zone.within$1 params [3] results [4] in [('tmp', ['4'])] ntmps 13 nfree 2
theorem c84 (n least most : Int) {p q : Addr} {w : World} (hp : w.cell? p = some (.int .i64 least)) (hq : w.cell? q = some (.int .i64 most)) : Calls Try.prog 84 [.int .i64 n, .pointer (some p), .pointer (some q)].toArray w fun e w' => e = .returned (.bool (decide (n < least) || decide (most < n))) ∧ Ext [] w w' := by
  refine fn_start Try.func84 rfl (N := 13) rfl ?_
  refine k_seq (k_region ?_)
  refine o_val (ex_assign rfl) (o_nil ?_)
  refine k_seq (k_region ?_)
  refine o_val (ex_move rfl) ?_
  refine o_val (ex_load_old Try.isAgg3 rfl hp (by simp)) ?_
  refine o_val (ex_lss rfl rfl) ?_
  refine o_val (ex_move rfl) ?_
  refine o_or 3 (c := decide (most < n)) (fun h => ?_) ?_
  · refine o_val_g (ex_move rfl) ?_
    refine o_val_g (ex_load_old Try.isAgg3 rfl hq (by simp)) ?_
    exact o_val_g (ex_gtr rfl rfl) (o_nil (got rfl (.refl _)))
  refine o_val (ex_assign rfl) (o_nil ?_)
  refine k_ret ?_
  exact fin1 rfl rfl fun W hW => ⟨rfl, hW.ext⟩

-- == f78 acme/zone.within params [3, 3, 42] results [4] in [('tmp', ['6'])] ntmps 11 nfree 0
theorem c78 (least most : Int) (l : List Int) {A : Option Addr} {c : Nat} {w : World} (hl : l.length < 4611686018427387904) (hrow : RowsAt w A (l.map (Value.int .i64))) : Calls Try.prog 78 [.int .i64 least, .int .i64 most, .slice A l.length c].toArray w fun e w' => e = .returned (.bool (wi least most l)) ∧ Ext [] w w' := by
  refine fn_start Try.func78 rfl (N := 11) rfl ?_
  refine k_seq (k_region ?_)
  refine o_box rfl (fun b3 => ?_)
  refine o_box rfl (fun b4 => ?_)
  refine o_val (ex_assign rfl) (o_nil ?_)
  refine k_seq (k_region ?_)
  refine o_val (ex_move rfl) ?_
  refine o_val (ex_makeFunc rfl rfl) ?_
  refine o_val (ex_call Try.call66 rfl (fun W hW => (by exact c66 (g := 84) (cap := [.pointer (some ⟨b3, 0, none⟩), .pointer (some ⟨b4, 0, none⟩)]) (fun n => decide (n < least) || decide (most < n)) l hl Try.call84 (row_ext hrow hW.ext) (fun x _ W1 h1 => c84 x least most (by have := hW.ext0 h1; exact cell_ent this (b := b3) (o := 0) rfl) (by have := hW.ext0 h1; exact cell_ent this (b := b4) (o := 0) rfl))))) ?_
  refine o_val (ex_not rfl) ?_
  refine o_val (ex_assign rfl) (o_nil ?_)
  refine k_ret ?_
  exact fin1 rfl rfl fun W hW => ⟨rfl, hW.ext⟩

-- == f77 (acme/zone.span).isValid params [122, 3, 3] results [4] in [('tmp', ['6'])] ntmps 26 nfree 0
theorem c77 (lo hi least most : Int) {w : World} : Calls Try.prog 77 [.agg [.int .i64 lo, .int .i64 hi].toArray, .int .i64 least, .int .i64 most].toArray w fun e w' => e = .returned (.bool (isSp lo hi least most)) ∧ Ext [] w w' := by
  refine fn_start Try.func77 rfl (N := 26) rfl ?_
  refine k_seq (k_region ?_)
  refine o_box rfl (fun b3 => ?_)
  refine o_val (ex_assign rfl) (o_nil ?_)
  refine k_seq (k_region ?_)
  refine o_val (ex_move rfl) ?_
  refine o_val (ex_move rfl) ?_
  refine o_val (ex_field (o := 0) 0 fa122_0 rfl rfl) ?_
  refine o_val (ex_field (o := 0) 0 fa23_0 rfl rfl) ?_
  refine o_val (ex_load Try.isAgg3 rfl rfl) ?_
  refine o_val (ex_field (o := 0) 0 fa122_0 rfl rfl) ?_
  refine o_val (ex_field (o := 0) 1 fa23_1 rfl rfl) ?_
  refine o_val (ex_load Try.isAgg3 rfl rfl) ?_
  refine o_buildSlice [.int .i64 0, .int .i64 0] [(0, 1), (1, 1)] Try.runUnderlying42 Try.sizeOf3 Try.zeroValue3 rfl (fun b15 => ?_)
  refine o_val (ex_call Try.call78 rfl (fun W hW => (by exact c78 least most [lo, hi] (by simp) (row_ints hW b15)))) ?_
  refine o_val (ex_move rfl) ?_
  refine o_and 7 (c := decide (lo ≤ hi)) (fun h => ?_) ?_
  · refine o_val_g (ex_field (o := 0) 0 fa122_0 rfl rfl) ?_
    refine o_val_g (ex_field (o := 0) 0 fa23_0 rfl rfl) ?_
    refine o_val_g (ex_load Try.isAgg3 rfl rfl) ?_
    refine o_val_g (ex_field (o := 0) 0 fa122_0 rfl rfl) ?_
    refine o_val_g (ex_field (o := 0) 1 fa23_1 rfl rfl) ?_
    refine o_val_g (ex_load Try.isAgg3 rfl rfl) ?_
    exact o_val_g (ex_leq rfl rfl) (o_nil (got rfl (.refl _)))
  refine o_val (ex_assign rfl) (o_nil ?_)
  refine k_ret ?_
  exact fin1 rfl rfl fun W hW => ⟨by rw [← isSp_eq, Bool.and_comm], hW.ext⟩

-- == f58 acme/zone.newCoat params [23, 4, 70] results [108, 29] in [('cell', ['6', '108']), ('tmp', ['7'])] ntmps 57 nfree 0
theorem c58 (lo hi tl th num den : Int) {w : World} (hs : isSp lo hi (-20000000) 20000000 = true) (ht : isSp tl th 0 10000 = true) (hn : 1 ≤ num ∧ num ≤ 1000) (hd : 1 ≤ den ∧ den ≤ 1000) : Calls Try.prog 58 [.agg [.int .i64 lo, .int .i64 hi].toArray, .bool false, .agg [.int .i64 tl, .int .i64 th, .int .i64 num, .int .i64 den].toArray].toArray w fun e w' => e = .returned (.tuple #[.agg [.int .i64 tl, .int .i64 th, .int .i64 num, .int .i64 den, .int .i64 (tl * num), .int .i64 (th * num)].toArray, .int .i64 0]) ∧ Ext [] w w' := by
  have hs1 := isSp_iff.1 hs
  have ht1 := isSp_iff.1 ht
  have m1 := mulB (a := tl) (A := 10000) (b := num) (B := 1000) (by omega) (by omega) (by omega) (by omega)
  have m2 := mulB (a := th) (A := 10000) (b := num) (B := 1000) (by omega) (by omega) (by omega) (by omega)
  refine fn_start Try.func58 rfl (N := 57) rfl ?_
  refine k_seq (k_region ?_)
  refine o_box rfl (fun b3 => ?_)
  refine o_box rfl (fun b5 => ?_)
  refine o_alloc Try.zeroValue108 (fun b6 => ?_)
  refine o_val (ex_assign rfl) (o_nil ?_)
  refine k_seq (k_seq (k_region ?_))
  refine o_val (ex_loadA Try.isAgg23 Try.sizeOf23 rfl) ?_
  refine o_val (ex_build bf122 rfl) ?_
  refine o_val (ex_call Try.call77 rfl (fun W hW => c77 lo hi (-20000000) 20000000)) ?_
  refine o_val (ex_not rfl) ?_
  refine o_val (ex_move rfl) ?_
  refine o_or 5 (c := false) (fun h => ?_) ?_
  · refine o_val_g (ex_field (o := 0) 0 fa70_0 rfl rfl) ?_
    refine o_val_g (ex_loadA Try.isAgg23 Try.sizeOf23 rfl) ?_
    refine o_val_g (ex_build bf122 rfl) ?_
    refine o_val_g (ex_call Try.call77 rfl (fun W hW => c77 tl th 0 10000)) ?_
    exact o_val_g (exv_eq (by rw [ht]) (ex_not rfl)) (o_nil (got rfl (.refl _)))
  refine o_val (ex_move rfl) ?_
  refine o_or 9 (c := false) (fun h => ?_) (o_nil ?_)
  · refine o_val_g (ex_field (o := 0) 2 fa70_1 rfl rfl) ?_
    refine o_val_g (ex_field (o := 2) 2 fa68_0 rfl rfl) ?_
    refine o_val_g (ex_load Try.isAgg3 rfl rfl) ?_
    refine o_val_g (ex_field (o := 0) 2 fa70_1 rfl rfl) ?_
    refine o_val_g (ex_field (o := 2) 3 fa68_1 rfl rfl) ?_
    refine o_val_g (ex_load Try.isAgg3 rfl rfl) ?_
    refine o_buildSlice_g [.int .i64 0, .int .i64 0] [(0, 1), (1, 1)] Try.runUnderlying42 Try.sizeOf3 Try.zeroValue3 rfl (fun b26 => ?_)
    refine o_val_g (ex_call Try.call78 rfl (fun W hW => (by exact c78 1 1000 [num, den] (by simp) (row_ints hW b26)))) ?_
    exact o_val_g (exv_eq (by rw [wi_two, decide_eq_true (by omega)]) (ex_not rfl)) (o_nil (got rfl (.cons _ (.refl _))))
  refine k_cond rfl (fun h => ?_) (fun h => ?_)
  ·
    simp [hs] at h
  ·
    refine k_skip ?_
    refine k_seq (k_region ?_)
    refine o_val (ex_loadA Try.isAgg70 Try.sizeOf70 rfl) ?_
    refine o_val (ex_field (o := 0) 0 fa70_0 rfl rfl) ?_
    refine o_val (ex_field (o := 0) 0 fa23_0 rfl rfl) ?_
    refine o_val (ex_load Try.isAgg3 rfl rfl) ?_
    refine o_val (ex_field (o := 0) 2 fa70_1 rfl rfl) ?_
    refine o_val (ex_field (o := 2) 2 fa68_0 rfl rfl) ?_
    refine o_val (ex_load Try.isAgg3 rfl rfl) ?_
    refine o_val (ex_mul64 rfl rfl (by unfold I64; omega)) ?_
    refine o_val (ex_field (o := 0) 0 fa70_0 rfl rfl) ?_
    refine o_val (ex_field (o := 0) 1 fa23_1 rfl rfl) ?_
    refine o_val (ex_load Try.isAgg3 rfl rfl) ?_
    refine o_val (ex_field (o := 0) 2 fa70_1 rfl rfl) ?_
    refine o_val (ex_field (o := 2) 2 fa68_0 rfl rfl) ?_
    refine o_val (ex_load Try.isAgg3 rfl rfl) ?_
    refine o_val (ex_mul64 rfl rfl (by unfold I64; omega)) ?_
    refine o_val (ex_build bf108 rfl) ?_
    refine o_store Try.sizeOf108 rfl rfl (o_nil ?_)
    refine k_seq (k_seq (k_region ?_))
    refine o_val (ex_move rfl) (o_nil ?_)
    refine k_cut (ι := Unit) (fun _ => [(6, .pointer (some ⟨b6, 0, none⟩))]) (fun _ => [⟨b6, 108, [.int .i64 tl, .int .i64 th, .int .i64 num, .int .i64 den, .int .i64 (tl * num), .int .i64 (th * num)], true⟩, ⟨b5, 70, [.int .i64 tl, .int .i64 th, .int .i64 num, .int .i64 den], true⟩, ⟨b3, 23, [.int .i64 lo, .int .i64 hi], true⟩]) (fun _ => True) ?_ (fun _ _ => ?_)
    · refine k_cond rfl (fun h_1 => ?_) (fun h_1 => ?_)
      ·
        cases h_1
      ·
        refine k_skip ?_
        exact k_some () trivial (Sub.cons rfl (Sub.nil _)) SubE.sub
    refine k_seq (k_region ?_)
    refine o_val (ex_loadA Try.isAgg108 Try.sizeOf108 rfl) ?_
    refine o_store Try.sizeOf108 rfl rfl ?_
    refine o_val (ex_assign rfl) (o_nil ?_)
    refine k_ret ?_
    exact finC1 rfl Try.isAgg108 Try.sizeOf108 rfl rfl rfl fun W hW => ⟨rfl, hW.ext⟩

-- == f60 (acme/zone.coat).down params [108, 3] results [3] in [('tmp', ['4'])] ntmps 21 nfree 0
theorem c60 (tl th num den l m n : Int) {w : World} (hd : 1 ≤ den ∧ den ≤ 1000) (hn : -20000000 ≤ n ∧ n ≤ 20000000) : Calls Try.prog 60 [.agg [.int .i64 tl, .int .i64 th, .int .i64 num, .int .i64 den, .int .i64 l, .int .i64 m].toArray, .int .i64 n].toArray w fun e w' => e = .returned (.int .i64 (n / den)) ∧ Ext [] w w' := by
  have e2 := Int.lt_tmod_of_pos n (show 0 < den by omega)
  have e3 := Int.tmod_lt_of_pos n (show 0 < den by omega)
  have e4 := Int.tmod_lt_of_pos (n.tmod den + den) (show 0 < den by omega)
  have e5 := Int.tmod_nonneg (a := n.tmod den + den) den (by omega)
  have hI : I64 (n - (n.tmod den + den).tmod den) := by unfold I64; omega
  refine fn_start Try.func60 rfl (N := 21) rfl ?_
  refine k_seq (k_region ?_)
  refine o_box rfl (fun b2 => ?_)
  refine o_val (ex_assign rfl) (o_nil ?_)
  refine k_seq (k_region ?_)
  refine o_val (ex_field (o := 0) 0 fa108_0 rfl rfl) ?_
  refine o_val (ex_field (o := 0) 2 fa70_1 rfl rfl) ?_
  refine o_val (ex_field (o := 2) 3 fa68_1 rfl rfl) ?_
  refine o_val (ex_load Try.isAgg3 rfl rfl) ?_
  refine o_val (ex_assign rfl) (o_nil ?_)
  refine k_seq (k_region ?_)
  refine o_val (ex_move rfl) ?_
  refine o_val (ex_move rfl) ?_
  refine o_val (ex_move rfl) ?_
  refine o_val (ex_rem64 rfl rfl (by omega)) ?_
  refine o_val (ex_move rfl) ?_
  refine o_val (ex_add64 rfl rfl (by unfold I64; omega)) ?_
  refine o_val (ex_move rfl) ?_
  refine o_val (ex_rem64 rfl rfl (by omega)) ?_
  refine o_val (ex_sub64 rfl rfl (by unfold I64; omega)) ?_
  refine o_val (ex_move rfl) ?_
  refine o_val (ex_quo64 rfl rfl (by omega) hI) ?_
  refine o_val (ex_assign rfl) (o_nil ?_)
  refine k_ret ?_
  exact fin1 rfl rfl fun W hW => ⟨by rw [dwn_eq hd.1], hW.ext⟩

-- == f59 (acme/zone.coat).up params [108, 3] results [3] in [('tmp', ['4'])] ntmps 10 nfree 0
theorem c59 (tl th num den l m n : Int) {w : World} (hd : 1 ≤ den ∧ den ≤ 1000) (hn : -20000000 ≤ n ∧ n ≤ 20000000) : Calls Try.prog 59 [.agg [.int .i64 tl, .int .i64 th, .int .i64 num, .int .i64 den, .int .i64 l, .int .i64 m].toArray, .int .i64 n].toArray w fun e w' => e = .returned (.int .i64 (upq n den)) ∧ Ext [] w w' := by
  refine fn_start Try.func59 rfl (N := 10) rfl ?_
  refine k_seq (k_region ?_)
  refine o_box rfl (fun b2 => ?_)
  refine o_val (ex_assign rfl) (o_nil ?_)
  refine k_seq (k_region ?_)
  refine o_val (ex_loadA Try.isAgg108 Try.sizeOf108 rfl) ?_
  refine o_val (ex_move rfl) ?_
  refine o_val (ex_neg64 rfl (by unfold I64; omega)) ?_
  refine o_val (ex_call Try.call60 rfl (fun W hW => c60 tl th num den l m (-n) hd (by omega))) ?_
  refine o_val (ex_neg64 rfl (by have := div_bounds (n := -n) (K := 20000000) hd.1 (by omega) (by omega) (by omega); unfold I64; omega)) ?_
  refine o_val (ex_assign rfl) (o_nil ?_)
  refine k_ret ?_
  exact fin1 rfl rfl fun W hW => ⟨by unfold upq; rfl, hW.ext⟩

def befLo (lo tl num den : Int) : Int := lo + upq (-(tl * num)) den
def befHi (hi th num den : Int) : Int := hi + -(th * num) / den
def aftLo (lo tl num den : Int) : Int := lo + tl * num / den
def aftHi (hi th num den : Int) : Int := hi + upq (th * num) den

-- == f23 acme/zone.Before params [23, 4, 70] results [23, 29] in [('cell', ['6', '23']), ('tmp', ['7'])] ntmps 44 nfree 0
theorem c23 (lo hi tl th num den : Int) {w : World} (hs : isSp lo hi (-20000000) 20000000 = true) (ht : isSp tl th 0 10000 = true) (hn : 1 ≤ num ∧ num ≤ 1000) (hd : 1 ≤ den ∧ den ≤ 1000) : Calls Try.prog 23 [.agg [.int .i64 lo, .int .i64 hi].toArray, .bool false, .agg [.int .i64 tl, .int .i64 th, .int .i64 num, .int .i64 den].toArray].toArray w fun e w' => e = .returned (.tuple #[.agg [.int .i64 (if befHi hi th num den < befLo lo tl num den then 0 else befLo lo tl num den), .int .i64 (if befHi hi th num den < befLo lo tl num den then 0 else befHi hi th num den)].toArray, .int .i64 (if befHi hi th num den < befLo lo tl num den then 9 else 0)]) ∧ Ext [] w w' := by
  have hs1 := isSp_iff.1 hs
  have ht1 := isSp_iff.1 ht
  have m1 := mulB (a := tl) (A := 10000) (b := num) (B := 1000) (by omega) (by omega) (by omega) (by omega)
  have m2 := mulB (a := th) (A := 10000) (b := num) (B := 1000) (by omega) (by omega) (by omega) (by omega)
  have u1 := upq_bounds (n := -(tl * num)) (d := den) (K := 10000000) (by omega) (by omega) (by omega) (by omega)
  have u2 := div_bounds (n := -(th * num)) (d := den) (K := 10000000) (by omega) (by omega) (by omega) (by omega)
  have u3 := upq_bounds (n := th * num) (d := den) (K := 10000000) (by omega) (by omega) (by omega) (by omega)
  have u4 := div_bounds (n := tl * num) (d := den) (K := 10000000) (by omega) (by omega) (by omega) (by omega)
  refine fn_start Try.func23 rfl (N := 44) rfl ?_
  refine k_seq (k_region ?_)
  refine o_box rfl (fun b3 => ?_)
  refine o_box rfl (fun b5 => ?_)
  refine o_alloc Try.zeroValue23 (fun b6 => ?_)
  refine o_val (ex_assign rfl) (o_nil ?_)
  refine k_seq (k_region ?_)
  refine o_val (ex_loadA Try.isAgg23 Try.sizeOf23 rfl) ?_
  refine o_val (ex_move rfl) ?_
  refine o_val (ex_loadA Try.isAgg70 Try.sizeOf70 rfl) ?_
  refine o_val (ex_call Try.call58 rfl (fun W hW => c58 lo hi tl th num den hs ht hn hd)) ?_
  refine o_val (ex_move rfl) ?_
  refine o_val (ex_extract rfl rfl) ?_
  refine o_val (ex_extract rfl rfl) ?_
  refine o_alloc Try.zeroValue108 (fun b8 => ?_)
  refine o_store Try.sizeOf108 rfl rfl ?_
  refine o_val (ex_assign rfl) (o_nil ?_)
  refine k_seq (k_seq (k_region ?_))
  refine o_val (ex_move rfl) ?_
  refine o_val (ex_neq rfl rfl) (o_nil ?_)
  refine k_cond rfl (fun h => ?_) (fun h => ?_)
  ·
    cases h
  ·
    refine k_skip ?_
    refine k_seq (k_draw [true, true, true, true, true, true, true, true, true, true, true, true, true, true, true, true, true, false] 1 ?_ mixed (by kernel_rfl) rfl)
    refine d_val (i := 0) [] (ex_field (o := 0) 0 fa23_0 rfl rfl) ?_
    refine d_load (i := 1) Try.isAgg3 rfl rfl ?_
    refine d_loadA (i := 2) Try.isAgg108 Try.sizeOf108 rfl ?_
    refine d_val (i := 3) [] (ex_field (o := 0) 4 fa108_1 rfl rfl) ?_
    refine d_load (i := 4) Try.isAgg3 rfl rfl ?_
    refine d_val (i := 5) [] (ex_neg64 rfl (by unfold I64; omega)) ?_
    refine d_val (i := 6) [] (ex_call Try.call59 rfl (fun W hW => c59 tl th num den _ _ (-(tl * num)) hd (by omega))) ?_
    refine d_val (i := 7) [] (ex_add64 rfl rfl (by unfold I64; omega)) ?_
    refine d_val (i := 8) [] (ex_field (o := 0) 1 fa23_1 rfl rfl) ?_
    refine d_load (i := 9) Try.isAgg3 rfl rfl ?_
    refine d_loadA (i := 10) Try.isAgg108 Try.sizeOf108 rfl ?_
    refine d_val (i := 11) [] (ex_field (o := 0) 5 fa108_2 rfl rfl) ?_
    refine d_load (i := 12) Try.isAgg3 rfl rfl ?_
    refine d_val (i := 13) [] (ex_neg64 rfl (by unfold I64; omega)) ?_
    refine d_val (i := 14) [] (ex_call Try.call60 rfl (fun W hW => c60 tl th num den _ _ (-(th * num)) hd (by omega))) ?_
    refine d_val (i := 15) [] (ex_add64 rfl rfl (by unfold I64; omega)) ?_
    refine d_val (i := 16) [] (ex_build bf23 rfl) ?_
    refine d_rest ?_
    refine d_nil ?_
    refine r_one 17 (rs_store [16, 14, 0, 1, 2, 3, 4, 5, 6, 7, 8, 9, 10, 11, 12, 13, 14, 15, 16] rfl Try.sizeOf23 rfl rfl ?_) (by kernel_rfl)
    refine r_nil ?_ (by kernel_rfl)
    refine k_seq (k_seq (k_region ?_))
    refine o_val (ex_field (o := 0) 0 fa23_0 rfl rfl) ?_
    refine o_val (ex_load Try.isAgg3 rfl rfl) ?_
    refine o_val (ex_field (o := 0) 1 fa23_1 rfl rfl) ?_
    refine o_val (ex_load Try.isAgg3 rfl rfl) ?_
    refine o_val (ex_gtr rfl rfl) (o_nil ?_)
    refine k_cond rfl (fun h_1 => ?_) (fun h_1 => ?_)
    ·
      refine k_seq (k_region ?_)
      refine o_val (ex_build bf23 rfl) ?_
      refine o_store Try.sizeOf23 rfl rfl ?_
      refine o_val (ex_assign rfl) (o_nil ?_)
      refine k_ret ?_
      exact finC1 rfl Try.isAgg23 Try.sizeOf23 rfl rfl rfl fun W hW => ⟨by have hc : befHi hi th num den < befLo lo tl num den := of_decide_eq_true h_1; simp only [if_pos hc], hW.ext⟩
    ·
      refine k_skip ?_
      refine k_seq (k_region ?_)
      refine o_val (ex_loadA Try.isAgg23 Try.sizeOf23 rfl) ?_
      refine o_store Try.sizeOf23 rfl rfl ?_
      refine o_val (ex_assign rfl) (o_nil ?_)
      refine k_ret ?_
      exact finC1 rfl Try.isAgg23 Try.sizeOf23 rfl rfl rfl fun W hW => ⟨by have hc : ¬ befHi hi th num den < befLo lo tl num den := of_decide_eq_false h_1; simp only [if_neg hc]; rfl, hW.ext⟩

-- == f24 acme/zone.After params [23, 4, 70] results [23, 29] in [('cell', ['6', '23']), ('tmp', ['7'])] ntmps 35 nfree 0
theorem c24 (lo hi tl th num den : Int) {w : World} (hs : isSp lo hi (-20000000) 20000000 = true) (ht : isSp tl th 0 10000 = true) (hn : 1 ≤ num ∧ num ≤ 1000) (hd : 1 ≤ den ∧ den ≤ 1000) : Calls Try.prog 24 [.agg [.int .i64 lo, .int .i64 hi].toArray, .bool false, .agg [.int .i64 tl, .int .i64 th, .int .i64 num, .int .i64 den].toArray].toArray w fun e w' => e = .returned (.tuple #[.agg [.int .i64 (aftLo lo tl num den), .int .i64 (aftHi hi th num den)].toArray, .int .i64 0]) ∧ Ext [] w w' := by
  have hs1 := isSp_iff.1 hs
  have ht1 := isSp_iff.1 ht
  have m1 := mulB (a := tl) (A := 10000) (b := num) (B := 1000) (by omega) (by omega) (by omega) (by omega)
  have m2 := mulB (a := th) (A := 10000) (b := num) (B := 1000) (by omega) (by omega) (by omega) (by omega)
  have u1 := upq_bounds (n := -(tl * num)) (d := den) (K := 10000000) (by omega) (by omega) (by omega) (by omega)
  have u2 := div_bounds (n := -(th * num)) (d := den) (K := 10000000) (by omega) (by omega) (by omega) (by omega)
  have u3 := upq_bounds (n := th * num) (d := den) (K := 10000000) (by omega) (by omega) (by omega) (by omega)
  have u4 := div_bounds (n := tl * num) (d := den) (K := 10000000) (by omega) (by omega) (by omega) (by omega)
  refine fn_start Try.func24 rfl (N := 35) rfl ?_
  refine k_seq (k_region ?_)
  refine o_box rfl (fun b3 => ?_)
  refine o_box rfl (fun b5 => ?_)
  refine o_alloc Try.zeroValue23 (fun b6 => ?_)
  refine o_val (ex_assign rfl) (o_nil ?_)
  refine k_seq (k_region ?_)
  refine o_val (ex_loadA Try.isAgg23 Try.sizeOf23 rfl) ?_
  refine o_val (ex_move rfl) ?_
  refine o_val (ex_loadA Try.isAgg70 Try.sizeOf70 rfl) ?_
  refine o_val (ex_call Try.call58 rfl (fun W hW => c58 lo hi tl th num den hs ht hn hd)) ?_
  refine o_val (ex_move rfl) ?_
  refine o_val (ex_extract rfl rfl) ?_
  refine o_val (ex_extract rfl rfl) ?_
  refine o_alloc Try.zeroValue108 (fun b8 => ?_)
  refine o_store Try.sizeOf108 rfl rfl ?_
  refine o_val (ex_assign rfl) (o_nil ?_)
  refine k_seq (k_seq (k_region ?_))
  refine o_val (ex_move rfl) ?_
  refine o_val (ex_neq rfl rfl) (o_nil ?_)
  refine k_cond rfl (fun h => ?_) (fun h => ?_)
  ·
    cases h
  ·
    refine k_skip ?_
    refine k_seq (k_draw [true, true, true, true, true, true, true, true, true, true, true, true, true, true, true, false, false] 2 ?_ mixed (by kernel_rfl) rfl)
    refine d_val (i := 0) [] (ex_field (o := 0) 0 fa23_0 rfl rfl) ?_
    refine d_load (i := 1) Try.isAgg3 rfl rfl ?_
    refine d_loadA (i := 2) Try.isAgg108 Try.sizeOf108 rfl ?_
    refine d_val (i := 3) [] (ex_field (o := 0) 4 fa108_1 rfl rfl) ?_
    refine d_load (i := 4) Try.isAgg3 rfl rfl ?_
    refine d_val (i := 5) [] (ex_call Try.call60 rfl (fun W hW => c60 tl th num den _ _ (tl * num) hd (by omega))) ?_
    refine d_val (i := 6) [] (ex_add64 rfl rfl (by unfold I64; omega)) ?_
    refine d_val (i := 7) [] (ex_field (o := 0) 1 fa23_1 rfl rfl) ?_
    refine d_load (i := 8) Try.isAgg3 rfl rfl ?_
    refine d_loadA (i := 9) Try.isAgg108 Try.sizeOf108 rfl ?_
    refine d_val (i := 10) [] (ex_field (o := 0) 5 fa108_2 rfl rfl) ?_
    refine d_load (i := 11) Try.isAgg3 rfl rfl ?_
    refine d_val (i := 12) [] (ex_call Try.call59 rfl (fun W hW => c59 tl th num den _ _ (th * num) hd (by omega))) ?_
    refine d_val (i := 13) [] (ex_add64 rfl rfl (by unfold I64; omega)) ?_
    refine d_val (i := 14) [] (ex_build bf23 rfl) ?_
    refine d_rest ?_
    refine d_rest ?_
    refine d_nil ?_
    refine r_one 15 (rs_store [14, 12, 0, 1, 2, 3, 4, 5, 6, 7, 8, 9, 10, 11, 12, 13, 14] rfl Try.sizeOf23 rfl rfl ?_) (by kernel_rfl)
    refine r_one 16 (rs_val rfl (ex_assign rfl) ?_) (by kernel_rfl)
    refine r_nil ?_ (by kernel_rfl)
    refine k_ret ?_
    exact finC1 rfl Try.isAgg23 Try.sizeOf23 rfl rfl rfl fun W hW => ⟨rfl, hW.ext⟩

def grLo (lo hi i n : Int) : Int := lo + i * (hi - lo + 1) / n
def grHi (lo hi i n : Int) : Int := lo + (i + 1) * (hi - lo + 1) / n - 1

-- == f85 (acme/zone.span).group params [122, 3, 3] results [122] in [('cell', ['6', '122'])] ntmps 38 nfree 0
theorem c85 (lo hi i n : Int) {w : World} (h0 : 0 ≤ lo) (h1 : lo ≤ hi) (h2 : hi ≤ 20000000) (i0 : 0 ≤ i) (i1 : i ≤ 50) (n1 : 1 ≤ n) : Calls Try.prog 85 [.agg [.int .i64 lo, .int .i64 hi].toArray, .int .i64 i, .int .i64 n].toArray w fun e w' => e = .returned (.agg [.int .i64 (grLo lo hi i n), .int .i64 (grHi lo hi i n)].toArray) ∧ Ext [] w w' := by
  have m1 := mulB (a := i) (A := 50) (b := hi - lo + 1) (B := 20000001) (by omega) (by omega) (by omega) (by omega)
  have m2 := mulB (a := i + 1) (A := 51) (b := hi - lo + 1) (B := 20000001) (by omega) (by omega) (by omega) (by omega)
  have u1 := div_bounds (n := i * (hi - lo + 1)) (K := 2000000000) n1 (by omega) (by omega) (by omega)
  have u2 := div_bounds (n := (i + 1) * (hi - lo + 1)) (K := 2000000000) n1 (by omega) (by omega) (by omega)
  refine fn_start Try.func85 rfl (N := 38) rfl ?_
  refine k_seq (k_region ?_)
  refine o_box rfl (fun b3 => ?_)
  refine o_alloc Try.zeroValue122 (fun b6 => o_nil ?_)
  refine k_seq (k_region ?_)
  refine o_val (ex_field (o := 0) 0 fa122_0 rfl rfl) ?_
  refine o_val (ex_field (o := 0) 1 fa23_1 rfl rfl) ?_
  refine o_val (ex_load Try.isAgg3 rfl rfl) ?_
  refine o_val (ex_field (o := 0) 0 fa122_0 rfl rfl) ?_
  refine o_val (ex_field (o := 0) 0 fa23_0 rfl rfl) ?_
  refine o_val (ex_load Try.isAgg3 rfl rfl) ?_
  refine o_val (ex_sub64 rfl rfl (by unfold I64; omega)) ?_
  refine o_val (ex_add64 rfl rfl (by unfold I64; omega)) ?_
  refine o_val (ex_assign rfl) (o_nil ?_)
  refine k_seq (k_draw [true, true, true, true, true, true, true, true, true, true, true, true, true, true, true, true, true, true, true, true, true, true, false] 1 ?_ mixed (by kernel_rfl) rfl)
  refine d_val (i := 0) [] (ex_field (o := 0) 0 fa122_0 rfl rfl) ?_
  refine d_val (i := 1) [] (ex_field (o := 0) 0 fa23_0 rfl rfl) ?_
  refine d_load (i := 2) Try.isAgg3 rfl rfl ?_
  refine d_val (i := 3) [] (ex_move rfl) ?_
  refine d_val (i := 4) [] (ex_move rfl) ?_
  refine d_val (i := 5) [] (ex_mul64 rfl rfl (by unfold I64; omega)) ?_
  refine d_val (i := 6) [] (ex_move rfl) ?_
  refine d_val (i := 7) [] (ex_quoE rfl rfl (by omega) (by omega) (by unfold I64; omega)) ?_
  refine d_val (i := 8) [] (ex_add64 rfl rfl (by unfold I64; omega)) ?_
  refine d_val (i := 9) [] (ex_field (o := 0) 0 fa122_0 rfl rfl) ?_
  refine d_val (i := 10) [] (ex_field (o := 0) 0 fa23_0 rfl rfl) ?_
  refine d_load (i := 11) Try.isAgg3 rfl rfl ?_
  refine d_val (i := 12) [] (ex_move rfl) ?_
  refine d_val (i := 13) [] (ex_add64 rfl rfl (by unfold I64; omega)) ?_
  refine d_val (i := 14) [] (ex_move rfl) ?_
  refine d_val (i := 15) [] (ex_mul64 rfl rfl (by unfold I64; omega)) ?_
  refine d_val (i := 16) [] (ex_move rfl) ?_
  refine d_val (i := 17) [] (ex_quoE rfl rfl (by omega) (by omega) (by unfold I64; omega)) ?_
  refine d_val (i := 18) [] (ex_add64 rfl rfl (by unfold I64; omega)) ?_
  refine d_val (i := 19) [] (ex_sub64 rfl rfl (by unfold I64; omega)) ?_
  refine d_val (i := 20) [] (ex_build bf23 rfl) ?_
  refine d_val (i := 21) [] (ex_build bf122 rfl) ?_
  refine d_rest ?_
  refine d_nil ?_
  refine r_one 22 (rs_store [21, 0, 1, 2, 3, 4, 5, 6, 7, 8, 9, 10, 11, 12, 13, 14, 15, 16, 17, 18, 19, 20, 21] rfl Try.sizeOf122 rfl rfl ?_) (by kernel_rfl)
  refine r_nil ?_ (by kernel_rfl)
  refine k_ret ?_
  exact finC rfl Try.isAgg122 Try.sizeOf122 rfl rfl fun W hW => ⟨rfl, hW.ext⟩

-- == f86 acme/zone.play params [122, 122] results [122] in [('cell', ['4', '122'])] ntmps 21 nfree 0
theorem c86 (a b c d : Int) {w : World} (a0 : -100000000 ≤ a) (a1 : a ≤ 100000000) (b0 : -100000000 ≤ b) (b1 : b ≤ 100000000) (c0 : -100000000 ≤ c) (c1 : c ≤ 100000000) (d0 : -100000000 ≤ d) (d1 : d ≤ 100000000) : Calls Try.prog 86 [.agg [.int .i64 a, .int .i64 b].toArray, .agg [.int .i64 c, .int .i64 d].toArray].toArray w fun e w' => e = .returned (.agg [.int .i64 (c - b), .int .i64 (d - a)].toArray) ∧ Ext [] w w' := by
  refine fn_start Try.func86 rfl (N := 21) rfl ?_
  refine k_seq (k_region ?_)
  refine o_box rfl (fun b2 => ?_)
  refine o_box rfl (fun b3 => ?_)
  refine o_alloc Try.zeroValue122 (fun b4 => o_nil ?_)
  refine k_seq (k_region ?_)
  refine o_val (ex_field (o := 0) 0 fa122_0 rfl rfl) ?_
  refine o_val (ex_field (o := 0) 0 fa23_0 rfl rfl) ?_
  refine o_val (ex_load Try.isAgg3 rfl rfl) ?_
  refine o_val (ex_field (o := 0) 0 fa122_0 rfl rfl) ?_
  refine o_val (ex_field (o := 0) 1 fa23_1 rfl rfl) ?_
  refine o_val (ex_load Try.isAgg3 rfl rfl) ?_
  refine o_val (ex_sub64 rfl rfl (by unfold I64; omega)) ?_
  refine o_val (ex_field (o := 0) 0 fa122_0 rfl rfl) ?_
  refine o_val (ex_field (o := 0) 1 fa23_1 rfl rfl) ?_
  refine o_val (ex_load Try.isAgg3 rfl rfl) ?_
  refine o_val (ex_field (o := 0) 0 fa122_0 rfl rfl) ?_
  refine o_val (ex_field (o := 0) 0 fa23_0 rfl rfl) ?_
  refine o_val (ex_load Try.isAgg3 rfl rfl) ?_
  refine o_val (ex_sub64 rfl rfl (by unfold I64; omega)) ?_
  refine o_val (ex_build bf23 rfl) ?_
  refine o_val (ex_build bf122 rfl) ?_
  refine o_store Try.sizeOf122 rfl rfl (o_nil ?_)
  refine k_ret ?_
  exact finC rfl Try.isAgg122 Try.sizeOf122 rfl rfl fun W hW => ⟨rfl, hW.ext⟩

-- == f87 (acme/zone.span).isIn params [122, 23] results [4] in [('tmp', ['4'])] ntmps 19 nfree 0
theorem c87 (a b c d : Int) {w : World} : Calls Try.prog 87 [.agg [.int .i64 a, .int .i64 b].toArray, .agg [.int .i64 c, .int .i64 d].toArray].toArray w fun e w' => e = .returned (.bool (decide (c ≤ a) && decide (b ≤ d))) ∧ Ext [] w w' := by
  refine fn_start Try.func87 rfl (N := 19) rfl ?_
  refine k_seq (k_region ?_)
  refine o_box rfl (fun b2 => ?_)
  refine o_box rfl (fun b3 => ?_)
  refine o_val (ex_assign rfl) (o_nil ?_)
  refine k_seq (k_region ?_)
  refine o_val (ex_field (o := 0) 0 fa122_0 rfl rfl) ?_
  refine o_val (ex_field (o := 0) 0 fa23_0 rfl rfl) ?_
  refine o_val (ex_load Try.isAgg3 rfl rfl) ?_
  refine o_val (ex_field (o := 0) 0 fa23_0 rfl rfl) ?_
  refine o_val (ex_load Try.isAgg3 rfl rfl) ?_
  refine o_val (ex_geq rfl rfl) ?_
  refine o_val (ex_move rfl) ?_
  refine o_and 6 (c := decide (b ≤ d)) (fun h => ?_) ?_
  · refine o_val_g (ex_field (o := 0) 0 fa122_0 rfl rfl) ?_
    refine o_val_g (ex_field (o := 0) 1 fa23_1 rfl rfl) ?_
    refine o_val_g (ex_load Try.isAgg3 rfl rfl) ?_
    refine o_val_g (ex_field (o := 0) 1 fa23_1 rfl rfl) ?_
    refine o_val_g (ex_load Try.isAgg3 rfl rfl) ?_
    exact o_val_g (ex_leq rfl rfl) (o_nil (got rfl (.refl _)))
  refine o_val (ex_assign rfl) (o_nil ?_)
  refine k_ret ?_
  exact fin1 rfl rfl fun W hW => ⟨rfl, hW.ext⟩

def okG (slo shi nlo nhi n wlo whi i : Int) : Bool := decide (wlo ≤ grLo nlo nhi i n - grHi slo shi i n) && decide (grHi nlo nhi i n - grLo slo shi i n ≤ whi)

theorem all_range_false {n k : Nat} {f : Nat → Bool} (h : k < n) (hf : f k = false) : (List.range n).all f = false := by
  rw [List.all_eq_false]
  exact ⟨k, List.mem_range.2 h, by simp [hf]⟩

theorem gr_bounds {lo hi i n : Int} (h0 : 0 ≤ lo) (h1 : lo ≤ hi) (h2 : hi ≤ 20000000) (i0 : 0 ≤ i) (i1 : i < n) (n1 : n ≤ 50) : -100000000 ≤ grLo lo hi i n ∧ grLo lo hi i n ≤ 100000000 ∧ -100000000 ≤ grHi lo hi i n ∧ grHi lo hi i n ≤ 100000000 := by
  have p1 : i * (hi - lo + 1) / n ≤ hi - lo + 1 := Int.ediv_le_of_le_mul (by omega) (by rw [Int.mul_comm (hi - lo + 1)]; exact Int.mul_le_mul_of_nonneg_right (by omega) (by omega))
  have p2 : (i + 1) * (hi - lo + 1) / n ≤ hi - lo + 1 := Int.ediv_le_of_le_mul (by omega) (by rw [Int.mul_comm (hi - lo + 1)]; exact Int.mul_le_mul_of_nonneg_right (by omega) (by omega))
  have p3 : 0 ≤ i * (hi - lo + 1) / n := Int.ediv_nonneg (Int.mul_nonneg i0 (by omega)) (by omega)
  have p4 : 0 ≤ (i + 1) * (hi - lo + 1) / n := Int.ediv_nonneg (Int.mul_nonneg (by omega) (by omega)) (by omega)
  unfold grLo grHi; omega

-- == f79 acme/zone.sorted params [122, 122, 3, 23] results [4] in [('tmp', ['8'])] ntmps 49 nfree 0
theorem c79 (slo shi nlo nhi : Int) (n : Nat) (wlo whi : Int) {w : World} (s0 : 0 ≤ slo) (s1 : slo ≤ shi) (s2 : shi ≤ 20000000) (t0 : 0 ≤ nlo) (t1 : nlo ≤ nhi) (t2 : nhi ≤ 20000000) (n1 : 1 ≤ n) (n2 : n ≤ 50)
    (hg : ∀ i : Nat, i < n → ¬ grHi slo shi i n < grLo slo shi i n ∧ ¬ grHi nlo nhi i n < grLo nlo nhi i n) : Calls Try.prog 79 [.agg [.int .i64 slo, .int .i64 shi].toArray, .agg [.int .i64 nlo, .int .i64 nhi].toArray, .int .i64 (n : Int), .agg [.int .i64 wlo, .int .i64 whi].toArray].toArray w fun e w' => e = .returned (.bool ((List.range n).all (fun i : Nat => okG slo shi nlo nhi n wlo whi i))) ∧ Ext [] w w' := by
  refine fn_start Try.func79 rfl (N := 49) rfl ?_
  refine k_seq (k_region ?_)
  refine o_box rfl (fun b4 => ?_)
  refine o_box rfl (fun b5 => ?_)
  refine o_box rfl (fun b7 => ?_)
  refine o_val (ex_assign rfl) (o_nil ?_)
  refine k_seq (k_seq (k_region ?_))
  refine o_val (ex_move rfl) ?_
  refine o_val (ex_move rfl) (o_nil ?_)
  refine k_block ?_
  refine k_loop (ι := Nat) (fun k => [(2, .int .i64 (n : Int)), (4, .pointer (some ⟨b4, 0, none⟩)), (5, .pointer (some ⟨b5, 0, none⟩)), (7, .pointer (some ⟨b7, 0, none⟩)), (12, .int .i64 (n : Int)), (13, .int .i64 (k : Int))]) (fun k => [⟨b7, 23, [.int .i64 wlo, .int .i64 whi], true⟩, ⟨b5, 122, [.int .i64 nlo, .int .i64 nhi], true⟩, ⟨b4, 122, [.int .i64 slo, .int .i64 shi], true⟩]) (fun k => k ≤ n ∧ (List.range k).all (fun i : Nat => okG slo shi nlo nhi n wlo whi i) = true) (fun k => n - k) 0 ⟨Nat.zero_le _, rfl⟩ (Sub.cons rfl (Sub.cons rfl (Sub.cons rfl (Sub.cons rfl (Sub.cons rfl (Sub.cons rfl (Sub.nil _))))))) SubE.sub (fun k hk => ?_)
  obtain ⟨hk, hall⟩ := hk
  refine k_seq (k_region ?_)
  refine o_val (ex_lss rfl rfl) (o_nil ?_)
  refine k_seq (k_cond rfl (fun h => ?_) (fun h => ?_))
  ·
    have hlt : k < n := by simpa using h
    have hg1 := hg k hlt
    have q1 := gr_bounds (i := k) (n := n) s0 s1 s2 (by omega) (by omega) (by omega)
    have q2 := gr_bounds (i := k) (n := n) t0 t1 t2 (by omega) (by omega) (by omega)
    refine k_skip ?_
    refine k_seq (k_block ?_)
    refine k_seq (k_region ?_)
    refine o_val (ex_move rfl) ?_
    refine o_val (ex_assign rfl) (o_nil ?_)
    refine k_seq (k_draw [true, true, true, true, true, true, true, true, false, false, false, false] 4 ?_ mixed (by kernel_rfl) rfl)
    refine d_loadA (i := 0) Try.isAgg122 Try.sizeOf122 rfl ?_
    refine d_val (i := 1) [] (ex_move rfl) ?_
    refine d_val (i := 2) [] (ex_move rfl) ?_
    refine d_val (i := 3) [] (ex_call Try.call85 rfl (fun W hW => c85 slo shi k n s0 s1 s2 (by omega) (by omega) (by omega))) ?_
    refine d_loadA (i := 4) Try.isAgg122 Try.sizeOf122 rfl ?_
    refine d_val (i := 5) [] (ex_move rfl) ?_
    refine d_val (i := 6) [] (ex_move rfl) ?_
    refine d_val (i := 7) [] (ex_call Try.call85 rfl (fun W hW => c85 nlo nhi k n t0 t1 t2 (by omega) (by omega) (by omega))) ?_
    refine d_rest ?_
    refine d_rest ?_
    refine d_rest ?_
    refine d_rest ?_
    refine d_nil ?_
    refine r_allocs (by kernel_rfl) (by kernel_rfl) (by kernel_rfl) rfl rfl (j := 8) (j' := 9) Try.zeroValue122 Try.zeroValue122 (fun b10 b11 => ?_)
    refine r_one 10 (rs_store [8, 3, 7, 0, 1, 2, 3, 8, 9] rfl Try.sizeOf122 rfl rfl ?_) (by kernel_rfl)
    refine r_one 11 (rs_store [9, 7, 10, 0, 1, 2, 3, 4, 5, 6, 7, 8, 9, 10] rfl Try.sizeOf122 rfl rfl ?_) (by kernel_rfl)
    refine r_nil ?_ (by kernel_rfl)
    refine k_seq (k_draw [true, true, true, true, true, true, true, true, true, true, true, true, true, true, true, true, true, true, true, true, true, true, true, true] 0 ?_ mixed (by kernel_rfl) rfl)
    refine d_val (i := 0) [] (ex_field (o := 0) 0 fa122_0 rfl rfl) ?_
    refine d_val (i := 1) [] (ex_field (o := 0) 0 fa23_0 rfl rfl) ?_
    refine d_load (i := 2) Try.isAgg3 rfl rfl ?_
    refine d_val (i := 3) [] (ex_field (o := 0) 0 fa122_0 rfl rfl) ?_
    refine d_val (i := 4) [] (ex_field (o := 0) 1 fa23_1 rfl rfl) ?_
    refine d_load (i := 5) Try.isAgg3 rfl rfl ?_
    refine d_val (i := 6) [] (exv_eq (by rw [decide_eq_false hg1.1]) (ex_gtr rfl rfl)) ?_
    refine d_val (i := 7) [] (ex_move rfl) ?_
    refine d_val_g (i := 8) [] (ex_field (o := 0) 0 fa122_0 rfl rfl) ?_
    refine d_val_g (i := 9) [] (ex_field (o := 0) 0 fa23_0 rfl rfl) ?_
    refine d_load_g (i := 10) Try.isAgg3 rfl rfl ?_
    refine d_val_g (i := 11) [] (ex_field (o := 0) 0 fa122_0 rfl rfl) ?_
    refine d_val_g (i := 12) [] (ex_field (o := 0) 1 fa23_1 rfl rfl) ?_
    refine d_load_g (i := 13) Try.isAgg3 rfl rfl ?_
    refine d_val_g (i := 14) [] (exv_eq (by rw [decide_eq_false hg1.2]) (ex_gtr rfl rfl)) ?_
    refine d_val (i := 15) [] (ex_pick rfl rfl) ?_
    refine d_val (i := 16) [] (ex_move rfl) ?_
    refine d_loadA_g (i := 17) Try.isAgg122 Try.sizeOf122 rfl ?_
    refine d_loadA_g (i := 18) Try.isAgg122 Try.sizeOf122 rfl ?_
    refine d_val_g (i := 19) [] (ex_call Try.call86 rfl (fun W hW => c86 (grLo slo shi k n) (grHi slo shi k n) (grLo nlo nhi k n) (grHi nlo nhi k n) (by omega) (by omega) (by omega) (by omega) (by omega) (by omega) (by omega) (by omega))) ?_
    refine d_loadA_g (i := 20) Try.isAgg23 Try.sizeOf23 rfl ?_
    refine d_val_g (i := 21) [] (ex_call Try.call87 rfl (fun W hW => c87 _ _ wlo whi)) ?_
    refine d_val_g (i := 22) [] (ex_not rfl) ?_
    refine d_val (i := 23) [] (ex_pick rfl rfl) ?_
    refine d_nil ?_
    refine r_nil ?_ (by kernel_rfl)
    refine k_cond rfl (fun h_1 => ?_) (fun h_1 => ?_)
    ·
      refine k_seq (k_region ?_)
      refine o_val (ex_assign rfl) (o_nil ?_)
      refine k_ret ?_
      exact fin1 rfl rfl fun W hW => ⟨by rw [all_range_false hlt (notF h_1)], hW.ext⟩
    ·
      refine k_skip ?_
      refine k_region ?_
      refine o_val (ex_add64 rfl rfl (by unfold I64; omega)) ?_
      refine o_val (ex_move rfl) (o_nil ?_)
      exact k_some (k + 1) ⟨⟨by omega, by rw [List.range_succ, List.all_append, hall]; simpa [okG] using h_1⟩, by omega⟩ (Sub.cons rfl (Sub.cons rfl (Sub.cons rfl (Sub.cons rfl (Sub.cons rfl (Sub.cons rfl (Sub.nil _))))))) SubE.sub
  ·
    have hkn : k = n := by have : ¬ k < n := (by simpa using h); omega
    subst hkn
    refine k_exit rfl ?_
    refine k_seq (k_region ?_)
    refine o_val (ex_assign rfl) (o_nil ?_)
    refine k_ret ?_
    exact fin1 rfl rfl fun W hW => ⟨by rw [hall], hW.ext⟩

-- == f61 acme/zone.Groups params [23, 23, 23] results [3, 29] in [('tmp', ['6']), ('tmp', ['7'])] ntmps 41 nfree 0
theorem c61 {w : World} : Calls Try.prog 61 [.agg [.int .i64 1000, .int .i64 1009].toArray, .agg [.int .i64 1020, .int .i64 1029].toArray, .agg [.int .i64 12, .int .i64 28].toArray].toArray w fun e w' => e = .returned (.tuple #[.int .i64 2, .int .i64 0]) ∧ Ext [] w w' := by
  refine fn_start Try.func61 rfl (N := 41) rfl ?_
  refine k_seq (k_region ?_)
  refine o_box rfl (fun b3 => ?_)
  refine o_box rfl (fun b4 => ?_)
  refine o_box rfl (fun b5 => ?_)
  refine o_val (ex_assign rfl) ?_
  refine o_val (ex_assign rfl) (o_nil ?_)
  refine k_seq (k_seq (k_region ?_))
  refine o_val (ex_loadA Try.isAgg23 Try.sizeOf23 rfl) ?_
  refine o_val (ex_build bf122 rfl) ?_
  refine o_val (ex_loadA Try.isAgg23 Try.sizeOf23 rfl) ?_
  refine o_val (ex_build bf122 rfl) ?_
  refine o_val (ex_build bf124 rfl) ?_
  refine o_val (ex_move rfl) (o_nil ?_)
  refine k_block ?_
  refine k_loop (ι := Nat) (fun k => [(3, .pointer (some ⟨b3, 0, none⟩)), (4, .pointer (some ⟨b4, 0, none⟩)), (5, .pointer (some ⟨b5, 0, none⟩)), (15, .agg [.int .i64 1000, .int .i64 1009, .int .i64 1020, .int .i64 1029].toArray), (16, .int .i64 (k : Int))]) (fun k => [⟨b5, 23, [.int .i64 12, .int .i64 28], true⟩, ⟨b4, 23, [.int .i64 1020, .int .i64 1029], true⟩, ⟨b3, 23, [.int .i64 1000, .int .i64 1009], true⟩]) (fun k => k ≤ 2) (fun k => 2 - k) 0 (by omega) (Sub.cons rfl (Sub.cons rfl (Sub.cons rfl (Sub.cons rfl (Sub.cons rfl (Sub.nil _)))))) SubE.sub (fun k hk => ?_)
  have hk : k ≤ 2 := hk
  refine k_seq (k_region ?_)
  refine o_val (ex_lss rfl rfl) (o_nil ?_)
  refine k_seq (k_cond rfl (fun h => ?_) (fun h => ?_))
  ·
    have hk01 : k = 0 ∨ k = 1 := by simp at h; omega
    refine k_skip ?_
    refine k_seq (k_block ?_)
    refine k_seq (k_region ?_)
    refine o_val (ex_indexValA Try.runUnderlying124 Try.sizeOf122 Try.isAgg122 rfl rfl (by omega) (by omega) (show _ = [.int .i64 (if k = 0 then 1000 else 1020), .int .i64 (if k = 0 then 1009 else 1029)] from by rcases hk01 with rfl | rfl <;> rfl)) ?_
    refine o_alloc Try.zeroValue122 (fun b9 => ?_)
    refine o_store Try.sizeOf122 rfl rfl (o_nil ?_)
    refine k_seq (k_region ?_)
    refine o_val (ex_loadA Try.isAgg122 Try.sizeOf122 rfl) ?_
    refine o_val (ex_call Try.call77 rfl (fun W hW => c77 (if k = 0 then 1000 else 1020) (if k = 0 then 1009 else 1029) 0 20000000)) ?_
    refine o_val (ex_not rfl) (o_nil ?_)
    refine k_cond rfl (fun h_1 => ?_) (fun h_1 => ?_)
    ·
      rcases hk01 with rfl | rfl <;> simp [isSp] at h_1
    ·
      refine k_skip ?_
      refine k_region ?_
      refine o_val (ex_add64 rfl rfl (by unfold I64; omega)) ?_
      refine o_val (ex_move rfl) (o_nil ?_)
      exact k_some (k + 1) ⟨show k + 1 ≤ 2 by omega, by omega⟩ (Sub.cons rfl (Sub.cons rfl (Sub.cons rfl (Sub.cons rfl (Sub.cons rfl (Sub.nil _)))))) SubE.sub
  ·
    refine k_exit rfl ?_
    refine k_seq (k_seq (k_region ?_))
    refine o_val (ex_loadA Try.isAgg23 Try.sizeOf23 rfl) ?_
    refine o_val (ex_build bf122 rfl) ?_
    refine o_val (ex_call Try.call77 rfl (fun W hW => c77 12 28 (-40000000) 40000000)) ?_
    refine o_val (ex_not rfl) (o_nil ?_)
    refine k_cond rfl (fun h_1 => ?_) (fun h_1 => ?_)
    ·
      cases h_1
    ·
      refine k_skip ?_
      refine k_seq (k_seq (k_region ?_))
      refine o_val (ex_move rfl) (o_nil ?_)
      refine k_block ?_
      refine k_loop (ι := Nat) (fun k => [(3, .pointer (some ⟨b3, 0, none⟩)), (4, .pointer (some ⟨b4, 0, none⟩)), (5, .pointer (some ⟨b5, 0, none⟩)), (27, .int .i64 (k : Int))]) (fun k => [⟨b5, 23, [.int .i64 12, .int .i64 28], true⟩, ⟨b4, 23, [.int .i64 1020, .int .i64 1029], true⟩, ⟨b3, 23, [.int .i64 1000, .int .i64 1009], true⟩]) (fun k => k ≤ 1) (fun k => 1 - k) 0 (by omega) (Sub.cons rfl (Sub.cons rfl (Sub.cons rfl (Sub.cons rfl (Sub.nil _))))) SubE.sub (fun k hk => ?_)
      have hk : k ≤ 1 := hk
      have hk01 : k = 0 ∨ k = 1 := by omega
      refine k_seq (k_region ?_)
      refine o_val (ex_lss rfl rfl) (o_nil ?_)
      refine k_seq (k_cond rfl (fun h_2 => ?_) (fun h_2 => ?_))
      ·
        refine k_skip ?_
        refine k_seq (k_block ?_)
        refine k_seq (k_region ?_)
        refine o_val (ex_move rfl) ?_
        refine o_val (ex_assign rfl) (o_nil ?_)
        refine k_seq (k_region ?_)
        refine o_val (ex_loadA Try.isAgg23 Try.sizeOf23 rfl) ?_
        refine o_val (ex_build bf122 rfl) ?_
        refine o_val (ex_loadA Try.isAgg23 Try.sizeOf23 rfl) ?_
        refine o_val (ex_build bf122 rfl) ?_
        refine o_val (ex_move rfl) ?_
        refine o_val (ex_add64 rfl rfl (by unfold I64; omega)) ?_
        refine o_val (ex_loadA Try.isAgg23 Try.sizeOf23 rfl) ?_
        refine o_val (ex_call Try.call79 rfl (fun W hW => (by exact c79 1000 1009 1020 1029 (k + 1) 12 28 (by omega) (by omega) (by omega) (by omega) (by omega) (by omega) (by omega) (by omega) (by rcases hk01 with rfl | rfl <;> decide)))) (o_nil ?_)
        refine k_cond rfl (fun h_3 => ?_) (fun h_3 => ?_)
        ·
          have hk1 : k = 1 := by
            rcases hk01 with rfl | rfl
            · revert h_3; decide
            · rfl
          refine k_seq (k_region ?_)
          refine o_val (ex_move rfl) ?_
          refine o_val (ex_add64 rfl rfl (by unfold I64; omega)) ?_
          refine o_val (ex_assign rfl) ?_
          refine o_val (ex_assign rfl) (o_nil ?_)
          refine k_ret ?_
          exact fin2 rfl rfl rfl fun W hW => ⟨by subst hk1; rfl, hW.ext⟩
        ·
          have hk1 : k = 0 := by
            rcases hk01 with rfl | rfl
            · rfl
            · revert h_3; decide
          refine k_skip ?_
          refine k_region ?_
          refine o_val (ex_add64 rfl rfl (by unfold I64; omega)) ?_
          refine o_val (ex_move rfl) (o_nil ?_)
          exact k_some (k + 1) ⟨show k + 1 ≤ 1 by omega, by omega⟩ (Sub.cons rfl (Sub.cons rfl (Sub.cons rfl (Sub.cons rfl (Sub.nil _))))) SubE.sub
      ·
        exfalso
        simp at h_2
        omega

theorem arm23 {w : World} : Calls Try.prog 23 [.agg [.int .i64 59840, .int .i64 59960].toArray, .bool false, .agg [.int .i64 5, .int .i64 8, .int .i64 4, .int .i64 1].toArray].toArray w fun e w' => e = .returned (.tuple #[.agg [.int .i64 59820, .int .i64 59928].toArray, .int .i64 0]) ∧ Ext [] w w' :=
  (c23 59840 59960 5 8 4 1 (by decide) (by decide) (by decide) (by decide)).mono fun e w' h => ⟨h.1.trans (by kernel_rfl), h.2⟩

-- == f25 acme/acmetop.armZone params [] results [4] in [('tmp', ['0'])] ntmps 35 nfree 0
theorem c25 {w : World} : Calls Try.prog 25 [].toArray w fun e w' => e = .returned (.bool true) ∧ Ext [] w w' := by
  refine fn_start Try.func25 rfl (N := 35) rfl ?_
  refine k_seq (k_region ?_)
  refine o_val (ex_assign rfl) (o_nil ?_)
  refine k_seq (k_region ?_)
  refine o_val (ex_call Try.call22 rfl (fun W hW => c22 59840 59960)) ?_
  refine o_val (ex_call Try.call22 rfl (fun W hW => c22 5 8)) ?_
  refine o_val (ex_build bf68 rfl) ?_
  refine o_val (ex_build bf70 rfl) ?_
  refine o_val (ex_call Try.call23 rfl (fun W hW => arm23)) ?_
  refine o_val (ex_move rfl) ?_
  refine o_val (ex_extract rfl rfl) ?_
  refine o_val (ex_extract rfl rfl) ?_
  refine o_alloc Try.zeroValue23 (fun b1 => ?_)
  refine o_store Try.sizeOf23 rfl rfl ?_
  refine o_val (ex_assign rfl) (o_nil ?_)
  refine k_seq (k_region ?_)
  refine o_val (ex_call Try.call22 rfl (fun W hW => c22 1000 1009)) ?_
  refine o_val (ex_call Try.call22 rfl (fun W hW => c22 1020 1029)) ?_
  refine o_val (ex_call Try.call22 rfl (fun W hW => c22 12 28)) ?_
  refine o_val (ex_call Try.call61 rfl (fun W hW => c61)) ?_
  refine o_val (ex_move rfl) ?_
  refine o_val (ex_extract rfl rfl) ?_
  refine o_val (ex_extract rfl rfl) ?_
  refine o_val (ex_assign rfl) ?_
  refine o_val (ex_assign rfl) (o_nil ?_)
  refine k_seq (k_draw [true, true, true, true, true, true, true, true, true, true, true, true, true, true, true, false] 1 ?_ mixed (by kernel_rfl) rfl)
  refine d_val (i := 0) [] (ex_move rfl) ?_
  refine d_val (i := 1) [] (ex_eql rfl rfl) ?_
  refine d_val (i := 2) [] (ex_move rfl) ?_
  refine d_val_g (i := 3) [] (ex_move rfl) ?_
  refine d_val_g (i := 4) [] (ex_eql rfl rfl) ?_
  refine d_val (i := 5) [] (ex_pick rfl rfl) ?_
  refine d_val (i := 6) [] (ex_move rfl) ?_
  refine d_loadA_g (i := 7) Try.isAgg23 Try.sizeOf23 rfl ?_
  refine d_val_g (i := 8) [] (ex_call Try.call22 rfl (fun W hW => c22 59820 59928)) ?_
  refine d_val_g (i := 9) [] (ex_eql_23 rfl rfl) ?_
  refine d_val (i := 10) [] (ex_pick rfl rfl) ?_
  refine d_val (i := 11) [] (ex_move rfl) ?_
  refine d_val_g (i := 12) [] (ex_move rfl) ?_
  refine d_val_g (i := 13) [] (ex_eql rfl rfl) ?_
  refine d_val (i := 14) [] (ex_pick rfl rfl) ?_
  refine d_rest ?_
  refine d_nil ?_
  refine r_one 15 (rs_val rfl (ex_assign rfl) ?_) (by kernel_rfl)
  refine r_nil ?_ (by kernel_rfl)
  refine k_ret ?_
  exact fin1 rfl rfl fun W hW => ⟨rfl, hW.ext⟩

end Go.Proofs.Yteecidddfcbabaa
