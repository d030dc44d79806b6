/- The walks of small functions: what each call hands back, and that nothing that was there has turned. Printed by a program of this session (wip/tools/gen.py). -/
import Derived.Test.YteecidddfcbabaaA9
namespace Go.Proofs.Yteecidddfcbabaa
open Go
attribute [local irreducible] ExV Ex
set_option synthInstance.maxSize 2000
set_option synthInstance.maxHeartbeats 200000

def kHi (fl th ah : Int) : Int := if 0 < fl then min ah (1000 * th / fl) else ah
def kLo (fh tl al : Int) : Int := max al (1000 * tl / (fh + 1) + 1)

-- == f53 acme/bolt.known params [23, 23, 23] results [23, 4] in [('cell', ['6', '23']), ('tmp', ['7'])] ntmps 40 nfree 0
theorem c53 (tl th fl fh al ah : Int) {w : World} (ht : isSp tl th 0 10000000000000 = true) (hf : isSp fl fh 0 100000000 = true) : Calls Try.prog 53 [.agg [.int .i64 tl, .int .i64 th].toArray, .agg [.int .i64 fl, .int .i64 fh].toArray, .agg [.int .i64 al, .int .i64 ah].toArray].toArray w fun e w' => e = .returned (.tuple #[.agg [.int .i64 (kLo fh tl al), .int .i64 (kHi fl th ah)].toArray, .bool (decide (kLo fh tl al ≤ kHi fl th ah))]) ∧ Ext [] w w' := by
  have ht1 := isSp_iff.1 ht
  have hf1 := isSp_iff.1 hf
  have d1 := div_bounds (n := 1000 * tl) (d := fh + 1) (K := 10000000000000000) (by omega) (by omega) (by omega) (by omega)
  refine fn_start Try.func53 rfl (N := 40) rfl ?_
  refine k_seq (k_region ?_)
  refine o_box rfl (fun b3 => ?_)
  refine o_box rfl (fun b4 => ?_)
  refine o_box rfl (fun b5 => ?_)
  refine o_alloc Try.zeroValue23 (fun b6 => ?_)
  refine o_val (ex_assign rfl) (o_nil ?_)
  refine k_seq (k_region ?_)
  refine o_val (ex_loadA Try.isAgg23 Try.sizeOf23 rfl) ?_
  refine o_store Try.sizeOf23 rfl rfl (o_nil ?_)
  refine k_seq (k_seq (k_region ?_))
  refine o_val (ex_field (o := 0) 0 fa23_0 rfl rfl) ?_
  refine o_val (ex_load Try.isAgg3 rfl rfl) ?_
  refine o_val (ex_gtr rfl rfl) (o_nil ?_)
  refine k_cut (ι := Int) (fun r => [(3, .pointer (some ⟨b3, 0, none⟩)), (4, .pointer (some ⟨b4, 0, none⟩)), (6, .pointer (some ⟨b6, 0, none⟩))]) (fun r => [⟨b6, 23, [.int .i64 al, .int .i64 r], true⟩, ⟨b5, 23, [.int .i64 al, .int .i64 ah], true⟩, ⟨b4, 23, [.int .i64 fl, .int .i64 fh], true⟩, ⟨b3, 23, [.int .i64 tl, .int .i64 th], true⟩]) (fun r => r = kHi fl th ah) ?_ (fun r hr => ?_)
  · refine k_cond rfl (fun h => ?_) (fun h => ?_)
    ·
      have hp : 0 < fl := of_decide_eq_true h
      refine k_draw [true, true, true, true, true, true, true, true, true, true, false] 1 ?_ mixed (by kernel_rfl) rfl
      refine d_val (i := 0) [] (ex_field (o := 0) 1 fa23_1 rfl rfl) ?_
      refine d_load (i := 1) Try.isAgg3 rfl rfl ?_
      refine d_val (i := 2) [] (ex_field (o := 0) 1 fa23_1 rfl rfl) ?_
      refine d_load (i := 3) Try.isAgg3 rfl rfl ?_
      refine d_val (i := 4) [] (ex_mul64 rfl rfl (by unfold I64; omega)) ?_
      refine d_val (i := 5) [] (ex_field (o := 0) 0 fa23_0 rfl rfl) ?_
      refine d_load (i := 6) Try.isAgg3 rfl rfl ?_
      refine d_val (i := 7) [] (ex_quoE rfl rfl (by omega) (by omega) (by unfold I64; omega)) ?_
      refine d_val (i := 8) [] (ex_min rfl rfl) ?_
      refine d_val (i := 9) [] (ex_field (o := 0) 1 fa23_1 rfl rfl) ?_
      refine d_rest ?_
      refine d_nil ?_
      refine r_one 10 (rs_store [9, 8, 0, 1, 2, 3, 4, 5, 6, 7, 8] rfl Try.sizeOf3 rfl rfl ?_) (by kernel_rfl)
      refine r_nil ?_ (by kernel_rfl)
      exact k_some (min ah (1000 * th / fl)) (by unfold kHi; rw [if_pos hp]) (Sub.cons rfl (Sub.cons rfl (Sub.cons rfl (Sub.nil _)))) SubE.sub
    ·
      refine k_skip ?_
      exact k_some ah (by unfold kHi; rw [if_neg (of_decide_eq_false h)]) (Sub.cons rfl (Sub.cons rfl (Sub.cons rfl (Sub.nil _)))) SubE.sub
  subst hr
  refine k_seq (k_draw [true, true, true, true, true, true, true, true, true, true, true, true, false] 1 ?_ mixed (by kernel_rfl) rfl)
  refine d_val (i := 0) [] (ex_field (o := 0) 0 fa23_0 rfl rfl) ?_
  refine d_load (i := 1) Try.isAgg3 rfl rfl ?_
  refine d_val (i := 2) [] (ex_field (o := 0) 0 fa23_0 rfl rfl) ?_
  refine d_load (i := 3) Try.isAgg3 rfl rfl ?_
  refine d_val (i := 4) [] (ex_mul64 rfl rfl (by unfold I64; omega)) ?_
  refine d_val (i := 5) [] (ex_field (o := 0) 1 fa23_1 rfl rfl) ?_
  refine d_load (i := 6) Try.isAgg3 rfl rfl ?_
  refine d_val (i := 7) [] (ex_add64 rfl rfl (by unfold I64; omega)) ?_
  refine d_val (i := 8) [] (ex_quoE rfl rfl (by omega) (by omega) (by unfold I64; omega)) ?_
  refine d_val (i := 9) [] (ex_add64 rfl rfl (by unfold I64; omega)) ?_
  refine d_val (i := 10) [] (ex_max rfl rfl) ?_
  refine d_val (i := 11) [] (ex_field (o := 0) 0 fa23_0 rfl rfl) ?_
  refine d_rest ?_
  refine d_nil ?_
  refine r_one 12 (rs_store [11, 10, 0, 1, 2, 3, 4, 5, 6, 7, 8, 9, 10] rfl Try.sizeOf3 rfl rfl ?_) (by kernel_rfl)
  refine r_nil ?_ (by kernel_rfl)
  refine k_seq (k_region ?_)
  refine o_val (ex_loadA Try.isAgg23 Try.sizeOf23 rfl) ?_
  refine o_val (ex_field (o := 0) 0 fa23_0 rfl rfl) ?_
  refine o_val (ex_load Try.isAgg3 rfl rfl) ?_
  refine o_val (ex_field (o := 0) 1 fa23_1 rfl rfl) ?_
  refine o_val (ex_load Try.isAgg3 rfl rfl) ?_
  refine o_val (ex_leq rfl rfl) ?_
  refine o_store Try.sizeOf23 rfl rfl ?_
  refine o_val (ex_assign rfl) (o_nil ?_)
  refine k_ret ?_
  exact finC1 rfl Try.isAgg23 Try.sizeOf23 rfl rfl rfl fun W hW => ⟨rfl, hW.ext⟩

def fitLo (il by_ ad sl sh : Int) : Int := if by_ = 0 then (if wi sl sh [ad] then il else 1) else max il (upq (sl - ad) by_)
def fitHi (ih by_ ad sl sh : Int) : Int := if by_ = 0 then (if wi sl sh [ad] then ih else 0) else min ih ((sh - ad) / by_)

-- == f54 acme/bolt.fits params [23, 3, 3, 23] results [23] in [('cell', ['8', '23'])] ntmps 39 nfree 0
theorem c54 (il ih by_ ad sl sh : Int) {w : World} (hb : 0 ≤ by_) (h0 : -4000000000000000 ≤ sl - ad ∧ sl - ad ≤ 4000000000000000) (h1 : -4000000000000000 ≤ sh - ad ∧ sh - ad ≤ 4000000000000000) : Calls Try.prog 54 [.agg [.int .i64 il, .int .i64 ih].toArray, .int .i64 by_, .int .i64 ad, .agg [.int .i64 sl, .int .i64 sh].toArray].toArray w fun e w' => e = .returned (.agg [.int .i64 (fitLo il by_ ad sl sh), .int .i64 (fitHi ih by_ ad sl sh)].toArray) ∧ Ext [] w w' := by
  refine fn_start Try.func54 rfl (N := 39) rfl ?_
  refine k_seq (k_region ?_)
  refine o_box rfl (fun b4 => ?_)
  refine o_box rfl (fun b7 => ?_)
  refine o_alloc Try.zeroValue23 (fun b8 => o_nil ?_)
  refine k_seq (k_seq (k_region ?_))
  refine o_val (ex_move rfl) ?_
  refine o_val (ex_eql rfl rfl) (o_nil ?_)
  refine k_cond rfl (fun h => ?_) (fun h => ?_)
  ·
    have hz : by_ = 0 := of_decide_eq_true h
    refine k_seq (k_seq (k_region ?_))
    refine o_val (ex_field (o := 0) 0 fa23_0 rfl rfl) ?_
    refine o_val (ex_load Try.isAgg3 rfl rfl) ?_
    refine o_val (ex_field (o := 0) 1 fa23_1 rfl rfl) ?_
    refine o_val (ex_load Try.isAgg3 rfl rfl) ?_
    refine o_val (ex_move rfl) ?_
    refine o_buildSlice [.int .i64 0] [(0, 1)] Try.runUnderlying42 Try.sizeOf3 Try.zeroValue3 rfl (fun b16 => ?_)
    refine o_val (ex_call Try.call29 rfl (fun W hW => (by exact c29 sl sh [ad] (by simp) (row_ints hW b16)))) (o_nil ?_)
    refine k_cond rfl (fun h_1 => ?_) (fun h_1 => ?_)
    ·
      refine k_seq (k_region ?_)
      refine o_val (ex_loadA Try.isAgg23 Try.sizeOf23 rfl) ?_
      refine o_store Try.sizeOf23 rfl rfl (o_nil ?_)
      refine k_ret ?_
      exact finC rfl Try.isAgg23 Try.sizeOf23 rfl rfl fun W hW => ⟨by unfold fitLo fitHi; rw [if_pos hz, if_pos hz, if_pos h_1, if_pos h_1], hW.ext⟩
    ·
      refine k_skip ?_
      refine k_seq (k_region ?_)
      refine o_val (ex_build bf23 rfl) ?_
      refine o_store Try.sizeOf23 rfl rfl (o_nil ?_)
      refine k_ret ?_
      exact finC rfl Try.isAgg23 Try.sizeOf23 rfl rfl fun W hW => ⟨by unfold fitLo fitHi; rw [if_pos hz, if_pos hz, h_1]; rfl, hW.ext⟩
  ·
    have hz : ¬ by_ = 0 := of_decide_eq_false h
    refine k_skip ?_
    refine k_seq (k_draw [true, true, true, true, true, true, true, true, true, true, true, true, true, true, true, true, true, true, true, false] 1 ?_ mixed (by kernel_rfl) rfl)
    refine d_val (i := 0) [] (ex_field (o := 0) 0 fa23_0 rfl rfl) ?_
    refine d_load (i := 1) Try.isAgg3 rfl rfl ?_
    refine d_val (i := 2) [] (ex_field (o := 0) 0 fa23_0 rfl rfl) ?_
    refine d_load (i := 3) Try.isAgg3 rfl rfl ?_
    refine d_val (i := 4) [] (ex_move rfl) ?_
    refine d_val (i := 5) [] (ex_sub64 rfl rfl (by unfold I64; omega)) ?_
    refine d_val (i := 6) [] (ex_move rfl) ?_
    refine d_val (i := 7) [] (ex_call Try.call30 rfl (fun W hW => c30 (sl - ad) by_ (by omega) (by omega))) ?_
    refine d_val (i := 8) [] (ex_max rfl rfl) ?_
    refine d_val (i := 9) [] (ex_field (o := 0) 1 fa23_1 rfl rfl) ?_
    refine d_load (i := 10) Try.isAgg3 rfl rfl ?_
    refine d_val (i := 11) [] (ex_field (o := 0) 1 fa23_1 rfl rfl) ?_
    refine d_load (i := 12) Try.isAgg3 rfl rfl ?_
    refine d_val (i := 13) [] (ex_move rfl) ?_
    refine d_val (i := 14) [] (ex_sub64 rfl rfl (by unfold I64; omega)) ?_
    refine d_val (i := 15) [] (ex_move rfl) ?_
    refine d_val (i := 16) [] (ex_call Try.call68 rfl (fun W hW => c68 (sh - ad) by_ (by omega) (by omega))) ?_
    refine d_val (i := 17) [] (ex_min rfl rfl) ?_
    refine d_val (i := 18) [] (ex_build bf23 rfl) ?_
    refine d_rest ?_
    refine d_nil ?_
    refine r_one 19 (rs_store [18, 16, 0, 1, 2, 3, 4, 5, 6, 7, 8, 9, 10, 11, 12, 13, 14, 15, 16, 17, 18] rfl Try.sizeOf23 rfl rfl ?_) (by kernel_rfl)
    refine r_nil ?_ (by kernel_rfl)
    refine k_ret ?_
    exact finC rfl Try.isAgg23 Try.sizeOf23 rfl rfl fun W hW => ⟨by unfold fitLo fitHi; rw [if_neg hz, if_neg hz], hW.ext⟩

def lmin : List Int → Int
  | [] => 0
  | x :: r => r.foldl min x
def lmax : List Int → Int
  | [] => 0
  | x :: r => r.foldl max x
theorem lmin_take {l : List Int} {k : Nat} (h1 : 1 ≤ k) (h2 : k < l.length) : lmin (l.take (k + 1)) = min (lmin (l.take k)) l[k] := by
  cases l with
  | nil => simp at h2
  | cons x r =>
    obtain ⟨k, rfl⟩ : ∃ j, k = j + 1 := ⟨k - 1, by omega⟩
    have h3 : k < r.length := by simpa using h2
    simp only [List.take_succ_cons, lmin, List.getElem_cons_succ]
    rw [List.take_succ_eq_append_getElem h3, List.foldl_append]
    rfl
theorem lmax_take {l : List Int} {k : Nat} (h1 : 1 ≤ k) (h2 : k < l.length) : lmax (l.take (k + 1)) = max (lmax (l.take k)) l[k] := by
  cases l with
  | nil => simp at h2
  | cons x r =>
    obtain ⟨k, rfl⟩ : ∃ j, k = j + 1 := ⟨k - 1, by omega⟩
    have h3 : k < r.length := by simpa using h2
    simp only [List.take_succ_cons, lmax, List.getElem_cons_succ]
    rw [List.take_succ_eq_append_getElem h3, List.foldl_append]
    rfl
theorem l_take1 {l : List Int} (h : 0 < l.length) : lmin (l.take 1) = l[0] ∧ lmax (l.take 1) = l[0] := by
  cases l with
  | nil => simp at h
  | cons x r => simp [lmin, lmax]

-- == f55 slices.Min[[]int,int] params [42] results [3] in [('tmp', ['2'])] ntmps 25 nfree 0
theorem c55 (l : List Int) {A : Option Addr} {c : Nat} {w : World} (h0 : 0 < l.length) (hl : l.length < 4611686018427387904) (hrow : RowsAt w A (l.map (Value.int .i64))) : Calls Try.prog 55 [.slice A l.length c].toArray w fun e w' => e = .returned (.int .i64 (lmin l)) ∧ Ext [] w w' := by
  obtain ⟨a, hA, _⟩ := hrow 0 (.int .i64 l[0]) (by simp [h0])
  subst hA
  have hcell : ∀ k (h : k < l.length), w.cell? (a.add k) = some (Value.int .i64 l[k]) := fun k h => by
    obtain ⟨a', e, hc⟩ := hrow k (.int .i64 l[k]) (by simp [h])
    cases e
    exact hc
  refine fn_start Try.func55 rfl (N := 25) rfl ?_
  refine k_seq (k_region ?_)
  refine o_val (ex_assign rfl) (o_nil ?_)
  refine k_seq (k_seq (k_region ?_))
  refine o_val (ex_move rfl) ?_
  refine o_val (ex_len Try.runUnderlying42 rfl) ?_
  refine o_val (ex_lss rfl rfl) (o_nil ?_)
  refine k_cut (ι := Unit) (fun _ => [(0, .slice (some a) l.length c)]) (fun _ => []) (fun _ => True) ?_ (fun _ _ => ?_)
  · refine k_cond rfl (fun h => ?_) (fun h => ?_)
    ·
      simp at h
      omega
    ·
      refine k_skip ?_
      exact k_some () trivial (Sub.cons rfl (Sub.nil _)) SubE.sub
  refine k_seq (k_region ?_)
  refine o_val (ex_move rfl) ?_
  refine o_val (ex_index_old Try.runUnderlying42 Try.sizeOf3 rfl rfl (by omega) (by omega)) ?_
  refine o_val (ex_load_old Try.isAgg3 rfl (show w.cell? (a.add ((0 : Int).toNat * 1)) = some (Value.int .i64 l[0]) by simpa using hcell 0 h0) (by simp)) ?_
  refine o_val (ex_assign rfl) (o_nil ?_)
  refine k_seq (k_seq (k_region ?_))
  refine o_val (ex_assign rfl) (o_nil ?_)
  refine k_block ?_
  refine k_loop (ι := Nat) (fun k => [(0, .slice (some a) l.length c), (3, .int .i64 (lmin (l.take k))), (4, .int .i64 (k : Int))]) (fun k => []) (fun k => 1 ≤ k ∧ k ≤ l.length) (fun k => l.length - k) 1 ⟨by omega, by omega⟩ (Sub.cons rfl (Sub.cons' rfl (by rw [(l_take1 h0).1]) (Sub.cons rfl (Sub.nil _)))) SubE.sub (fun k hk => ?_)
  obtain ⟨hk1, hk⟩ := hk
  refine k_seq (k_seq (k_region ?_))
  refine o_val (ex_move rfl) ?_
  refine o_val (ex_move rfl) ?_
  refine o_val (ex_len Try.runUnderlying42 rfl) ?_
  refine o_val (ex_lss rfl rfl) (o_nil ?_)
  refine k_cond rfl (fun h => ?_) (fun h => ?_)
  ·
    have hlt : k < l.length := by have : (k : Int) < l.length := of_decide_eq_true h; omega
    refine k_skip ?_
    refine k_seq (k_block ?_)
    refine k_region ?_
    refine o_val (ex_move rfl) ?_
    refine o_val (ex_move rfl) ?_
    refine o_val (ex_move rfl) ?_
    refine o_val (ex_index_old Try.runUnderlying42 Try.sizeOf3 rfl rfl (by omega) (by omega)) ?_
    refine o_val (ex_load_old Try.isAgg3 rfl (show w.cell? (a.add ((k : Int).toNat * 1)) = some (Value.int .i64 l[k]) by simpa using hcell k hlt) (by simp)) ?_
    refine o_val (ex_min rfl rfl) ?_
    refine o_val (ex_assign rfl) (o_nil ?_)
    refine k_region ?_
    refine o_val (ex_move rfl) ?_
    refine o_val (ex_add64 rfl rfl (by unfold I64; omega)) ?_
    refine o_val (ex_assign rfl) (o_nil ?_)
    exact k_some (k + 1) ⟨⟨by omega, by omega⟩, by omega⟩ (Sub.cons rfl (Sub.cons' rfl (by rw [lmin_take hk1 hlt]) (Sub.cons rfl (Sub.nil _)))) SubE.sub
  ·
    have hge : ¬ k < l.length := by have : ¬ (k : Int) < l.length := of_decide_eq_false h; omega
    refine k_exit rfl ?_
    refine k_seq (k_region ?_)
    refine o_val (ex_move rfl) ?_
    refine o_val (ex_assign rfl) (o_nil ?_)
    refine k_ret ?_
    exact fin1 rfl rfl fun W hW => ⟨by rw [List.take_of_length_le (by omega)], hW.ext⟩

-- == f56 slices.Max[[]int,int] params [42] results [3] in [('tmp', ['2'])] ntmps 25 nfree 0
theorem c56 (l : List Int) {A : Option Addr} {c : Nat} {w : World} (h0 : 0 < l.length) (hl : l.length < 4611686018427387904) (hrow : RowsAt w A (l.map (Value.int .i64))) : Calls Try.prog 56 [.slice A l.length c].toArray w fun e w' => e = .returned (.int .i64 (lmax l)) ∧ Ext [] w w' := by
  obtain ⟨a, hA, _⟩ := hrow 0 (.int .i64 l[0]) (by simp [h0])
  subst hA
  have hcell : ∀ k (h : k < l.length), w.cell? (a.add k) = some (Value.int .i64 l[k]) := fun k h => by
    obtain ⟨a', e, hc⟩ := hrow k (.int .i64 l[k]) (by simp [h])
    cases e
    exact hc
  refine fn_start Try.func56 rfl (N := 25) rfl ?_
  refine k_seq (k_region ?_)
  refine o_val (ex_assign rfl) (o_nil ?_)
  refine k_seq (k_seq (k_region ?_))
  refine o_val (ex_move rfl) ?_
  refine o_val (ex_len Try.runUnderlying42 rfl) ?_
  refine o_val (ex_lss rfl rfl) (o_nil ?_)
  refine k_cut (ι := Unit) (fun _ => [(0, .slice (some a) l.length c)]) (fun _ => []) (fun _ => True) ?_ (fun _ _ => ?_)
  · refine k_cond rfl (fun h => ?_) (fun h => ?_)
    ·
      simp at h
      omega
    ·
      refine k_skip ?_
      exact k_some () trivial (Sub.cons rfl (Sub.nil _)) SubE.sub
  refine k_seq (k_region ?_)
  refine o_val (ex_move rfl) ?_
  refine o_val (ex_index_old Try.runUnderlying42 Try.sizeOf3 rfl rfl (by omega) (by omega)) ?_
  refine o_val (ex_load_old Try.isAgg3 rfl (show w.cell? (a.add ((0 : Int).toNat * 1)) = some (Value.int .i64 l[0]) by simpa using hcell 0 h0) (by simp)) ?_
  refine o_val (ex_assign rfl) (o_nil ?_)
  refine k_seq (k_seq (k_region ?_))
  refine o_val (ex_assign rfl) (o_nil ?_)
  refine k_block ?_
  refine k_loop (ι := Nat) (fun k => [(0, .slice (some a) l.length c), (3, .int .i64 (lmax (l.take k))), (4, .int .i64 (k : Int))]) (fun k => []) (fun k => 1 ≤ k ∧ k ≤ l.length) (fun k => l.length - k) 1 ⟨by omega, by omega⟩ (Sub.cons rfl (Sub.cons' rfl (by rw [(l_take1 h0).2]) (Sub.cons rfl (Sub.nil _)))) SubE.sub (fun k hk => ?_)
  obtain ⟨hk1, hk⟩ := hk
  refine k_seq (k_seq (k_region ?_))
  refine o_val (ex_move rfl) ?_
  refine o_val (ex_move rfl) ?_
  refine o_val (ex_len Try.runUnderlying42 rfl) ?_
  refine o_val (ex_lss rfl rfl) (o_nil ?_)
  refine k_cond rfl (fun h => ?_) (fun h => ?_)
  ·
    have hlt : k < l.length := by have : (k : Int) < l.length := of_decide_eq_true h; omega
    refine k_skip ?_
    refine k_seq (k_block ?_)
    refine k_region ?_
    refine o_val (ex_move rfl) ?_
    refine o_val (ex_move rfl) ?_
    refine o_val (ex_move rfl) ?_
    refine o_val (ex_index_old Try.runUnderlying42 Try.sizeOf3 rfl rfl (by omega) (by omega)) ?_
    refine o_val (ex_load_old Try.isAgg3 rfl (show w.cell? (a.add ((k : Int).toNat * 1)) = some (Value.int .i64 l[k]) by simpa using hcell k hlt) (by simp)) ?_
    refine o_val (ex_max rfl rfl) ?_
    refine o_val (ex_assign rfl) (o_nil ?_)
    refine k_region ?_
    refine o_val (ex_move rfl) ?_
    refine o_val (ex_add64 rfl rfl (by unfold I64; omega)) ?_
    refine o_val (ex_assign rfl) (o_nil ?_)
    exact k_some (k + 1) ⟨⟨by omega, by omega⟩, by omega⟩ (Sub.cons rfl (Sub.cons' rfl (by rw [lmax_take hk1 hlt]) (Sub.cons rfl (Sub.nil _)))) SubE.sub
  ·
    have hge : ¬ k < l.length := by have : ¬ (k : Int) < l.length := of_decide_eq_false h; omega
    refine k_exit rfl ?_
    refine k_seq (k_region ?_)
    refine o_val (ex_move rfl) ?_
    refine o_val (ex_assign rfl) (o_nil ?_)
    refine k_ret ?_
    exact fin1 rfl rfl fun W hW => ⟨by rw [List.take_of_length_le (by omega)], hW.ext⟩

end Go.Proofs.Yteecidddfcbabaa
