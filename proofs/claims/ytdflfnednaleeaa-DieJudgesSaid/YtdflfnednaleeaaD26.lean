/- The walks of functions: what each call hands back, and that nothing that was there has turned. Printed by a program of this session (wip/tools/gen.py). -/
import Derived.Test.YtdflfnednaleeaaD22
namespace Go.Proofs.Ytdflfnednaleeaa
open Go
attribute [local irreducible] ExV Ex
set_option synthInstance.maxSize 2000
set_option synthInstance.maxHeartbeats 200000
set_option maxRecDepth 20000

def goodI (all : Int) (l : List Int) (i : Nat) : Prop := 0 ≤ l.getD i 0 ∧ l.getD i 0 ≤ all - 1 ∧ (0 < i → l.getD (i - 1) 0 < l.getD i 0)
theorem upB_iff {all : Int} {l : List Int} : upB all l = true ↔ ∀ i, i < l.length → goodI all l i := by
  constructor
  · intro h i hi
    have h1 := upB_at h hi
    refine ⟨h1.1, h1.2.1, fun h0 => ?_⟩
    have h2 := (upB_at h (i := i - 1) (by omega)).2.2 (by omega)
    rw [show i - 1 + 1 = i by omega] at h2
    exact h2
  · intro h
    unfold upB
    simp only [Bool.and_eq_true]
    refine ⟨⟨?_, ascB_iff.2 fun i h0 hi => ?_⟩, neB_iff.2 fun i h0 hi => ?_⟩
    · unfold wi
      rw [Bool.not_eq_true', List.any_eq_false]
      intro x hx
      obtain ⟨i, hi, rfl⟩ := List.getElem_of_mem hx
      have := h i hi
      unfold goodI at this
      rw [getD_at hi] at this
      simp only [Bool.or_eq_true, decide_eq_true_eq]
      omega
    · have := (h i hi).2.2 h0; omega
    · have := (h i hi).2.2 h0; omega
theorem upB_bad {all : Int} {l : List Int} {i : Nat} (hi : i < l.length) (h : ¬ goodI all l i) : upB all l = false := by
  cases hu : upB all l with
  | false => rfl
  | true => exact absurd (upB_iff.1 hu i hi) h

-- == f38 acme/acmeref07.Pieces params [27, 52] results [4] in [('tmp', ['4'])] ntmps 37 nfree 0
theorem c38 (os : List Od) (l : List Int) {A2 A5 : Option Addr} {c2 c5 : Nat} {w : World} (hlo : os.length ≤ 45) (hl : l.length ≤ 1005) (hpc : ∀ o, o ∈ os → 1 ≤ o.pc ∧ o.pc ≤ 10000) (hos : ElAt w A2 os) (hrow : ElAt w A5 l) : Calls Try.prog 38 [.slice A2 os.length c2, .slice A5 l.length c5].toArray w fun e w' => e = .returned (.bool (upB (allP os) l)) ∧ Ext [] w w' := by
  refine fn_start Try.func38 rfl (N := 37) rfl ?_
  refine k_seq (k_region ?_)
  refine o_val (ex_assign rfl) (o_nil ?_)
  refine k_seq (k_seq (k_region ?_))
  refine o_val (ex_assign rfl) (o_nil ?_)
  refine k_block ?_
  refine k_loop (ι := Nat) (fun k => [(0, .slice A2 os.length c2), (1, .slice A5 l.length c5), (5, .int .i64 (k : Int))]) (fun k => []) (fun k => k ≤ l.length ∧ ∀ i, i < k → goodI (allP os) l i) (fun k => l.length - k) 0 ⟨Nat.zero_le _, fun i hi => by omega⟩ (Sub.cons rfl (Sub.cons rfl (Sub.cons rfl (Sub.nil _)))) SubE.sub (fun k hk => ?_)
  obtain ⟨hk, hI⟩ := hk
  refine k_seq (k_seq (k_region ?_))
  refine o_val (ex_move rfl) ?_
  refine o_val (ex_move rfl) ?_
  refine o_val (ex_len Try.runUnderlying52 rfl) ?_
  refine o_val (ex_lss rfl rfl) (o_nil ?_)
  refine k_cond rfl (fun h => ?_) (fun h => ?_)
  ·
    have hlt : k < l.length := by have : (k : Int) < (l.length : Int) := of_decide_eq_true h; omega
    obtain ⟨a, hA, hc⟩ := hrow k hlt
    subst hA
    have hpb := pre_bound hpc os.length (Nat.le_refl _)
    have h3 : (decide (0 ≤ l.getD k 0) && decide (l.getD k 0 ≤ allP os - 1)) = false ∨ ((decide (0 ≤ l.getD k 0) && decide (l.getD k 0 ≤ allP os - 1)) = true ∧ k = 0) ∨ ((decide (0 ≤ l.getD k 0) && decide (l.getD k 0 ≤ allP os - 1)) = true ∧ 0 < k) := by
      cases hq : (decide (0 ≤ l.getD k 0) && decide (l.getD k 0 ≤ allP os - 1))
      · exact .inl rfl
      · by_cases e : k = 0
        · exact .inr (.inl ⟨rfl, e⟩)
        · exact .inr (.inr ⟨rfl, by omega⟩)
    refine k_skip ?_
    refine k_seq (k_block ?_)
    rcases h3 with hb | ⟨hb, hk0⟩ | ⟨hb, hk0⟩
    ·
      refine k_seq (k_draw [true, true, true, true, true, true, true, true, true, true, true, true, true, true, true, true, true, true, true, true, true, true, true, true, true] 0 ?_ mixed (by kernel_rfl) rfl)
      refine d_val (i := 0) [] (ex_move rfl) ?_
      refine d_val (i := 1) [] (ex_move rfl) ?_
      refine d_val (i := 2) [] (ex_index_old Try.runUnderlying52 Try.sizeOf3 rfl rfl (by omega) (by omega)) ?_
      refine d_val (i := 3) [] (ex_load_old (v := .int .i64 (l.getD k 0)) Try.isAgg3 rfl (by rw [getD_at hlt]; exact int_cell hc) (by simp)) ?_
      refine d_val (i := 4) [] (ex_move rfl) ?_
      refine d_val (i := 5) [] (ex_call Try.call22 rfl (fun W hW => c22 os hlo hpc (hos.ext hW.ext))) ?_
      refine d_val (i := 6) [] (ex_sub64 rfl rfl (by unfold allP I64; omega)) ?_
      refine d_val (i := 7) [] (exv_eq (show _ = Value.bool false by rw [hb]) (ex_call Try.call27 rfl (fun W hW => c27 (l.getD k 0) 0 (allP os - 1)))) ?_
      refine d_val (i := 8) [] (ex_not rfl) ?_
      refine d_val (i := 9) [] (ex_move rfl) ?_
      refine d_skip (i := 10) ?_
      refine d_skip (i := 11) ?_
      refine d_skip (i := 12) ?_
      refine d_skip_undef (i := 13) ?_
      refine d_skip_undef (i := 14) ?_
      refine d_skip_undef (i := 15) ?_
      refine d_skip_undef (i := 16) ?_
      refine d_skip_undef (i := 17) ?_
      refine d_skip_undef (i := 18) ?_
      refine d_skip_undef (i := 19) ?_
      refine d_skip_undef (i := 20) ?_
      refine d_skip_undef (i := 21) ?_
      refine d_skip_undef (i := 22) ?_
      refine d_skip (i := 23) ?_
      refine d_val (i := 24) [] (ex_pick rfl rfl) ?_
      refine d_nil ?_
      refine r_nil ?_ (by kernel_rfl)
      refine k_cond rfl (fun h_1 => ?_) (fun h_1 => ?_)
      ·
        have hu := upB_bad (all := allP os) hlt (fun hg => by rw [decide_eq_true hg.1, decide_eq_true hg.2.1] at hb; cases hb)
        refine k_seq (k_region ?_)
        refine o_val (ex_assign rfl) (o_nil ?_)
        refine k_ret ?_
        exact fin1 rfl rfl fun W hW => ⟨by rw [hu], hW.ext⟩
      ·
        cases h_1
    ·
      refine k_seq (k_draw [true, true, true, true, true, true, true, true, true, true, true, true, true, true, true, true, true, true, true, true, true, true, true, true, true] 0 ?_ mixed (by kernel_rfl) rfl)
      refine d_val (i := 0) [] (ex_move rfl) ?_
      refine d_val (i := 1) [] (ex_move rfl) ?_
      refine d_val (i := 2) [] (ex_index_old Try.runUnderlying52 Try.sizeOf3 rfl rfl (by omega) (by omega)) ?_
      refine d_val (i := 3) [] (ex_load_old (v := .int .i64 (l.getD k 0)) Try.isAgg3 rfl (by rw [getD_at hlt]; exact int_cell hc) (by simp)) ?_
      refine d_val (i := 4) [] (ex_move rfl) ?_
      refine d_val (i := 5) [] (ex_call Try.call22 rfl (fun W hW => c22 os hlo hpc (hos.ext hW.ext))) ?_
      refine d_val (i := 6) [] (ex_sub64 rfl rfl (by unfold allP I64; omega)) ?_
      refine d_val (i := 7) [] (exv_eq (show _ = Value.bool true by rw [hb]) (ex_call Try.call27 rfl (fun W hW => c27 (l.getD k 0) 0 (allP os - 1)))) ?_
      refine d_val (i := 8) [] (ex_not rfl) ?_
      refine d_val (i := 9) [] (ex_move rfl) ?_
      refine d_val_g (i := 10) [] (ex_move rfl) ?_
      refine d_val_g (i := 11) [] (exv_eq (show _ = Value.bool false by rw [hk0]; rfl) (ex_gtr rfl rfl)) ?_
      refine d_val_g (i := 12) [] (ex_move rfl) ?_
      refine d_skip (i := 13) ?_
      refine d_skip (i := 14) ?_
      refine d_skip (i := 15) ?_
      refine d_skip (i := 16) ?_
      refine d_skip (i := 17) ?_
      refine d_skip (i := 18) ?_
      refine d_skip (i := 19) ?_
      refine d_skip (i := 20) ?_
      refine d_skip (i := 21) ?_
      refine d_skip (i := 22) ?_
      refine d_val_g (i := 23) [] (ex_pick rfl rfl) ?_
      refine d_val (i := 24) [] (ex_pick rfl rfl) ?_
      refine d_nil ?_
      refine r_nil ?_ (by kernel_rfl)
      refine k_cond rfl (fun h_1 => ?_) (fun h_1 => ?_)
      ·
        cases h_1
      ·
        rw [Bool.and_eq_true, decide_eq_true_eq, decide_eq_true_eq] at hb
        have hgood : goodI (allP os) l k := ⟨hb.1, hb.2, fun h0 => by omega⟩
        refine k_skip ?_
        refine k_region ?_
        refine o_val (ex_move rfl) ?_
        refine o_val (ex_add64 rfl rfl (by unfold I64; omega)) ?_
        refine o_val (ex_assign rfl) (o_nil ?_)
        exact k_some (k + 1) ⟨⟨hlt, fun i hi => by
          by_cases e : i = k
          · subst e; exact hgood
          · exact hI i (by omega)⟩, by omega⟩ (Sub.cons rfl (Sub.cons rfl (Sub.cons rfl (Sub.nil _)))) SubE.sub
    ·
      obtain ⟨a2, hA2, hcp⟩ := hrow (k - 1) (by omega)
      cases hA2
      refine k_seq (k_draw [true, true, true, true, true, true, true, true, true, true, true, true, true, true, true, true, true, true, true, true, true, true, true, true, true] 0 ?_ mixed (by kernel_rfl) rfl)
      refine d_val (i := 0) [] (ex_move rfl) ?_
      refine d_val (i := 1) [] (ex_move rfl) ?_
      refine d_val (i := 2) [] (ex_index_old Try.runUnderlying52 Try.sizeOf3 rfl rfl (by omega) (by omega)) ?_
      refine d_val (i := 3) [] (ex_load_old (v := .int .i64 (l.getD k 0)) Try.isAgg3 rfl (by rw [getD_at hlt]; exact int_cell hc) (by simp)) ?_
      refine d_val (i := 4) [] (ex_move rfl) ?_
      refine d_val (i := 5) [] (ex_call Try.call22 rfl (fun W hW => c22 os hlo hpc (hos.ext hW.ext))) ?_
      refine d_val (i := 6) [] (ex_sub64 rfl rfl (by unfold allP I64; omega)) ?_
      refine d_val (i := 7) [] (exv_eq (show _ = Value.bool true by rw [hb]) (ex_call Try.call27 rfl (fun W hW => c27 (l.getD k 0) 0 (allP os - 1)))) ?_
      refine d_val (i := 8) [] (ex_not rfl) ?_
      refine d_val (i := 9) [] (ex_move rfl) ?_
      refine d_val_g (i := 10) [] (ex_move rfl) ?_
      refine d_val_g (i := 11) [] (exv_eq (show _ = Value.bool true by rw [decide_eq_true (show (0 : Int) < (k : Int) by omega)]) (ex_gtr rfl rfl)) ?_
      refine d_val_g (i := 12) [] (ex_move rfl) ?_
      refine d_val_g (i := 13) [] (ex_move rfl) ?_
      refine d_val_g (i := 14) [] (ex_move rfl) ?_
      refine d_val_g (i := 15) [] (ex_index_old Try.runUnderlying52 Try.sizeOf3 rfl rfl (by omega) (by omega)) ?_
      refine d_val_g (i := 16) [] (ex_load_old (v := .int .i64 (l.getD k 0)) Try.isAgg3 rfl (by rw [getD_at hlt]; exact int_cell hc) (by simp)) ?_
      refine d_val_g (i := 17) [] (ex_move rfl) ?_
      refine d_val_g (i := 18) [] (ex_move rfl) ?_
      refine d_val_g (i := 19) [] (ex_sub64 rfl rfl (by unfold I64; omega)) ?_
      refine d_val_g (i := 20) [] (ex_index_old Try.runUnderlying52 Try.sizeOf3 rfl rfl (by omega) (by omega)) ?_
      refine d_val_g (i := 21) [] (ex_load_old (v := .int .i64 (l.getD (k - 1) 0)) Try.isAgg3 rfl (by rw [show ((k : Int) - 1) = ((k - 1 : Nat) : Int) by omega, getD_at (show k - 1 < l.length by omega)]; exact int_cell hcp) (by simp)) ?_
      refine d_val_g (i := 22) [] (ex_leq rfl rfl) ?_
      refine d_val_g (i := 23) [] (ex_pick rfl rfl) ?_
      refine d_val (i := 24) [] (ex_pick rfl rfl) ?_
      refine d_nil ?_
      refine r_nil ?_ (by kernel_rfl)
      refine k_cond rfl (fun h_1 => ?_) (fun h_1 => ?_)
      ·
        have hle : l.getD k 0 ≤ l.getD (k - 1) 0 := of_decide_eq_true h_1
        have hu := upB_bad (all := allP os) hlt (fun hg => by have := hg.2.2 hk0; omega)
        refine k_seq (k_region ?_)
        refine o_val (ex_assign rfl) (o_nil ?_)
        refine k_ret ?_
        exact fin1 rfl rfl fun W hW => ⟨by rw [hu], hW.ext⟩
      ·
        have hle : ¬ l.getD k 0 ≤ l.getD (k - 1) 0 := of_decide_eq_false h_1
        rw [Bool.and_eq_true, decide_eq_true_eq, decide_eq_true_eq] at hb
        have hgood : goodI (allP os) l k := ⟨hb.1, hb.2, fun h0 => by omega⟩
        refine k_skip ?_
        refine k_region ?_
        refine o_val (ex_move rfl) ?_
        refine o_val (ex_add64 rfl rfl (by unfold I64; omega)) ?_
        refine o_val (ex_assign rfl) (o_nil ?_)
        exact k_some (k + 1) ⟨⟨hlt, fun i hi => by
          by_cases e : i = k
          · subst e; exact hgood
          · exact hI i (by omega)⟩, by omega⟩ (Sub.cons rfl (Sub.cons rfl (Sub.cons rfl (Sub.nil _)))) SubE.sub
  ·
    have hge : k = l.length := by have : ¬ (k : Int) < (l.length : Int) := of_decide_eq_false h; omega
    subst hge
    refine k_exit rfl ?_
    refine k_seq (k_region ?_)
    refine o_val (ex_assign rfl) (o_nil ?_)
    refine k_ret ?_
    exact fin1 rfl rfl fun W hW => ⟨by rw [upB_iff.2 hI], hW.ext⟩

-- == f39 acme/acmeref07.Proves params [26, 27, 52] results [3] in [('tmp', ['6'])] ntmps 29 nfree 0
theorem c39 (t : To) (ws : List Sp) {A : Option Addr} {c : Nat} (os : List Od) {A2 : Option Addr} {c2 : Nat} (l : List Int) {A5 : Option Addr} {c5 : Nat} {w : World} (hok : chkE t ws os = 0) (hl : l.length ≤ 1005) (hpl : upB (allP os) l = true) (hws : ElAt w A ws) (hos : ElAt w A2 os) (hrow : ElAt w A5 l) : Calls Try.prog 39 [.agg [.bool t.down, .int .i64 t.sl, .int .i64 t.sh, .int .i64 t.cl, .int .i64 t.ch, .slice A ws.length c].toArray, .slice A2 os.length c2, .slice A5 l.length c5].toArray w fun e w' => e = .returned (.int .i64 (provL (openS t ws os) l (l.length - 1) 0)) ∧ Ext [] w w' := by
  have hS := openS_ok hok
  have hall := hS.all
  rw [allP_open] at hall
  have hck := chkE_ok.1 hok
  have hpc := chk_pc hok
  refine fn_start Try.func39 rfl (N := 29) rfl ?_
  refine k_seq (k_region ?_)
  refine o_box rfl (fun b3 => ?_)
  refine o_val (ex_assign rfl) (o_nil ?_)
  refine k_seq (k_seq (k_region ?_))
  refine o_val (ex_assign rfl) (o_nil ?_)
  refine k_block ?_
  refine k_loop (ι := Nat) (fun k => [(1, .slice A2 os.length c2), (2, .slice A5 l.length c5), (3, .pointer (some ⟨b3, 0, none⟩)), (7, .int .i64 (k : Int))]) (fun k => [⟨b3, 26, [.bool t.down, .int .i64 t.sl, .int .i64 t.sh, .int .i64 t.cl, .int .i64 t.ch, .slice A ws.length c], true⟩]) (fun k => k ≤ l.length - 1 ∧ provL (openS t ws os) l (l.length - 1 - k) k = provL (openS t ws os) l (l.length - 1) 0) (fun k => l.length - 1 - k) 0 ⟨Nat.zero_le _, rfl⟩ (Sub.cons rfl (Sub.cons rfl (Sub.cons rfl (Sub.cons rfl (Sub.nil _))))) SubE.sub (fun k hk => ?_)
  obtain ⟨hk, hJ⟩ := hk
  refine k_seq (k_seq (k_region ?_))
  refine o_val (ex_move rfl) ?_
  refine o_val (ex_add64 rfl rfl (by unfold I64; omega)) ?_
  refine o_val (ex_move rfl) ?_
  refine o_val (ex_len Try.runUnderlying52 rfl) ?_
  refine o_val (ex_lss rfl rfl) (o_nil ?_)
  refine k_cond rfl (fun h => ?_) (fun h => ?_)
  ·
    have hlt : k < l.length - 1 := by have : (k : Int) + 1 < (l.length : Int) := of_decide_eq_true h; omega
    obtain ⟨a, hA, hc⟩ := hrow k (by omega)
    obtain ⟨a2, hA2, hc2⟩ := hrow (k + 1) (by omega)
    rw [hA] at hA2
    cases hA2
    subst hA
    have hpa := upB_at hpl (i := k) (by omega)
    have hpb := upB_at hpl (i := k + 1) (by omega)
    have hpl2 := hpa.2.2 (by omega)
    rw [show l.length - 1 - k = (l.length - 1 - (k + 1)) + 1 by omega, provL_succ] at hJ
    refine k_skip ?_
    refine k_seq (k_block ?_)
    refine k_seq (k_draw [true, true, true, true, true, true, true, true, true, true, true, true, true] 0 ?_ mixed (by kernel_rfl) rfl)
    refine d_loadA (i := 0) Try.isAgg26 Try.sizeOf26 rfl ?_
    refine d_val (i := 1) [] (ex_move rfl) ?_
    refine d_val (i := 2) [] (ex_move rfl) ?_
    refine d_val (i := 3) [] (ex_move rfl) ?_
    refine d_val (i := 4) [] (ex_index_old Try.runUnderlying52 Try.sizeOf3 rfl rfl (by omega) (by omega)) ?_
    refine d_val (i := 5) [] (ex_load_old (v := .int .i64 (l.getD k 0)) Try.isAgg3 rfl (by rw [getD_at (show k < l.length by omega)]; exact int_cell hc) (by simp)) ?_
    refine d_val (i := 6) [] (ex_move rfl) ?_
    refine d_val (i := 7) [] (ex_move rfl) ?_
    refine d_val (i := 8) [] (ex_add64 rfl rfl (by unfold I64; omega)) ?_
    refine d_val (i := 9) [] (ex_index_old Try.runUnderlying52 Try.sizeOf3 rfl rfl (by omega) (by omega)) ?_
    refine d_val (i := 10) [] (ex_load_old (v := .int .i64 (l.getD (k + 1) 0)) Try.isAgg3 rfl (by rw [show ((k : Int) + 1) = ((k + 1 : Nat) : Int) by omega, getD_at (show k + 1 < l.length by omega)]; exact int_cell hc2) (by simp)) ?_
    refine d_val (i := 11) [] (ex_add64 rfl rfl (by unfold I64; omega)) ?_
    refine d_val (i := 12) [] (ex_call Try.call73 rfl (fun W hW => c73 t ws os (l.getD k 0) (l.getD (k + 1) 0 + 1 - l.getD k 0).toNat (by omega) hok (by omega) (by omega) (by omega) (hws.ext hW.ext) (hos.ext hW.ext))) ?_
    refine d_nil ?_
    refine r_nil ?_ (by kernel_rfl)
    refine k_cond rfl (fun h_1 => ?_) (fun h_1 => ?_)
    ·
      rw [if_pos h_1] at hJ
      refine k_seq (k_region ?_)
      refine o_val (ex_move rfl) ?_
      refine o_val (ex_assign rfl) (o_nil ?_)
      refine k_ret ?_
      exact fin1 rfl rfl fun W hW => ⟨by rw [← hJ], hW.ext⟩
    ·
      rw [if_neg (by rw [h_1]; decide)] at hJ
      refine k_skip ?_
      refine k_region ?_
      refine o_val (ex_move rfl) ?_
      refine o_val (ex_add64 rfl rfl (by unfold I64; omega)) ?_
      refine o_val (ex_assign rfl) (o_nil ?_)
      exact k_some (k + 1) ⟨⟨hlt, hJ⟩, by omega⟩ (Sub.cons rfl (Sub.cons rfl (Sub.cons rfl (Sub.cons rfl (Sub.nil _))))) SubE.sub
  ·
    have hge : l.length - 1 - k = 0 := by have : ¬ (k : Int) + 1 < (l.length : Int) := of_decide_eq_false h; omega
    rw [hge, provL_zero] at hJ
    refine k_exit rfl ?_
    refine k_seq (k_region ?_)
    refine o_val (ex_assign rfl) (o_nil ?_)
    refine k_ret ?_
    exact fin1 rfl rfl fun W hW => ⟨by rw [← hJ], hW.ext⟩

end Go.Proofs.Ytdflfnednaleeaa
