/- The walks of functions: what each call hands back, and that nothing that was there has turned. Printed by a program of this session (wip/tools/gen.py). -/
import Derived.Test.YtdflfnednaleeaaD26
namespace Go.Proofs.Ytdflfnednaleeaa
open Go
attribute [local irreducible] ExV Ex
set_option synthInstance.maxSize 2000
set_option synthInstance.maxHeartbeats 200000
set_option maxRecDepth 20000

def goodP (all : Int) (l : List Stg) (i : Nat) : Prop := (0 ≤ (l.getD i dS).fr ∧ (l.getD i dS).fr ≤ all - 1 ∧ (0 < i → (l.getD (i - 1) dS).fr < (l.getD i dS).fr)) ∧ -10000000000 ≤ (l.getD i dS).tg ∧ (l.getD i dS).tg ≤ 20000000000
theorem isPlan_iff {S : Sh} {l : List Stg} : isPlanB S l = true ↔ ∀ i, i < l.length → goodP (allP S.os) l i := by
  have hg : ∀ i, i < l.length → (goodI (allP S.os) (l.map Stg.fr) i ↔ 0 ≤ (l.getD i dS).fr ∧ (l.getD i dS).fr ≤ allP S.os - 1 ∧ (0 < i → (l.getD (i - 1) dS).fr < (l.getD i dS).fr)) := fun i hi => by
    unfold goodI
    rw [frGetD l i hi]
    by_cases h0 : 0 < i
    · rw [frGetD l (i - 1) (by omega)]
    · exact ⟨fun h => ⟨h.1, h.2.1, fun h2 => absurd h2 h0⟩, fun h => ⟨h.1, h.2.1, fun h2 => absurd h2 h0⟩⟩
  unfold isPlanB
  rw [Bool.and_eq_true, upB_iff, Bool.not_eq_true', List.any_eq_false]
  constructor
  · rintro ⟨h1, h2⟩ i hi
    have h3 := h2 l[i] (List.getElem_mem hi)
    rw [wi_one] at h3
    refine ⟨(hg i hi).1 (h1 i (by simpa using hi)), ?_⟩
    rw [sGetD hi]
    simpa using h3
  · intro h
    refine ⟨fun i hi => (hg i (by simpa using hi)).2 (h i (by simpa using hi)).1, fun x hx => ?_⟩
    obtain ⟨i, hi, rfl⟩ := List.getElem_of_mem hx
    have := (h i hi).2
    rw [sGetD hi] at this
    rw [wi_one]
    simpa using this
theorem isPlan_bad {S : Sh} {l : List Stg} {i : Nat} (hi : i < l.length) (h : ¬ goodP (allP S.os) l i) : isPlanB S l = false := by
  cases hu : isPlanB S l with
  | false => rfl
  | true => exact absurd (isPlan_iff.1 hu i hi) h
def setE (S : Sh) (l : List Stg) : Int := if 1000 < l.length then 5 else if isPlanB S l = false then 2 else 0

-- == f36 acme/acmeref07.Settings params [27, 43] results [33] in [('tmp', ['4'])] ntmps 52 nfree 0
theorem c36 (S : Sh) (os : List Od) (l : List Stg) {A2 A5 : Option Addr} {c2 c5 : Nat} {w : World} (hS : allP S.os = allP os) (hlo : os.length ≤ 45) (hpc : ∀ o, o ∈ os → 1 ≤ o.pc ∧ o.pc ≤ 10000) (hos : ElAt w A2 os) (hrow : ElAt w A5 l) : Calls Try.prog 36 [.slice A2 os.length c2, .slice A5 l.length c5].toArray w fun e w' => e = .returned (.int .i64 (setE S l)) ∧ Ext [] w w' := by
  refine fn_start Try.func36 rfl (N := 52) rfl ?_
  refine k_seq (k_region ?_)
  refine o_val (ex_assign rfl) (o_nil ?_)
  refine k_seq (k_seq (k_region ?_))
  refine o_val (ex_move rfl) ?_
  refine o_val (ex_len Try.runUnderlying43 rfl) ?_
  refine o_val (ex_gtr rfl rfl) (o_nil ?_)
  refine k_cond rfl (fun h => ?_) (fun h => ?_)
  ·
    refine k_seq (k_region ?_)
    refine o_val (ex_assign rfl) (o_nil ?_)
    refine k_ret ?_
    exact fin1 rfl rfl fun W hW => ⟨by rw [show setE S l = 5 from if_pos (by have : (1000 : Int) < (l.length : Int) := of_decide_eq_true h; omega)], hW.ext⟩
  ·
    have hl2 : ¬ 1000 < l.length := by have : ¬ (1000 : Int) < (l.length : Int) := of_decide_eq_false h; omega
    refine k_skip ?_
    refine k_seq (k_seq (k_region ?_))
    refine o_val (ex_assign rfl) (o_nil ?_)
    refine k_block ?_
    refine k_loop (ι := Nat) (fun k => [(0, .slice A2 os.length c2), (1, .slice A5 l.length c5), (5, .int .i64 (k : Int))]) (fun k => []) (fun k => k ≤ l.length ∧ ∀ i, i < k → goodP (allP os) l i) (fun k => l.length - k) 0 ⟨Nat.zero_le _, fun i hi => by omega⟩ (Sub.cons rfl (Sub.cons rfl (Sub.cons rfl (Sub.nil _)))) SubE.sub (fun k hk => ?_)
    obtain ⟨hk, hI⟩ := hk
    refine k_seq (k_seq (k_region ?_))
    refine o_val (ex_move rfl) ?_
    refine o_val (ex_move rfl) ?_
    refine o_val (ex_len Try.runUnderlying43 rfl) ?_
    refine o_val (ex_lss rfl rfl) (o_nil ?_)
    refine k_cond rfl (fun h_1 => ?_) (fun h_1 => ?_)
    ·
      have hlt : k < l.length := by have : (k : Int) < (l.length : Int) := of_decide_eq_true h_1; omega
      obtain ⟨a, hA, hc⟩ := hrow k hlt
      subst hA
      have hpb := pre_bound hpc os.length (Nat.le_refl _)
      have h3 : (decide (0 ≤ (l.getD k dS).fr) && decide ((l.getD k dS).fr ≤ allP os - 1)) = false ∨ ((decide (0 ≤ (l.getD k dS).fr) && decide ((l.getD k dS).fr ≤ allP os - 1)) = true ∧ k = 0) ∨ ((decide (0 ≤ (l.getD k dS).fr) && decide ((l.getD k dS).fr ≤ allP os - 1)) = true ∧ 0 < k ∧ (l.getD k dS).fr ≤ (l.getD (k - 1) dS).fr) ∨ ((decide (0 ≤ (l.getD k dS).fr) && decide ((l.getD k dS).fr ≤ allP os - 1)) = true ∧ 0 < k ∧ ¬ (l.getD k dS).fr ≤ (l.getD (k - 1) dS).fr) := by
        cases hq : (decide (0 ≤ (l.getD k dS).fr) && decide ((l.getD k dS).fr ≤ allP os - 1))
        · exact .inl rfl
        · by_cases e : k = 0
          · exact .inr (.inl ⟨rfl, e⟩)
          · by_cases e2 : (l.getD k dS).fr ≤ (l.getD (k - 1) dS).fr
            · exact .inr (.inr (.inl ⟨rfl, by omega, e2⟩))
            · exact .inr (.inr (.inr ⟨rfl, by omega, e2⟩))
      refine k_skip ?_
      refine k_seq (k_block ?_)
      rcases h3 with hb | ⟨hb, hk0⟩ | ⟨hb, hk0, hle⟩ | ⟨hb, hk0, hle⟩
      ·
        refine k_seq (k_draw [true, true, true, true, true, true, true, true, true, true, true, true, true, true, true, true, true, true, true, true, true, true, true, true, true, true, true, true, true, true, true, true, true, true, true, true, true] 0 ?_ mixed (by kernel_rfl) rfl)
        refine d_val (i := 0) [] (ex_move rfl) ?_
        refine d_val (i := 1) [] (ex_move rfl) ?_
        refine d_val (i := 2) [] (ex_index_old Try.runUnderlying43 Try.sizeOf51 rfl rfl (by omega) (by omega)) ?_
        refine d_val (i := 3) [] (ex_field_old fa51_0 rfl) ?_
        refine d_val (i := 4) [] (ex_load_old (v := .int .i64 (l.getD k dS).fr) Try.isAgg3 rfl (by rw [sGetD hlt]; exact hc 0 (.int .i64 l[k].fr) rfl) (by simp)) ?_
        refine d_val (i := 5) [] (ex_move rfl) ?_
        refine d_val (i := 6) [] (ex_call Try.call22 rfl (fun W hW => c22 os hlo hpc (hos.ext hW.ext))) ?_
        refine d_val (i := 7) [] (ex_sub64 rfl rfl (by unfold allP I64; omega)) ?_
        refine d_val (i := 8) [] (exv_eq (show _ = Value.bool false by rw [hb]) (ex_call Try.call27 rfl (fun W hW => c27 (l.getD k dS).fr 0 (allP os - 1)))) ?_
        refine d_val (i := 9) [] (ex_not rfl) ?_
        refine d_val (i := 10) [] (ex_move rfl) ?_
        refine d_skip (i := 11) ?_
        refine d_skip (i := 12) ?_
        refine d_skip (i := 13) ?_
        refine d_skip_undef (i := 14) ?_
        refine d_skip_undef (i := 15) ?_
        refine d_skip_undef (i := 16) ?_
        refine d_skip_undef (i := 17) ?_
        refine d_skip_undef (i := 18) ?_
        refine d_skip_undef (i := 19) ?_
        refine d_skip_undef (i := 20) ?_
        refine d_skip_undef (i := 21) ?_
        refine d_skip_undef (i := 22) ?_
        refine d_skip_undef (i := 23) ?_
        refine d_skip_undef (i := 24) ?_
        refine d_skip_undef (i := 25) ?_
        refine d_skip (i := 26) ?_
        refine d_val (i := 27) [] (ex_pick rfl rfl) ?_
        refine d_val (i := 28) [] (ex_move rfl) ?_
        refine d_skip (i := 29) ?_
        refine d_skip (i := 30) ?_
        refine d_skip (i := 31) ?_
        refine d_skip (i := 32) ?_
        refine d_skip (i := 33) ?_
        refine d_skip (i := 34) ?_
        refine d_skip (i := 35) ?_
        refine d_val (i := 36) [] (ex_pick rfl rfl) ?_
        refine d_nil ?_
        refine r_nil ?_ (by kernel_rfl)
        refine k_cond rfl (fun h_2 => ?_) (fun h_2 => ?_)
        ·
          have hu := isPlan_bad (S := S) hlt (fun hg => by rw [hS] at hg; rw [decide_eq_true hg.1.1, decide_eq_true hg.1.2.1] at hb; cases hb)
          have he : setE S l = 2 := (if_neg hl2).trans (if_pos hu)
          refine k_seq (k_region ?_)
          refine o_val (ex_assign rfl) (o_nil ?_)
          refine k_ret ?_
          exact fin1 rfl rfl fun W hW => ⟨by rw [he], hW.ext⟩
        ·
          cases h_2
      ·
        refine k_seq (k_draw [true, true, true, true, true, true, true, true, true, true, true, true, true, true, true, true, true, true, true, true, true, true, true, true, true, true, true, true, true, true, true, true, true, true, true, true, true] 0 ?_ mixed (by kernel_rfl) rfl)
        refine d_val (i := 0) [] (ex_move rfl) ?_
        refine d_val (i := 1) [] (ex_move rfl) ?_
        refine d_val (i := 2) [] (ex_index_old Try.runUnderlying43 Try.sizeOf51 rfl rfl (by omega) (by omega)) ?_
        refine d_val (i := 3) [] (ex_field_old fa51_0 rfl) ?_
        refine d_val (i := 4) [] (ex_load_old (v := .int .i64 (l.getD k dS).fr) Try.isAgg3 rfl (by rw [sGetD hlt]; exact hc 0 (.int .i64 l[k].fr) rfl) (by simp)) ?_
        refine d_val (i := 5) [] (ex_move rfl) ?_
        refine d_val (i := 6) [] (ex_call Try.call22 rfl (fun W hW => c22 os hlo hpc (hos.ext hW.ext))) ?_
        refine d_val (i := 7) [] (ex_sub64 rfl rfl (by unfold allP I64; omega)) ?_
        refine d_val (i := 8) [] (exv_eq (show _ = Value.bool true by rw [hb]) (ex_call Try.call27 rfl (fun W hW => c27 (l.getD k dS).fr 0 (allP os - 1)))) ?_
        refine d_val (i := 9) [] (ex_not rfl) ?_
        refine d_val (i := 10) [] (ex_move rfl) ?_
        refine d_val_g (i := 11) [] (ex_move rfl) ?_
        refine d_val_g (i := 12) [] (exv_eq (show _ = Value.bool false by rw [hk0]; rfl) (ex_gtr rfl rfl)) ?_
        refine d_val_g (i := 13) [] (ex_move rfl) ?_
        refine d_skip (i := 14) ?_
        refine d_skip (i := 15) ?_
        refine d_skip (i := 16) ?_
        refine d_skip (i := 17) ?_
        refine d_skip (i := 18) ?_
        refine d_skip (i := 19) ?_
        refine d_skip (i := 20) ?_
        refine d_skip (i := 21) ?_
        refine d_skip (i := 22) ?_
        refine d_skip (i := 23) ?_
        refine d_skip (i := 24) ?_
        refine d_skip (i := 25) ?_
        refine d_val_g (i := 26) [] (ex_pick rfl rfl) ?_
        refine d_val (i := 27) [] (ex_pick rfl rfl) ?_
        refine d_val (i := 28) [] (ex_move rfl) ?_
        refine d_val_g (i := 29) [] (ex_move rfl) ?_
        refine d_val_g (i := 30) [] (ex_move rfl) ?_
        refine d_val_g (i := 31) [] (ex_index_old Try.runUnderlying43 Try.sizeOf51 rfl rfl (by omega) (by omega)) ?_
        refine d_val_g (i := 32) [] (ex_field_old fa51_1 rfl) ?_
        refine d_val_g (i := 33) [] (ex_load_old (v := .int .i64 (l.getD k dS).tg) Try.isAgg3 rfl (by rw [sGetD hlt]; exact hc 1 (.int .i64 l[k].tg) rfl) (by simp)) ?_
        refine d_val_g (i := 34) [] (ex_call Try.call27 rfl (fun W hW => c27 (l.getD k dS).tg (-10000000000) 20000000000)) ?_
        refine d_val_g (i := 35) [] (ex_not rfl) ?_
        refine d_val (i := 36) [] (ex_pick rfl rfl) ?_
        refine d_nil ?_
        refine r_nil ?_ (by kernel_rfl)
        refine k_cond rfl (fun h_2 => ?_) (fun h_2 => ?_)
        ·
          have hbt : ¬ (-10000000000 ≤ (l.getD k dS).tg ∧ (l.getD k dS).tg ≤ 20000000000) := fun hh => by rw [decide_eq_true hh.1, decide_eq_true hh.2] at h_2; exact absurd h_2 (by decide)
          have hu := isPlan_bad (S := S) hlt (fun hg => by rw [hS] at hg; exact hbt hg.2)
          have he : setE S l = 2 := (if_neg hl2).trans (if_pos hu)
          refine k_seq (k_region ?_)
          refine o_val (ex_assign rfl) (o_nil ?_)
          refine k_ret ?_
          exact fin1 rfl rfl fun W hW => ⟨by rw [he], hW.ext⟩
        ·
          rw [Bool.and_eq_true, decide_eq_true_eq, decide_eq_true_eq] at hb
          have hbt : -10000000000 ≤ (l.getD k dS).tg ∧ (l.getD k dS).tg ≤ 20000000000 := by simpa using h_2
          have hgood : goodP (allP os) l k := ⟨⟨hb.1, hb.2, fun h0 => by omega⟩, hbt⟩
          refine k_skip ?_
          refine k_region ?_
          refine o_val (ex_move rfl) ?_
          refine o_val (ex_add64 rfl rfl (by unfold I64; omega)) ?_
          refine o_val (ex_assign rfl) (o_nil ?_)
          exact k_some (k + 1) ⟨⟨hlt, fun i hi => by
            by_cases e : i = k
            · subst e; exact hgood
            · exact hI i (by omega)⟩, by omega⟩ (Sub.cons rfl (Sub.cons rfl (Sub.cons rfl (Sub.nil _)))) SubE.sub
      ·
        obtain ⟨a2, hA2, hcp⟩ := hrow (k - 1) (by omega)
        cases hA2
        refine k_seq (k_draw [true, true, true, true, true, true, true, true, true, true, true, true, true, true, true, true, true, true, true, true, true, true, true, true, true, true, true, true, true, true, true, true, true, true, true, true, true] 0 ?_ mixed (by kernel_rfl) rfl)
        refine d_val (i := 0) [] (ex_move rfl) ?_
        refine d_val (i := 1) [] (ex_move rfl) ?_
        refine d_val (i := 2) [] (ex_index_old Try.runUnderlying43 Try.sizeOf51 rfl rfl (by omega) (by omega)) ?_
        refine d_val (i := 3) [] (ex_field_old fa51_0 rfl) ?_
        refine d_val (i := 4) [] (ex_load_old (v := .int .i64 (l.getD k dS).fr) Try.isAgg3 rfl (by rw [sGetD hlt]; exact hc 0 (.int .i64 l[k].fr) rfl) (by simp)) ?_
        refine d_val (i := 5) [] (ex_move rfl) ?_
        refine d_val (i := 6) [] (ex_call Try.call22 rfl (fun W hW => c22 os hlo hpc (hos.ext hW.ext))) ?_
        refine d_val (i := 7) [] (ex_sub64 rfl rfl (by unfold allP I64; omega)) ?_
        refine d_val (i := 8) [] (exv_eq (show _ = Value.bool true by rw [hb]) (ex_call Try.call27 rfl (fun W hW => c27 (l.getD k dS).fr 0 (allP os - 1)))) ?_
        refine d_val (i := 9) [] (ex_not rfl) ?_
        refine d_val (i := 10) [] (ex_move rfl) ?_
        refine d_val_g (i := 11) [] (ex_move rfl) ?_
        refine d_val_g (i := 12) [] (exv_eq (show _ = Value.bool true by rw [decide_eq_true (show (0 : Int) < (k : Int) by omega)]) (ex_gtr rfl rfl)) ?_
        refine d_val_g (i := 13) [] (ex_move rfl) ?_
        refine d_val_g (i := 14) [] (ex_move rfl) ?_
        refine d_val_g (i := 15) [] (ex_move rfl) ?_
        refine d_val_g (i := 16) [] (ex_index_old Try.runUnderlying43 Try.sizeOf51 rfl rfl (by omega) (by omega)) ?_
        refine d_val_g (i := 17) [] (ex_field_old fa51_0 rfl) ?_
        refine d_val_g (i := 18) [] (ex_load_old (v := .int .i64 (l.getD k dS).fr) Try.isAgg3 rfl (by rw [sGetD hlt]; exact hc 0 (.int .i64 l[k].fr) rfl) (by simp)) ?_
        refine d_val_g (i := 19) [] (ex_move rfl) ?_
        refine d_val_g (i := 20) [] (ex_move rfl) ?_
        refine d_val_g (i := 21) [] (ex_sub64 rfl rfl (by unfold I64; omega)) ?_
        refine d_val_g (i := 22) [] (ex_index_old Try.runUnderlying43 Try.sizeOf51 rfl rfl (by omega) (by omega)) ?_
        refine d_val_g (i := 23) [] (ex_field_old fa51_0 rfl) ?_
        refine d_val_g (i := 24) [] (ex_load_old (v := .int .i64 (l.getD (k - 1) dS).fr) Try.isAgg3 rfl (by rw [show ((k : Int) - 1).toNat = k - 1 by omega, sGetD (show k - 1 < l.length by omega)]; exact hcp 0 (.int .i64 l[k - 1].fr) rfl) (by simp)) ?_
        refine d_val_g (i := 25) [] (exv_eq (show _ = Value.bool true by rw [decide_eq_true hle]) (ex_leq rfl rfl)) ?_
        refine d_val_g (i := 26) [] (ex_pick rfl rfl) ?_
        refine d_val (i := 27) [] (ex_pick rfl rfl) ?_
        refine d_val (i := 28) [] (ex_move rfl) ?_
        refine d_skip (i := 29) ?_
        refine d_skip (i := 30) ?_
        refine d_skip (i := 31) ?_
        refine d_skip (i := 32) ?_
        refine d_skip (i := 33) ?_
        refine d_skip (i := 34) ?_
        refine d_skip (i := 35) ?_
        refine d_val (i := 36) [] (ex_pick rfl rfl) ?_
        refine d_nil ?_
        refine r_nil ?_ (by kernel_rfl)
        refine k_cond rfl (fun h_2 => ?_) (fun h_2 => ?_)
        ·
          have hu := isPlan_bad (S := S) hlt (fun hg => by rw [hS] at hg; have := hg.1.2.2 hk0; omega)
          have he : setE S l = 2 := (if_neg hl2).trans (if_pos hu)
          refine k_seq (k_region ?_)
          refine o_val (ex_assign rfl) (o_nil ?_)
          refine k_ret ?_
          exact fin1 rfl rfl fun W hW => ⟨by rw [he], hW.ext⟩
        ·
          cases h_2
      ·
        obtain ⟨a2, hA2, hcp⟩ := hrow (k - 1) (by omega)
        cases hA2
        refine k_seq (k_draw [true, true, true, true, true, true, true, true, true, true, true, true, true, true, true, true, true, true, true, true, true, true, true, true, true, true, true, true, true, true, true, true, true, true, true, true, true] 0 ?_ mixed (by kernel_rfl) rfl)
        refine d_val (i := 0) [] (ex_move rfl) ?_
        refine d_val (i := 1) [] (ex_move rfl) ?_
        refine d_val (i := 2) [] (ex_index_old Try.runUnderlying43 Try.sizeOf51 rfl rfl (by omega) (by omega)) ?_
        refine d_val (i := 3) [] (ex_field_old fa51_0 rfl) ?_
        refine d_val (i := 4) [] (ex_load_old (v := .int .i64 (l.getD k dS).fr) Try.isAgg3 rfl (by rw [sGetD hlt]; exact hc 0 (.int .i64 l[k].fr) rfl) (by simp)) ?_
        refine d_val (i := 5) [] (ex_move rfl) ?_
        refine d_val (i := 6) [] (ex_call Try.call22 rfl (fun W hW => c22 os hlo hpc (hos.ext hW.ext))) ?_
        refine d_val (i := 7) [] (ex_sub64 rfl rfl (by unfold allP I64; omega)) ?_
        refine d_val (i := 8) [] (exv_eq (show _ = Value.bool true by rw [hb]) (ex_call Try.call27 rfl (fun W hW => c27 (l.getD k dS).fr 0 (allP os - 1)))) ?_
        refine d_val (i := 9) [] (ex_not rfl) ?_
        refine d_val (i := 10) [] (ex_move rfl) ?_
        refine d_val_g (i := 11) [] (ex_move rfl) ?_
        refine d_val_g (i := 12) [] (exv_eq (show _ = Value.bool true by rw [decide_eq_true (show (0 : Int) < (k : Int) by omega)]) (ex_gtr rfl rfl)) ?_
        refine d_val_g (i := 13) [] (ex_move rfl) ?_
        refine d_val_g (i := 14) [] (ex_move rfl) ?_
        refine d_val_g (i := 15) [] (ex_move rfl) ?_
        refine d_val_g (i := 16) [] (ex_index_old Try.runUnderlying43 Try.sizeOf51 rfl rfl (by omega) (by omega)) ?_
        refine d_val_g (i := 17) [] (ex_field_old fa51_0 rfl) ?_
        refine d_val_g (i := 18) [] (ex_load_old (v := .int .i64 (l.getD k dS).fr) Try.isAgg3 rfl (by rw [sGetD hlt]; exact hc 0 (.int .i64 l[k].fr) rfl) (by simp)) ?_
        refine d_val_g (i := 19) [] (ex_move rfl) ?_
        refine d_val_g (i := 20) [] (ex_move rfl) ?_
        refine d_val_g (i := 21) [] (ex_sub64 rfl rfl (by unfold I64; omega)) ?_
        refine d_val_g (i := 22) [] (ex_index_old Try.runUnderlying43 Try.sizeOf51 rfl rfl (by omega) (by omega)) ?_
        refine d_val_g (i := 23) [] (ex_field_old fa51_0 rfl) ?_
        refine d_val_g (i := 24) [] (ex_load_old (v := .int .i64 (l.getD (k - 1) dS).fr) Try.isAgg3 rfl (by rw [show ((k : Int) - 1).toNat = k - 1 by omega, sGetD (show k - 1 < l.length by omega)]; exact hcp 0 (.int .i64 l[k - 1].fr) rfl) (by simp)) ?_
        refine d_val_g (i := 25) [] (exv_eq (show _ = Value.bool false by rw [decide_eq_false hle]) (ex_leq rfl rfl)) ?_
        refine d_val_g (i := 26) [] (ex_pick rfl rfl) ?_
        refine d_val (i := 27) [] (ex_pick rfl rfl) ?_
        refine d_val (i := 28) [] (ex_move rfl) ?_
        refine d_val_g (i := 29) [] (ex_move rfl) ?_
        refine d_val_g (i := 30) [] (ex_move rfl) ?_
        refine d_val_g (i := 31) [] (ex_index_old Try.runUnderlying43 Try.sizeOf51 rfl rfl (by omega) (by omega)) ?_
        refine d_val_g (i := 32) [] (ex_field_old fa51_1 rfl) ?_
        refine d_val_g (i := 33) [] (ex_load_old (v := .int .i64 (l.getD k dS).tg) Try.isAgg3 rfl (by rw [sGetD hlt]; exact hc 1 (.int .i64 l[k].tg) rfl) (by simp)) ?_
        refine d_val_g (i := 34) [] (ex_call Try.call27 rfl (fun W hW => c27 (l.getD k dS).tg (-10000000000) 20000000000)) ?_
        refine d_val_g (i := 35) [] (ex_not rfl) ?_
        refine d_val (i := 36) [] (ex_pick rfl rfl) ?_
        refine d_nil ?_
        refine r_nil ?_ (by kernel_rfl)
        refine k_cond rfl (fun h_2 => ?_) (fun h_2 => ?_)
        ·
          have hbt : ¬ (-10000000000 ≤ (l.getD k dS).tg ∧ (l.getD k dS).tg ≤ 20000000000) := fun hh => by rw [decide_eq_true hh.1, decide_eq_true hh.2] at h_2; exact absurd h_2 (by decide)
          have hu := isPlan_bad (S := S) hlt (fun hg => by rw [hS] at hg; exact hbt hg.2)
          have he : setE S l = 2 := (if_neg hl2).trans (if_pos hu)
          refine k_seq (k_region ?_)
          refine o_val (ex_assign rfl) (o_nil ?_)
          refine k_ret ?_
          exact fin1 rfl rfl fun W hW => ⟨by rw [he], hW.ext⟩
        ·
          rw [Bool.and_eq_true, decide_eq_true_eq, decide_eq_true_eq] at hb
          have hbt : -10000000000 ≤ (l.getD k dS).tg ∧ (l.getD k dS).tg ≤ 20000000000 := by simpa using h_2
          have hgood : goodP (allP os) l k := ⟨⟨hb.1, hb.2, fun h0 => by omega⟩, hbt⟩
          refine k_skip ?_
          refine k_region ?_
          refine o_val (ex_move rfl) ?_
          refine o_val (ex_add64 rfl rfl (by unfold I64; omega)) ?_
          refine o_val (ex_assign rfl) (o_nil ?_)
          exact k_some (k + 1) ⟨⟨hlt, fun i hi => by
            by_cases e : i = k
            · subst e; exact hgood
            · exact hI i (by omega)⟩, by omega⟩ (Sub.cons rfl (Sub.cons rfl (Sub.cons rfl (Sub.nil _)))) SubE.sub
    ·
      have hge : k = l.length := by have : ¬ (k : Int) < (l.length : Int) := of_decide_eq_false h_1; omega
      subst hge
      have he : setE S l = 0 := (if_neg hl2).trans (if_neg (by rw [isPlan_iff.2 (by rw [hS]; exact hI)]; decide))
      refine k_exit rfl ?_
      refine k_seq (k_region ?_)
      refine o_val (ex_assign rfl) (o_nil ?_)
      refine k_ret ?_
      exact fin1 rfl rfl fun W hW => ⟨by rw [he], hW.ext⟩

end Go.Proofs.Ytdflfnednaleeaa
