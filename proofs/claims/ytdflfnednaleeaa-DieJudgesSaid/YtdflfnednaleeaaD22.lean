/- The walks of functions: what each call hands back, and that nothing that was there has turned. Printed by a program of this session (wip/tools/gen.py). -/
import Derived.Test.YtdflfnednaleeaaD20
import Derived.Test.YtdflfnednaleeaaD11
namespace Go.Proofs.Ytdflfnednaleeaa
open Go
attribute [local irreducible] ExV Ex
set_option synthInstance.maxSize 2000
set_option synthInstance.maxHeartbeats 200000
set_option maxRecDepth 20000

theorem can_ref {t : To} {ws : List Sp} {os : List Od} (hok : chkE t ws os = 0) {f : Int} (hf : 0 ≤ f) {n : Nat} (h0 : 0 < n) (h : f + n ≤ allP os) :
    decide ((turnS t.down (ptg (openS t ws os) f n)).lo ≤ (turnS t.down (ptg (openS t ws os) f n)).hi) = (openS t ws os).can f (f + n) := by
  unfold Sh.can
  rw [targets_pieces (openS_ok hok) hf h0 (by rw [allP_open]; exact h)]
  unfold turnS
  rw [decide_eq_decide]
  split
  · dsimp only; omega
  · omega
theorem plan_tg {t : To} {ws : List Sp} {os : List Od} (hok : chkE t ws os = 0) {k : Nat} (h : (openS t ws os).at k < (openS t ws os).at (k + 1)) :
    (turnS (openS t ws os).down ((openS t ws os).tg ((openS t ws os).at k) ((openS t ws os).at (k + 1)))).lo = (turnS t.down (ptg (openS t ws os) ((openS t ws os).at k) ((openS t ws os).at (k + 1) - (openS t ws os).at k).toNat)).lo := by
  have hS := openS_ok hok
  have h1 := at_bound hS k
  have h2 := at_bound hS (k + 1)
  have hp := targets_pieces hS (f := (openS t ws os).at k) (n := ((openS t ws os).at (k + 1) - (openS t ws os).at k).toNat) (by omega) (by omega) (by omega)
  rw [show (openS t ws os).at k + (((openS t ws os).at (k + 1) - (openS t ws os).at k).toNat : Int) = (openS t ws os).at (k + 1) by omega] at hp
  rw [hp, (openS_len t ws os).2.2]

-- == f73 acme/acmeref07.Can params [26, 27, 3, 3] results [4] in [('tmp', ['8'])] ntmps 20 nfree 0
theorem c73 (t : To) (ws : List Sp) {A : Option Addr} {c : Nat} (os : List Od) {A2 : Option Addr} {c2 : Nat} (f : Int) (n : Nat) {to : Int} (hto : to = f + n) {w : World} (hok : chkE t ws os = 0) (hf : 0 ≤ f) (h0 : 0 < n) (hn : f + n ≤ allP os) (hws : ElAt w A ws) (hos : ElAt w A2 os) : Calls Try.prog 73 [.agg [.bool t.down, .int .i64 t.sl, .int .i64 t.sh, .int .i64 t.cl, .int .i64 t.ch, .slice A ws.length c].toArray, .slice A2 os.length c2, .int .i64 f, .int .i64 to].toArray w fun e w' => e = .returned (.bool ((openS t ws os).can f to)) ∧ Ext [] w w' := by
  refine fn_start Try.func73 rfl (N := 20) rfl ?_
  refine k_seq (k_region ?_)
  refine o_box rfl (fun b4 => ?_)
  refine o_val (ex_assign rfl) (o_nil ?_)
  refine k_seq (k_region ?_)
  refine o_val (ex_loadA Try.isAgg26 Try.sizeOf26 rfl) ?_
  refine o_val (ex_move rfl) ?_
  refine o_val (ex_move rfl) ?_
  refine o_val (ex_move rfl) ?_
  refine o_val (ex_call Try.call24 rfl (fun W hW => c24 t ws os f n hto hok hf hn (hws.ext hW.ext) (hos.ext hW.ext))) ?_
  refine o_alloc Try.zeroValue23 (fun b9 => ?_)
  refine o_store Try.sizeOf23 rfl rfl (o_nil ?_)
  refine k_seq (k_region ?_)
  refine o_val (ex_field (o := 0) 0 fa23_0 rfl rfl) ?_
  refine o_val (ex_load Try.isAgg3 rfl rfl) ?_
  refine o_val (ex_field (o := 0) 1 fa23_1 rfl rfl) ?_
  refine o_val (ex_load Try.isAgg3 rfl rfl) ?_
  refine o_val (ex_leq rfl rfl) ?_
  refine o_val (ex_assign rfl) (o_nil ?_)
  refine k_ret ?_
  exact fin1 rfl rfl fun W hW => ⟨by rw [can_ref hok hf h0 hn, hto], hW.ext⟩

-- == f28 acme/acmeref07.Reach params [26, 27, 3] results [3] in [('tmp', ['6'])] ntmps 24 nfree 0
theorem c28 (t : To) (ws : List Sp) {A : Option Addr} {c : Nat} (os : List Od) {A2 : Option Addr} {c2 : Nat} (f : Int) {w : World} (hok : chkE t ws os = 0) (hf : 0 ≤ f) (hfa : f ≤ allP os) (hws : ElAt w A ws) (hos : ElAt w A2 os) : Calls Try.prog 28 [.agg [.bool t.down, .int .i64 t.sl, .int .i64 t.sh, .int .i64 t.cl, .int .i64 t.ch, .slice A ws.length c].toArray, .slice A2 os.length c2, .int .i64 f].toArray w fun e w' => e = .returned (.int .i64 ((openS t ws os).reach f)) ∧ Ext [] w w' := by
  have hS := openS_ok hok
  have hall := hS.all
  rw [allP_open] at hall
  have hck := chkE_ok.1 hok
  have hpc := chk_pc hok
  refine fn_start Try.func28 rfl (N := 24) rfl ?_
  refine k_seq (k_region ?_)
  refine o_box rfl (fun b3 => ?_)
  refine o_val (ex_assign rfl) (o_nil ?_)
  refine k_seq (k_region ?_)
  refine o_val (ex_move rfl) ?_
  refine o_val (ex_assign rfl) (o_nil ?_)
  refine k_seq (k_block ?_)
  refine k_loop (ι := Nat) (fun k => [(1, .slice A2 os.length c2), (2, .int .i64 f), (3, .pointer (some ⟨b3, 0, none⟩)), (7, .int .i64 (f + (k : Int)))]) (fun k => [⟨b3, 26, [.bool t.down, .int .i64 t.sl, .int .i64 t.sh, .int .i64 t.cl, .int .i64 t.ch, .slice A ws.length c], true⟩]) (fun k => f + (k : Int) ≤ allP os ∧ ∀ i : Nat, i < k → (openS t ws os).can f (f + ((i + 1 : Nat) : Int)) = true) (fun k => (allP os - f).toNat - k) 0 ⟨by omega, fun i hi => by omega⟩ (Sub.cons rfl (Sub.cons rfl (Sub.cons rfl (Sub.cons' rfl (by congr 1; omega) (Sub.nil _))))) SubE.sub (fun k hk => ?_)
  obtain ⟨hk, hI⟩ := hk
  refine k_seq (k_seq (k_region ?_))
  refine o_val (ex_move rfl) ?_
  refine o_val (ex_move rfl) ?_
  refine o_val (ex_call Try.call22 rfl (fun W hW => c22 os (by omega) hpc (hos.ext hW.ext))) ?_
  refine o_val (ex_lss rfl rfl) ?_
  refine o_val (ex_move rfl) ?_
  refine o_and 6 (c := (openS t ws os).can f (f + (k : Int) + 1)) (fun h => ?_) (o_nil ?_)
  · refine o_val_g (ex_loadA Try.isAgg26 Try.sizeOf26 rfl) ?_
    refine o_val_g (ex_move rfl) ?_
    refine o_val_g (ex_move rfl) ?_
    refine o_val_g (ex_move rfl) ?_
    refine o_val_g (ex_add64 rfl rfl (by unfold I64; omega)) ?_
    exact o_val_g (ex_call Try.call73 rfl (fun W hW => c73 t ws os f (k + 1) (by omega) hok hf (by omega) (by have := of_decide_eq_true h; omega) (hws.ext hW.ext) (hos.ext hW.ext))) (o_nil (got rfl (.refl _)))
  refine k_cond rfl (fun h => ?_) (fun h => ?_)
  ·
    rw [Bool.and_eq_true, decide_eq_true_eq] at h
    obtain ⟨hl, hcn⟩ := h
    refine k_skip ?_
    refine k_block ?_
    refine k_region ?_
    refine o_val (ex_move rfl) ?_
    refine o_val (ex_add64 rfl rfl (by unfold I64; omega)) ?_
    refine o_val (ex_assign rfl) (o_nil ?_)
    exact k_some (k + 1) ⟨⟨by omega, fun i hi => by
        by_cases e : i = k
        · subst e; rw [← hcn]; congr 1; omega
        · exact hI i (by omega)⟩, by omega⟩ (Sub.cons rfl (Sub.cons rfl (Sub.cons rfl (Sub.cons' rfl (by congr 1; omega) (Sub.nil _))))) SubE.sub
  ·
    have hfar : (openS t ws os).far f = k := by
      unfold Sh.far
      rw [allP_open]
      exact lead_is _ _ k (by omega) hI (fun hl => by
        rw [decide_eq_true (show f + (k : Int) < allP os by omega), Bool.true_and] at h
        rw [← h]; congr 1; omega)
    refine k_exit rfl ?_
    refine k_seq (k_region ?_)
    refine o_val (ex_move rfl) ?_
    refine o_val (ex_assign rfl) (o_nil ?_)
    refine k_ret ?_
    exact fin1 rfl rfl fun W hW => ⟨by unfold Sh.reach; rw [hfar], hW.ext⟩

-- == f29 acme/acmeref07.Plan params [26, 27] results [43, 4] in [('tmp', ['4']), ('tmp', ['5'])] ntmps 34 nfree 0
theorem c29 (t : To) (ws : List Sp) {A : Option Addr} {c : Nat} (os : List Od) {A2 : Option Addr} {c2 : Nat} {w : World} (hok : chkE t ws os = 0) (hws : ElAt w A ws) (hos : ElAt w A2 os) : Calls Try.prog 29 [.agg [.bool t.down, .int .i64 t.sl, .int .i64 t.sh, .int .i64 t.cl, .int .i64 t.ch, .slice A ws.length c].toArray, .slice A2 os.length c2].toArray w fun e w' => ∃ v, e = .returned (.tuple #[v, .bool (decide ((planR t ws os).2 = 0))]) ∧ FreshV 51 2 v (planR t ws os).1.length ((planR t ws os).1.flatMap stgElt.cells) w w' ∧ Ext [] w w' := by
  have hS := openS_ok hok
  have hall := hS.all
  rw [allP_open] at hall
  have hck := chkE_ok.1 hok
  have hpc := chk_pc hok
  refine fn_start Try.func29 rfl (N := 34) rfl ?_
  refine k_seq (k_region ?_)
  refine o_box rfl (fun b2 => ?_)
  refine o_val (ex_assign rfl) ?_
  refine o_val (ex_assign rfl) (o_nil ?_)
  refine k_seq (k_region ?_)
  refine o_buildNil Try.runUnderlying43 Try.sizeOf51 (fun v9 x9 o9 => ?_)
  refine o_val (ex_assign rfl) (o_nil ?_)
  refine k_seq (k_seq (k_region ?_))
  refine o_val (ex_assign rfl) (o_nil ?_)
  refine k_block ?_
  refine k_loop (ι := OI) (fun k => [(1, .slice A2 os.length c2), (2, .pointer (some ⟨b2, 0, none⟩)), (6, k.v), (7, .int .i64 ((openS t ws os).at k.k))]) (fun k => k.x ++ [⟨b2, 26, [.bool t.down, .int .i64 t.sl, .int .i64 t.sh, .int .i64 t.cl, .int .i64 t.ch, .slice A ws.length c], true⟩]) (fun k => k.k ≤ (openS t ws os).sure ∧ OwnsV 51 2 k.v k.k ((planL (openS t ws os) k.k).flatMap stgElt.cells) k.x) (fun k => (openS t ws os).sure - k.k) ⟨0, v9, x9⟩ ⟨Nat.zero_le _, o9⟩ (Sub.cons rfl (Sub.cons rfl (Sub.cons rfl (Sub.cons rfl (Sub.nil _))))) (List.Sublist.refl _) (fun k hk => ?_)
  obtain ⟨k, v, x⟩ := k
  obtain ⟨hk, hO⟩ := hk
  dsimp only at hk hO ⊢
  have hb1 := at_bound hS k
  have hb2 := at_bound hS (k + 1)
  rw [allP_open] at hb1 hb2
  have hsl := sure_le (openS t ws os)
  rw [allP_open] at hsl
  refine k_seq (k_seq (k_region ?_))
  refine o_val (ex_move rfl) ?_
  refine o_val (ex_move rfl) ?_
  refine o_val (ex_call Try.call22 rfl (fun W hW => c22 os (by omega) hpc (hos.ext hW.ext))) ?_
  refine o_val (ex_lss rfl rfl) (o_nil ?_)
  refine k_cond rfl (fun h => ?_) (fun h => ?_)
  ·
    have hlt : (openS t ws os).at k < allP os := of_decide_eq_true h
    refine k_skip ?_
    refine k_block ?_
    refine k_seq (k_region ?_)
    refine o_val (ex_loadA Try.isAgg26 Try.sizeOf26 rfl) ?_
    refine o_val (ex_move rfl) ?_
    refine o_val (ex_move rfl) ?_
    refine o_val (ex_call (v := .int .i64 ((openS t ws os).at (k + 1))) Try.call28 rfl (fun W hW => c28 t ws os ((openS t ws os).at k) hok hb1.1 hb1.2 (hws.ext hW.ext) (hos.ext hW.ext))) ?_
    refine o_val (ex_assign rfl) (o_nil ?_)
    refine k_seq (k_seq (k_region ?_))
    refine o_val (ex_move rfl) ?_
    refine o_val (ex_move rfl) ?_
    refine o_val (ex_eql rfl rfl) (o_nil ?_)
    refine k_cond rfl (fun h_1 => ?_) (fun h_1 => ?_)
    ·
      have heq : (openS t ws os).at (k + 1) = (openS t ws os).at k := of_decide_eq_true h_1
      have hs : k = (openS t ws os).sure := by
        by_cases hl : k < (openS t ws os).sure
        · have := (good_lt hl).2; omega
        · omega
      have er : planR t ws os = ([], 7) := (if_neg (by simp [hok])).trans (if_pos (by rw [allP_open, ← hs]; exact hlt))
      refine k_seq (k_region ?_)
      refine o_val (ex_assign rfl) ?_
      refine o_val (ex_assign rfl) (o_nil ?_)
      refine k_ret ?_
      exact fin2 rfl rfl rfl fun W hW => ⟨_, by rw [er]; rfl, by rw [er]; exact fresh_nil, hW.ext⟩
    ·
      have hne : ¬ (openS t ws os).at (k + 1) = (openS t ws os).at k := of_decide_eq_false h_1
      have hle := at_le hS k
      have hks : k < (openS t ws os).sure := by
        by_cases hl : k < (openS t ws os).sure
        · exact hl
        · have e : k = (openS t ws os).sure := by omega
          rw [e] at hne hlt
          exact absurd (sure_end hS (by rw [allP_open]; exact hlt)) hne
      refine k_skip ?_
      refine k_seq (k_region ?_)
      refine o_val (ex_move rfl) ?_
      refine o_val (ex_move rfl) ?_
      refine o_val (ex_loadA Try.isAgg26 Try.sizeOf26 rfl) ?_
      refine o_val (ex_move rfl) ?_
      refine o_val (ex_move rfl) ?_
      refine o_val (ex_move rfl) ?_
      refine o_val (ex_call Try.call24 rfl (fun W hW => c24 t ws os ((openS t ws os).at k) ((openS t ws os).at (k + 1) - (openS t ws os).at k).toNat (by omega) hok hb1.1 (by omega) (hws.ext hW.ext) (hos.ext hW.ext))) ?_
      refine o_val (ex_fieldV Try.runUnderlying23 Try.isAgg3 rfl rfl rfl) ?_
      refine o_val (ex_build bf51 rfl) ?_
      refine o_buildSlice [.int .i64 0, .int .i64 0] [(0, 2)] Try.runUnderlying43 Try.sizeOf51 Try.zeroValue51 rfl (fun b30 => ?_)
      refine o_append (bytes := 16) hO Try.underlying43 (by kernel_rfl) rfl rfl (by unfold maxLen; omega) (by omega) (fun v31 x31 o31 => ?_)
      refine o_val (ex_assign rfl) (o_nil ?_)
      refine k_region ?_
      refine o_val (ex_move rfl) ?_
      refine o_val (ex_assign rfl) (o_nil ?_)
      exact k_some ⟨k + 1, v31, x31⟩ ⟨⟨hks, o31.cast rfl (by rw [planL_succ, List.flatMap_append, plan_tg hok (by omega)]; rfl)⟩, (by show (openS t ws os).sure - (k + 1) < (openS t ws os).sure - k; omega)⟩ (Sub.cons rfl (Sub.cons rfl (Sub.cons rfl (Sub.cons rfl (Sub.nil _))))) SubE.sub
  ·
    have hge : ¬ (openS t ws os).at k < allP os := of_decide_eq_false h
    have hs : k = (openS t ws os).sure := by
      by_cases hl : k < (openS t ws os).sure
      · have := (good_lt hl).1; rw [allP_open] at this; omega
      · omega
    have er : planR t ws os = (planL (openS t ws os) (openS t ws os).sure, 0) := (if_neg (by simp [hok])).trans (if_neg (by rw [allP_open, ← hs]; exact hge))
    refine k_exit rfl ?_
    refine k_seq (k_region ?_)
    refine o_val (ex_move rfl) ?_
    refine o_val (ex_assign rfl) ?_
    refine o_val (ex_assign rfl) (o_nil ?_)
    refine k_ret ?_
    exact fin2 rfl rfl rfl fun W hW => ⟨_, by rw [er]; rfl, by rw [er]; exact (hO.cast (by rw [planL_len, hs]) (by rw [hs])).fresh hW, hW.ext⟩

end Go.Proofs.Ytdflfnednaleeaa
