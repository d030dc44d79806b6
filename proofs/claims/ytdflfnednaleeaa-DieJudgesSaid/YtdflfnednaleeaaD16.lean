/- The walks of functions: what each call hands back, and that nothing that was there has turned. Printed by a program of this session (wip/tools/gen.py). -/
import Derived.Test.YtdflfnednaleeaaCallE
namespace Go.Proofs.Ytdflfnednaleeaa
open Go
attribute [local irreducible] ExV Ex
set_option synthInstance.maxSize 2000
set_option synthInstance.maxHeartbeats 200000
set_option maxRecDepth 20000

def exT : To := ⟨false, -1000, 1000, -500, 500⟩
def exW : List Sp := [⟨10, 20⟩, ⟨50, 100⟩]
def exO : List Od := [⟨200, 0, 100000, 110000⟩, ⟨100, 1, 100000, 110000⟩]
theorem ex_wear : wearR exT exW exO 0 200 = (⟨2000, 4000⟩, 0) := by rfl
theorem ex_targ : targR exT exW exO 0 200 = (⟨101500, 104520⟩, 0) := by rfl
theorem ex_learn : learnR exT exW ⟨100000, 105000⟩ 103000 ⟨-100, 100⟩ = (⟨102400, 103600⟩, 0) := by rfl
theorem ex_looks : looksR exT exW ⟨102400, 103600⟩ 1 ⟨100000, 110000⟩ = (60, 0) := by kernel_rfl
theorem ex_prov1 : provR exT exW exO [0, 231] = (-1, 0) := by kernel_rfl
theorem ex_prov0 : provR exT exW exO [0, 230] = (0, 0) := by kernel_rfl
theorem ex_reach : reachR exT exW exO 0 = (231, 0) := by kernel_rfl
theorem ex_most : mostR exT exW exO 1 = (231, 0) := by kernel_rfl
theorem ex_jud : judR exT exW exO [⟨0, 102000⟩] = (226, 0) := by kernel_rfl
theorem ex_plan : planR exT exW exO = ([⟨0, 101500⟩, ⟨231, 101500⟩], 0) := by kernel_rfl

-- == f57 acme/acmelaw07.tool params [] results [26] in [('cell', ['0', '26'])] ntmps 7 nfree 0
theorem c57 {w : World} : Calls Try.prog 57 [].toArray w fun e w' => ∃ g, e = .returned (.agg [.bool false, .int .i64 (-1000), .int .i64 1000, .int .i64 (-500), .int .i64 500, .slice (some ⟨g, 0, none⟩) 2 2].toArray) ∧ w.heap.size ≤ g ∧ w'.heap[g]? = some (.cells ([.int .i64 10, .int .i64 20, .int .i64 50, .int .i64 100] : List Value).toArray 23 (0, 0)) ∧ Ext [] w w' := by
  refine fn_start Try.func57 rfl (N := 7) rfl ?_
  refine k_seq (k_region ?_)
  refine o_alloc Try.zeroValue26 (fun b0 => o_nil ?_)
  refine k_seq (k_region ?_)
  refine o_val (ex_call Try.call44 rfl (fun W hW => c44 (-1000) 1000)) ?_
  refine o_val (ex_call Try.call44 rfl (fun W hW => c44 (-500) 500)) ?_
  refine o_val (ex_call Try.call44 rfl (fun W hW => c44 10 20)) ?_
  refine o_val (ex_call Try.call44 rfl (fun W hW => c44 50 100)) ?_
  refine o_buildSlice [.int .i64 0, .int .i64 0, .int .i64 0, .int .i64 0] [(0, 2), (2, 2)] Try.runUnderlying24 Try.sizeOf23 Try.zeroValue23 rfl (fun b5 => ?_)
  refine o_val (ex_build bf26 rfl) ?_
  refine o_store Try.sizeOf26 rfl rfl (o_nil ?_)
  refine k_ret ?_
  exact finC rfl Try.isAgg26 Try.sizeOf26 rfl rfl fun W hW => ⟨b5, rfl, give1 hW (by simp)⟩

-- == f58 acme/acmelaw07.orders params [] results [27] in [('tmp', ['0'])] ntmps 6 nfree 0
theorem c58 {w : World} : Calls Try.prog 58 [].toArray w fun e w' => ∃ g, e = .returned (.slice (some ⟨g, 0, none⟩) 2 2) ∧ w.heap.size ≤ g ∧ w'.heap[g]? = some (.cells ([.int .i64 200, .int .i64 0, .int .i64 100000, .int .i64 110000, .int .i64 100, .int .i64 1, .int .i64 100000, .int .i64 110000] : List Value).toArray 88 (0, 0)) ∧ Ext [] w w' := by
  refine fn_start Try.func58 rfl (N := 6) rfl ?_
  refine k_seq (k_region ?_)
  refine o_val (ex_assign rfl) (o_nil ?_)
  refine k_seq (k_region ?_)
  refine o_val (ex_call Try.call44 rfl (fun W hW => c44 100000 110000)) ?_
  refine o_val (ex_build bf88 rfl) ?_
  refine o_val (ex_call Try.call44 rfl (fun W hW => c44 100000 110000)) ?_
  refine o_val (ex_build bf88 rfl) ?_
  refine o_buildSlice [.int .i64 0, .int .i64 0, .int .i64 0, .int .i64 0, .int .i64 0, .int .i64 0, .int .i64 0, .int .i64 0] [(0, 4), (4, 4)] Try.runUnderlying27 Try.sizeOf88 Try.zeroValue88 rfl (fun b5 => ?_)
  refine o_val (ex_assign rfl) (o_nil ?_)
  refine k_ret ?_
  exact fin1 rfl rfl fun W hW => ⟨b5, rfl, give1 hW (by simp)⟩

-- == f14 acme/acmelaw07.known params [] results [4] in [('tmp', ['0'])] ntmps 181 nfree 0
theorem c14 {w : World} : Calls Try.prog 14 [].toArray w fun e w' => e = .returned (.bool true) ∧ Ext [] w w' := by
  refine fn_start Try.func14 rfl (N := 181) rfl ?_
  refine k_seq (k_region ?_)
  refine o_val (ex_assign rfl) (o_nil ?_)
  refine k_seq (k_region ?_)
  refine o_callE (fun g => .agg [.bool false, .int .i64 (-1000), .int .i64 1000, .int .i64 (-500), .int .i64 500, .slice (some ⟨g, 0, none⟩) 2 2].toArray) 23 [.int .i64 10, .int .i64 20, .int .i64 50, .int .i64 100] Try.call57 rfl (fun W hW => c57) (fun b22 => ?_)
  refine o_callE (fun g => .slice (some ⟨g, 0, none⟩) 2 2) 88 [.int .i64 200, .int .i64 0, .int .i64 100000, .int .i64 110000, .int .i64 100, .int .i64 1, .int .i64 100000, .int .i64 110000] Try.call58 rfl (fun W hW => c58) (fun b23 => ?_)
  refine o_val (ex_call Try.call18 rfl (fun W hW => (by have h := c18 exT exW (A := some ⟨b22, 0, none⟩) (c := 2) exO (A2 := some ⟨b23, 0, none⟩) (c2 := 2) 0 200 (el_ent (hW) b22 exW rfl) (el_ent hW b23 exO rfl) ; rw [ex_wear] at h; exact h))) ?_
  refine o_val (ex_move rfl) ?_
  refine o_val (ex_extract rfl rfl) ?_
  refine o_val (ex_extract rfl rfl) ?_
  refine o_alloc Try.zeroValue23 (fun b1 => ?_)
  refine o_store Try.sizeOf23 rfl rfl ?_
  refine o_val (ex_assign rfl) (o_nil ?_)
  refine k_seq (k_region ?_)
  refine o_callE (fun g => .agg [.bool false, .int .i64 (-1000), .int .i64 1000, .int .i64 (-500), .int .i64 500, .slice (some ⟨g, 0, none⟩) 2 2].toArray) 23 [.int .i64 10, .int .i64 20, .int .i64 50, .int .i64 100] Try.call57 rfl (fun W hW => c57) (fun b28 => ?_)
  refine o_callE (fun g => .slice (some ⟨g, 0, none⟩) 2 2) 88 [.int .i64 200, .int .i64 0, .int .i64 100000, .int .i64 110000, .int .i64 100, .int .i64 1, .int .i64 100000, .int .i64 110000] Try.call58 rfl (fun W hW => c58) (fun b29 => ?_)
  refine o_val (ex_call Try.call19 rfl (fun W hW => (by have h := c19 exT exW (A := some ⟨b28, 0, none⟩) (c := 2) exO (A2 := some ⟨b29, 0, none⟩) (c2 := 2) 0 200 (el_ent (hW) b28 exW rfl) (el_ent hW b29 exO rfl) ; rw [ex_targ] at h; exact h))) ?_
  refine o_val (ex_move rfl) ?_
  refine o_val (ex_extract rfl rfl) ?_
  refine o_val (ex_extract rfl rfl) ?_
  refine o_alloc Try.zeroValue23 (fun b3 => ?_)
  refine o_store Try.sizeOf23 rfl rfl ?_
  refine o_val (ex_assign rfl) (o_nil ?_)
  refine k_seq (k_region ?_)
  refine o_callE (fun g => .agg [.bool false, .int .i64 (-1000), .int .i64 1000, .int .i64 (-500), .int .i64 500, .slice (some ⟨g, 0, none⟩) 2 2].toArray) 23 [.int .i64 10, .int .i64 20, .int .i64 50, .int .i64 100] Try.call57 rfl (fun W hW => c57) (fun b34 => ?_)
  refine o_callE (fun g => .slice (some ⟨g, 0, none⟩) 2 2) 88 [.int .i64 200, .int .i64 0, .int .i64 100000, .int .i64 110000, .int .i64 100, .int .i64 1, .int .i64 100000, .int .i64 110000] Try.call58 rfl (fun W hW => c58) (fun b35 => ?_)
  refine o_val (ex_call Try.call25 rfl (fun W hW => (by have h := c25 exT exW (A := some ⟨b34, 0, none⟩) (c := 2) exO (A2 := some ⟨b35, 0, none⟩) (c2 := 2) 0 (el_ent (hW) b34 exW rfl) (el_ent hW b35 exO rfl) ; rw [ex_reach] at h; exact h))) ?_
  refine o_val (ex_move rfl) ?_
  refine o_val (ex_extract rfl rfl) ?_
  refine o_val (ex_extract rfl rfl) ?_
  refine o_val (ex_assign rfl) ?_
  refine o_val (ex_assign rfl) (o_nil ?_)
  refine k_seq (k_region ?_)
  refine o_callE (fun g => .agg [.bool false, .int .i64 (-1000), .int .i64 1000, .int .i64 (-500), .int .i64 500, .slice (some ⟨g, 0, none⟩) 2 2].toArray) 23 [.int .i64 10, .int .i64 20, .int .i64 50, .int .i64 100] Try.call57 rfl (fun W hW => c57) (fun b40 => ?_)
  refine o_callE (fun g => .slice (some ⟨g, 0, none⟩) 2 2) 88 [.int .i64 200, .int .i64 0, .int .i64 100000, .int .i64 110000, .int .i64 100, .int .i64 1, .int .i64 100000, .int .i64 110000] Try.call58 rfl (fun W hW => c58) (fun b41 => ?_)
  refine o_callT (e := 51) (size := 2) (cnt := 2) (es := [.int .i64 0, .int .i64 101500, .int .i64 231, .int .i64 101500]) (u := .int .i64 0) Try.call26 rfl (fun W hW => (by have h := c26 exT exW (A := some ⟨b40, 0, none⟩) (c := 2) exO (A2 := some ⟨b41, 0, none⟩) (c2 := 2)  (el_ent (hW) b40 exW rfl) (el_ent hW b41 exO rfl) ; rw [ex_plan] at h; exact h)) (fun v42 x42 o42 => ?_)
  obtain ⟨g42, cap42, e42, hg42⟩ := own_at o42 (by omega)
  subst e42
  refine o_val (ex_move rfl) ?_
  refine o_val (ex_extract rfl rfl) ?_
  refine o_val (ex_extract rfl rfl) ?_
  refine o_val (ex_assign rfl) ?_
  refine o_val (ex_assign rfl) (o_nil ?_)
  refine k_seq (k_region ?_)
  refine o_callE (fun g => .agg [.bool false, .int .i64 (-1000), .int .i64 1000, .int .i64 (-500), .int .i64 500, .slice (some ⟨g, 0, none⟩) 2 2].toArray) 23 [.int .i64 10, .int .i64 20, .int .i64 50, .int .i64 100] Try.call57 rfl (fun W hW => c57) (fun b46 => ?_)
  refine o_callE (fun g => .slice (some ⟨g, 0, none⟩) 2 2) 88 [.int .i64 200, .int .i64 0, .int .i64 100000, .int .i64 110000, .int .i64 100, .int .i64 1, .int .i64 100000, .int .i64 110000] Try.call58 rfl (fun W hW => c58) (fun b47 => ?_)
  refine o_val (ex_call Try.call30 rfl (fun W hW => (by have h := c30 exT exW (A := some ⟨b46, 0, none⟩) (c := 2) exO (A2 := some ⟨b47, 0, none⟩) (c2 := 2) 1 (el_ent (hW) b46 exW rfl) (el_ent hW b47 exO rfl) ; rw [ex_most] at h; exact h))) ?_
  refine o_val (ex_move rfl) ?_
  refine o_val (ex_extract rfl rfl) ?_
  refine o_val (ex_extract rfl rfl) ?_
  refine o_val (ex_assign rfl) ?_
  refine o_val (ex_assign rfl) (o_nil ?_)
  refine k_seq (k_region ?_)
  refine o_callE (fun g => .agg [.bool false, .int .i64 (-1000), .int .i64 1000, .int .i64 (-500), .int .i64 500, .slice (some ⟨g, 0, none⟩) 2 2].toArray) 23 [.int .i64 10, .int .i64 20, .int .i64 50, .int .i64 100] Try.call57 rfl (fun W hW => c57) (fun b52 => ?_)
  refine o_callE (fun g => .slice (some ⟨g, 0, none⟩) 2 2) 88 [.int .i64 200, .int .i64 0, .int .i64 100000, .int .i64 110000, .int .i64 100, .int .i64 1, .int .i64 100000, .int .i64 110000] Try.call58 rfl (fun W hW => c58) (fun b53 => ?_)
  refine o_val (ex_build bf51 rfl) ?_
  refine o_buildSlice [.int .i64 0, .int .i64 0] [(0, 2)] Try.runUnderlying43 Try.sizeOf51 Try.zeroValue51 rfl (fun b55 => ?_)
  refine o_val (ex_call Try.call34 rfl (fun W hW => (by have h := c34 exT exW (A := some ⟨b52, 0, none⟩) (c := 2) exO (A2 := some ⟨b53, 0, none⟩) (c2 := 2) [⟨0, 102000⟩] (A5 := some ⟨b55, 0, none⟩) (c5 := 1) (el_ent (hW) b52 exW rfl) (el_ent hW b53 exO rfl) (by simp) (el_ent hW b55 [(⟨0, 102000⟩ : Stg)] rfl); rw [ex_jud] at h; exact h))) ?_
  refine o_val (ex_move rfl) ?_
  refine o_val (ex_extract rfl rfl) ?_
  refine o_val (ex_extract rfl rfl) ?_
  refine o_val (ex_assign rfl) ?_
  refine o_val (ex_assign rfl) (o_nil ?_)
  refine k_seq (k_region ?_)
  refine o_callE (fun g => .agg [.bool false, .int .i64 (-1000), .int .i64 1000, .int .i64 (-500), .int .i64 500, .slice (some ⟨g, 0, none⟩) 2 2].toArray) 23 [.int .i64 10, .int .i64 20, .int .i64 50, .int .i64 100] Try.call57 rfl (fun W hW => c57) (fun b60 => ?_)
  refine o_callE (fun g => .slice (some ⟨g, 0, none⟩) 2 2) 88 [.int .i64 200, .int .i64 0, .int .i64 100000, .int .i64 110000, .int .i64 100, .int .i64 1, .int .i64 100000, .int .i64 110000] Try.call58 rfl (fun W hW => c58) (fun b61 => ?_)
  refine o_buildSlice [.int .i64 0, .int .i64 0] [(0, 1), (1, 1)] Try.runUnderlying52 Try.sizeOf3 Try.zeroValue3 rfl (fun b62 => ?_)
  refine o_val (ex_call Try.call35 rfl (fun W hW => (by have h := c35 exT exW (A := some ⟨b60, 0, none⟩) (c := 2) exO (A2 := some ⟨b61, 0, none⟩) (c2 := 2) [0, 231] (A5 := some ⟨b62, 0, none⟩) (c5 := 2) (el_ent (hW) b60 exW rfl) (el_ent hW b61 exO rfl) (by simp) (el_ent hW b62 [(0 : Int), 231] rfl); rw [ex_prov1] at h; exact h))) ?_
  refine o_val (ex_move rfl) ?_
  refine o_val (ex_extract rfl rfl) ?_
  refine o_val (ex_extract rfl rfl) ?_
  refine o_val (ex_assign rfl) ?_
  refine o_val (ex_assign rfl) (o_nil ?_)
  refine k_seq (k_region ?_)
  refine o_callE (fun g => .agg [.bool false, .int .i64 (-1000), .int .i64 1000, .int .i64 (-500), .int .i64 500, .slice (some ⟨g, 0, none⟩) 2 2].toArray) 23 [.int .i64 10, .int .i64 20, .int .i64 50, .int .i64 100] Try.call57 rfl (fun W hW => c57) (fun b67 => ?_)
  refine o_callE (fun g => .slice (some ⟨g, 0, none⟩) 2 2) 88 [.int .i64 200, .int .i64 0, .int .i64 100000, .int .i64 110000, .int .i64 100, .int .i64 1, .int .i64 100000, .int .i64 110000] Try.call58 rfl (fun W hW => c58) (fun b68 => ?_)
  refine o_buildSlice [.int .i64 0, .int .i64 0] [(0, 1), (1, 1)] Try.runUnderlying52 Try.sizeOf3 Try.zeroValue3 rfl (fun b69 => ?_)
  refine o_val (ex_call Try.call35 rfl (fun W hW => (by have h := c35 exT exW (A := some ⟨b67, 0, none⟩) (c := 2) exO (A2 := some ⟨b68, 0, none⟩) (c2 := 2) [0, 230] (A5 := some ⟨b69, 0, none⟩) (c5 := 2) (el_ent (hW) b67 exW rfl) (el_ent hW b68 exO rfl) (by simp) (el_ent hW b69 [(0 : Int), 230] rfl); rw [ex_prov0] at h; exact h))) ?_
  refine o_val (ex_move rfl) ?_
  refine o_val (ex_extract rfl rfl) ?_
  refine o_val (ex_extract rfl rfl) ?_
  refine o_val (ex_assign rfl) ?_
  refine o_val (ex_assign rfl) (o_nil ?_)
  refine k_seq (k_region ?_)
  refine o_callE (fun g => .agg [.bool false, .int .i64 (-1000), .int .i64 1000, .int .i64 (-500), .int .i64 500, .slice (some ⟨g, 0, none⟩) 2 2].toArray) 23 [.int .i64 10, .int .i64 20, .int .i64 50, .int .i64 100] Try.call57 rfl (fun W hW => c57) (fun b74 => ?_)
  refine o_val (ex_call Try.call44 rfl (fun W hW => c44 100000 105000)) ?_
  refine o_val (ex_call Try.call44 rfl (fun W hW => c44 (-100) 100)) ?_
  refine o_val (ex_call Try.call40 rfl (fun W hW => (by have h := c40 exT exW (A := some ⟨b74, 0, none⟩) (c := 2) ⟨100000, 105000⟩ 103000 ⟨-100, 100⟩ (el_ent (hW) b74 exW rfl); rw [ex_learn] at h; exact h))) ?_
  refine o_val (ex_move rfl) ?_
  refine o_val (ex_extract rfl rfl) ?_
  refine o_val (ex_extract rfl rfl) ?_
  refine o_alloc Try.zeroValue23 (fun b17 => ?_)
  refine o_store Try.sizeOf23 rfl rfl ?_
  refine o_val (ex_assign rfl) (o_nil ?_)
  refine k_seq (k_draw [false, true, true, false, false, false, false, false, false] 7 ?_ mixed (by kernel_rfl) rfl)
  refine d_rest ?_
  refine d_loadA (i := 1) Try.isAgg23 Try.sizeOf23 rfl ?_
  refine d_val (i := 2) [] (ex_call Try.call44 rfl (fun W hW => c44 100000 110000)) ?_
  refine d_rest ?_
  refine d_rest ?_
  refine d_rest ?_
  refine d_rest ?_
  refine d_rest ?_
  refine d_rest ?_
  refine d_nil ?_
  refine r_one 0 (rs_callE (fun g => .agg [.bool false, .int .i64 (-1000), .int .i64 1000, .int .i64 (-500), .int .i64 500, .slice (some ⟨g, 0, none⟩) 2 2].toArray) 23 [.int .i64 10, .int .i64 20, .int .i64 50, .int .i64 100] Try.call57 rfl (fun W hW => c57) (fun b81 => ?_)) (by kernel_rfl)
  refine r_one 3 (rs_val rfl (ex_call Try.call41 rfl (fun W hW => (by have h := c41 exT exW (A := some ⟨b81, 0, none⟩) (c := 2) ⟨102400, 103600⟩ 1 ⟨100000, 110000⟩ (el_ent (hW) b81 exW rfl); rw [ex_looks] at h; exact h))) ?_) (by kernel_rfl)
  refine r_one 4 (rs_val rfl (ex_move rfl) ?_) (by kernel_rfl)
  refine r_two 5 6 ?_ ?_ (by kernel_rfl)
  · refine rs_val rfl (ex_extract rfl rfl) ?_
    refine r_two 6 7 ?_ ?_ (by kernel_rfl)
    · refine rs_val rfl (ex_extract rfl rfl) ?_
      refine r_one 7 (rs_val rfl (ex_assign rfl) ?_) (by kernel_rfl)
      refine r_one 8 (rs_val rfl (ex_assign rfl) ?_) (by kernel_rfl)
      refine r_nil ?_ (by kernel_rfl)
      refine k_seq (k_seq (k_region ?_))
      refine o_val (ex_move rfl) ?_
      refine o_val (ex_neq rfl rfl) ?_
      refine o_val (ex_move rfl) ?_
      refine o_or 2 (c := false) (fun h => ?_) ?_
      · refine o_val_g (ex_move rfl) ?_
        exact o_val_g (ex_neq rfl rfl) (o_nil (got rfl (.refl _)))
      refine o_val (ex_move rfl) ?_
      refine o_or 2 (c := false) (fun h => ?_) ?_
      · refine o_val_g (ex_move rfl) ?_
        exact o_val_g (ex_neq rfl rfl) (o_nil (got rfl (.refl _)))
      refine o_val (ex_move rfl) ?_
      refine o_or 2 (c := false) (fun h => ?_) ?_
      · refine o_val_g (ex_move rfl) ?_
        exact o_val_g (ex_neq rfl rfl) (o_nil (got rfl (.refl _)))
      refine o_val (ex_move rfl) ?_
      refine o_or 2 (c := false) (fun h => ?_) ?_
      · refine o_val_g (ex_move rfl) ?_
        exact o_val_g (ex_neq rfl rfl) (o_nil (got rfl (.refl _)))
      refine o_val (ex_move rfl) ?_
      refine o_or 2 (c := false) (fun h => ?_) ?_
      · refine o_val_g (ex_move rfl) ?_
        exact o_val_g (ex_neq rfl rfl) (o_nil (got rfl (.refl _)))
      refine o_val (ex_move rfl) ?_
      refine o_or 2 (c := false) (fun h => ?_) ?_
      · refine o_val_g (ex_move rfl) ?_
        exact o_val_g (ex_neq rfl rfl) (o_nil (got rfl (.refl _)))
      refine o_val (ex_move rfl) ?_
      refine o_or 2 (c := false) (fun h => ?_) ?_
      · refine o_val_g (ex_move rfl) ?_
        exact o_val_g (ex_neq rfl rfl) (o_nil (got rfl (.refl _)))
      refine o_val (ex_move rfl) ?_
      refine o_or 2 (c := false) (fun h => ?_) ?_
      · refine o_val_g (ex_move rfl) ?_
        exact o_val_g (ex_neq rfl rfl) (o_nil (got rfl (.refl _)))
      refine o_val (ex_move rfl) ?_
      refine o_or 2 (c := false) (fun h => ?_) ?_
      · refine o_val_g (ex_move rfl) ?_
        exact o_val_g (ex_neq rfl rfl) (o_nil (got rfl (.refl _)))
      refine o_val (ex_move rfl) ?_
      refine o_or 3 (c := false) (fun h => ?_) (o_nil ?_)
      · refine o_val_g (ex_move rfl) ?_
        refine o_val_g (ex_len Try.runUnderlying43 rfl) ?_
        exact o_val_g (ex_neq rfl rfl) (o_nil (got rfl (.refl _)))
      refine k_cond rfl (fun h => ?_) (fun h => ?_)
      ·
        exact absurd h (by decide)
      ·
        refine k_skip ?_
        refine k_seq (k_draw [true, true, true, true, true, true, true, true, true, true, true, true, true, true, true, true, true, true, true, true, true, true, true, true, true, true, true, true, true, true, true, true, true, true, true, true, true, true, true, true, true, true, true, true, true, true, true, true, true, true, true, false] 1 ?_ mixed (by kernel_rfl) rfl)
        refine d_loadA (i := 0) Try.isAgg23 Try.sizeOf23 rfl ?_
        refine d_val (i := 1) [] (ex_call Try.call44 rfl (fun W hW => c44 2000 4000)) ?_
        refine d_val (i := 2) [] (ex_eql_23 rfl rfl) ?_
        refine d_val (i := 3) [] (ex_move rfl) ?_
        refine d_loadA_g (i := 4) Try.isAgg23 Try.sizeOf23 rfl ?_
        refine d_val_g (i := 5) [] (ex_call Try.call44 rfl (fun W hW => c44 101500 104520)) ?_
        refine d_val_g (i := 6) [] (ex_eql_23 rfl rfl) ?_
        refine d_val (i := 7) [] (ex_pick rfl rfl) ?_
        refine d_val (i := 8) [] (ex_move rfl) ?_
        refine d_val_g (i := 9) [] (ex_move rfl) ?_
        refine d_val_g (i := 10) [] (ex_eql rfl rfl) ?_
        refine d_val (i := 11) [] (ex_pick rfl rfl) ?_
        refine d_val (i := 12) [] (ex_move rfl) ?_
        refine d_val_g (i := 13) [] (ex_move rfl) ?_
        refine d_val_g (i := 14) [] (ex_index_old Try.runUnderlying43 Try.sizeOf51 rfl rfl (by omega) (by omega)) ?_
        refine d_val_g (i := 15) x42 (ex_loadA_at Try.isAgg51 Try.sizeOf51 rfl (vs := [.int .i64 0, .int .i64 101500]) rfl (fun W hW j v hj => plan_at (hg42 _ _ W hW) 0 j v hj rfl)) ?_
        refine d_val_g (i := 16) [] (ex_build bf51 rfl) ?_
        refine d_val_g (i := 17) [] (ex_eql_51 rfl rfl) ?_
        refine d_val (i := 18) [] (ex_pick rfl rfl) ?_
        refine d_val (i := 19) [] (ex_move rfl) ?_
        refine d_val_g (i := 20) [] (ex_move rfl) ?_
        refine d_val_g (i := 21) [] (ex_index_old Try.runUnderlying43 Try.sizeOf51 rfl rfl (by omega) (by omega)) ?_
        refine d_val_g (i := 22) x42 (ex_loadA_at Try.isAgg51 Try.sizeOf51 rfl (vs := [.int .i64 231, .int .i64 101500]) rfl (fun W hW j v hj => plan_at (hg42 _ _ W hW) 1 j v hj rfl)) ?_
        refine d_val_g (i := 23) [] (ex_build bf51 rfl) ?_
        refine d_val_g (i := 24) [] (ex_eql_51 rfl rfl) ?_
        refine d_val (i := 25) [] (ex_pick rfl rfl) ?_
        refine d_val (i := 26) [] (ex_move rfl) ?_
        refine d_val_g (i := 27) [] (ex_move rfl) ?_
        refine d_val_g (i := 28) [] (ex_eql rfl rfl) ?_
        refine d_val (i := 29) [] (ex_pick rfl rfl) ?_
        refine d_val (i := 30) [] (ex_move rfl) ?_
        refine d_val_g (i := 31) [] (ex_move rfl) ?_
        refine d_val_g (i := 32) [] (ex_eql rfl rfl) ?_
        refine d_val (i := 33) [] (ex_pick rfl rfl) ?_
        refine d_val (i := 34) [] (ex_move rfl) ?_
        refine d_val_g (i := 35) [] (ex_move rfl) ?_
        refine d_val_g (i := 36) [] (ex_eql rfl rfl) ?_
        refine d_val (i := 37) [] (ex_pick rfl rfl) ?_
        refine d_val (i := 38) [] (ex_move rfl) ?_
        refine d_val_g (i := 39) [] (ex_move rfl) ?_
        refine d_val_g (i := 40) [] (ex_eql rfl rfl) ?_
        refine d_val (i := 41) [] (ex_pick rfl rfl) ?_
        refine d_val (i := 42) [] (ex_move rfl) ?_
        refine d_loadA_g (i := 43) Try.isAgg23 Try.sizeOf23 rfl ?_
        refine d_val_g (i := 44) [] (ex_call Try.call44 rfl (fun W hW => c44 102400 103600)) ?_
        refine d_val_g (i := 45) [] (ex_eql_23 rfl rfl) ?_
        refine d_val (i := 46) [] (ex_pick rfl rfl) ?_
        refine d_val (i := 47) [] (ex_move rfl) ?_
        refine d_val_g (i := 48) [] (ex_move rfl) ?_
        refine d_val_g (i := 49) [] (ex_eql rfl rfl) ?_
        refine d_val (i := 50) [] (ex_pick rfl rfl) ?_
        refine d_rest ?_
        refine d_nil ?_
        refine r_one 51 (rs_val rfl (ex_assign rfl) ?_) (by kernel_rfl)
        refine r_nil ?_ (by kernel_rfl)
        refine k_ret ?_
        exact fin1 rfl rfl fun W hW => ⟨rfl, hW.ext⟩
    · refine rs_val rfl (ex_assign rfl) ?_
      refine r_one 6 (rs_val rfl (ex_extract rfl rfl) ?_) (by kernel_rfl)
      refine r_one 8 (rs_val rfl (ex_assign rfl) ?_) (by kernel_rfl)
      refine r_nil ?_ (by kernel_rfl)
      refine k_seq (k_seq (k_region ?_))
      refine o_val (ex_move rfl) ?_
      refine o_val (ex_neq rfl rfl) ?_
      refine o_val (ex_move rfl) ?_
      refine o_or 2 (c := false) (fun h => ?_) ?_
      · refine o_val_g (ex_move rfl) ?_
        exact o_val_g (ex_neq rfl rfl) (o_nil (got rfl (.refl _)))
      refine o_val (ex_move rfl) ?_
      refine o_or 2 (c := false) (fun h => ?_) ?_
      · refine o_val_g (ex_move rfl) ?_
        exact o_val_g (ex_neq rfl rfl) (o_nil (got rfl (.refl _)))
      refine o_val (ex_move rfl) ?_
      refine o_or 2 (c := false) (fun h => ?_) ?_
      · refine o_val_g (ex_move rfl) ?_
        exact o_val_g (ex_neq rfl rfl) (o_nil (got rfl (.refl _)))
      refine o_val (ex_move rfl) ?_
      refine o_or 2 (c := false) (fun h => ?_) ?_
      · refine o_val_g (ex_move rfl) ?_
        exact o_val_g (ex_neq rfl rfl) (o_nil (got rfl (.refl _)))
      refine o_val (ex_move rfl) ?_
      refine o_or 2 (c := false) (fun h => ?_) ?_
      · refine o_val_g (ex_move rfl) ?_
        exact o_val_g (ex_neq rfl rfl) (o_nil (got rfl (.refl _)))
      refine o_val (ex_move rfl) ?_
      refine o_or 2 (c := false) (fun h => ?_) ?_
      · refine o_val_g (ex_move rfl) ?_
        exact o_val_g (ex_neq rfl rfl) (o_nil (got rfl (.refl _)))
      refine o_val (ex_move rfl) ?_
      refine o_or 2 (c := false) (fun h => ?_) ?_
      · refine o_val_g (ex_move rfl) ?_
        exact o_val_g (ex_neq rfl rfl) (o_nil (got rfl (.refl _)))
      refine o_val (ex_move rfl) ?_
      refine o_or 2 (c := false) (fun h => ?_) ?_
      · refine o_val_g (ex_move rfl) ?_
        exact o_val_g (ex_neq rfl rfl) (o_nil (got rfl (.refl _)))
      refine o_val (ex_move rfl) ?_
      refine o_or 2 (c := false) (fun h => ?_) ?_
      · refine o_val_g (ex_move rfl) ?_
        exact o_val_g (ex_neq rfl rfl) (o_nil (got rfl (.refl _)))
      refine o_val (ex_move rfl) ?_
      refine o_or 3 (c := false) (fun h => ?_) (o_nil ?_)
      · refine o_val_g (ex_move rfl) ?_
        refine o_val_g (ex_len Try.runUnderlying43 rfl) ?_
        exact o_val_g (ex_neq rfl rfl) (o_nil (got rfl (.refl _)))
      refine k_cond rfl (fun h => ?_) (fun h => ?_)
      ·
        exact absurd h (by decide)
      ·
        refine k_skip ?_
        refine k_seq (k_draw [true, true, true, true, true, true, true, true, true, true, true, true, true, true, true, true, true, true, true, true, true, true, true, true, true, true, true, true, true, true, true, true, true, true, true, true, true, true, true, true, true, true, true, true, true, true, true, true, true, true, true, false] 1 ?_ mixed (by kernel_rfl) rfl)
        refine d_loadA (i := 0) Try.isAgg23 Try.sizeOf23 rfl ?_
        refine d_val (i := 1) [] (ex_call Try.call44 rfl (fun W hW => c44 2000 4000)) ?_
        refine d_val (i := 2) [] (ex_eql_23 rfl rfl) ?_
        refine d_val (i := 3) [] (ex_move rfl) ?_
        refine d_loadA_g (i := 4) Try.isAgg23 Try.sizeOf23 rfl ?_
        refine d_val_g (i := 5) [] (ex_call Try.call44 rfl (fun W hW => c44 101500 104520)) ?_
        refine d_val_g (i := 6) [] (ex_eql_23 rfl rfl) ?_
        refine d_val (i := 7) [] (ex_pick rfl rfl) ?_
        refine d_val (i := 8) [] (ex_move rfl) ?_
        refine d_val_g (i := 9) [] (ex_move rfl) ?_
        refine d_val_g (i := 10) [] (ex_eql rfl rfl) ?_
        refine d_val (i := 11) [] (ex_pick rfl rfl) ?_
        refine d_val (i := 12) [] (ex_move rfl) ?_
        refine d_val_g (i := 13) [] (ex_move rfl) ?_
        refine d_val_g (i := 14) [] (ex_index_old Try.runUnderlying43 Try.sizeOf51 rfl rfl (by omega) (by omega)) ?_
        refine d_val_g (i := 15) x42 (ex_loadA_at Try.isAgg51 Try.sizeOf51 rfl (vs := [.int .i64 0, .int .i64 101500]) rfl (fun W hW j v hj => plan_at (hg42 _ _ W hW) 0 j v hj rfl)) ?_
        refine d_val_g (i := 16) [] (ex_build bf51 rfl) ?_
        refine d_val_g (i := 17) [] (ex_eql_51 rfl rfl) ?_
        refine d_val (i := 18) [] (ex_pick rfl rfl) ?_
        refine d_val (i := 19) [] (ex_move rfl) ?_
        refine d_val_g (i := 20) [] (ex_move rfl) ?_
        refine d_val_g (i := 21) [] (ex_index_old Try.runUnderlying43 Try.sizeOf51 rfl rfl (by omega) (by omega)) ?_
        refine d_val_g (i := 22) x42 (ex_loadA_at Try.isAgg51 Try.sizeOf51 rfl (vs := [.int .i64 231, .int .i64 101500]) rfl (fun W hW j v hj => plan_at (hg42 _ _ W hW) 1 j v hj rfl)) ?_
        refine d_val_g (i := 23) [] (ex_build bf51 rfl) ?_
        refine d_val_g (i := 24) [] (ex_eql_51 rfl rfl) ?_
        refine d_val (i := 25) [] (ex_pick rfl rfl) ?_
        refine d_val (i := 26) [] (ex_move rfl) ?_
        refine d_val_g (i := 27) [] (ex_move rfl) ?_
        refine d_val_g (i := 28) [] (ex_eql rfl rfl) ?_
        refine d_val (i := 29) [] (ex_pick rfl rfl) ?_
        refine d_val (i := 30) [] (ex_move rfl) ?_
        refine d_val_g (i := 31) [] (ex_move rfl) ?_
        refine d_val_g (i := 32) [] (ex_eql rfl rfl) ?_
        refine d_val (i := 33) [] (ex_pick rfl rfl) ?_
        refine d_val (i := 34) [] (ex_move rfl) ?_
        refine d_val_g (i := 35) [] (ex_move rfl) ?_
        refine d_val_g (i := 36) [] (ex_eql rfl rfl) ?_
        refine d_val (i := 37) [] (ex_pick rfl rfl) ?_
        refine d_val (i := 38) [] (ex_move rfl) ?_
        refine d_val_g (i := 39) [] (ex_move rfl) ?_
        refine d_val_g (i := 40) [] (ex_eql rfl rfl) ?_
        refine d_val (i := 41) [] (ex_pick rfl rfl) ?_
        refine d_val (i := 42) [] (ex_move rfl) ?_
        refine d_loadA_g (i := 43) Try.isAgg23 Try.sizeOf23 rfl ?_
        refine d_val_g (i := 44) [] (ex_call Try.call44 rfl (fun W hW => c44 102400 103600)) ?_
        refine d_val_g (i := 45) [] (ex_eql_23 rfl rfl) ?_
        refine d_val (i := 46) [] (ex_pick rfl rfl) ?_
        refine d_val (i := 47) [] (ex_move rfl) ?_
        refine d_val_g (i := 48) [] (ex_move rfl) ?_
        refine d_val_g (i := 49) [] (ex_eql rfl rfl) ?_
        refine d_val (i := 50) [] (ex_pick rfl rfl) ?_
        refine d_rest ?_
        refine d_nil ?_
        refine r_one 51 (rs_val rfl (ex_assign rfl) ?_) (by kernel_rfl)
        refine r_nil ?_ (by kernel_rfl)
        refine k_ret ?_
        exact fin1 rfl rfl fun W hW => ⟨rfl, hW.ext⟩
  · refine rs_val rfl (ex_extract rfl rfl) ?_
    refine r_one 5 (rs_val rfl (ex_extract rfl rfl) ?_) (by kernel_rfl)
    refine r_one 7 (rs_val rfl (ex_assign rfl) ?_) (by kernel_rfl)
    refine r_one 8 (rs_val rfl (ex_assign rfl) ?_) (by kernel_rfl)
    refine r_nil ?_ (by kernel_rfl)
    refine k_seq (k_seq (k_region ?_))
    refine o_val (ex_move rfl) ?_
    refine o_val (ex_neq rfl rfl) ?_
    refine o_val (ex_move rfl) ?_
    refine o_or 2 (c := false) (fun h => ?_) ?_
    · refine o_val_g (ex_move rfl) ?_
      exact o_val_g (ex_neq rfl rfl) (o_nil (got rfl (.refl _)))
    refine o_val (ex_move rfl) ?_
    refine o_or 2 (c := false) (fun h => ?_) ?_
    · refine o_val_g (ex_move rfl) ?_
      exact o_val_g (ex_neq rfl rfl) (o_nil (got rfl (.refl _)))
    refine o_val (ex_move rfl) ?_
    refine o_or 2 (c := false) (fun h => ?_) ?_
    · refine o_val_g (ex_move rfl) ?_
      exact o_val_g (ex_neq rfl rfl) (o_nil (got rfl (.refl _)))
    refine o_val (ex_move rfl) ?_
    refine o_or 2 (c := false) (fun h => ?_) ?_
    · refine o_val_g (ex_move rfl) ?_
      exact o_val_g (ex_neq rfl rfl) (o_nil (got rfl (.refl _)))
    refine o_val (ex_move rfl) ?_
    refine o_or 2 (c := false) (fun h => ?_) ?_
    · refine o_val_g (ex_move rfl) ?_
      exact o_val_g (ex_neq rfl rfl) (o_nil (got rfl (.refl _)))
    refine o_val (ex_move rfl) ?_
    refine o_or 2 (c := false) (fun h => ?_) ?_
    · refine o_val_g (ex_move rfl) ?_
      exact o_val_g (ex_neq rfl rfl) (o_nil (got rfl (.refl _)))
    refine o_val (ex_move rfl) ?_
    refine o_or 2 (c := false) (fun h => ?_) ?_
    · refine o_val_g (ex_move rfl) ?_
      exact o_val_g (ex_neq rfl rfl) (o_nil (got rfl (.refl _)))
    refine o_val (ex_move rfl) ?_
    refine o_or 2 (c := false) (fun h => ?_) ?_
    · refine o_val_g (ex_move rfl) ?_
      exact o_val_g (ex_neq rfl rfl) (o_nil (got rfl (.refl _)))
    refine o_val (ex_move rfl) ?_
    refine o_or 2 (c := false) (fun h => ?_) ?_
    · refine o_val_g (ex_move rfl) ?_
      exact o_val_g (ex_neq rfl rfl) (o_nil (got rfl (.refl _)))
    refine o_val (ex_move rfl) ?_
    refine o_or 3 (c := false) (fun h => ?_) (o_nil ?_)
    · refine o_val_g (ex_move rfl) ?_
      refine o_val_g (ex_len Try.runUnderlying43 rfl) ?_
      exact o_val_g (ex_neq rfl rfl) (o_nil (got rfl (.refl _)))
    refine k_cond rfl (fun h => ?_) (fun h => ?_)
    ·
      exact absurd h (by decide)
    ·
      refine k_skip ?_
      refine k_seq (k_draw [true, true, true, true, true, true, true, true, true, true, true, true, true, true, true, true, true, true, true, true, true, true, true, true, true, true, true, true, true, true, true, true, true, true, true, true, true, true, true, true, true, true, true, true, true, true, true, true, true, true, true, false] 1 ?_ mixed (by kernel_rfl) rfl)
      refine d_loadA (i := 0) Try.isAgg23 Try.sizeOf23 rfl ?_
      refine d_val (i := 1) [] (ex_call Try.call44 rfl (fun W hW => c44 2000 4000)) ?_
      refine d_val (i := 2) [] (ex_eql_23 rfl rfl) ?_
      refine d_val (i := 3) [] (ex_move rfl) ?_
      refine d_loadA_g (i := 4) Try.isAgg23 Try.sizeOf23 rfl ?_
      refine d_val_g (i := 5) [] (ex_call Try.call44 rfl (fun W hW => c44 101500 104520)) ?_
      refine d_val_g (i := 6) [] (ex_eql_23 rfl rfl) ?_
      refine d_val (i := 7) [] (ex_pick rfl rfl) ?_
      refine d_val (i := 8) [] (ex_move rfl) ?_
      refine d_val_g (i := 9) [] (ex_move rfl) ?_
      refine d_val_g (i := 10) [] (ex_eql rfl rfl) ?_
      refine d_val (i := 11) [] (ex_pick rfl rfl) ?_
      refine d_val (i := 12) [] (ex_move rfl) ?_
      refine d_val_g (i := 13) [] (ex_move rfl) ?_
      refine d_val_g (i := 14) [] (ex_index_old Try.runUnderlying43 Try.sizeOf51 rfl rfl (by omega) (by omega)) ?_
      refine d_val_g (i := 15) x42 (ex_loadA_at Try.isAgg51 Try.sizeOf51 rfl (vs := [.int .i64 0, .int .i64 101500]) rfl (fun W hW j v hj => plan_at (hg42 _ _ W hW) 0 j v hj rfl)) ?_
      refine d_val_g (i := 16) [] (ex_build bf51 rfl) ?_
      refine d_val_g (i := 17) [] (ex_eql_51 rfl rfl) ?_
      refine d_val (i := 18) [] (ex_pick rfl rfl) ?_
      refine d_val (i := 19) [] (ex_move rfl) ?_
      refine d_val_g (i := 20) [] (ex_move rfl) ?_
      refine d_val_g (i := 21) [] (ex_index_old Try.runUnderlying43 Try.sizeOf51 rfl rfl (by omega) (by omega)) ?_
      refine d_val_g (i := 22) x42 (ex_loadA_at Try.isAgg51 Try.sizeOf51 rfl (vs := [.int .i64 231, .int .i64 101500]) rfl (fun W hW j v hj => plan_at (hg42 _ _ W hW) 1 j v hj rfl)) ?_
      refine d_val_g (i := 23) [] (ex_build bf51 rfl) ?_
      refine d_val_g (i := 24) [] (ex_eql_51 rfl rfl) ?_
      refine d_val (i := 25) [] (ex_pick rfl rfl) ?_
      refine d_val (i := 26) [] (ex_move rfl) ?_
      refine d_val_g (i := 27) [] (ex_move rfl) ?_
      refine d_val_g (i := 28) [] (ex_eql rfl rfl) ?_
      refine d_val (i := 29) [] (ex_pick rfl rfl) ?_
      refine d_val (i := 30) [] (ex_move rfl) ?_
      refine d_val_g (i := 31) [] (ex_move rfl) ?_
      refine d_val_g (i := 32) [] (ex_eql rfl rfl) ?_
      refine d_val (i := 33) [] (ex_pick rfl rfl) ?_
      refine d_val (i := 34) [] (ex_move rfl) ?_
      refine d_val_g (i := 35) [] (ex_move rfl) ?_
      refine d_val_g (i := 36) [] (ex_eql rfl rfl) ?_
      refine d_val (i := 37) [] (ex_pick rfl rfl) ?_
      refine d_val (i := 38) [] (ex_move rfl) ?_
      refine d_val_g (i := 39) [] (ex_move rfl) ?_
      refine d_val_g (i := 40) [] (ex_eql rfl rfl) ?_
      refine d_val (i := 41) [] (ex_pick rfl rfl) ?_
      refine d_val (i := 42) [] (ex_move rfl) ?_
      refine d_loadA_g (i := 43) Try.isAgg23 Try.sizeOf23 rfl ?_
      refine d_val_g (i := 44) [] (ex_call Try.call44 rfl (fun W hW => c44 102400 103600)) ?_
      refine d_val_g (i := 45) [] (ex_eql_23 rfl rfl) ?_
      refine d_val (i := 46) [] (ex_pick rfl rfl) ?_
      refine d_val (i := 47) [] (ex_move rfl) ?_
      refine d_val_g (i := 48) [] (ex_move rfl) ?_
      refine d_val_g (i := 49) [] (ex_eql rfl rfl) ?_
      refine d_val (i := 50) [] (ex_pick rfl rfl) ?_
      refine d_rest ?_
      refine d_nil ?_
      refine r_one 51 (rs_val rfl (ex_assign rfl) ?_) (by kernel_rfl)
      refine r_nil ?_ (by kernel_rfl)
      refine k_ret ?_
      exact fin1 rfl rfl fun W hW => ⟨rfl, hW.ext⟩

end Go.Proofs.Ytdflfnednaleeaa
