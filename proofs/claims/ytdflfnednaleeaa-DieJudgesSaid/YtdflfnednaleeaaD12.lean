/- The walks of functions: what each call hands back, and that nothing that was there has turned. Printed by a program of this session (wip/tools/gen.py). -/
import Derived.Test.YtdflfnednaleeaaD11
import Derived.Test.YtdflfnednaleeaaClr
namespace Go.Proofs.Ytdflfnednaleeaa
open Go
attribute [local irreducible] ExV Ex
set_option synthInstance.maxSize 2000
set_option synthInstance.maxHeartbeats 200000
set_option maxRecDepth 20000

/-- No two that lie side by side are the same. -/
def adjNe (l : List Int) : Prop := ∀ i, 0 < i → i < l.length → l.getD i 0 ≠ l.getD (i - 1) 0
theorem adjNe_short {l : List Int} (h : l.length < 2) : adjNe l := fun i h0 h1 => by omega
theorem spl_upd (is : List Int) (sp : List Value) {i : Nat} (h : i < is.length) (z : Int) : Spl (is.map (Value.int .i64) ++ sp) i [Value.int .i64 z] ((is.set i z).map (Value.int .i64) ++ sp) :=
  ⟨by
    have e : (is.set i z).map (Value.int .i64) = (is.map (Value.int .i64)).take i ++ Value.int .i64 z :: (is.map (Value.int .i64)).drop (i + 1) := by
      rw [List.map_set, List.set_eq_take_append_cons_drop, if_pos (by simpa using h)]
    rw [e, List.take_append_of_le_length (by simp; omega), List.drop_append_of_le_length (by simp; omega)]
    simp, by simp; omega⟩
theorem spl_any (cs : List Value) (o : Nat) (vs : List Value) (h : o + vs.length ≤ cs.length) : Spl cs o vs (cs.take o ++ vs ++ cs.drop (o + vs.length)) := ⟨rfl, h⟩
theorem row_at {w0 : World} {M : List Nat} {H : Hp} {W : World} {g : Nat} {is : List Int} {sp : List Value} (hW : Sat w0 M H W) (hm : (⟨g, 3, is.map (Value.int .i64) ++ sp, true⟩ : Ent) ∈ H) {o j i : Nat} (hi : i < is.length) (hj : o + j = i) : W.cell? ((⟨g, o, none⟩ : Addr).add j) = some (.int .i64 (is.getD i 0)) := by
  subst hj
  rw [add_lit, cell_of (hW.at_ _ hm), List.getElem?_append_left (by simpa using hi), List.getElem?_map, List.getElem?_eq_getElem hi, List.getD_eq_getElem?_getD, List.getElem?_eq_getElem hi]
  rfl
theorem sl_tail {g n cap k : Nat} (hk : k ≤ n) (_hn : n ≤ cap) (hkc : k < cap) (_h63 : n < 4611686018427387904) (W : World) : (Instr.sliceAt 52 (.slice (some ⟨g, 0, none⟩) n cap) (some (.int .i64 k)) none none).run Try.prog W = .ok (.slice (some ⟨g, k, none⟩) (n - k) (cap - k)) W := by
  have ht := Try.underlying52
  have hte : Try.prog.underlying 52 = some (.slice (Try.prog.elem 52)) := by rw [ht]; simp [Program.elem, ht]
  have hee : Try.prog.elem 52 = 3 := by simp [Program.elem, ht]
  rw [run_sliceAt_slice W 52 _ _ _ _ hte, run_slice_l W 52 (some ⟨g, 0, none⟩) n cap hte .i64 _ (by omega) (by omega), hee, Try.sizeOf3 W]
  simp only [Result.andThen, sliced, Int.toNat_natCast, Option.map_some, add_lit, Nat.zero_add, Nat.mul_one]
  rw [if_neg (by omega)]
theorem sl_head {g n cap k : Nat} (hk : k ≤ n) (hn : n ≤ cap) (_h63 : n < 4611686018427387904) (W : World) : (Instr.sliceAt 52 (.slice (some ⟨g, 0, none⟩) n cap) none (some (.int .i64 k)) none).run Try.prog W = .ok (.slice (some ⟨g, 0, none⟩) k cap) W := by
  have ht := Try.underlying52
  have hte : Try.prog.underlying 52 = some (.slice (Try.prog.elem 52)) := by rw [ht]; simp [Program.elem, ht]
  have hee : Try.prog.elem 52 = 3 := by simp [Program.elem, ht]
  rw [run_sliceAt_slice W 52 _ _ _ _ hte, run_slice_h W 52 (some ⟨g, 0, none⟩) n cap hte .i64 _ (by omega) (by omega), hee, Try.sizeOf3 W]
  simp [sliced, Addr.add, Result.andThen]

-- == f101 slices.Compact[[]int,int] params [52] results [52] in [('tmp', ['2'])] ntmps 61 nfree 0
theorem c101 (is : List Int) (sp : List Value) {g : Nat} {w : World} (hb : w.heap[g]? = some (.cells (is.map (Value.int .i64) ++ sp).toArray 3 (0, 0))) (hl : is.length < 4611686018427387904) : Calls Try.prog 101 [.slice (some ⟨g, 0, none⟩) is.length (is.length + sp.length)].toArray w fun e w' => ∃ A m c, e = .returned (.slice A m c) ∧ (m = is.length ↔ adjNe is) ∧ Ext [g] w w' := by
  refine fn_startW (w0 := w) (M := [g]) (H := [⟨g, 3, is.map (Value.int .i64) ++ sp, true⟩]) Try.func101 rfl (N := 61) rfl (by simp) ⟨Ext.refl _ _, (fun e he => by rw [List.mem_singleton.1 he]; exact hb), (fun e he => by rw [List.mem_singleton.1 he]; exact .inr (List.mem_singleton.2 rfl)), by simp⟩ ?_
  refine k_seq (k_region ?_)
  refine o_val (ex_assign rfl) (o_nil ?_)
  refine k_seq (k_seq (k_region ?_))
  refine o_val (ex_move rfl) ?_
  refine o_val (ex_len Try.runUnderlying52 rfl) ?_
  refine o_val (ex_lss rfl rfl) (o_nil ?_)
  refine k_cond rfl (fun h => ?_) (fun h => ?_)
  ·
    refine k_seq (k_region ?_)
    refine o_val (ex_move rfl) ?_
    refine o_val (ex_assign rfl) (o_nil ?_)
    refine k_ret ?_
    exact fin1 rfl rfl fun W hW => ⟨_, _, _, rfl, ⟨fun _ => adjNe_short (by have : (is.length : Int) < 2 := of_decide_eq_true h; omega), fun _ => rfl⟩, hW.ext⟩
  ·
    have hn2 : 2 ≤ is.length := by have : ¬ (is.length : Int) < 2 := of_decide_eq_false h; omega
    refine k_skip ?_
    refine k_seq (k_seq (k_region ?_))
    refine o_val (ex_assign rfl) (o_nil ?_)
    refine k_block ?_
    refine k_loop (ι := Nat) (fun k => [(0, .slice (some ⟨g, 0, none⟩) is.length (is.length + sp.length)), (3, .int .i64 (k : Int))]) (fun k => [⟨g, 3, is.map (Value.int .i64) ++ sp, true⟩]) (fun k => 1 ≤ k ∧ k ≤ is.length ∧ ∀ i, 0 < i → i < k → is.getD i 0 ≠ is.getD (i - 1) 0) (fun k => is.length - k) 1 ⟨Nat.le_refl _, by omega, fun i h0 h1 => by omega⟩ (Sub.cons rfl (Sub.cons rfl (Sub.nil _))) SubE.sub (fun k hk => ?_)
    obtain ⟨hk1, hkn, hne⟩ := hk
    refine k_seq (k_seq (k_region ?_))
    refine o_val (ex_move rfl) ?_
    refine o_val (ex_move rfl) ?_
    refine o_val (ex_len Try.runUnderlying52 rfl) ?_
    refine o_val (ex_lss rfl rfl) (o_nil ?_)
    refine k_cond rfl (fun h_1 => ?_) (fun h_1 => ?_)
    ·
      have hlt : k < is.length := by have : (k : Int) < (is.length : Int) := of_decide_eq_true h_1; omega
      refine k_skip ?_
      refine k_seq (k_block ?_)
      refine k_seq (k_draw [true, true, true, true, true, true, true, true, true, true] 0 ?_ mixed (by kernel_rfl) rfl)
      refine d_val (i := 0) [] (ex_move rfl) ?_
      refine d_val (i := 1) [] (ex_move rfl) ?_
      refine d_val (i := 2) [] (ex_index_old Try.runUnderlying52 Try.sizeOf3 rfl rfl (by omega) (by omega)) ?_
      refine d_val (i := 3) [⟨g, 3, is.map (Value.int .i64) ++ sp, true⟩] (ex_load_at Try.isAgg3 rfl (fun W hW => row_at (is := is) (sp := sp) (i := k) hW (by simp) (by omega) (by omega))) ?_
      refine d_val (i := 4) [] (ex_move rfl) ?_
      refine d_val (i := 5) [] (ex_move rfl) ?_
      refine d_val (i := 6) [] (ex_sub64 rfl rfl (by unfold I64; omega)) ?_
      refine d_val (i := 7) [] (ex_index_old Try.runUnderlying52 Try.sizeOf3 rfl rfl (by omega) (by omega)) ?_
      refine d_val (i := 8) [⟨g, 3, is.map (Value.int .i64) ++ sp, true⟩] (ex_load_at Try.isAgg3 rfl (fun W hW => row_at (is := is) (sp := sp) (i := (k - 1)) hW (by simp) (by omega) (by omega))) ?_
      refine d_val (i := 9) [] (ex_eql rfl rfl) ?_
      refine d_nil ?_
      refine r_nil ?_ (by kernel_rfl)
      refine k_cond rfl (fun h_2 => ?_) (fun h_2 => ?_)
      ·
        have heq : is.getD k 0 = is.getD (k - 1) 0 := of_decide_eq_true h_2
        refine k_seq (k_region ?_)
        refine o_val (ex_move rfl) ?_
        refine o_val (ex_move rfl) ?_
        refine o_val (ex_slice (vl := some (.int .i64 k)) (vh := none) rfl rfl rfl (fun W => sl_tail (by omega) (by omega) (by omega) hl W)) ?_
        refine o_val (ex_assign rfl) (o_nil ?_)
        refine k_seq (k_seq (k_region ?_))
        refine o_val (ex_assign rfl) (o_nil ?_)
        refine k_block ?_
        refine k_loop (ι := List Int × Nat × Nat) (fun k_1 => [(0, .slice (some ⟨g, 0, none⟩) is.length (is.length + sp.length)), (3, .int .i64 (k_1.2.1 : Int)), (4, .slice (some ⟨g, k, none⟩) (is.length - k) (is.length + sp.length - k)), (5, .int .i64 (k_1.2.2 : Int))]) (fun k_1 => [⟨g, 3, k_1.1.map (Value.int .i64) ++ sp, true⟩]) (fun k_1 => k_1.1.length = is.length ∧ k ≤ k_1.2.1 ∧ k_1.2.1 + 1 ≤ k + k_1.2.2 ∧ 1 ≤ k_1.2.2 ∧ k_1.2.2 ≤ is.length - k) (fun k_1 => is.length - k - k_1.2.2) (is, k, 1) ⟨rfl, Nat.le_refl _, Nat.le_refl _, Nat.le_refl _, (by show 1 ≤ is.length - k; omega)⟩ (Sub.cons rfl (Sub.cons rfl (Sub.cons rfl (Sub.cons rfl (Sub.nil _))))) SubE.sub (fun k_1 hk => ?_)
        obtain ⟨is2, i, j⟩ := k_1
        obtain ⟨q1, q2, q3, q4, q5⟩ := hk
        dsimp only at q1 q2 q3 q4 q5 ⊢
        refine k_seq (k_seq (k_region ?_))
        refine o_val (ex_move rfl) ?_
        refine o_val (ex_move rfl) ?_
        refine o_val (ex_len Try.runUnderlying52 rfl) ?_
        refine o_val (ex_lss rfl rfl) (o_nil ?_)
        refine k_cond rfl (fun h_3 => ?_) (fun h_3 => ?_)
        ·
          have hlj : j < is.length - k := by have : (j : Int) < ((is.length - k : Nat) : Int) := of_decide_eq_true h_3; omega
          refine k_skip ?_
          refine k_seq (k_block ?_)
          refine k_seq (k_draw [true, true, true, true, true, true, true, true, true, true] 0 ?_ mixed (by kernel_rfl) rfl)
          refine d_val (i := 0) [] (ex_move rfl) ?_
          refine d_val (i := 1) [] (ex_move rfl) ?_
          refine d_val (i := 2) [] (ex_index_old Try.runUnderlying52 Try.sizeOf3 rfl rfl (by omega) (by omega)) ?_
          refine d_val (i := 3) [⟨g, 3, is2.map (Value.int .i64) ++ sp, true⟩] (ex_load_at Try.isAgg3 rfl (fun W hW => row_at (is := is2) (sp := sp) (i := (k + j)) hW (by simp) (by omega) (by omega))) ?_
          refine d_val (i := 4) [] (ex_move rfl) ?_
          refine d_val (i := 5) [] (ex_move rfl) ?_
          refine d_val (i := 6) [] (ex_sub64 rfl rfl (by unfold I64; omega)) ?_
          refine d_val (i := 7) [] (ex_index_old Try.runUnderlying52 Try.sizeOf3 rfl rfl (by omega) (by omega)) ?_
          refine d_val (i := 8) [⟨g, 3, is2.map (Value.int .i64) ++ sp, true⟩] (ex_load_at Try.isAgg3 rfl (fun W hW => row_at (is := is2) (sp := sp) (i := (k + j - 1)) hW (by simp) (by omega) (by omega))) ?_
          refine d_val (i := 9) [] (ex_neq rfl rfl) ?_
          refine d_nil ?_
          refine r_nil ?_ (by kernel_rfl)
          refine k_cut (ι := List Int × Nat) (fun z => [(0, .slice (some ⟨g, 0, none⟩) is.length (is.length + sp.length)), (3, .int .i64 (z.2 : Int)), (4, .slice (some ⟨g, k, none⟩) (is.length - k) (is.length + sp.length - k)), (5, .int .i64 (j : Int))]) (fun z => [⟨g, 3, z.1.map (Value.int .i64) ++ sp, true⟩]) (fun z => z.1.length = is.length ∧ k ≤ z.2 ∧ z.2 ≤ k + j) ?_ (fun z hz => ?_)
          · refine k_cond rfl (fun h_4 => ?_) (fun h_4 => ?_)
            ·
              refine k_seq (k_region ?_)
              refine o_val (ex_move rfl) ?_
              refine o_val (ex_move rfl) ?_
              refine o_val (ex_move rfl) ?_
              refine o_val (ex_move rfl) ?_
              refine o_val (ex_index_old Try.runUnderlying52 Try.sizeOf3 rfl rfl (by omega) (by omega)) ?_
              refine o_val (ex_load_at Try.isAgg3 rfl (fun W hW => row_at (is := is2) (sp := sp) (i := (k + j)) hW (by simp) (by omega) (by omega))) ?_
              refine o_val (exv_eq (v := .pointer (some ⟨g, i, none⟩)) (by simp [add_lit]) (ex_index_old Try.runUnderlying52 Try.sizeOf3 rfl rfl (by omega) (by omega))) ?_
              haveI := spl_upd is2 sp (i := i) (by omega) (is2.getD (k + j) 0)
              refine o_store Try.sizeOf3 rfl rfl (o_nil ?_)
              refine k_region ?_
              refine o_val (ex_move rfl) ?_
              refine o_val (ex_add64 rfl rfl (by unfold I64; omega)) ?_
              refine o_val (ex_assign rfl) (o_nil ?_)
              exact k_some (is2.set i (is2.getD (k + j) 0), i + 1) ⟨by simpa using q1, by omega, by omega⟩ (Sub.cons rfl (Sub.cons rfl (Sub.cons rfl (Sub.cons rfl (Sub.nil _))))) SubE.sub
            ·
              refine k_skip ?_
              exact k_some (is2, i) ⟨q1, q2, by omega⟩ (Sub.cons rfl (Sub.cons rfl (Sub.cons rfl (Sub.cons rfl (Sub.nil _))))) SubE.sub
          obtain ⟨z1, z2⟩ := z
          obtain ⟨w1, w2, w3⟩ := hz
          dsimp only at w1 w2 w3 ⊢
          refine k_region ?_
          refine o_val (ex_move rfl) ?_
          refine o_val (ex_add64 rfl rfl (by unfold I64; omega)) ?_
          refine o_val (ex_assign rfl) (o_nil ?_)
          exact k_some (z1, z2, j + 1) ⟨⟨w1, w2, (by show z2 + 1 ≤ k + (j + 1); omega), (by show 1 ≤ j + 1; omega), (by show j + 1 ≤ is.length - k; omega)⟩, (by show is.length - k - (j + 1) < is.length - k - j; omega)⟩ (Sub.cons rfl (Sub.cons rfl (Sub.cons rfl (Sub.cons rfl (Sub.nil _))))) SubE.sub
        ·
          refine k_exit rfl ?_
          refine k_seq (k_region ?_)
          refine o_val (ex_move rfl) ?_
          refine o_val (ex_move rfl) ?_
          refine o_val (ex_slice (vl := some (.int .i64 i)) (vh := none) rfl rfl rfl (fun W => sl_tail (by omega) (by omega) (by omega) hl W)) ?_
          haveI := spl_any (is2.map (Value.int .i64) ++ sp) i (List.replicate (is.length - i) (Value.int .i64 0)) (by simp; omega)
          refine o_step_none (ex_clear rfl (by omega)) (fun v H2 e => ?_); subst e; refine o_nil ?_
          refine k_seq (k_region ?_)
          refine o_val (ex_move rfl) ?_
          refine o_val (ex_move rfl) ?_
          refine o_val (ex_slice (vl := none) (vh := some (.int .i64 i)) rfl rfl rfl (fun W => sl_head (by omega) (by omega) hl W)) ?_
          refine o_val (ex_assign rfl) (o_nil ?_)
          refine k_ret ?_
          exact fin1 rfl rfl fun W hW => ⟨_, _, _, rfl, ⟨fun e => by omega, fun e => absurd heq (e k (by omega) hlt)⟩, hW.ext⟩
      ·
        have hne2 : ¬ is.getD k 0 = is.getD (k - 1) 0 := of_decide_eq_false h_2
        refine k_skip ?_
        refine k_region ?_
        refine o_val (ex_move rfl) ?_
        refine o_val (ex_add64 rfl rfl (by unfold I64; omega)) ?_
        refine o_val (ex_assign rfl) (o_nil ?_)
        exact k_some (k + 1) ⟨⟨by omega, by omega, fun i h0 h1 => by
        by_cases hi : i = k
        · subst hi; exact hne2
        · exact hne i h0 (by omega)⟩, by omega⟩ (Sub.cons rfl (Sub.cons rfl (Sub.nil _))) SubE.sub
    ·
      have hge : k = is.length := by have : ¬ (k : Int) < (is.length : Int) := of_decide_eq_false h_1; omega
      refine k_exit rfl ?_
      refine k_seq (k_region ?_)
      refine o_val (ex_move rfl) ?_
      refine o_val (ex_assign rfl) (o_nil ?_)
      refine k_ret ?_
      exact fin1 rfl rfl fun W hW => ⟨_, _, _, rfl, ⟨fun _ i h0 h1 => hne i h0 (by omega), fun _ => rfl⟩, hW.ext⟩

-- == f101 slices.Compact[[]int,int] params [52] results [52] in [('tmp', ['2'])] ntmps 61 nfree 0
theorem s101 {w : World} : Calls Try.prog 101 [.slice none 0 0].toArray w fun e w' => e = .returned (.slice none 0 0) ∧ Ext [] w w' := by
  refine fn_start Try.func101 rfl (N := 61) rfl ?_
  refine k_seq (k_region ?_)
  refine o_val (ex_assign rfl) (o_nil ?_)
  refine k_seq (k_seq (k_region ?_))
  refine o_val (ex_move rfl) ?_
  refine o_val (ex_len Try.runUnderlying52 rfl) ?_
  refine o_val (ex_lss rfl rfl) (o_nil ?_)
  refine k_cond rfl (fun h => ?_) (fun h => ?_)
  ·
    refine k_seq (k_region ?_)
    refine o_val (ex_move rfl) ?_
    refine o_val (ex_assign rfl) (o_nil ?_)
    refine k_ret ?_
    exact fin1 rfl rfl fun W hW => ⟨rfl, hW.ext⟩
  ·
    cases h

end Go.Proofs.Ytdflfnednaleeaa
