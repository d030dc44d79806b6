/- The walks of small functions: what each call hands back, and that nothing that was there has turned. Printed by a program of this session (wip/tools/gen.py). -/
import Derived.Test.YteecidddfcbabaaA11
import Derived.Test.YteecidddfcbabaaSort
namespace Go.Proofs.Yteecidddfcbabaa
open Go
attribute [local irreducible] ExV Ex
set_option synthInstance.maxSize 2000
set_option synthInstance.maxHeartbeats 200000

-- == f82 slices.insertionSortCmpFunc[int] params [42, 3, 3, 80] results [] in [] ntmps 53 nfree 0
theorem c82 {f : Nat} {cap : List Value} (cmp : Int → Int → Int) (l : List Int) (sp : List Value) {g c : Nat} {w : World} (hl : l.length ≤ 1000) (hb : w.heap[g]? = some (.cells (l.map (Value.int .i64) ++ sp).toArray 3 (0, 0))) (hcall : ∀ vs W, (callFunc f vs).run Try.prog W = .ok (.enter f vs) W)
    (hf : ∀ x y, x ∈ l → y ∈ l → ∀ W, Ext [g] w W → Calls Try.prog f ([Value.int .i64 x, Value.int .i64 y] ++ cap).toArray W (fun e W' => e = .returned (.int .i64 (cmp x y)) ∧ Ext [] W W')) : Calls Try.prog 82 [.slice (some ⟨g, 0, none⟩) l.length c, .int .i64 0, .int .i64 (l.length : Int), .func (.func f) [].toArray cap.toArray].toArray w fun e w' => e = .returned (.tuple #[]) ∧ w'.heap[g]? = some (.cells ((sortR (fun x y => decide (cmp x y < 0)) l).reverse.map (Value.int .i64) ++ sp).toArray 3 (0, 0)) ∧ Ext [g] w w' := by
  refine fn_start' Try.func82 rfl (N := 53) rfl (by simp) (M := [g]) (H := [⟨g, 3, (l).map (Value.int .i64) ++ sp, true⟩]) ⟨Ext.refl _ _, by simpa [Ent.obj] using hb, by simp, by simp⟩ ?_
  refine k_seq (k_region ?_)
  refine o_val (ex_move rfl) ?_
  refine o_val (ex_add64 rfl rfl (by unfold I64; omega)) ?_
  refine o_val (ex_assign rfl) (o_nil ?_)
  refine k_block ?_
  refine k_loop (ι := Nat) (fun k => [(0, .slice (some ⟨g, 0, none⟩) l.length c), (1, .int .i64 0), (2, .int .i64 (l.length : Int)), (3, .func (.func f) [].toArray cap.toArray), (8, .int .i64 (k : Int))]) (fun k => [⟨g, 3, ((sortR (fun x y => decide (cmp x y < 0)) (l.take k)).reverse ++ l.drop k).map (Value.int .i64) ++ sp, true⟩]) (fun k => 1 ≤ k ∧ (k ≤ l.length ∨ l.length = 0)) (fun k => l.length - k) 1 ⟨by omega, by omega⟩ (Sub.cons rfl (Sub.cons rfl (Sub.cons rfl (Sub.cons rfl (Sub.cons rfl (Sub.nil _)))))) (by rw [sortR_one]; exact .refl _) (fun k hk => ?_)
  obtain ⟨hk1, hk⟩ := hk
  refine k_seq (k_seq (k_region ?_))
  refine o_val (ex_move rfl) ?_
  refine o_val (ex_move rfl) ?_
  refine o_val (ex_lss rfl rfl) (o_nil ?_)
  refine k_cond rfl (fun h => ?_) (fun h => ?_)
  ·
    have hlt : k < l.length := by have : (k : Int) < (l.length : Int) := of_decide_eq_true h; omega
    have hd0 : ((sortR (fun x y => decide (cmp x y < 0)) (l.take k)).reverse ++ l[k] :: []) ++ l.drop (k + 1) = (sortR (fun x y => decide (cmp x y < 0)) (l.take k)).reverse ++ l.drop k := by rw [List.drop_eq_getElem_cons hlt]; simp
    refine k_skip ?_
    refine k_seq (k_block ?_)
    refine k_seq (k_region ?_)
    refine o_val (ex_move rfl) ?_
    refine o_val (ex_assign rfl) (o_nil ?_)
    refine k_block ?_
    refine k_loop (ι := List Int × List Int) (fun k_1 => [(0, .slice (some ⟨g, 0, none⟩) l.length c), (1, .int .i64 0), (2, .int .i64 (l.length : Int)), (3, .func (.func f) [].toArray cap.toArray), (8, .int .i64 (k : Int)), (9, .int .i64 (k_1.1.length : Int))]) (fun k_1 => [⟨g, 3, ((k_1.1 ++ l[k] :: k_1.2) ++ l.drop (k + 1)).map (Value.int .i64) ++ sp, true⟩]) (fun k_1 => k_1.1 ++ k_1.2 = (sortR (fun x y => decide (cmp x y < 0)) (l.take k)).reverse ∧ ∀ b, b ∈ k_1.2 → (fun x y => decide (cmp x y < 0)) l[k] b = true) (fun k_1 => k_1.1.length) ((sortR (fun x y => decide (cmp x y < 0)) (l.take k)).reverse, []) ⟨by simp, by simp⟩ (Sub.cons rfl (Sub.cons rfl (Sub.cons rfl (Sub.cons rfl (Sub.cons rfl (Sub.cons' rfl (by simp [sortR, sortR_len]; omega) (Sub.nil _))))))) (by show List.Sublist ([⟨g, 3, (((sortR (fun x y => decide (cmp x y < 0)) (l.take k)).reverse ++ l[k] :: []) ++ l.drop (k + 1)).map (Value.int .i64) ++ sp, true⟩] : Hp) _; rw [hd0]; exact .refl _) (fun k_1 hk => ?_)
    obtain ⟨A, B⟩ := k_1
    dsimp only at hk ⊢
    obtain ⟨hAB, hB⟩ := hk
    have hlenA : A.length + B.length = k := by rw [← List.length_append, hAB]; simp [sortR, sortR_len]; omega
    rcases snoc_cases A with rfl | ⟨A', a, rfl⟩
    ·
      refine k_seq (k_seq (k_draw [true, true, true, true, true, true, true, true, true, true, true, true, true, true, true, true, true] 0 ?_ mixed (by kernel_rfl) rfl))
      refine d_val (i := 0) [] (ex_move rfl) ?_
      refine d_val (i := 1) [] (ex_move rfl) ?_
      refine d_val (i := 2) [] (exv_eq (show _ = Value.bool false by simp) (ex_gtr rfl rfl)) ?_
      refine d_val (i := 3) [] (ex_move rfl) ?_
      refine d_skip (i := 4) ?_
      refine d_skip (i := 5) ?_
      refine d_skip (i := 6) ?_
      refine d_skip (i := 7) ?_
      refine d_skip (i := 8) ?_
      refine d_skip (i := 9) ?_
      refine d_skip (i := 10) ?_
      refine d_skip (i := 11) ?_
      refine d_skip (i := 12) ?_
      refine d_skip (i := 13) ?_
      refine d_skip (i := 14) ?_
      refine d_skip (i := 15) ?_
      refine d_val (i := 16) [] (ex_pick rfl rfl) ?_
      refine d_nil ?_
      refine r_nil ?_ (by kernel_rfl)
      refine k_cond rfl (fun h_1 => ?_) (fun h_1 => ?_)
      ·
        cases h_1
      ·
        have hd := ins_done hlt hAB hB (fun A' a e => by simp at e)
        refine k_exit rfl ?_
        refine k_region ?_
        refine o_val (ex_move rfl) ?_
        refine o_val (ex_add64 rfl rfl (by unfold I64; omega)) ?_
        refine o_val (ex_assign rfl) (o_nil ?_)
        exact k_some (k + 1) ⟨⟨by omega, by omega⟩, by omega⟩ (Sub.cons rfl (Sub.cons rfl (Sub.cons rfl (Sub.cons rfl (Sub.cons rfl (Sub.nil _)))))) (by show List.Sublist ([⟨g, 3, ((sortR (fun x y => decide (cmp x y < 0)) (l.take (k + 1))).reverse ++ l.drop (k + 1)).map (Value.int .i64) ++ sp, true⟩] : Hp) _; rw [hd]; first | exact .refl _ | (simp only [List.append_assoc, List.cons_append, List.nil_append]; exact .refl _))
    ·
      rw [show (A' ++ [a] ++ l[k] :: B) ++ l.drop (k + 1) = (A' ++ [a]) ++ l[k] :: (B ++ l.drop (k + 1)) from by simp]
      have ma : a ∈ l := by
        have h1 : a ∈ (sortR (fun x y => decide (cmp x y < 0)) (l.take k)).reverse := by rw [← hAB]; simp
        rcases sortR_mem _ _ _ _ (List.mem_reverse.1 h1) with h2 | h2
        · cases h2
        · exact List.mem_of_mem_take h2
      refine k_seq (k_seq (k_draw [true, true, true, true, true, true, true, true, true, true, true, true, true, true, true, true, true] 0 ?_ mixed (by kernel_rfl) rfl))
      refine d_val (i := 0) [] (ex_move rfl) ?_
      refine d_val (i := 1) [] (ex_move rfl) ?_
      refine d_val (i := 2) [] (exv_eq (show _ = Value.bool true by simp) (ex_gtr rfl rfl)) ?_
      refine d_val (i := 3) [] (ex_move rfl) ?_
      refine d_val_g (i := 4) [] (ex_move rfl) ?_
      refine d_val_g (i := 5) [] (ex_move rfl) ?_
      refine d_val_g (i := 6) [] (ex_move rfl) ?_
      refine d_val_g (i := 7) [] (ex_index (A' ++ [a]).length Try.runUnderlying42 Try.sizeOf3 rfl rfl (by omega) (by omega) (by omega)) ?_
      refine d_load_g (i := 8) Try.isAgg3 rfl (get_mid (A' ++ [a]) (B ++ l.drop (k + 1)) l[k] sp) ?_
      refine d_val_g (i := 9) [] (ex_move rfl) ?_
      refine d_val_g (i := 10) [] (ex_move rfl) ?_
      refine d_val_g (i := 11) [] (ex_sub64 rfl rfl (by unfold I64; omega)) ?_
      refine d_val_g (i := 12) [] (ex_index A'.length Try.runUnderlying42 Try.sizeOf3 rfl rfl (by simp <;> omega) (by (simp at hlenA ⊢) <;> omega) (by simp)) ?_
      refine d_load_g (i := 13) Try.isAgg3 rfl (show (((A' ++ [a]) ++ l[k] :: (B ++ l.drop (k + 1))).map (Value.int .i64) ++ sp)[A'.length]? = some (Value.int .i64 a) by simp) ?_
      refine d_val_g (i := 14) [] (ex_callV hcall rfl rfl (fun W hW => (by exact hf l[k] a (List.getElem_mem hlt) ma W hW.ext))) ?_
      refine d_val_g (i := 15) [] (ex_lss rfl rfl) ?_
      refine d_val (i := 16) [] (ex_pick rfl rfl) ?_
      refine d_nil ?_
      refine r_nil ?_ (by kernel_rfl)
      refine k_cond rfl (fun h_1 => ?_) (fun h_1 => ?_)
      ·
        have hlt2 : cmp l[k] a < 0 := by simpa using h_1
        haveI hs1 := spl_mid (A' ++ [a]) (B ++ l.drop (k + 1)) l[k] a sp
        haveI hs2 : Spl (((A' ++ [a]) ++ a :: (B ++ l.drop (k + 1))).map (Value.int .i64) ++ sp) A'.length [Value.int .i64 l[k]] ((A' ++ l[k] :: (a :: (B ++ l.drop (k + 1)))).map (Value.int .i64) ++ sp) := by
          rw [show (A' ++ [a]) ++ a :: (B ++ l.drop (k + 1)) = A' ++ a :: (a :: (B ++ l.drop (k + 1))) from by simp]
          exact spl_mid A' (a :: (B ++ l.drop (k + 1))) a l[k] sp
        refine k_skip ?_
        refine k_seq (k_block ?_)
        refine k_draw [true, true, true, true, true, true, true, true, true, true, true, true, true, true, true, false, true, false] 2 ?_ mixed (by kernel_rfl) rfl
        refine d_val (i := 0) [] (ex_move rfl) ?_
        refine d_val (i := 1) [] (ex_move rfl) ?_
        refine d_val (i := 2) [] (ex_move rfl) ?_
        refine d_val (i := 3) [] (ex_move rfl) ?_
        refine d_val (i := 4) [] (ex_sub64 rfl rfl (by unfold I64; omega)) ?_
        refine d_val (i := 5) [] (ex_move rfl) ?_
        refine d_val (i := 6) [] (ex_move rfl) ?_
        refine d_val (i := 7) [] (ex_sub64 rfl rfl (by unfold I64; omega)) ?_
        refine d_val (i := 8) [] (ex_index A'.length Try.runUnderlying42 Try.sizeOf3 rfl rfl (by simp <;> omega) (by (simp at hlenA ⊢) <;> omega) (by simp)) ?_
        refine d_load (i := 9) Try.isAgg3 rfl (show (((A' ++ [a]) ++ l[k] :: (B ++ l.drop (k + 1))).map (Value.int .i64) ++ sp)[A'.length]? = some (Value.int .i64 a) by simp) ?_
        refine d_val (i := 10) [] (ex_move rfl) ?_
        refine d_val (i := 11) [] (ex_move rfl) ?_
        refine d_val (i := 12) [] (ex_index (A' ++ [a]).length Try.runUnderlying42 Try.sizeOf3 rfl rfl (by omega) (by omega) (by omega)) ?_
        refine d_load (i := 13) Try.isAgg3 rfl (get_mid (A' ++ [a]) (B ++ l.drop (k + 1)) l[k] sp) ?_
        refine d_val (i := 14) [] (ex_index (A' ++ [a]).length Try.runUnderlying42 Try.sizeOf3 rfl rfl (by omega) (by omega) (by omega)) ?_
        refine d_rest ?_
        refine d_val (i := 16) [] (ex_index A'.length Try.runUnderlying42 Try.sizeOf3 rfl rfl (by simp <;> omega) (by (simp at hlenA ⊢) <;> omega) (by simp)) ?_
        refine d_rest ?_
        refine d_nil ?_
        refine r_one 15 (rs_store [14, 9, 0, 1, 5, 6, 7, 8, 9, 13] rfl Try.sizeOf3 rfl rfl ?_) (by kernel_rfl)
        refine r_one 17 (rs_store [16, 13, 15, 0, 1, 2, 3, 4, 5, 6, 7, 8, 9, 10, 11, 12, 13, 14, 15] rfl Try.sizeOf3 rfl rfl ?_) (by kernel_rfl)
        refine r_nil ?_ (by kernel_rfl)
        refine k_region ?_
        refine o_val (ex_move rfl) ?_
        refine o_val (ex_sub64 rfl rfl (by unfold I64; omega)) ?_
        refine o_val (ex_assign rfl) (o_nil ?_)
        exact k_some (A', a :: B) ⟨⟨by rw [← hAB]; simp, by
    intro b hb
    rcases List.mem_cons.1 hb with rfl | hb
    · simpa using hlt2
    · exact hB b hb⟩, by simp⟩ (Sub.cons rfl (Sub.cons rfl (Sub.cons rfl (Sub.cons rfl (Sub.cons rfl (Sub.cons' rfl (by simp) (Sub.nil _))))))) (by show List.Sublist ([⟨g, 3, ((A' ++ l[k] :: a :: B) ++ l.drop (k + 1)).map (Value.int .i64) ++ sp, true⟩] : Hp) _; rw [show (A' ++ l[k] :: a :: B) ++ l.drop (k + 1) = A' ++ l[k] :: a :: (B ++ l.drop (k + 1)) from by simp]; exact .refl _)
      ·
        have hd := ins_done hlt hAB hB (fun A2 a2 e => by obtain ⟨_, e2⟩ := List.append_inj' e rfl; simp only [List.cons.injEq, and_true] at e2; subst e2; exact h_1)
        refine k_exit rfl ?_
        refine k_region ?_
        refine o_val (ex_move rfl) ?_
        refine o_val (ex_add64 rfl rfl (by unfold I64; omega)) ?_
        refine o_val (ex_assign rfl) (o_nil ?_)
        exact k_some (k + 1) ⟨⟨by omega, by omega⟩, by omega⟩ (Sub.cons rfl (Sub.cons rfl (Sub.cons rfl (Sub.cons rfl (Sub.cons rfl (Sub.nil _)))))) (by show List.Sublist ([⟨g, 3, ((sortR (fun x y => decide (cmp x y < 0)) (l.take (k + 1))).reverse ++ l.drop (k + 1)).map (Value.int .i64) ++ sp, true⟩] : Hp) _; rw [hd]; first | exact .refl _ | (simp only [List.append_assoc, List.cons_append, List.nil_append]; exact .refl _))
  ·
    have hge : ¬ k < l.length := by have : ¬ (k : Int) < (l.length : Int) := of_decide_eq_false h; omega
    rw [List.take_of_length_le (by omega), List.drop_of_length_le (by omega), List.append_nil]
    refine k_exit rfl ?_
    try simp only [xlook, Nat.beq_refl, cond_true]
    exact fin0 rfl fun W hW => ⟨rfl, hW.cells HasE.here, hW.ext⟩

end Go.Proofs.Yteecidddfcbabaa
