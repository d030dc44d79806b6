/- The walks of functions: what each call hands back, and that nothing that was there has turned. Printed by a program of this session (wip/tools/gen.py). -/
import Derived.Test.YtdflfnednaleeaaD22
import Derived.Test.YtdflfnednaleeaaPl9
namespace Go.Proofs.Ytdflfnednaleeaa
open Go
attribute [local irreducible] ExV Ex
set_option synthInstance.maxSize 2000
set_option synthInstance.maxHeartbeats 200000
set_option maxRecDepth 20000

theorem few_nonneg (S : Sh) : ∀ j : Nat, 0 ≤ few S j := fun j => by
  induction j using Nat.strongRecOn with
  | ind j jh =>
    by_cases e : j = 0
    · subst e; rw [few_zero]; exact Int.le_refl _
    · by_cases hq : few S j < 1000000
      · obtain ⟨f2, q1, _, q3⟩ := few_from (S := S) (n := j) (by omega) hq
        have := jh f2 q1
        omega
      · omega
theorem bst_next (S : Sh) (out : List Int) {k j : Nat} (h : j ≤ k) : bst S out (k + 1) (j + 1) = if (decide (out.getD (k - j) 0 < 1000000) && S.can ((k : Int) - j) ((k : Int) + 1)) = true then min (bst S out (k + 1) j) (out.getD (k - j) 0 + 1) else bst S out (k + 1) j := by
  have e1 : k + 1 - 1 - j = k - j := by omega
  have e2 : ((k - j : Nat) : Int) = (k : Int) - j := by omega
  rw [← e2]
  show (if (decide (out.getD (k + 1 - 1 - j) 0 < 1000000) && S.can ((k + 1 - 1 - j : Nat) : Int) ((k + 1 : Nat) : Int)) = true then _ else _) = _
  rw [e1]
  rfl
theorem map_getD {l : List Int} {i : Nat} (h : i < l.length) : (l.map (Value.int .i64))[i]? = some (.int .i64 (l.getD i 0)) := by
  rw [List.getElem?_map, List.getElem?_eq_getElem h, getD_at h]
  rfl
theorem getcell {W : World} {g i j : Nat} {l : List Int} (hg : ∀ q u, (l.map (Value.int .i64))[q]? = some u → W.cell? ⟨g, q, none⟩ = some u) (h : i < l.length) (hj : j = i) : W.cell? ((⟨g, 0, none⟩ : Addr).add j) = some (.int .i64 (l.getD i 0)) := by
  subst hj
  rw [add_lit, Nat.zero_add]
  exact hg _ _ (map_getD h)

-- == f74 acme/acmeref07.Fewest params [26, 27] results [52] in [('tmp', ['4'])] ntmps 46 nfree 0
theorem c74 (t : To) (ws : List Sp) {A : Option Addr} {c : Nat} (os : List Od) {A2 : Option Addr} {c2 : Nat} {w : World} (hok : chkE t ws os = 0) (hws : ElAt w A ws) (hos : ElAt w A2 os) : Calls Try.prog 74 [.agg [.bool t.down, .int .i64 t.sl, .int .i64 t.sh, .int .i64 t.cl, .int .i64 t.ch, .slice A ws.length c].toArray, .slice A2 os.length c2].toArray w fun e w' => ∃ v, e = .returned v ∧ FreshV 3 1 v ((allP (openS t ws os).os).toNat + 1) ((fewL (openS t ws os) (allP (openS t ws os).os).toNat).map (Value.int .i64)) w w' ∧ Ext [] w w' := by
  have hS := openS_ok hok
  have hall := hS.all
  rw [allP_open] at hall
  have hck := chkE_ok.1 hok
  have hpc := chk_pc hok
  refine fn_start Try.func74 rfl (N := 46) rfl ?_
  refine k_seq (k_region ?_)
  refine o_box rfl (fun b2 => ?_)
  refine o_val (ex_assign rfl) (o_nil ?_)
  refine k_seq (k_region ?_)
  refine o_buildSlice [.int .i64 0] [(0, 1)] Try.runUnderlying52 Try.sizeOf3 Try.zeroValue3 rfl (fun b9 => ?_)
  refine o_val (ex_assign rfl) (o_nil ?_)
  refine k_seq (k_seq (k_region ?_))
  refine o_val (ex_assign rfl) (o_nil ?_)
  refine k_block ?_
  refine k_loop (ι := OI) (fun k => [(1, .slice A2 os.length c2), (2, .pointer (some ⟨b2, 0, none⟩)), (5, k.v), (6, .int .i64 ((k.k : Int) + 1))]) (fun k => k.x ++ [⟨b2, 26, [.bool t.down, .int .i64 t.sl, .int .i64 t.sh, .int .i64 t.cl, .int .i64 t.ch, .slice A ws.length c], true⟩]) (fun k => (k.k : Int) ≤ allP os ∧ OwnsV 3 1 k.v (k.k + 1) ((fewL (openS t ws os) k.k).map (Value.int .i64)) k.x) (fun k => (allP os).toNat - k.k) ⟨0, .slice (some ⟨b9, 0, none⟩) 1 1, [⟨b9, 3, [.int .i64 0], true⟩]⟩ ⟨(by show ((0 : Nat) : Int) ≤ allP os; omega), OwnsV.made rfl (by unfold maxLen; omega)⟩ (Sub.cons rfl (Sub.cons rfl (Sub.cons rfl (Sub.cons rfl (Sub.nil _))))) (List.Sublist.refl _) (fun k hk => ?_)
  obtain ⟨k, v, x⟩ := k
  obtain ⟨hk, hO⟩ := hk
  dsimp only at hk hO ⊢
  refine k_seq (k_seq (k_region ?_))
  refine o_val (ex_move rfl) ?_
  refine o_val (ex_move rfl) ?_
  refine o_val (ex_call Try.call22 rfl (fun W hW => c22 os (by omega) hpc (hos.ext hW.ext))) ?_
  refine o_val (ex_leq rfl rfl) (o_nil ?_)
  refine k_cond rfl (fun h => ?_) (fun h => ?_)
  ·
    have hlt : (k : Int) + 1 ≤ allP os := of_decide_eq_true h
    obtain ⟨g, cap, eg, hg⟩ := own_at hO (by omega)
    subst eg
    refine k_skip ?_
    refine k_seq (k_block ?_)
    refine k_seq (k_region ?_)
    refine o_val (ex_assign rfl) (o_nil ?_)
    refine k_seq (k_seq (k_region ?_))
    refine o_val (ex_move rfl) ?_
    refine o_val (ex_sub64 rfl rfl (by unfold I64; omega)) ?_
    refine o_val (ex_assign rfl) (o_nil ?_)
    refine k_block ?_
    refine k_loop (ι := Nat) (fun k_1 => [(1, .slice A2 os.length c2), (2, .pointer (some ⟨b2, 0, none⟩)), (5, .slice (some ⟨g, 0, none⟩) (k + 1) cap), (6, .int .i64 ((k : Int) + 1)), (7, .int .i64 (bst (openS t ws os) (fewL (openS t ws os) k) (k + 1) k_1)), (8, .int .i64 ((k : Int) - k_1))]) (fun k_1 => x ++ [⟨b2, 26, [.bool t.down, .int .i64 t.sl, .int .i64 t.sh, .int .i64 t.cl, .int .i64 t.ch, .slice A ws.length c], true⟩]) (fun k_1 => k_1 ≤ k + 1) (fun k_1 => k + 1 - k_1) 0 (Nat.zero_le _) (Sub.cons rfl (Sub.cons rfl (Sub.cons rfl (Sub.cons rfl (Sub.cons' rfl (by first | rfl | (rw [bst_next (openS t ws os) (fewL (openS t ws os) k) hjk, if_pos h_2]) | (rw [bst_next (openS t ws os) (fewL (openS t ws os) k) hjk, if_neg (by rw [h_2]; decide)])) (Sub.cons' rfl (by first | rfl | (congr 1; omega)) (Sub.nil _))))))) SubE.sub (fun k_1 hk => ?_)
    refine k_seq (k_seq (k_region ?_))
    refine o_val (ex_move rfl) ?_
    refine o_val (ex_geq rfl rfl) (o_nil ?_)
    refine k_cond rfl (fun h_1 => ?_) (fun h_1 => ?_)
    ·
      have hjk : k_1 ≤ k := by have : 0 ≤ (k : Int) - k_1 := of_decide_eq_true h_1; omega
      have hfn := few_nonneg (openS t ws os) (k - k_1)
      have hfe : (fewL (openS t ws os) k).getD (k - k_1) 0 = few (openS t ws os) (k - k_1) := fewL_get (openS t ws os) (Nat.le_refl _) (by omega)
      refine k_skip ?_
      refine k_seq (k_block ?_)
      refine k_seq (k_region ?_)
      refine o_val (ex_move rfl) ?_
      refine o_val (ex_move rfl) ?_
      refine o_val (ex_index_old Try.runUnderlying52 Try.sizeOf3 rfl rfl (by omega) (by omega)) ?_
      refine o_val (ex_load_at (v := .int .i64 ((fewL (openS t ws os) k).getD (k - k_1) 0)) Try.isAgg3 rfl (fun W hW => getcell (hg _ _ W (hW.drop (List.sublist_append_left _ _))) (by rw [fewL_len]; omega) (by omega))) ?_
      refine o_val (ex_lss rfl rfl) ?_
      refine o_val (ex_move rfl) ?_
      refine o_and 5 (c := (openS t ws os).can ((k : Int) - k_1) ((k : Int) + 1)) (fun h => ?_) (o_nil ?_)
      · refine o_val_g (ex_loadA Try.isAgg26 Try.sizeOf26 rfl) ?_
        refine o_val_g (ex_move rfl) ?_
        refine o_val_g (ex_move rfl) ?_
        refine o_val_g (ex_move rfl) ?_
        exact o_val_g (ex_call Try.call73 rfl (fun W hW => c73 t ws os ((k : Int) - k_1) (k_1 + 1) (by omega) hok (by omega) (by omega) (by omega) (hws.ext hW.ext) (hos.ext hW.ext))) (o_nil (got rfl (.refl _)))
      refine k_cut (ι := Unit) (fun _ => [(1, .slice A2 os.length c2), (2, .pointer (some ⟨b2, 0, none⟩)), (5, .slice (some ⟨g, 0, none⟩) (k + 1) cap), (6, .int .i64 ((k : Int) + 1)), (7, .int .i64 (bst (openS t ws os) (fewL (openS t ws os) k) (k + 1) (k_1 + 1))), (8, .int .i64 ((k : Int) - k_1))]) (fun _ => x ++ [⟨b2, 26, [.bool t.down, .int .i64 t.sl, .int .i64 t.sh, .int .i64 t.cl, .int .i64 t.ch, .slice A ws.length c], true⟩]) (fun _ => True) ?_ (fun _ _ => ?_)
      · refine k_cond rfl (fun h_2 => ?_) (fun h_2 => ?_)
        ·
          have hq := h_2
          rw [Bool.and_eq_true, decide_eq_true_eq] at hq
          refine k_region ?_
          refine o_val (ex_move rfl) ?_
          refine o_val (ex_move rfl) ?_
          refine o_val (ex_move rfl) ?_
          refine o_val (ex_index_old Try.runUnderlying52 Try.sizeOf3 rfl rfl (by omega) (by omega)) ?_
          refine o_val (ex_load_at (v := .int .i64 ((fewL (openS t ws os) k).getD (k - k_1) 0)) Try.isAgg3 rfl (fun W hW => getcell (hg _ _ W (hW.drop (List.sublist_append_left _ _))) (by rw [fewL_len]; omega) (by omega))) ?_
          refine o_val (ex_add64 rfl rfl (by unfold I64; omega)) ?_
          refine o_val (ex_min rfl rfl) ?_
          refine o_val (ex_assign rfl) (o_nil ?_)
          exact k_some () trivial (Sub.cons rfl (Sub.cons rfl (Sub.cons rfl (Sub.cons rfl (Sub.cons' rfl (by first | rfl | (rw [bst_next (openS t ws os) (fewL (openS t ws os) k) hjk, if_pos h_2]) | (rw [bst_next (openS t ws os) (fewL (openS t ws os) k) hjk, if_neg (by rw [h_2]; decide)])) (Sub.cons' rfl (by first | rfl | (congr 1; omega)) (Sub.nil _))))))) SubE.sub
        ·
          refine k_skip ?_
          exact k_some () trivial (Sub.cons rfl (Sub.cons rfl (Sub.cons rfl (Sub.cons rfl (Sub.cons' rfl (by first | rfl | (rw [bst_next (openS t ws os) (fewL (openS t ws os) k) hjk, if_pos h_2]) | (rw [bst_next (openS t ws os) (fewL (openS t ws os) k) hjk, if_neg (by rw [h_2]; decide)])) (Sub.cons' rfl (by first | rfl | (congr 1; omega)) (Sub.nil _))))))) SubE.sub
      refine k_region ?_
      refine o_val (ex_move rfl) ?_
      refine o_val (ex_sub64 rfl rfl (by unfold I64; omega)) ?_
      refine o_val (ex_assign rfl) (o_nil ?_)
      exact k_some (k_1 + 1) ⟨by omega, by omega⟩ (Sub.cons rfl (Sub.cons rfl (Sub.cons rfl (Sub.cons rfl (Sub.cons' rfl (by first | rfl | (rw [bst_next (openS t ws os) (fewL (openS t ws os) k) hjk, if_pos h_2]) | (rw [bst_next (openS t ws os) (fewL (openS t ws os) k) hjk, if_neg (by rw [h_2]; decide)])) (Sub.cons' rfl (by first | rfl | (congr 1; omega)) (Sub.nil _))))))) SubE.sub
    ·
      have hjk : k_1 = k + 1 := by have : ¬ 0 ≤ (k : Int) - k_1 := of_decide_eq_false h_1; omega
      subst hjk
      refine k_exit rfl ?_
      refine k_region ?_
      refine o_val (ex_move rfl) ?_
      refine o_val (ex_move rfl) ?_
      refine o_buildSlice [.int .i64 0] [(0, 1)] Try.runUnderlying52 Try.sizeOf3 Try.zeroValue3 rfl (fun b43 => ?_)
      refine o_append (bytes := 8) hO Try.underlying52 (by kernel_rfl) rfl rfl (by unfold maxLen; omega) (by omega) (fun v44 x44 o44 => ?_)
      refine o_val (ex_assign rfl) (o_nil ?_)
      refine k_region ?_
      refine o_val (ex_move rfl) ?_
      refine o_val (ex_add64 rfl rfl (by unfold I64; omega)) ?_
      refine o_val (ex_assign rfl) (o_nil ?_)
      exact k_some ⟨k + 1, v44, x44⟩ ⟨⟨by show ((k + 1 : Nat) : Int) ≤ allP os; omega, o44.cast rfl (by show _ = ((fewL (openS t ws os) k ++ [bst (openS t ws os) (fewL (openS t ws os) k) (k + 1) (k + 1)]).map (Value.int .i64)); rw [List.map_append]; rfl)⟩, (by show (allP os).toNat - (k + 1) < (allP os).toNat - k; omega)⟩ (Sub.cons rfl (Sub.cons rfl (Sub.cons rfl (Sub.cons rfl (Sub.nil _))))) SubE.sub
  ·
    have hge : k = (allP (openS t ws os).os).toNat := by have : ¬ (k : Int) + 1 ≤ allP os := of_decide_eq_false h; rw [allP_open]; omega
    subst hge
    refine k_exit rfl ?_
    refine k_seq (k_region ?_)
    refine o_val (ex_move rfl) ?_
    refine o_val (ex_assign rfl) (o_nil ?_)
    refine k_ret ?_
    exact fin1 rfl rfl fun W hW => ⟨v, rfl, hO.fresh hW, hW.ext⟩

-- == f31 acme/acmeref07.Most params [26, 27, 3] results [3] in [('tmp', ['6'])] ntmps 27 nfree 0
theorem c31 (t : To) (ws : List Sp) {A : Option Addr} {c : Nat} (os : List Od) {A2 : Option Addr} {c2 : Nat} (n : Int) {w : World} (hok : chkE t ws os = 0) (h0 : 0 ≤ n) (h1 : n ≤ 1000) (hws : ElAt w A ws) (hos : ElAt w A2 os) : Calls Try.prog 31 [.agg [.bool t.down, .int .i64 t.sl, .int .i64 t.sh, .int .i64 t.cl, .int .i64 t.ch, .slice A ws.length c].toArray, .slice A2 os.length c2, .int .i64 n].toArray w fun e w' => e = .returned (.int .i64 ((openS t ws os).at n.toNat)) ∧ Ext [] w w' := by
  have hS := openS_ok hok
  have hall := hS.all
  rw [allP_open] at hall
  have hck := chkE_ok.1 hok
  have hpc := chk_pc hok
  have hao := allP_open t ws os
  refine fn_start Try.func31 rfl (N := 27) rfl ?_
  refine k_seq (k_region ?_)
  refine o_box rfl (fun b3 => ?_)
  refine o_val (ex_assign rfl) (o_nil ?_)
  refine k_seq (k_region ?_)
  refine o_val (ex_loadA Try.isAgg26 Try.sizeOf26 rfl) ?_
  refine o_val (ex_move rfl) ?_
  refine o_callO Try.call74 rfl (fun W hW => c74 t ws os (c := c) (c2 := c2) hok (hws.ext hW.ext) (hos.ext hW.ext)) (fun v12 x12 o12 => ?_)
  obtain ⟨g, cap, eg, hg⟩ := own_at o12 (by omega)
  subst eg
  refine o_val (ex_assign rfl) ?_
  refine o_val (ex_assign rfl) (o_nil ?_)
  refine k_seq (k_seq (k_region ?_))
  refine o_val (ex_assign rfl) (o_nil ?_)
  refine k_block ?_
  refine k_loop (ι := Nat) (fun k => [(2, .int .i64 n), (7, .slice (some ⟨g, 0, none⟩) ((allP (openS t ws os).os).toNat + 1) cap), (8, .int .i64 (mostI (fewL (openS t ws os) (allP (openS t ws os).os).toNat) n k : Int)), (9, .int .i64 (k : Int))]) (fun k => x12 ++ []) (fun k => k ≤ (allP (openS t ws os).os).toNat + 1) (fun k => (allP (openS t ws os).os).toNat + 1 - k) 0 (Nat.zero_le _) (Sub.cons rfl (Sub.cons rfl (Sub.cons' rfl (by first | rfl | (unfold mostI; rw [if_pos (of_decide_eq_true h_1)]) | (rw [show mostI (fewL (openS t ws os) (allP (openS t ws os).os).toNat) n (k + 1) = mostI (fewL (openS t ws os) (allP (openS t ws os).os).toNat) n k from if_neg (of_decide_eq_false h_1)])) (Sub.cons rfl (Sub.nil _))))) (by show List.Sublist (x12 ++ []) _; exact SubE.sub) (fun k hk => ?_)
  refine k_seq (k_seq (k_region ?_))
  refine o_val (ex_move rfl) ?_
  refine o_val (ex_move rfl) ?_
  refine o_val (ex_len Try.runUnderlying52 rfl) ?_
  refine o_val (ex_lss rfl rfl) (o_nil ?_)
  refine k_cond rfl (fun h => ?_) (fun h => ?_)
  ·
    have hlt : k < (allP (openS t ws os).os).toNat + 1 := by have : (k : Int) < (((allP (openS t ws os).os).toNat + 1 : Nat) : Int) := of_decide_eq_true h; omega
    refine k_skip ?_
    refine k_seq (k_block ?_)
    refine k_seq (k_region ?_)
    refine o_val (ex_move rfl) ?_
    refine o_val (ex_move rfl) ?_
    refine o_val (ex_index_old Try.runUnderlying52 Try.sizeOf3 rfl rfl (by omega) (by omega)) ?_
    refine o_val (ex_load_at (v := .int .i64 ((fewL (openS t ws os) (allP (openS t ws os).os).toNat).getD k 0)) Try.isAgg3 rfl (fun W hW => getcell (hg _ _ W (hW.drop (List.sublist_append_left _ _))) (by rw [fewL_len]; omega) (by omega))) ?_
    refine o_val (ex_move rfl) ?_
    refine o_val (ex_leq rfl rfl) (o_nil ?_)
    refine k_cut (ι := Unit) (fun _ => [(2, .int .i64 n), (7, .slice (some ⟨g, 0, none⟩) ((allP (openS t ws os).os).toNat + 1) cap), (8, .int .i64 (mostI (fewL (openS t ws os) (allP (openS t ws os).os).toNat) n (k + 1) : Int)), (9, .int .i64 (k : Int))]) (fun _ => x12 ++ []) (fun _ => True) ?_ (fun _ _ => ?_)
    · refine k_cond rfl (fun h_1 => ?_) (fun h_1 => ?_)
      ·
        refine k_region ?_
        refine o_val (ex_move rfl) ?_
        refine o_val (ex_assign rfl) (o_nil ?_)
        exact k_some () trivial (Sub.cons rfl (Sub.cons rfl (Sub.cons' rfl (by first | rfl | (unfold mostI; rw [if_pos (of_decide_eq_true h_1)]) | (rw [show mostI (fewL (openS t ws os) (allP (openS t ws os).os).toNat) n (k + 1) = mostI (fewL (openS t ws os) (allP (openS t ws os).os).toNat) n k from if_neg (of_decide_eq_false h_1)])) (Sub.cons rfl (Sub.nil _))))) SubE.sub
      ·
        refine k_skip ?_
        exact k_some () trivial (Sub.cons rfl (Sub.cons rfl (Sub.cons' rfl (by first | rfl | (unfold mostI; rw [if_pos (of_decide_eq_true h_1)]) | (rw [show mostI (fewL (openS t ws os) (allP (openS t ws os).os).toNat) n (k + 1) = mostI (fewL (openS t ws os) (allP (openS t ws os).os).toNat) n k from if_neg (of_decide_eq_false h_1)])) (Sub.cons rfl (Sub.nil _))))) SubE.sub
    refine k_region ?_
    refine o_val (ex_move rfl) ?_
    refine o_val (ex_add64 rfl rfl (by unfold I64; omega)) ?_
    refine o_val (ex_assign rfl) (o_nil ?_)
    exact k_some (k + 1) ⟨by omega, by omega⟩ (Sub.cons rfl (Sub.cons rfl (Sub.cons' rfl (by first | rfl | (unfold mostI; rw [if_pos (of_decide_eq_true h_1)]) | (rw [show mostI (fewL (openS t ws os) (allP (openS t ws os).os).toNat) n (k + 1) = mostI (fewL (openS t ws os) (allP (openS t ws os).os).toNat) n k from if_neg (of_decide_eq_false h_1)])) (Sub.cons rfl (Sub.nil _))))) SubE.sub
  ·
    have hge : k = (allP (openS t ws os).os).toNat + 1 := by have : ¬ (k : Int) < (((allP (openS t ws os).os).toNat + 1 : Nat) : Int) := of_decide_eq_false h; omega
    subst hge
    have hb := at_bound hS n.toNat
    refine k_exit rfl ?_
    refine k_seq (k_region ?_)
    refine o_val (ex_move rfl) ?_
    refine o_val (ex_assign rfl) (o_nil ?_)
    refine k_ret ?_
    exact fin1 rfl rfl fun W hW => ⟨by rw [most_ref hS h0 h1 ((allP (openS t ws os).os).toNat + 1) (by omega) (by omega)], hW.ext⟩

end Go.Proofs.Ytdflfnednaleeaa
