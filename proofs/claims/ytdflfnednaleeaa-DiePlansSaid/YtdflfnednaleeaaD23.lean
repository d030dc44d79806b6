/- The walks of functions: what each call hands back, and that nothing that was there has turned. Printed by a program of this session (wip/tools/gen.py). -/
import Derived.Test.YtdflfnednaleeaaD21
import Derived.Test.YtdflfnednaleeaaD22
namespace Go.Proofs.Ytdflfnednaleeaa
open Go
attribute [local irreducible] ExV Ex
set_option synthInstance.maxSize 2000
set_option synthInstance.maxHeartbeats 200000
set_option maxRecDepth 20000

theorem plan_len {t : To} {ws : List Sp} {os : List Od} (hok : chkE t ws os = 0) : (planR t ws os).1.length ≤ 400000 := by
  have hall := (openS_ok hok).all
  have hsl := sure_le (openS t ws os)
  unfold planR
  rw [if_neg (by simp [hok])]
  split
  · simp
  · dsimp only
    rw [planL_len]; omega

-- == f4 acme/acmelaw07.DiePlans params [26, 27, 3] results [4] in [('tmp', ['6'])] ntmps 125 nfree 0
theorem c4 (t : To) (ws : List Sp) {A : Option Addr} {c : Nat} (os : List Od) {A2 : Option Addr} {c2 : Nat} (f : Int) {w : World} (hws : ElAt w A ws) (hos : ElAt w A2 os) : Calls Try.prog 4 [.agg [.bool t.down, .int .i64 t.sl, .int .i64 t.sh, .int .i64 t.cl, .int .i64 t.ch, .slice A ws.length c].toArray, .slice A2 os.length c2, .int .i64 f].toArray w fun e w' => e = .returned (.bool true) ∧ Ext [] w w' := by
  refine fn_start Try.func4 rfl (N := 125) rfl ?_
  refine k_seq (k_region ?_)
  refine o_box rfl (fun b3 => ?_)
  refine o_val (ex_assign rfl) (o_nil ?_)
  refine k_seq (k_seq (k_region ?_))
  refine o_val (ex_loadA Try.isAgg26 Try.sizeOf26 rfl) ?_
  refine o_val (ex_move rfl) ?_
  refine o_val (ex_call Try.call13 rfl (fun W hW => c13 t ws os 300 (hws.ext hW.ext) (hos.ext hW.ext))) (o_nil ?_)
  refine k_cond rfl (fun h => ?_) (fun h => ?_)
  ·
    refine k_seq (k_region ?_)
    refine o_val (ex_call Try.call14 rfl (fun W hW => c14)) ?_
    refine o_val (ex_assign rfl) (o_nil ?_)
    refine k_ret ?_
    exact fin1 rfl rfl fun W hW => ⟨rfl, hW.ext⟩
  ·
    have hl15 : ws.length ≤ 15 := by
      by_cases e : (15 : Int) < (ws.length : Int)
      · rw [decide_eq_true e] at h; cases h
      · omega
    have hl45 : os.length ≤ 45 := by
      by_cases e : (45 : Int) < (os.length : Int)
      · rw [decide_eq_true e] at h; simp at h
      · omega
    refine k_skip ?_
    refine k_seq (k_region ?_)
    refine o_val (ex_loadA Try.isAgg26 Try.sizeOf26 rfl) ?_
    refine o_callB Try.call15 rfl (fun W hW => c15 t ws (c := c) hl15 (hws.ext hW.ext)) (fun v21 x21 o21 => ?_)
    obtain ⟨A5, c5, e21, h22⟩ := o21
    subst e21
    refine o_val (ex_move rfl) ?_
    refine o_callB Try.call16 rfl (fun W hW => c16 os (c := c2) (by omega) (hos.ext hW.ext)) (fun v23 x23 o23 => ?_)
    obtain ⟨A6, c6, e23, h24⟩ := o23
    subst e23
    refine o_val (ex_move rfl) ?_
    refine o_val (ex_call Try.call25 rfl (fun W hW => c25 t ws (A := A5) (c := c5) os (A2 := A6) (c2 := c6) f (copy_at h22 hW (by repeat (first | exact List.sublist_append_left _ _ | exact List.Sublist.refl _ | exact (List.sublist_append_left _ _).trans (List.sublist_append_right _ _) | apply List.Sublist.cons))) (copy_at h24 hW (by repeat (first | exact List.sublist_append_left _ _ | exact List.Sublist.refl _ | exact (List.sublist_append_left _ _).trans (List.sublist_append_right _ _) | apply List.Sublist.cons))))) ?_
    refine o_val (ex_move rfl) ?_
    refine o_val (ex_extract rfl rfl) ?_
    refine o_val (ex_extract rfl rfl) ?_
    refine o_val (ex_assign rfl) ?_
    refine o_val (ex_assign rfl) (o_nil ?_)
    refine k_seq (k_region ?_)
    refine o_val (ex_loadA Try.isAgg26 Try.sizeOf26 rfl) ?_
    refine o_callB Try.call15 rfl (fun W hW => c15 t ws (c := c) hl15 (hws.ext hW.ext)) (fun v30 x30 o30 => ?_)
    obtain ⟨A7, c7, e30, h30⟩ := o30
    subst e30
    refine o_val (ex_move rfl) ?_
    refine o_callB Try.call16 rfl (fun W hW => c16 os (c := c2) (by omega) (hos.ext hW.ext)) (fun v32 x32 o32 => ?_)
    obtain ⟨A8, c8, e32, h32⟩ := o32
    subst e32
    refine o_callT Try.call26 rfl (fun W hW => c26 t ws (A := A7) (c := c7) os (A2 := A8) (c2 := c8) (copy_at h30 hW (by repeat (first | exact List.sublist_append_left _ _ | exact List.Sublist.refl _ | exact (List.sublist_append_left _ _).trans (List.sublist_append_right _ _) | apply List.Sublist.cons))) (copy_at h32 hW (by repeat (first | exact List.sublist_append_left _ _ | exact List.Sublist.refl _ | exact (List.sublist_append_left _ _).trans (List.sublist_append_right _ _) | apply List.Sublist.cons)))) (fun v33 x33 o33 => ?_)
    obtain ⟨A9, c9, e33⟩ := o33.form
    subst e33
    refine o_val (ex_move rfl) ?_
    refine o_val (ex_extract rfl rfl) ?_
    refine o_val (ex_extract rfl rfl) ?_
    refine o_val (ex_assign rfl) ?_
    refine o_val (ex_assign rfl) (o_nil ?_)
    refine k_seq (k_seq (k_region ?_))
    refine o_val (ex_loadA Try.isAgg26 Try.sizeOf26 rfl) ?_
    refine o_val (ex_move rfl) ?_
    refine o_val (ex_call Try.call21 rfl (fun W hW => c21 t ws os (hws.ext hW.ext) (hos.ext hW.ext))) ?_
    refine o_val (ex_assign rfl) (o_nil ?_)
    refine k_seq (k_region ?_)
    refine o_val (ex_move rfl) ?_
    refine o_val (ex_neq rfl rfl) (o_nil ?_)
    refine k_cond rfl (fun h_1 => ?_) (fun h_1 => ?_)
    ·
      have hn : ¬ chkE t ws os = 0 := fun e => by simp [e] at h_1
      have e1 : reachR t ws os f = (0, chkE t ws os) := if_pos hn
      have e2 : planR t ws os = ([], chkE t ws os) := if_pos hn
      refine k_seq (k_region ?_)
      refine o_val (ex_move rfl) ?_
      refine o_val (ex_move rfl) ?_
      refine o_val (ex_eql rfl rfl) ?_
      refine o_val (ex_move rfl) ?_
      refine o_and 3 (c := decide ((planR t ws os).2 = (chkE t ws os))) (fun h => ?_) ?_
      · refine o_val_g (ex_move rfl) ?_
        refine o_val_g (ex_move rfl) ?_
        exact o_val_g (ex_eql rfl rfl) (o_nil (got rfl (.refl _)))
      refine o_val (ex_move rfl) ?_
      refine o_and 2 (c := decide ((reachR t ws os f).1 = 0)) (fun h => ?_) ?_
      · refine o_val_g (ex_move rfl) ?_
        exact o_val_g (ex_eql rfl rfl) (o_nil (got rfl (.refl _)))
      refine o_val (ex_move rfl) ?_
      refine o_and 3 (c := decide (((planR t ws os).1.length : Int) = 0)) (fun h => ?_) ?_
      · refine o_val_g (ex_move rfl) ?_
        refine o_val_g (ex_len Try.runUnderlying43 rfl) ?_
        exact o_val_g (ex_eql rfl rfl) (o_nil (got rfl (.refl _)))
      refine o_val (ex_move rfl) ?_
      refine o_and 1 (c := true) (fun h => ?_) ?_
      · exact o_val_g (ex_call Try.call14 rfl (fun W hW => c14)) (o_nil (got rfl (.refl _)))
      refine o_val (ex_assign rfl) (o_nil ?_)
      refine k_ret ?_
      exact fin1 rfl rfl fun W hW => ⟨by rw [e1, e2]; simp, hW.ext⟩
    ·
      have hok : chkE t ws os = 0 := by simpa using h_1
      have hS := openS_ok hok
      have hall := hS.all
      rw [allP_open] at hall
      refine k_skip ?_
      refine k_seq (k_seq (k_region ?_))
      refine o_val (ex_move rfl) ?_
      refine o_val (ex_move rfl) ?_
      refine o_val (ex_call Try.call22 rfl (fun W hW => c22 os hl45 (chk_pc hok) (hos.ext hW.ext))) ?_
      refine o_val (ex_sub64 rfl rfl (by unfold I64; omega)) ?_
      refine o_val (ex_call Try.call27 rfl (fun W hW => c27 f 0 (allP os - 1))) (o_nil ?_)
      refine k_cut (ι := Unit) (fun _ => [(1, .slice A2 os.length c2), (3, .pointer (some ⟨b3, 0, none⟩)), (9, .slice A9 (planR t ws os).1.length c9), (10, .int .i64 (planR t ws os).2)]) (fun _ => x33 ++ [⟨b3, 26, [.bool t.down, .int .i64 t.sl, .int .i64 t.sh, .int .i64 t.cl, .int .i64 t.ch, .slice A ws.length c], true⟩]) (fun _ => True) ?_ (fun _ _ => ?_)
      · refine k_cond rfl (fun h_2 => ?_) (fun h_2 => ?_)
        ·
          have hr := h_2
          rw [Bool.and_eq_true, decide_eq_true_eq, decide_eq_true_eq] at hr
          have e1 : reachR t ws os f = ((openS t ws os).reach f, 0) := (if_neg (by simp [hok])).trans (if_neg (by rw [allP_open, wi_one, decide_eq_true (show 0 ≤ f ∧ f ≤ allP os - 1 by omega)]; decide))
          refine k_seq (k_region ?_)
          refine o_val (ex_move rfl) ?_
          refine o_val (ex_neq rfl rfl) ?_
          refine o_val (ex_move rfl) ?_
          refine o_or 6 (c := !decide ((reachR t ws os f).1 = (openS t ws os).reach f)) (fun h => ?_) (o_nil ?_)
          · refine o_val_g (ex_move rfl) ?_
            refine o_val_g (ex_loadA Try.isAgg26 Try.sizeOf26 rfl) ?_
            refine o_val_g (ex_move rfl) ?_
            refine o_val_g (ex_move rfl) ?_
            refine o_val_g (ex_call Try.call28 rfl (fun W hW => c28 t ws os f hok hr.1 (by omega) (hws.ext hW.ext) (hos.ext hW.ext))) ?_
            exact o_val_g (ex_neq rfl rfl) (o_nil (got rfl (.refl _)))
          refine k_cond rfl (fun h_3 => ?_) (fun h_3 => ?_)
          ·
            exact absurd h_3 (by rw [e1]; simp)
          ·
            refine k_skip ?_
            exact k_some () trivial (Sub.cons rfl (Sub.cons rfl (Sub.cons rfl (Sub.cons rfl (Sub.nil _))))) SubE.sub
        ·
          have hr : ¬ (0 ≤ f ∧ f ≤ allP os - 1) := fun hh => by rw [decide_eq_true hh.1, decide_eq_true hh.2] at h_2; exact absurd h_2 (by decide)
          have e1 : reachR t ws os f = (0, 3) := (if_neg (by simp [hok])).trans (if_pos (by rw [allP_open, wi_one, decide_eq_false hr]))
          refine k_seq (k_region ?_)
          refine o_val (ex_move rfl) ?_
          refine o_val (ex_neq rfl rfl) ?_
          refine o_val (ex_move rfl) ?_
          refine o_or 2 (c := !decide ((reachR t ws os f).1 = 0)) (fun h => ?_) (o_nil ?_)
          · refine o_val_g (ex_move rfl) ?_
            exact o_val_g (ex_neq rfl rfl) (o_nil (got rfl (.refl _)))
          refine k_cond rfl (fun h_3 => ?_) (fun h_3 => ?_)
          ·
            exact absurd h_3 (by rw [e1]; simp)
          ·
            refine k_skip ?_
            exact k_some () trivial (Sub.cons rfl (Sub.cons rfl (Sub.cons rfl (Sub.cons rfl (Sub.nil _))))) SubE.sub
      refine k_seq (k_region ?_)
      refine o_val (ex_loadA Try.isAgg26 Try.sizeOf26 rfl) ?_
      refine o_val (ex_move rfl) ?_
      refine o_callT Try.call29 rfl (fun W hW => c29 t ws os hok (hws.ext hW.ext) (hos.ext hW.ext)) (fun v85 x85 o85 => ?_)
      obtain ⟨A10, c10, e85⟩ := o85.form
      subst e85
      refine o_val (ex_move rfl) ?_
      refine o_val (ex_extract rfl rfl) ?_
      refine o_val (ex_extract rfl rfl) ?_
      refine o_val (ex_assign rfl) ?_
      refine o_val (ex_assign rfl) (o_nil ?_)
      refine k_seq (k_seq (k_region ?_))
      refine o_val (ex_move rfl) ?_
      refine o_val (ex_not rfl) (o_nil ?_)
      refine k_cond rfl (fun h_2 => ?_) (fun h_2 => ?_)
      ·
        have hp0 : ¬ (planR t ws os).2 = 0 := fun e => by simp [e] at h_2
        have e2 : planR t ws os = ([], 7) := by
          by_cases hq : (openS t ws os).at (openS t ws os).sure < allP (openS t ws os).os
          · exact (if_neg (by simp [hok])).trans (if_pos hq)
          · exact absurd (by rw [show planR t ws os = (planL (openS t ws os) (openS t ws os).sure, 0) from (if_neg (by simp [hok])).trans (if_neg hq)]) hp0
        refine k_seq (k_region ?_)
        refine o_val (ex_move rfl) ?_
        refine o_val (ex_eql rfl rfl) ?_
        refine o_val (ex_move rfl) ?_
        refine o_and 3 (c := decide (((planR t ws os).1.length : Int) = 0)) (fun h => ?_) ?_
        · refine o_val_g (ex_move rfl) ?_
          refine o_val_g (ex_len Try.runUnderlying43 rfl) ?_
          exact o_val_g (ex_eql rfl rfl) (o_nil (got rfl (.refl _)))
        refine o_val (ex_move rfl) ?_
        refine o_and 1 (c := true) (fun h => ?_) ?_
        · exact o_val_g (ex_call Try.call14 rfl (fun W hW => c14)) (o_nil (got rfl (.refl _)))
        refine o_val (ex_assign rfl) (o_nil ?_)
        refine k_ret ?_
        exact fin1 rfl rfl fun W hW => ⟨by rw [e2]; simp, hW.ext⟩
      ·
        have hp0 : (planR t ws os).2 = 0 := by simpa using h_2
        refine k_skip ?_
        refine k_seq (k_seq (k_region ?_))
        refine o_val (ex_move rfl) ?_
        refine o_val (ex_neq rfl rfl) ?_
        refine o_val (ex_move rfl) ?_
        refine o_or 5 (c := !decide (((planR t ws os).1.length : Int) = ((planR t ws os).1.length : Int))) (fun h => ?_) (o_nil ?_)
        · refine o_val_g (ex_move rfl) ?_
          refine o_val_g (ex_len Try.runUnderlying43 rfl) ?_
          refine o_val_g (ex_move rfl) ?_
          refine o_val_g (ex_len Try.runUnderlying43 rfl) ?_
          exact o_val_g (ex_neq rfl rfl) (o_nil (got rfl (.refl _)))
        refine k_cond rfl (fun h_3 => ?_) (fun h_3 => ?_)
        ·
          exact absurd h_3 (by rw [hp0]; simp)
        ·
          refine k_skip ?_
          refine k_seq (k_seq (k_region ?_))
          refine o_val (ex_assign rfl) (o_nil ?_)
          refine k_block ?_
          refine k_loop (ι := Nat) (fun k => [(9, .slice A9 (planR t ws os).1.length c9), (12, .slice A10 (planR t ws os).1.length c10), (14, .int .i64 (k : Int))]) (fun k => x85 ++ (x33 ++ [])) (fun k => k ≤ (planR t ws os).1.length) (fun k => (planR t ws os).1.length - k) 0 (Nat.zero_le _) (Sub.cons rfl (Sub.cons rfl (Sub.cons rfl (Sub.nil _)))) SubE.sub (fun k hk => ?_)
          refine k_seq (k_seq (k_region ?_))
          refine o_val (ex_move rfl) ?_
          refine o_val (ex_move rfl) ?_
          refine o_val (ex_len Try.runUnderlying43 rfl) ?_
          refine o_val (ex_lss rfl rfl) (o_nil ?_)
          refine k_cond rfl (fun h_4 => ?_) (fun h_4 => ?_)
          ·
            have hpl := plan_len hok
            have hlt : k < (planR t ws os).1.length := by have : (k : Int) < ((planR t ws os).1.length : Int) := of_decide_eq_true h_4; omega
            obtain ⟨g, cap, eg, hg⟩ := own_at o33 (by omega)
            cases eg
            obtain ⟨g2, cap2, eg2, hg2⟩ := own_at o85 (by omega)
            cases eg2
            refine k_skip ?_
            refine k_seq (k_block ?_)
            refine k_seq (k_draw [true, true, true, true, true, true, true, true, true] 0 ?_ mixed (by kernel_rfl) rfl)
            refine d_val (i := 0) [] (ex_move rfl) ?_
            refine d_val (i := 1) [] (ex_move rfl) ?_
            refine d_val (i := 2) [] (ex_index_old Try.runUnderlying43 Try.sizeOf51 rfl rfl (by omega) (by omega)) ?_
            refine d_val (i := 3) x33 (ex_loadA_at Try.isAgg51 Try.sizeOf51 rfl (vs := [.int .i64 (planR t ws os).1[k].fr, .int .i64 (planR t ws os).1[k].tg]) rfl (fun W hW j v hj => by rw [add_lit, add_lit, Nat.zero_add]; exact hg _ _ W hW _ v (fl_get (E := stgElt) (planR t ws os).1 k hlt j v hj))) ?_
            refine d_val (i := 4) [] (ex_move rfl) ?_
            refine d_val (i := 5) [] (ex_move rfl) ?_
            refine d_val (i := 6) [] (ex_index_old Try.runUnderlying43 Try.sizeOf51 rfl rfl (by omega) (by omega)) ?_
            refine d_val (i := 7) x85 (ex_loadA_at Try.isAgg51 Try.sizeOf51 rfl (vs := [.int .i64 (planR t ws os).1[k].fr, .int .i64 (planR t ws os).1[k].tg]) rfl (fun W hW j v hj => by rw [add_lit, add_lit, Nat.zero_add]; exact hg2 _ _ W hW _ v (fl_get (E := stgElt) (planR t ws os).1 k hlt j v hj))) ?_
            refine d_val (i := 8) [] (ex_neq_51 rfl rfl) ?_
            refine d_nil ?_
            refine r_nil ?_ (by kernel_rfl)
            refine k_cond rfl (fun h_5 => ?_) (fun h_5 => ?_)
            ·
              exact absurd h_5 (by simp)
            ·
              refine k_skip ?_
              refine k_region ?_
              refine o_val (ex_move rfl) ?_
              refine o_val (ex_add64 rfl rfl (by unfold I64; omega)) ?_
              refine o_val (ex_assign rfl) (o_nil ?_)
              exact k_some (k + 1) ⟨hlt, by omega⟩ (Sub.cons rfl (Sub.cons rfl (Sub.cons rfl (Sub.nil _)))) SubE.sub
          ·
            refine k_exit rfl ?_
            refine k_seq (k_region ?_)
            refine o_val (ex_call Try.call14 rfl (fun W hW => c14)) ?_
            refine o_val (ex_assign rfl) (o_nil ?_)
            refine k_ret ?_
            exact fin1 rfl rfl fun W hW => ⟨rfl, hW.ext⟩

end Go.Proofs.Ytdflfnednaleeaa
