/- The walks of functions: what each call hands back, and that nothing that was there has turned. Printed by a program of this session (wip/tools/gen.py). -/
import Derived.Test.YtdflfnednaleeaaD20
namespace Go.Proofs.Ytdflfnednaleeaa
open Go
attribute [local irreducible] ExV Ex
set_option synthInstance.maxSize 2000
set_option synthInstance.maxHeartbeats 200000
set_option maxRecDepth 20000

-- == f3 acme/acmelaw07.DieTargets params [26, 27, 28] results [4] in [('tmp', ['6'])] ntmps 185 nfree 0
theorem c3 (t : To) (ws : List Sp) {A : Option Addr} {c : Nat} (os : List Od) {A2 : Option Addr} {c2 : Nat} (a0 a1 : Int) {w : World} (hws : ElAt w A ws) (hos : ElAt w A2 os) : Calls Try.prog 3 [.agg [.bool t.down, .int .i64 t.sl, .int .i64 t.sh, .int .i64 t.cl, .int .i64 t.ch, .slice A ws.length c].toArray, .slice A2 os.length c2, .agg [.int .i64 a0, .int .i64 a1].toArray].toArray w fun e w' => e = .returned (.bool true) ∧ Ext [] w w' := by
  refine fn_start Try.func3 rfl (N := 185) rfl ?_
  refine k_seq (k_region ?_)
  refine o_box rfl (fun b3 => ?_)
  refine o_box rfl (fun b5 => ?_)
  refine o_val (ex_assign rfl) (o_nil ?_)
  refine k_seq (k_seq (k_region ?_))
  refine o_val (ex_loadA Try.isAgg26 Try.sizeOf26 rfl) ?_
  refine o_val (ex_move rfl) ?_
  refine o_val (ex_call Try.call13 rfl (fun W hW => c13 t ws os 2000 (hws.ext hW.ext) (hos.ext hW.ext))) (o_nil ?_)
  refine k_cond rfl (fun h => ?_) (fun h => ?_)
  ·
    refine k_seq (k_region ?_)
    refine o_val (ex_call Try.call14 rfl (fun W hW => c14)) ?_
    refine o_val (ex_assign rfl) (o_nil ?_)
    refine k_ret ?_
    exact fin1 rfl rfl fun W hW => ⟨rfl, hW.ext⟩
  ·
    have hl15 : ws.length ≤ 15 := by
      by_cases e : (15 : Int) < (ws.length : Int)
      · rw [decide_eq_true e] at h; cases h
      · omega
    have hl45 : os.length ≤ 45 := by
      by_cases e : (45 : Int) < (os.length : Int)
      · rw [decide_eq_true e] at h; simp at h
      · omega
    refine k_skip ?_
    refine k_seq (k_region ?_)
    refine o_val (ex_loadA Try.isAgg26 Try.sizeOf26 rfl) ?_
    refine o_callB Try.call15 rfl (fun W hW => c15 t ws (c := c) hl15 (hws.ext hW.ext)) (fun v22 x22 o22 => ?_)
    obtain ⟨A5, c5, e22, h22⟩ := o22
    subst e22
    refine o_val (ex_move rfl) ?_
    refine o_callB Try.call16 rfl (fun W hW => c16 os (c := c2) (by omega) (hos.ext hW.ext)) (fun v24 x24 o24 => ?_)
    obtain ⟨A6, c6, e24, h24⟩ := o24
    subst e24
    refine o_alloc Try.zeroValue26 (fun b7 => ?_)
    refine o_store Try.sizeOf26 rfl rfl ?_
    refine o_val (ex_assign rfl) (o_nil ?_)
    refine k_seq (k_region ?_)
    refine o_val (ex_loadA Try.isAgg26 Try.sizeOf26 rfl) ?_
    refine o_val (ex_move rfl) ?_
    refine o_val (ex_call Try.call17 rfl (fun W hW => c17 t ws (A := A5) (c := c5) os (A2 := A6) (c2 := c6) (copy_at h22 hW (by repeat (first | exact List.sublist_append_left _ _ | exact List.Sublist.refl _ | exact (List.sublist_append_left _ _).trans (List.sublist_append_right _ _) | apply List.Sublist.cons))) (copy_at h24 hW (by repeat (first | exact List.sublist_append_left _ _ | exact List.Sublist.refl _ | exact (List.sublist_append_left _ _).trans (List.sublist_append_right _ _) | apply List.Sublist.cons))))) ?_
    refine o_val (ex_assign rfl) (o_nil ?_)
    refine k_seq (k_region ?_)
    refine o_val (ex_loadA Try.isAgg26 Try.sizeOf26 rfl) ?_
    refine o_val (ex_move rfl) ?_
    refine o_val (ex_indexArr 0 Try.runUnderlying28 Try.sizeOf3 rfl rfl (by decide) (by decide) rfl) ?_
    refine o_val (ex_load Try.isAgg3 rfl rfl) ?_
    refine o_val (ex_indexArr 1 Try.runUnderlying28 Try.sizeOf3 rfl rfl (by decide) (by decide) rfl) ?_
    refine o_val (ex_load Try.isAgg3 rfl rfl) ?_
    refine o_val (ex_call Try.call18 rfl (fun W hW => c18 t ws (A := A5) (c := c5) os (A2 := A6) (c2 := c6) a0 a1 (copy_at h22 hW (by repeat (first | exact List.sublist_append_left _ _ | exact List.Sublist.refl _ | exact (List.sublist_append_left _ _).trans (List.sublist_append_right _ _) | apply List.Sublist.cons))) (copy_at h24 hW (by repeat (first | exact List.sublist_append_left _ _ | exact List.Sublist.refl _ | exact (List.sublist_append_left _ _).trans (List.sublist_append_right _ _) | apply List.Sublist.cons))))) ?_
    refine o_val (ex_move rfl) ?_
    refine o_val (ex_extract rfl rfl) ?_
    refine o_val (ex_extract rfl rfl) ?_
    refine o_alloc Try.zeroValue23 (fun b10 => ?_)
    refine o_store Try.sizeOf23 rfl rfl ?_
    refine o_val (ex_assign rfl) (o_nil ?_)
    refine k_seq (k_region ?_)
    refine o_val (ex_loadA Try.isAgg26 Try.sizeOf26 rfl) ?_
    refine o_val (ex_move rfl) ?_
    refine o_val (ex_indexArr 0 Try.runUnderlying28 Try.sizeOf3 rfl rfl (by decide) (by decide) rfl) ?_
    refine o_val (ex_load Try.isAgg3 rfl rfl) ?_
    refine o_val (ex_indexArr 1 Try.runUnderlying28 Try.sizeOf3 rfl rfl (by decide) (by decide) rfl) ?_
    refine o_val (ex_load Try.isAgg3 rfl rfl) ?_
    refine o_val (ex_call Try.call19 rfl (fun W hW => c19 t ws (A := A5) (c := c5) os (A2 := A6) (c2 := c6) a0 a1 (copy_at h22 hW (by repeat (first | exact List.sublist_append_left _ _ | exact List.Sublist.refl _ | exact (List.sublist_append_left _ _).trans (List.sublist_append_right _ _) | apply List.Sublist.cons))) (copy_at h24 hW (by repeat (first | exact List.sublist_append_left _ _ | exact List.Sublist.refl _ | exact (List.sublist_append_left _ _).trans (List.sublist_append_right _ _) | apply List.Sublist.cons))))) ?_
    refine o_val (ex_move rfl) ?_
    refine o_val (ex_extract rfl rfl) ?_
    refine o_val (ex_extract rfl rfl) ?_
    refine o_alloc Try.zeroValue23 (fun b12 => ?_)
    refine o_store Try.sizeOf23 rfl rfl ?_
    refine o_val (ex_assign rfl) (o_nil ?_)
    refine k_seq (k_seq (k_region ?_))
    refine o_val (ex_loadA Try.isAgg26 Try.sizeOf26 rfl) ?_
    refine o_val (ex_loadA Try.isAgg26 Try.sizeOf26 rfl) ?_
    refine o_val (ex_move rfl) ?_
    refine o_val (ex_move rfl) ?_
    refine o_val (ex_call Try.call20 rfl (fun W hW => (by exact c20 t ws (A := A5) (c := c5) (A1 := A) (c1 := c) os (A2 := A6) (c2 := c6) (A3 := A2) (c3 := c2) (by omega) (by omega) (copy_at h22 hW (by repeat (first | exact List.sublist_append_left _ _ | exact List.Sublist.refl _ | exact (List.sublist_append_left _ _).trans (List.sublist_append_right _ _) | apply List.Sublist.cons))) (hws.ext hW.ext) (copy_at h24 hW (by repeat (first | exact List.sublist_append_left _ _ | exact List.Sublist.refl _ | exact (List.sublist_append_left _ _).trans (List.sublist_append_right _ _) | apply List.Sublist.cons))) (hos.ext hW.ext)))) ?_
    refine o_val (ex_not rfl) (o_nil ?_)
    refine k_cond rfl (fun h_1 => ?_) (fun h_1 => ?_)
    ·
      exact absurd h_1 (by decide)
    ·
      refine k_skip ?_
      refine k_seq (k_seq (k_region ?_))
      refine o_val (ex_loadA Try.isAgg26 Try.sizeOf26 rfl) ?_
      refine o_val (ex_move rfl) ?_
      refine o_val (ex_call Try.call21 rfl (fun W hW => c21 t ws os (hws.ext hW.ext) (hos.ext hW.ext))) ?_
      refine o_val (ex_assign rfl) (o_nil ?_)
      refine k_seq (k_region ?_)
      refine o_val (ex_move rfl) ?_
      refine o_val (ex_neq rfl rfl) (o_nil ?_)
      refine k_cond rfl (fun h_2 => ?_) (fun h_2 => ?_)
      ·
        have hn : ¬ chkE t ws os = 0 := fun e => by simp [e] at h_2
        have e1 : wearR t ws os a0 a1 = (⟨0, 0⟩, chkE t ws os) := if_pos hn
        have e2 : targR t ws os a0 a1 = (⟨0, 0⟩, chkE t ws os) := if_pos hn
        refine k_seq (k_region ?_)
        refine o_val (ex_move rfl) ?_
        refine o_val (ex_move rfl) ?_
        refine o_val (ex_eql rfl rfl) ?_
        refine o_val (ex_move rfl) ?_
        refine o_and 3 (c := decide ((wearR t ws os a0 a1).2 = (chkE t ws os))) (fun h => ?_) ?_
        · refine o_val_g (ex_move rfl) ?_
          refine o_val_g (ex_move rfl) ?_
          exact o_val_g (ex_eql rfl rfl) (o_nil (got rfl (.refl _)))
        refine o_val (ex_move rfl) ?_
        refine o_and 3 (c := decide ((targR t ws os a0 a1).2 = (chkE t ws os))) (fun h => ?_) ?_
        · refine o_val_g (ex_move rfl) ?_
          refine o_val_g (ex_move rfl) ?_
          exact o_val_g (ex_eql rfl rfl) (o_nil (got rfl (.refl _)))
        refine o_val (ex_move rfl) ?_
        refine o_and 3 (c := (decide ((wearR t ws os a0 a1).1.lo = 0) && decide ((wearR t ws os a0 a1).1.hi = 0))) (fun h => ?_) ?_
        · refine o_val_g (ex_loadA Try.isAgg23 Try.sizeOf23 rfl) ?_
          refine o_val_g (ex_build bf23 rfl) ?_
          exact o_val_g (ex_eql_23 rfl rfl) (o_nil (got rfl (.refl _)))
        refine o_val (ex_move rfl) ?_
        refine o_and 3 (c := (decide ((targR t ws os a0 a1).1.lo = 0) && decide ((targR t ws os a0 a1).1.hi = 0))) (fun h => ?_) ?_
        · refine o_val_g (ex_loadA Try.isAgg23 Try.sizeOf23 rfl) ?_
          refine o_val_g (ex_build bf23 rfl) ?_
          exact o_val_g (ex_eql_23 rfl rfl) (o_nil (got rfl (.refl _)))
        refine o_val (ex_move rfl) ?_
        refine o_and 1 (c := true) (fun h => ?_) ?_
        · exact o_val_g (ex_call Try.call14 rfl (fun W hW => c14)) (o_nil (got rfl (.refl _)))
        refine o_val (ex_assign rfl) (o_nil ?_)
        refine k_ret ?_
        exact fin1 rfl rfl fun W hW => ⟨by rw [e1, e2]; simp, hW.ext⟩
      ·
        have hok : chkE t ws os = 0 := by simpa using h_2
        have hS := openS_ok hok
        refine k_skip ?_
        refine k_seq (k_region ?_)
        refine o_val (ex_move rfl) ?_
        refine o_val (ex_call Try.call22 rfl (fun W hW => c22 os hl45 (chk_pc hok) (hos.ext hW.ext))) ?_
        refine o_val (ex_assign rfl) (o_nil ?_)
        refine k_seq (k_seq (k_region ?_))
        refine o_val (ex_move rfl) ?_
        refine o_val (ex_neq rfl rfl) (o_nil ?_)
        refine k_cond rfl (fun h_3 => ?_) (fun h_3 => ?_)
        ·
          exact absurd h_3 (by rw [hok]; decide)
        ·
          refine k_skip ?_
          refine k_seq (k_seq (k_region ?_))
          refine o_val (ex_indexArr 0 Try.runUnderlying28 Try.sizeOf3 rfl rfl (by decide) (by decide) rfl) ?_
          refine o_val (ex_load Try.isAgg3 rfl rfl) ?_
          refine o_val (ex_lss rfl rfl) ?_
          refine o_val (ex_move rfl) ?_
          refine o_or 5 (c := decide (a1 < a0)) (fun h => ?_) ?_
          · refine o_val_g (ex_indexArr 0 Try.runUnderlying28 Try.sizeOf3 rfl rfl (by decide) (by decide) rfl) ?_
            refine o_val_g (ex_load Try.isAgg3 rfl rfl) ?_
            refine o_val_g (ex_indexArr 1 Try.runUnderlying28 Try.sizeOf3 rfl rfl (by decide) (by decide) rfl) ?_
            refine o_val_g (ex_load Try.isAgg3 rfl rfl) ?_
            exact o_val_g (ex_gtr rfl rfl) (o_nil (got rfl (.refl _)))
          refine o_val (ex_move rfl) ?_
          refine o_or 4 (c := decide (allP os < a1)) (fun h => ?_) (o_nil ?_)
          · refine o_val_g (ex_indexArr 1 Try.runUnderlying28 Try.sizeOf3 rfl rfl (by decide) (by decide) rfl) ?_
            refine o_val_g (ex_load Try.isAgg3 rfl rfl) ?_
            refine o_val_g (ex_move rfl) ?_
            exact o_val_g (ex_gtr rfl rfl) (o_nil (got rfl (.refl _)))
          refine k_cond rfl (fun h_4 => ?_) (fun h_4 => ?_)
          ·
            obtain ⟨e1, e2⟩ := range_bad hok h_4
            refine k_seq (k_region ?_)
            refine o_val (ex_move rfl) ?_
            refine o_val (ex_eql rfl rfl) ?_
            refine o_val (ex_move rfl) ?_
            refine o_and 3 (c := decide ((targR t ws os a0 a1).2 = (wearR t ws os a0 a1).2)) (fun h => ?_) ?_
            · refine o_val_g (ex_move rfl) ?_
              refine o_val_g (ex_move rfl) ?_
              exact o_val_g (ex_eql rfl rfl) (o_nil (got rfl (.refl _)))
            refine o_val (ex_move rfl) ?_
            refine o_and 3 (c := (decide ((wearR t ws os a0 a1).1.lo = 0) && decide ((wearR t ws os a0 a1).1.hi = 0))) (fun h => ?_) ?_
            · refine o_val_g (ex_loadA Try.isAgg23 Try.sizeOf23 rfl) ?_
              refine o_val_g (ex_build bf23 rfl) ?_
              exact o_val_g (ex_eql_23 rfl rfl) (o_nil (got rfl (.refl _)))
            refine o_val (ex_move rfl) ?_
            refine o_and 3 (c := (decide ((targR t ws os a0 a1).1.lo = 0) && decide ((targR t ws os a0 a1).1.hi = 0))) (fun h => ?_) ?_
            · refine o_val_g (ex_loadA Try.isAgg23 Try.sizeOf23 rfl) ?_
              refine o_val_g (ex_build bf23 rfl) ?_
              exact o_val_g (ex_eql_23 rfl rfl) (o_nil (got rfl (.refl _)))
            refine o_val (ex_move rfl) ?_
            refine o_and 1 (c := true) (fun h => ?_) ?_
            · exact o_val_g (ex_call Try.call14 rfl (fun W hW => c14)) (o_nil (got rfl (.refl _)))
            refine o_val (ex_assign rfl) (o_nil ?_)
            refine k_ret ?_
            exact fin1 rfl rfl fun W hW => ⟨by rw [e1, e2]; simp, hW.ext⟩
          ·
            have e1 := wear_good hok h_4
            have hr := h_4
            simp only [Bool.or_eq_false_iff, decide_eq_false_iff_not] at hr
            refine k_skip ?_
            refine k_seq (k_seq (k_draw [true, true, true, true, true, true, true, true, true, true, true, true, true] 0 ?_ mixed (by kernel_rfl) rfl))
            refine d_val (i := 0) [] (ex_move rfl) ?_
            refine d_val (i := 1) [] (exv_eq (show _ = Value.bool false by rw [e1]; rfl) (ex_neq rfl rfl)) ?_
            refine d_val (i := 2) [] (ex_move rfl) ?_
            refine d_loadA_g (i := 3) Try.isAgg23 Try.sizeOf23 rfl ?_
            refine d_loadA_g (i := 4) Try.isAgg26 Try.sizeOf26 rfl ?_
            refine d_val_g (i := 5) [] (ex_move rfl) ?_
            refine d_val_g (i := 6) [] (ex_indexArr 0 Try.runUnderlying28 Try.sizeOf3 rfl rfl (by decide) (by decide) rfl) ?_
            refine d_load_g (i := 7) Try.isAgg3 rfl rfl ?_
            refine d_val_g (i := 8) [] (ex_indexArr 1 Try.runUnderlying28 Try.sizeOf3 rfl rfl (by decide) (by decide) rfl) ?_
            refine d_load_g (i := 9) Try.isAgg3 rfl rfl ?_
            refine d_val_g (i := 10) [] (ex_call Try.call23 rfl (fun W hW => c23 t ws os a0 (a1 - a0).toNat (by omega) hok (by omega) (by omega) (hws.ext hW.ext) (hos.ext hW.ext))) ?_
            refine d_val_g (i := 11) [] (ex_neq_23 rfl rfl) ?_
            refine d_val (i := 12) [] (ex_pick rfl rfl) ?_
            refine d_nil ?_
            refine r_nil ?_ (by kernel_rfl)
            refine k_cond rfl (fun h_5 => ?_) (fun h_5 => ?_)
            ·
              exact absurd h_5 (by rw [e1]; simp)
            ·
              refine k_skip ?_
              refine k_seq (k_seq (k_region ?_))
              refine o_val (ex_indexArr 0 Try.runUnderlying28 Try.sizeOf3 rfl rfl (by decide) (by decide) rfl) ?_
              refine o_val (ex_load Try.isAgg3 rfl rfl) ?_
              refine o_val (ex_indexArr 1 Try.runUnderlying28 Try.sizeOf3 rfl rfl (by decide) (by decide) rfl) ?_
              refine o_val (ex_load Try.isAgg3 rfl rfl) ?_
              refine o_val (ex_eql rfl rfl) (o_nil ?_)
              refine k_cond rfl (fun h_6 => ?_) (fun h_6 => ?_)
              ·
                have e2 := targ_eq hok (show a1 = a0 from (of_decide_eq_true h_6).symm)
                refine k_seq (k_region ?_)
                refine o_val (ex_move rfl) ?_
                refine o_val (ex_eql rfl rfl) ?_
                refine o_val (ex_move rfl) ?_
                refine o_and 3 (c := (decide ((targR t ws os a0 a1).1.lo = 0) && decide ((targR t ws os a0 a1).1.hi = 0))) (fun h => ?_) ?_
                · refine o_val_g (ex_loadA Try.isAgg23 Try.sizeOf23 rfl) ?_
                  refine o_val_g (ex_build bf23 rfl) ?_
                  exact o_val_g (ex_eql_23 rfl rfl) (o_nil (got rfl (.refl _)))
                refine o_val (ex_move rfl) ?_
                refine o_and 1 (c := true) (fun h => ?_) ?_
                · exact o_val_g (ex_call Try.call14 rfl (fun W hW => c14)) (o_nil (got rfl (.refl _)))
                refine o_val (ex_assign rfl) (o_nil ?_)
                refine k_ret ?_
                exact fin1 rfl rfl fun W hW => ⟨by rw [e2]; simp, hW.ext⟩
              ·
                have e2 := targ_good hok h_4 (of_decide_eq_false h_6)
                refine k_skip ?_
                refine k_seq (k_region ?_)
                refine o_val (ex_loadA Try.isAgg26 Try.sizeOf26 rfl) ?_
                refine o_val (ex_move rfl) ?_
                refine o_val (ex_indexArr 0 Try.runUnderlying28 Try.sizeOf3 rfl rfl (by decide) (by decide) rfl) ?_
                refine o_val (ex_load Try.isAgg3 rfl rfl) ?_
                refine o_val (ex_indexArr 1 Try.runUnderlying28 Try.sizeOf3 rfl rfl (by decide) (by decide) rfl) ?_
                refine o_val (ex_load Try.isAgg3 rfl rfl) ?_
                refine o_val (ex_call Try.call24 rfl (fun W hW => c24 t ws os a0 (a1 - a0).toNat (by omega) hok (by omega) (by omega) (hws.ext hW.ext) (hos.ext hW.ext))) ?_
                refine o_alloc Try.zeroValue23 (fun b16 => ?_)
                refine o_store Try.sizeOf23 rfl rfl (o_nil ?_)
                refine k_seq (k_seq (k_region ?_))
                refine o_val (ex_field (o := 0) 0 fa23_0 rfl rfl) ?_
                refine o_val (ex_load Try.isAgg3 rfl rfl) ?_
                refine o_val (ex_field (o := 0) 1 fa23_1 rfl rfl) ?_
                refine o_val (ex_load Try.isAgg3 rfl rfl) ?_
                refine o_val (ex_gtr rfl rfl) (o_nil ?_)
                refine k_cond rfl (fun h_7 => ?_) (fun h_7 => ?_)
                ·
                  rw [if_pos (of_decide_eq_true h_7)] at e2
                  refine k_seq (k_region ?_)
                  refine o_val (ex_move rfl) ?_
                  refine o_val (ex_eql rfl rfl) ?_
                  refine o_val (ex_move rfl) ?_
                  refine o_and 3 (c := (decide ((targR t ws os a0 a1).1.lo = 0) && decide ((targR t ws os a0 a1).1.hi = 0))) (fun h => ?_) ?_
                  · refine o_val_g (ex_loadA Try.isAgg23 Try.sizeOf23 rfl) ?_
                    refine o_val_g (ex_build bf23 rfl) ?_
                    exact o_val_g (ex_eql_23 rfl rfl) (o_nil (got rfl (.refl _)))
                  refine o_val (ex_move rfl) ?_
                  refine o_and 1 (c := true) (fun h => ?_) ?_
                  · exact o_val_g (ex_call Try.call14 rfl (fun W hW => c14)) (o_nil (got rfl (.refl _)))
                  refine o_val (ex_assign rfl) (o_nil ?_)
                  refine k_ret ?_
                  exact fin1 rfl rfl fun W hW => ⟨by rw [e2]; simp, hW.ext⟩
                ·
                  rw [if_neg (of_decide_eq_false h_7)] at e2
                  refine k_skip ?_
                  refine k_seq (k_region ?_)
                  refine o_val (ex_move rfl) ?_
                  refine o_val (ex_eql rfl rfl) ?_
                  refine o_val (ex_move rfl) ?_
                  refine o_and 3 (c := (decide ((targR t ws os a0 a1).1.lo = (turnS t.down (ptg (openS t ws os) a0 (a1 - a0).toNat)).lo) && decide ((targR t ws os a0 a1).1.hi = (turnS t.down (ptg (openS t ws os) a0 (a1 - a0).toNat)).hi))) (fun h => ?_) ?_
                  · refine o_val_g (ex_loadA Try.isAgg23 Try.sizeOf23 rfl) ?_
                    refine o_val_g (ex_loadA Try.isAgg23 Try.sizeOf23 rfl) ?_
                    exact o_val_g (ex_eql_23 rfl rfl) (o_nil (got rfl (.refl _)))
                  refine o_val (ex_move rfl) ?_
                  refine o_and 1 (c := true) (fun h => ?_) ?_
                  · exact o_val_g (ex_call Try.call14 rfl (fun W hW => c14)) (o_nil (got rfl (.refl _)))
                  refine o_val (ex_assign rfl) (o_nil ?_)
                  refine k_ret ?_
                  exact fin1 rfl rfl fun W hW => ⟨by rw [e2]; simp, hW.ext⟩

end Go.Proofs.Ytdflfnednaleeaa
