/- The walks of functions: what each call hands back, and that nothing that was there has turned. Printed by a program of this session (wip/tools/gen.py). -/
import Derived.Test.YtdflfnednaleeaaPl10
namespace Go.Proofs.Ytdflfnednaleeaa
open Go
attribute [local irreducible] ExV Ex
set_option synthInstance.maxSize 2000
set_option synthInstance.maxHeartbeats 200000
set_option maxRecDepth 20000

-- == f37 acme/acmeref07.Judge params [26, 27, 43] results [3] in [('tmp', ['6'])] ntmps 93 nfree 0
theorem c37 (t : To) (ws : List Sp) {A : Option Addr} {c : Nat} (os : List Od) {A2 : Option Addr} {c2 : Nat} (l : List Stg) {A5 : Option Addr} {c5 : Nat} {w : World} (hok : chkE t ws os = 0) (hl : l.length ≤ 1005) (hpl : isPlanB (openS t ws os) l = true) (hws : ElAt w A ws) (hos : ElAt w A2 os) (hrow : ElAt w A5 l) : Calls Try.prog 37 [.agg [.bool t.down, .int .i64 t.sl, .int .i64 t.sh, .int .i64 t.cl, .int .i64 t.ch, .slice A ws.length c].toArray, .slice A2 os.length c2, .slice A5 l.length c5].toArray w fun e w' => e = .returned (.int .i64 (judF (openS t ws os) l)) ∧ Ext [] w w' := by
  have hS := openS_ok hok
  have hall := hS.all
  rw [allP_open] at hall
  have hck := chkE_ok.1 hok
  have hpc := chk_pc hok
  refine fn_start Try.func37 rfl (N := 93) rfl ?_
  refine k_seq (k_region ?_)
  refine o_box rfl (fun b3 => ?_)
  refine o_val (ex_assign rfl) (o_nil ?_)
  refine k_seq (k_region ?_)
  refine o_val (ex_build bf23 rfl) ?_
  refine o_alloc Try.zeroValue23 (fun b8 => ?_)
  refine o_val (ex_assign rfl) ?_
  refine o_store Try.sizeOf23 rfl rfl (o_nil ?_)
  refine k_seq (k_seq (k_region ?_))
  refine o_val (ex_assign rfl) (o_nil ?_)
  refine k_block ?_
  refine k_loop (ι := Nat × Nat) (fun k => [(1, .slice A2 os.length c2), (2, .slice A5 l.length c5), (3, .pointer (some ⟨b3, 0, none⟩)), (7, .int .i64 ((k.2 : Int) - 1)), (8, .pointer (some ⟨b8, 0, none⟩)), (9, .int .i64 (k.1 : Int))]) (fun k => [⟨b8, 23, [.int .i64 (wornJ (openS t ws os) l k.1 k.2).lo, .int .i64 (wornJ (openS t ws os) l k.1 k.2).hi], true⟩, ⟨b3, 26, [.bool t.down, .int .i64 t.sl, .int .i64 t.sh, .int .i64 t.cl, .int .i64 t.ch, .slice A ws.length c], true⟩]) (fun k => (k.1 : Int) ≤ allP os ∧ JudI t (openS t ws os) l k.1 k.2) (fun k => (allP os).toNat - k.1) (0, 0) ⟨by show ((0 : Nat) : Int) ≤ allP os; omega, Nat.zero_le _, fun _ => rfl, fun h => absurd h (Nat.lt_irrefl 0)⟩ (Sub.cons rfl (Sub.cons rfl (Sub.cons rfl (Sub.cons' rfl (by first | rfl | (congr 1; omega)) (Sub.cons rfl (Sub.cons rfl (Sub.nil _))))))) (by dsimp only [wornJ]; exact SubE.sub) (fun k hk => ?_)
  obtain ⟨p, m⟩ := k
  obtain ⟨hpa, hI⟩ := hk
  dsimp only at hpa hI ⊢
  have hm1 := hI.1
  refine k_seq (k_seq (k_region ?_))
  refine o_val (ex_move rfl) ?_
  refine o_val (ex_move rfl) ?_
  refine o_val (ex_call Try.call22 rfl (fun W hW => c22 os (by omega) hpc (hos.ext hW.ext))) ?_
  refine o_val (ex_lss rfl rfl) (o_nil ?_)
  refine k_cond rfl (fun h => ?_) (fun h => ?_)
  ·
    have hlt : (p : Int) < allP os := of_decide_eq_true h
    refine k_skip ?_
    refine k_seq (k_block ?_)
    refine k_seq (k_seq (k_region ?_))
    refine o_val (ex_move rfl) ?_
    refine o_val (ex_add64 rfl rfl (by unfold I64; omega)) ?_
    refine o_val (ex_move rfl) ?_
    refine o_val (ex_len Try.runUnderlying43 rfl) ?_
    refine o_val (ex_lss rfl rfl) ?_
    refine o_val (ex_move rfl) ?_
    refine o_and 8 (c := decide ((l.getD m dS).fr = (p : Int))) (fun h => ?_) (o_nil ?_)
    · refine o_val_g (ex_move rfl) ?_
      refine o_val_g (ex_move rfl) ?_
      refine o_val_g (ex_add64 rfl rfl (by unfold I64; omega)) ?_
      have hml : m < l.length := by have : (m : Int) - 1 + 1 < (l.length : Int) := of_decide_eq_true h; omega
      obtain ⟨a, hA, hcm⟩ := hrow m hml
      subst hA
      refine o_val_g (ex_index_old Try.runUnderlying43 Try.sizeOf51 rfl rfl (by omega) (by omega)) ?_
      refine o_val_g (ex_field_old fa51_0 rfl) ?_
      refine o_val_g (ex_load_old (v := .int .i64 (l.getD m dS).fr) Try.isAgg3 rfl (by rw [show ((m : Int) - 1 + 1).toNat = m by omega, sGetD hml]; exact hcm 0 (.int .i64 l[m].fr) rfl) (by simp)) ?_
      refine o_val_g (ex_move rfl) ?_
      exact o_val_g (ex_eql rfl rfl) (o_nil (got rfl (.refl _)))
    refine k_cut (ι := Nat) (fun m2 => [(1, .slice A2 os.length c2), (2, .slice A5 l.length c5), (3, .pointer (some ⟨b3, 0, none⟩)), (7, .int .i64 ((m2 : Int) - 1)), (8, .pointer (some ⟨b8, 0, none⟩)), (9, .int .i64 (p : Int))]) (fun m2 => [⟨b8, 23, [.int .i64 (wornJ (openS t ws os) l p m2).lo, .int .i64 (wornJ (openS t ws os) l p m2).hi], true⟩, ⟨b3, 26, [.bool t.down, .int .i64 t.sl, .int .i64 t.sh, .int .i64 t.cl, .int .i64 t.ch, .slice A ws.length c], true⟩]) (fun m2 => JudM t (openS t ws os) l p m2) ?_ (fun m2 hM => ?_)
    · refine k_cond rfl (fun h_1 => ?_) (fun h_1 => ?_)
      ·
        rw [Bool.and_eq_true, decide_eq_true_eq, decide_eq_true_eq] at h_1
        have hw0 : wornJ (openS t ws os) l p (m + 1) = ⟨0, 0⟩ := by
          show pw _ _ ((p : Int) - (l.getD m dS).fr).toNat = _
          rw [h_1.2, show ((p : Int) - (p : Int)).toNat = 0 by omega]
          rfl
        refine k_region ?_
        refine o_val (ex_move rfl) ?_
        refine o_val (ex_add64 rfl rfl (by unfold I64; omega)) ?_
        refine o_val (ex_build bf23 rfl) ?_
        refine o_val (ex_assign rfl) ?_
        refine o_store Try.sizeOf23 rfl rfl (o_nil ?_)
        exact k_some (m + 1) (judI_new hok hpl hI (by omega) h_1.2) (Sub.cons rfl (Sub.cons rfl (Sub.cons rfl (Sub.cons' rfl (by first | rfl | (congr 1; omega)) (Sub.cons rfl (Sub.cons rfl (Sub.nil _))))))) (by rw [hw0]; exact SubE.sub)
      ·
        refine k_skip ?_
        exact k_some m (judI_old hpl hI hlt (fun hh => by rw [decide_eq_true (show (m : Int) - 1 + 1 < (l.length : Int) by omega), decide_eq_true hh.2] at h_1; cases h_1)) (Sub.cons rfl (Sub.cons rfl (Sub.cons rfl (Sub.cons' rfl (by first | rfl | (congr 1; omega)) (Sub.cons rfl (Sub.cons rfl (Sub.nil _))))))) SubE.sub
    refine k_seq (k_seq (k_region ?_))
    refine o_val (ex_move rfl) ?_
    refine o_val (ex_lss rfl rfl) (o_nil ?_)
    refine k_cond rfl (fun h_1 => ?_) (fun h_1 => ?_)
    ·
      have hm0 : m2 = 0 := by have : (m2 : Int) - 1 < 0 := of_decide_eq_true h_1; omega
      have hf := judM_stop hM hm0
      refine k_seq (k_region ?_)
      refine o_val (ex_move rfl) ?_
      refine o_val (ex_assign rfl) (o_nil ?_)
      refine k_ret ?_
      exact fin1 rfl rfl fun W hW => ⟨by rw [hf], hW.ext⟩
    ·
      have hm0 : 0 < m2 := by have : ¬ (m2 : Int) - 1 < 0 := of_decide_eq_false h_1; omega
      obtain ⟨q0, q1, q2, q3, q4⟩ := hM.2.2 hm0
      have hml2 := hM.1
      obtain ⟨a, hA, hcm⟩ := hrow (m2 - 1) (by omega)
      subst hA
      obtain ⟨_, hgt⟩ := isPlan_iff.1 hpl (m2 - 1) (by omega)
      have hfe : po os ((l.getD (m2 - 1) dS).fr + ((p - (l.getD (m2 - 1) dS).fr).toNat : Int)) = po os (p : Int) := by congr 1; omega
      have hpb := pw_bound hS (l.getD (m2 - 1) dS).fr (p - (l.getD (m2 - 1) dS).fr).toNat
      have hia := isPlan_at hpl (i := m2 - 1) (by omega)
      have hwj : wornJ (openS t ws os) l p m2 = pw (openS t ws os) (l.getD (m2 - 1) dS).fr (p - (l.getD (m2 - 1) dS).fr).toNat := by
        obtain ⟨m3, rfl⟩ : ∃ m3, m2 = m3 + 1 := ⟨m2 - 1, by omega⟩
        rfl
      have hmem := po_mem hpc (p := (p : Int)) (by omega) (by omega)
      have hoo := odE_ok.1 (hck.2.2.2 _ hmem)
      obtain ⟨aw, hAw, hcw⟩ := hws (po os (p : Int)).st.toNat (by omega)
      subst hAw
      have es : stp (openS t ws os).ws (po (openS t ws os).os (p : Int)) = ws[(po os (p : Int)).st.toNat]'(by omega) := by
        rw [stp_open]; unfold stp; simp [List.getD, List.getElem?_eq_getElem (show (po os (p : Int)).st.toNat < ws.length by omega)]
      have hsb := stp_bound hS (po (openS t ws os).os (p : Int))
      have hto2 := hck.1.s
      have hto3 := hck.1.c
      have hwb : -100000000000 ≤ (turnS t.down (pw (openS t ws os) (l.getD (m2 - 1) dS).fr (p - (l.getD (m2 - 1) dS).fr).toNat)).lo ∧ (turnS t.down (pw (openS t ws os) (l.getD (m2 - 1) dS).fr (p - (l.getD (m2 - 1) dS).fr).toNat)).lo ≤ 100000000000 ∧ -100000000000 ≤ (turnS t.down (pw (openS t ws os) (l.getD (m2 - 1) dS).fr (p - (l.getD (m2 - 1) dS).fr).toNat)).hi ∧ (turnS t.down (pw (openS t ws os) (l.getD (m2 - 1) dS).fr (p - (l.getD (m2 - 1) dS).fr).toNat)).hi ≤ 100000000000 := by unfold turnS; split <;> first | omega | (dsimp only; omega)
      have hwn : wornJ (openS t ws os) l (p + 1) m2 = ⟨(pw (openS t ws os) (l.getD (m2 - 1) dS).fr (p - (l.getD (m2 - 1) dS).fr).toNat).lo + (stp (openS t ws os).ws (po (openS t ws os).os (p : Int))).lo, (pw (openS t ws os) (l.getD (m2 - 1) dS).fr (p - (l.getD (m2 - 1) dS).fr).toNat).hi + (stp (openS t ws os).ws (po (openS t ws os).os (p : Int))).hi⟩ := by
        obtain ⟨m3, rfl⟩ : ∃ m3, m2 = m3 + 1 := ⟨m2 - 1, by omega⟩
        show pw _ _ (((p + 1 : Nat) : Int) - (l.getD m3 dS).fr).toNat = _
        simp only [Nat.add_sub_cancel] at *
        rw [show (((p + 1 : Nat) : Int) - (l.getD m3 dS).fr).toNat = (p - (l.getD m3 dS).fr).toNat + 1 by omega, pw_succ, show (l.getD m3 dS).fr + (((p : Int) - (l.getD m3 dS).fr).toNat : Int) = (p : Int) by omega]
      rw [hwj]
      refine k_skip ?_
      refine k_seq (k_region ?_)
      refine o_val (ex_move rfl) ?_
      refine o_val (ex_move rfl) ?_
      refine o_val (ex_call Try.call69 rfl (fun W hW => c69 os (p : Int) (by omega) hpc (by omega) (by omega) (hos.ext hW.ext))) ?_
      refine o_alloc Try.zeroValue88 (fun b10 => ?_)
      refine o_store Try.sizeOf88 rfl rfl (o_nil ?_)
      refine k_seq (k_region ?_)
      refine o_val (ex_loadA Try.isAgg26 Try.sizeOf26 rfl) ?_
      refine o_val (ex_loadA Try.isAgg23 Try.sizeOf23 rfl) ?_
      refine o_val (ex_call Try.call70 rfl (fun W hW => c70 t ws (pw (openS t ws os) (l.getD (m2 - 1) dS).fr (p - (l.getD (m2 - 1) dS).fr).toNat) hck.1 (by omega))) ?_
      refine o_alloc Try.zeroValue23 (fun b11 => ?_)
      refine o_store Try.sizeOf23 rfl rfl (o_nil ?_)
      rcases Classical.em ((l.getD (m2 - 1) dS).tg + (t.sl + (turnS t.down (pw (openS t ws os) (l.getD (m2 - 1) dS).fr (p - (l.getD (m2 - 1) dS).fr).toNat)).lo + t.cl) < (po os (p : Int)).zl) with hb1 | hb1
      ·
        refine k_seq (k_seq (k_draw [true, true, true, true, true, true, true, true, true, true, true, true, true, true, true, true, true, true, true, true, true, true, true, true, true, true] 0 ?_ mixed (by kernel_rfl) rfl))
        refine d_val (i := 0) [] (ex_move rfl) ?_
        refine d_val (i := 1) [] (ex_move rfl) ?_
        refine d_val (i := 2) [] (ex_index_old Try.runUnderlying43 Try.sizeOf51 rfl rfl (by omega) (by omega)) ?_
        refine d_val (i := 3) [] (ex_field_old fa51_1 rfl) ?_
        refine d_val (i := 4) [] (ex_load_old (v := .int .i64 (l.getD (m2 - 1) dS).tg) Try.isAgg3 rfl (by rw [show ((m2 : Int) - 1).toNat = m2 - 1 by omega, sGetD (show m2 - 1 < l.length by omega)]; exact hcm 1 (.int .i64 l[m2 - 1].tg) rfl) (by simp)) ?_
        refine d_val (i := 5) [] (ex_field (o := 0) 0 fa23_0 rfl rfl) ?_
        refine d_load (i := 6) Try.isAgg3 rfl rfl ?_
        refine d_val (i := 7) [] (ex_add64 rfl rfl (by unfold I64; omega)) ?_
        refine d_val (i := 8) [] (ex_field (o := 0) 2 fa88_2 rfl rfl) ?_
        refine d_val (i := 9) [] (ex_field (o := 2) 2 fa23_0 rfl rfl) ?_
        refine d_load (i := 10) Try.isAgg3 rfl rfl ?_
        refine d_val (i := 11) [] (exv_eq (show _ = Value.bool true by rw [decide_eq_true hb1]) (ex_lss rfl rfl)) ?_
        refine d_val (i := 12) [] (ex_move rfl) ?_
        refine d_skip (i := 13) ?_
        refine d_skip (i := 14) ?_
        refine d_skip (i := 15) ?_
        refine d_skip (i := 16) ?_
        refine d_skip (i := 17) ?_
        refine d_skip (i := 18) ?_
        refine d_skip (i := 19) ?_
        refine d_skip (i := 20) ?_
        refine d_skip (i := 21) ?_
        refine d_skip (i := 22) ?_
        refine d_skip (i := 23) ?_
        refine d_skip (i := 24) ?_
        refine d_val (i := 25) [] (ex_pick rfl rfl) ?_
        refine d_nil ?_
        refine r_nil ?_ (by kernel_rfl)
        refine k_cond rfl (fun h_2 => ?_) (fun h_2 => ?_)
        ·
          have hnf : ¬ fitP t (openS t ws os) (l.getD (m2 - 1) dS).fr (l.getD (m2 - 1) dS).tg ((p - (l.getD (m2 - 1) dS).fr).toNat + 1) := fun hq => by
            have := (fitP_succ.1 hq).2.1
            rw [hfe] at this
            omega
          have hf := judM_bad hok hpl hM hm0 hnf
          refine k_seq (k_region ?_)
          refine o_val (ex_move rfl) ?_
          refine o_val (ex_assign rfl) (o_nil ?_)
          refine k_ret ?_
          exact fin1 rfl rfl fun W hW => ⟨by rw [hf], hW.ext⟩
        ·
          cases h_2
      ·
        refine k_seq (k_seq (k_draw [true, true, true, true, true, true, true, true, true, true, true, true, true, true, true, true, true, true, true, true, true, true, true, true, true, true] 0 ?_ mixed (by kernel_rfl) rfl))
        refine d_val (i := 0) [] (ex_move rfl) ?_
        refine d_val (i := 1) [] (ex_move rfl) ?_
        refine d_val (i := 2) [] (ex_index_old Try.runUnderlying43 Try.sizeOf51 rfl rfl (by omega) (by omega)) ?_
        refine d_val (i := 3) [] (ex_field_old fa51_1 rfl) ?_
        refine d_val (i := 4) [] (ex_load_old (v := .int .i64 (l.getD (m2 - 1) dS).tg) Try.isAgg3 rfl (by rw [show ((m2 : Int) - 1).toNat = m2 - 1 by omega, sGetD (show m2 - 1 < l.length by omega)]; exact hcm 1 (.int .i64 l[m2 - 1].tg) rfl) (by simp)) ?_
        refine d_val (i := 5) [] (ex_field (o := 0) 0 fa23_0 rfl rfl) ?_
        refine d_load (i := 6) Try.isAgg3 rfl rfl ?_
        refine d_val (i := 7) [] (ex_add64 rfl rfl (by unfold I64; omega)) ?_
        refine d_val (i := 8) [] (ex_field (o := 0) 2 fa88_2 rfl rfl) ?_
        refine d_val (i := 9) [] (ex_field (o := 2) 2 fa23_0 rfl rfl) ?_
        refine d_load (i := 10) Try.isAgg3 rfl rfl ?_
        refine d_val (i := 11) [] (exv_eq (show _ = Value.bool false by rw [decide_eq_false hb1]) (ex_lss rfl rfl)) ?_
        refine d_val (i := 12) [] (ex_move rfl) ?_
        refine d_val_g (i := 13) [] (ex_move rfl) ?_
        refine d_val_g (i := 14) [] (ex_move rfl) ?_
        refine d_val_g (i := 15) [] (ex_index_old Try.runUnderlying43 Try.sizeOf51 rfl rfl (by omega) (by omega)) ?_
        refine d_val_g (i := 16) [] (ex_field_old fa51_1 rfl) ?_
        refine d_val_g (i := 17) [] (ex_load_old (v := .int .i64 (l.getD (m2 - 1) dS).tg) Try.isAgg3 rfl (by rw [show ((m2 : Int) - 1).toNat = m2 - 1 by omega, sGetD (show m2 - 1 < l.length by omega)]; exact hcm 1 (.int .i64 l[m2 - 1].tg) rfl) (by simp)) ?_
        refine d_val_g (i := 18) [] (ex_field (o := 0) 1 fa23_1 rfl rfl) ?_
        refine d_load_g (i := 19) Try.isAgg3 rfl rfl ?_
        refine d_val_g (i := 20) [] (ex_add64 rfl rfl (by unfold I64; omega)) ?_
        refine d_val_g (i := 21) [] (ex_field (o := 0) 2 fa88_2 rfl rfl) ?_
        refine d_val_g (i := 22) [] (ex_field (o := 2) 3 fa23_1 rfl rfl) ?_
        refine d_load_g (i := 23) Try.isAgg3 rfl rfl ?_
        refine d_val_g (i := 24) [] (ex_gtr rfl rfl) ?_
        refine d_val (i := 25) [] (ex_pick rfl rfl) ?_
        refine d_nil ?_
        refine r_nil ?_ (by kernel_rfl)
        refine k_cond rfl (fun h_2 => ?_) (fun h_2 => ?_)
        ·
          have hlt2 := of_decide_eq_true h_2
          have hnf : ¬ fitP t (openS t ws os) (l.getD (m2 - 1) dS).fr (l.getD (m2 - 1) dS).tg ((p - (l.getD (m2 - 1) dS).fr).toNat + 1) := fun hq => by
            have := (fitP_succ.1 hq).2.2
            rw [hfe] at this
            omega
          have hf := judM_bad hok hpl hM hm0 hnf
          refine k_seq (k_region ?_)
          refine o_val (ex_move rfl) ?_
          refine o_val (ex_assign rfl) (o_nil ?_)
          refine k_ret ?_
          exact fin1 rfl rfl fun W hW => ⟨by rw [hf], hW.ext⟩
        ·
          have hlt2 := of_decide_eq_false h_2
          have hI2 := judM_on hpl hM hm0 (fitP_succ.2 ⟨(hM.2.2 hm0).2.2.2.1, by rw [hfe]; omega, by rw [hfe]; omega⟩)
          refine k_skip ?_
          refine k_seq (k_region ?_)
          refine o_val (ex_field (o := 0) 5 fa26_3 rfl rfl) ?_
          refine o_val (ex_load Try.isAgg24 rfl rfl) ?_
          refine o_val (ex_field (o := 0) 1 fa88_1 rfl rfl) ?_
          refine o_val (ex_load Try.isAgg3 rfl rfl) ?_
          refine o_val (ex_index_old Try.runUnderlying24 Try.sizeOf23 rfl rfl (by omega) (by omega)) ?_
          refine o_val (ex_loadA_old Try.isAgg23 Try.sizeOf23 rfl rfl (vs := [.int .i64 (stp (openS t ws os).ws (po (openS t ws os).os (p : Int))).lo, .int .i64 (stp (openS t ws os).ws (po (openS t ws os).os (p : Int))).hi]) (by rw [es]; exact hcw) (by simp)) ?_
          refine o_alloc Try.zeroValue23 (fun b12 => ?_)
          refine o_store Try.sizeOf23 rfl rfl (o_nil ?_)
          refine k_region ?_
          refine o_val (ex_field (o := 0) 0 fa23_0 rfl rfl) ?_
          refine o_val (ex_load Try.isAgg3 rfl rfl) ?_
          refine o_val (ex_field (o := 0) 0 fa23_0 rfl rfl) ?_
          refine o_val (ex_load Try.isAgg3 rfl rfl) ?_
          refine o_val (ex_add64 rfl rfl (by unfold I64; omega)) ?_
          refine o_val (ex_field (o := 0) 1 fa23_1 rfl rfl) ?_
          refine o_val (ex_load Try.isAgg3 rfl rfl) ?_
          refine o_val (ex_field (o := 0) 1 fa23_1 rfl rfl) ?_
          refine o_val (ex_load Try.isAgg3 rfl rfl) ?_
          refine o_val (ex_add64 rfl rfl (by unfold I64; omega)) ?_
          refine o_val (ex_build bf23 rfl) ?_
          refine o_store Try.sizeOf23 rfl rfl (o_nil ?_)
          refine k_region ?_
          refine o_val (ex_move rfl) ?_
          refine o_val (ex_add64 rfl rfl (by unfold I64; omega)) ?_
          refine o_val (ex_assign rfl) (o_nil ?_)
          exact k_some (p + 1, m2) ⟨⟨by show ((p + 1 : Nat) : Int) ≤ allP os; omega, hI2⟩, (by show (allP os).toNat - (p + 1) < (allP os).toNat - p; omega)⟩ (Sub.cons rfl (Sub.cons rfl (Sub.cons rfl (Sub.cons' rfl (by first | rfl | (congr 1; omega)) (Sub.cons rfl (Sub.cons rfl (Sub.nil _))))))) (by rw [hwn]; exact SubE.sub)
  ·
    have hge : (p : Int) = allP os := by have : ¬ (p : Int) < allP os := of_decide_eq_false h; omega
    have hf := judI_end hok hpl hI hge
    refine k_exit rfl ?_
    refine k_seq (k_region ?_)
    refine o_val (ex_move rfl) ?_
    refine o_val (ex_call Try.call22 rfl (fun W hW => c22 os (by omega) hpc (hos.ext hW.ext))) ?_
    refine o_val (ex_assign rfl) (o_nil ?_)
    refine k_ret ?_
    exact fin1 rfl rfl fun W hW => ⟨by rw [hf], hW.ext⟩

end Go.Proofs.Ytdflfnednaleeaa
