/- The walks of small functions: what each call hands back, and that nothing that was there has turned. Printed by a program of this session (wip/tools/gen.py). -/
import Derived.Test.YteecidddfcbabaaA16
namespace Go.Proofs.Yteecidddfcbabaa
open Go
attribute [local irreducible] ExV Ex
set_option synthInstance.maxSize 2000
set_option synthInstance.maxHeartbeats 200000
set_option maxRecDepth 20000

-- == f3 acme/acmelaw09.BoltTorques params [25, 28] results [4] in [('tmp', ['4'])] ntmps 165 nfree 0
theorem c3 (b : Bo) (f p q wl wh ul uh : Int) {w : World} : Calls Try.prog 3 [.agg [.int .i64 b.lead, .int .i64 b.thread, .int .i64 b.head, .int .i64 b.tl, .int .i64 b.th, .int .i64 b.hl, .int .i64 b.hh, .int .i64 b.sl, .int .i64 b.sh, .int .i64 b.pl, .int .i64 b.ph, .int .i64 b.yl, .int .i64 b.yh].toArray, .agg [.int .i64 f, .int .i64 p, .int .i64 q, .int .i64 wl, .int .i64 wh, .int .i64 ul, .int .i64 uh].toArray].toArray w fun e w' => e = .returned (.bool true) ∧ Ext [] w w' := by
  obtain ⟨E1, e1⟩ : ∃ x : Int, x = b.torE f p q := ⟨_, rfl⟩
  obtain ⟨V1, v1⟩ : ∃ x : Int, x = if b.torE f p q = 0 then upq (f * b.arm p q) 1000 else 0 := ⟨_, rfl⟩
  obtain ⟨E2, e2⟩ : ∃ x : Int, x = b.rightE wl wh ul uh := ⟨_, rfl⟩
  obtain ⟨rl, erl⟩ : ∃ x : Int, x = if b.rightE wl wh ul uh = 0 then b.rLo wl ul else 0 := ⟨_, rfl⟩
  obtain ⟨rh, erh⟩ : ∃ x : Int, x = if b.rightE wl wh ul uh = 0 then b.rHi wh uh else 0 := ⟨_, rfl⟩
  have k7 : ∀ W : World, Calls Try.prog 7 [.agg [.int .i64 b.lead, .int .i64 b.thread, .int .i64 b.head, .int .i64 b.tl, .int .i64 b.th, .int .i64 b.hl, .int .i64 b.hh, .int .i64 b.sl, .int .i64 b.sh, .int .i64 b.pl, .int .i64 b.ph, .int .i64 b.yl, .int .i64 b.yh].toArray, .int .i64 f, .agg [.int .i64 p, .int .i64 q].toArray].toArray W (fun e w' => e = .returned (.tuple #[.int .i64 V1, .int .i64 E1]) ∧ Ext [] W w') := fun W => by subst e1 v1; exact c7 b f p q
  have k8 : ∀ W : World, Calls Try.prog 8 [.agg [.int .i64 b.lead, .int .i64 b.thread, .int .i64 b.head, .int .i64 b.tl, .int .i64 b.th, .int .i64 b.hl, .int .i64 b.hh, .int .i64 b.sl, .int .i64 b.sh, .int .i64 b.pl, .int .i64 b.ph, .int .i64 b.yl, .int .i64 b.yh].toArray, .agg [.int .i64 wl, .int .i64 wh].toArray, .agg [.int .i64 ul, .int .i64 uh].toArray].toArray W (fun e w' => e = .returned (.tuple #[.agg [.int .i64 rl, .int .i64 rh].toArray, .int .i64 E2]) ∧ Ext [] W w') := fun W => by subst e2 erl erh; exact c8 b wl wh ul uh
  refine fn_start Try.func3 rfl (N := 165) rfl ?_
  refine k_seq (k_region ?_)
  refine o_box rfl (fun b2 => ?_)
  refine o_box rfl (fun b3 => ?_)
  refine o_val (ex_assign rfl) (o_nil ?_)
  refine k_seq (k_region ?_)
  refine o_val (ex_loadA Try.isAgg25 Try.sizeOf25 rfl) ?_
  refine o_val (ex_field (o := 0) 0 fa28_0 rfl rfl) ?_
  refine o_val (ex_load Try.isAgg3 rfl rfl) ?_
  refine o_val (ex_field (o := 0) 1 fa28_1 rfl rfl) ?_
  refine o_val (ex_loadA Try.isAgg26 Try.sizeOf26 rfl) ?_
  refine o_val (ex_call Try.call7 rfl (fun W hW => k7 W)) ?_
  refine o_val (ex_move rfl) ?_
  refine o_val (ex_extract rfl rfl) ?_
  refine o_val (ex_extract rfl rfl) ?_
  refine o_val (ex_assign rfl) ?_
  refine o_val (ex_assign rfl) (o_nil ?_)
  refine k_seq (k_region ?_)
  refine o_val (ex_loadA Try.isAgg25 Try.sizeOf25 rfl) ?_
  refine o_val (ex_field (o := 0) 3 fa28_2 rfl rfl) ?_
  refine o_val (ex_loadA Try.isAgg23 Try.sizeOf23 rfl) ?_
  refine o_val (ex_field (o := 0) 5 fa28_3 rfl rfl) ?_
  refine o_val (ex_loadA Try.isAgg23 Try.sizeOf23 rfl) ?_
  refine o_val (ex_call Try.call8 rfl (fun W hW => k8 W)) ?_
  refine o_val (ex_move rfl) ?_
  refine o_val (ex_extract rfl rfl) ?_
  refine o_val (ex_extract rfl rfl) ?_
  refine o_alloc Try.zeroValue23 (fun b7 => ?_)
  refine o_store Try.sizeOf23 rfl rfl ?_
  refine o_val (ex_assign rfl) (o_nil ?_)
  refine k_seq (k_seq (k_region ?_))
  refine o_val (ex_loadA Try.isAgg25 Try.sizeOf25 rfl) ?_
  refine o_val (ex_call Try.call9 rfl (fun W hW => c9 b)) ?_
  refine o_val (ex_not rfl) (o_nil ?_)
  refine k_cond rfl (fun h => ?_) (fun h => ?_)
  ·
    have hc : ¬ b.chk = true := notT h
    have o2 : openE b [] = 2 := by unfold openE; rw [if_neg hc]
    have t2 : b.torE f p q = 2 := by unfold Bo.torE; rw [o2]; rfl
    have r2 : b.rightE wl wh ul uh = 2 := by unfold Bo.rightE; rw [o2]; rfl
    rw [t2] at e1 v1
    rw [r2] at e2 erl erh
    simp at v1 erl erh
    subst e1 v1 e2 erl erh
    refine k_seq (k_region ?_)
    refine o_val (ex_move rfl) ?_
    refine o_val (ex_eql rfl rfl) ?_
    refine o_val (ex_move rfl) ?_
    refine o_and 3 (c := true) (fun h => ?_) ?_
    · refine o_val_g (ex_move rfl) ?_
      refine o_val_g (ex_move rfl) ?_
      exact o_val_g (ex_eql rfl rfl) (o_nil (got rfl (.refl _)))
    refine o_val (ex_move rfl) ?_
    refine o_and 2 (c := true) (fun h => ?_) ?_
    · refine o_val_g (ex_move rfl) ?_
      exact o_val_g (ex_eql rfl rfl) (o_nil (got rfl (.refl _)))
    refine o_val (ex_move rfl) ?_
    refine o_and 3 (c := true) (fun h => ?_) ?_
    · refine o_val_g (ex_loadA Try.isAgg23 Try.sizeOf23 rfl) ?_
      refine o_val_g (ex_build bf23 rfl) ?_
      exact o_val_g (ex_eql_23 rfl rfl) (o_nil (got rfl (.refl _)))
    refine o_val (ex_move rfl) ?_
    refine o_and 1 (c := true) (fun h => ?_) ?_
    · exact o_val_g (ex_call Try.call10 rfl (fun W hW => c10)) (o_nil (got rfl (.refl _)))
    refine o_val (ex_assign rfl) (o_nil ?_)
    refine k_ret ?_
    exact fin1 rfl rfl fun W hW => ⟨rfl, hW.ext⟩
  ·
    have hc : b.chk = true := by simpa using h
    have hb := b.chk_iff.1 hc
    have o0 : openE b [] = 0 := by simp [openE, hc]
    refine k_skip ?_
    refine k_seq (k_block ?_)
    refine k_seq (k_region ?_)
    refine o_val (ex_field (o := 0) 0 fa28_0 rfl rfl) ?_
    refine o_val (ex_load Try.isAgg3 rfl rfl) ?_
    refine o_val (ex_call Try.call11 rfl (fun W hW => c11 f 0 100000000)) ?_
    refine o_val (ex_not rfl) ?_
    refine o_val (ex_assign rfl) (o_nil ?_)
    refine k_cut (ι := Unit) (fun _ => [(2, .pointer (some ⟨b2, 0, none⟩)), (3, .pointer (some ⟨b3, 0, none⟩)), (7, .pointer (some ⟨b7, 0, none⟩)), (8, .int .i64 E2)]) (fun _ => [⟨b7, 23, [.int .i64 rl, .int .i64 rh], true⟩, ⟨b3, 28, [.int .i64 f, .int .i64 p, .int .i64 q, .int .i64 wl, .int .i64 wh, .int .i64 ul, .int .i64 uh], true⟩, ⟨b2, 25, [.int .i64 b.lead, .int .i64 b.thread, .int .i64 b.head, .int .i64 b.tl, .int .i64 b.th, .int .i64 b.hl, .int .i64 b.hh, .int .i64 b.sl, .int .i64 b.sh, .int .i64 b.pl, .int .i64 b.ph, .int .i64 b.yl, .int .i64 b.yh], true⟩]) (fun _ => True) ?_ (fun _ _ => ?_)
    · refine k_cond rfl (fun h_1 => ?_) (fun h_1 => ?_)
      ·
        have hf : ¬ wi 0 100000000 [f] = true := by rw [wi_one, decide_eq_true_eq]; intro hh; simp [hh.1, hh.2] at h_1
        have t2 : b.torE f p q = 3 := by unfold Bo.torE; rw [if_pos o0, if_neg hf]
        rw [t2] at e1 v1
        simp at v1
        subst e1 v1
        refine k_seq (k_region ?_)
        refine o_val (ex_move rfl) ?_
        refine o_val (ex_neq rfl rfl) ?_
        refine o_val (ex_move rfl) ?_
        refine o_or 2 (c := false) (fun h => ?_) (o_nil ?_)
        · refine o_val_g (ex_move rfl) ?_
          exact o_val_g (ex_neq rfl rfl) (o_nil (got rfl (.refl _)))
        refine k_cond rfl (fun h_2 => ?_) (fun h_2 => ?_)
        ·
          cases h_2
        ·
          refine k_skip ?_
          exact k_some () trivial (Sub.cons rfl (Sub.cons rfl (Sub.cons rfl (Sub.cons rfl (Sub.nil _))))) SubE.sub
      ·
        have hfb : 0 ≤ f ∧ f ≤ 100000000 := by simpa using h_1
        have hf : wi 0 100000000 [f] = true := by rw [wi_one, decide_eq_true_eq]; exact hfb
        refine k_seq (k_region ?_)
        refine o_val (ex_field (o := 0) 1 fa28_1 rfl rfl) ?_
        refine o_val (ex_indexArr 1 Try.runUnderlying26 Try.sizeOf3 rfl rfl (by decide) (by decide) rfl) ?_
        refine o_val (ex_load Try.isAgg3 rfl rfl) ?_
        refine o_val (ex_call Try.call11 rfl (fun W hW => c11 p 0 1000)) ?_
        refine o_val (ex_not rfl) ?_
        refine o_val (ex_move rfl) ?_
        refine o_or 5 (c := !(decide (0 ≤ q) && decide (q ≤ 1000))) (fun h => ?_) ?_
        · refine o_val_g (ex_field (o := 0) 1 fa28_1 rfl rfl) ?_
          refine o_val_g (ex_indexArr 2 Try.runUnderlying26 Try.sizeOf3 rfl rfl (by decide) (by decide) rfl) ?_
          refine o_val_g (ex_load Try.isAgg3 rfl rfl) ?_
          refine o_val_g (ex_call Try.call11 rfl (fun W hW => c11 q 0 1000)) ?_
          exact o_val_g (ex_not rfl) (o_nil (got rfl (.refl _)))
        refine o_val (ex_assign rfl) (o_nil ?_)
        refine k_cut (ι := Unit) (fun _ => [(2, .pointer (some ⟨b2, 0, none⟩)), (3, .pointer (some ⟨b3, 0, none⟩)), (7, .pointer (some ⟨b7, 0, none⟩)), (8, .int .i64 E2)]) (fun _ => [⟨b7, 23, [.int .i64 rl, .int .i64 rh], true⟩, ⟨b3, 28, [.int .i64 f, .int .i64 p, .int .i64 q, .int .i64 wl, .int .i64 wh, .int .i64 ul, .int .i64 uh], true⟩, ⟨b2, 25, [.int .i64 b.lead, .int .i64 b.thread, .int .i64 b.head, .int .i64 b.tl, .int .i64 b.th, .int .i64 b.hl, .int .i64 b.hh, .int .i64 b.sl, .int .i64 b.sh, .int .i64 b.pl, .int .i64 b.ph, .int .i64 b.yl, .int .i64 b.yh], true⟩]) (fun _ => True) ?_ (fun _ _ => ?_)
        · refine k_cond rfl (fun h_2 => ?_) (fun h_2 => ?_)
          ·
            have hpq : ¬ wi 0 1000 [p, q] = true := by rw [wi_two, decide_eq_true_eq]; intro hh; simp [hh.1, hh.2.1, hh.2.2.1, hh.2.2.2] at h_2
            have t2 : b.torE f p q = 2 := by unfold Bo.torE; rw [if_pos o0, if_pos hf, if_neg hpq]
            rw [t2] at e1 v1
            simp at v1
            subst e1 v1
            refine k_seq (k_region ?_)
            refine o_val (ex_move rfl) ?_
            refine o_val (ex_neq rfl rfl) ?_
            refine o_val (ex_move rfl) ?_
            refine o_or 2 (c := false) (fun h => ?_) (o_nil ?_)
            · refine o_val_g (ex_move rfl) ?_
              exact o_val_g (ex_neq rfl rfl) (o_nil (got rfl (.refl _)))
            refine k_cond rfl (fun h_3 => ?_) (fun h_3 => ?_)
            ·
              cases h_3
            ·
              refine k_skip ?_
              exact k_some () trivial (Sub.cons rfl (Sub.cons rfl (Sub.cons rfl (Sub.cons rfl (Sub.nil _))))) SubE.sub
          ·
            have hpb : (0 ≤ p ∧ p ≤ 1000) ∧ 0 ≤ q ∧ q ≤ 1000 := by simpa using h_2
            have hpq : wi 0 1000 [p, q] = true := by rw [wi_two, decide_eq_true_eq]; omega
            have t2 : b.torE f p q = 0 := by unfold Bo.torE; rw [if_pos o0, if_pos hf, if_pos hpq]
            rw [t2] at e1
            rw [if_pos t2] at v1
            subst e1
            have ha := hb.armB hpb.1 hpb.2
            have m1 := mulB (a := f) (A := 100000000) (b := b.arm p q) (B := 300000000) (by omega) (by omega) (by omega) (by omega)
            have us := upq_spec (n := f * b.arm p q) (d := 1000) (by omega)
            rw [← v1] at us
            have hv0 : 0 ≤ V1 := by omega
            refine k_seq (k_region ?_)
            refine o_val (ex_loadA Try.isAgg25 Try.sizeOf25 rfl) ?_
            refine o_val (ex_field (o := 0) 1 fa28_1 rfl rfl) ?_
            refine o_val (ex_loadA Try.isAgg26 Try.sizeOf26 rfl) ?_
            refine o_val (ex_call Try.call12 rfl (fun W hW => c12 b p q hb hpb.1 hpb.2)) ?_
            refine o_val (ex_assign rfl) (o_nil ?_)
            refine k_seq (k_region ?_)
            refine o_val (ex_move rfl) ?_
            refine o_val (ex_neq rfl rfl) ?_
            refine o_val (ex_move rfl) ?_
            refine o_or 2 (c := decide (V1 < 0)) (fun h => ?_) ?_
            · refine o_val_g (ex_move rfl) ?_
              exact o_val_g (ex_lss rfl rfl) (o_nil (got rfl (.refl _)))
            refine o_val (ex_move rfl) ?_
            refine o_or 7 (c := decide (1000 * V1 < f * b.arm p q)) (fun h => ?_) ?_
            · refine o_val_g (ex_move rfl) ?_
              refine o_val_g (ex_mul64 rfl rfl (by unfold I64; omega)) ?_
              refine o_val_g (ex_field (o := 0) 0 fa28_0 rfl rfl) ?_
              refine o_val_g (ex_load Try.isAgg3 rfl rfl) ?_
              refine o_val_g (ex_move rfl) ?_
              refine o_val_g (ex_mul64 rfl rfl (by unfold I64; omega)) ?_
              exact o_val_g (ex_lss rfl rfl) (o_nil (got rfl (.refl _)))
            refine o_val (exv_eq (show _ = Value.bool false by rw [decide_eq_false (show ¬ V1 < 0 by omega), decide_eq_false (show ¬ 1000 * V1 < f * b.arm p q by omega)]; rfl) (ex_move rfl)) ?_
            refine o_val_g (ex_move rfl) ?_
            refine o_val_g (ex_gtr rfl rfl) ?_
            refine o_val_g (ex_move rfl) ?_
            refine o_and_g 8 (c := decide (f * b.arm p q ≤ 1000 * (V1 - 1))) (fun h => ?_) ?_
            · refine o_val_g (ex_move rfl) ?_
              refine o_val_g (ex_sub64 rfl rfl (by unfold I64; omega)) ?_
              refine o_val_g (ex_mul64 rfl rfl (by unfold I64; omega)) ?_
              refine o_val_g (ex_field (o := 0) 0 fa28_0 rfl rfl) ?_
              refine o_val_g (ex_load Try.isAgg3 rfl rfl) ?_
              refine o_val_g (ex_move rfl) ?_
              refine o_val_g (ex_mul64 rfl rfl (by unfold I64; omega)) ?_
              exact o_val_g (ex_geq rfl rfl) (o_nil (got rfl (.refl _)))
            refine o_val (ex_pick rfl rfl) (o_nil ?_)
            refine k_cond rfl (fun h_3 => ?_) (fun h_3 => ?_)
            ·
              simp at h_3
              omega
            ·
              refine k_skip ?_
              exact k_some () trivial (Sub.cons rfl (Sub.cons rfl (Sub.cons rfl (Sub.cons rfl (Sub.nil _))))) SubE.sub
        exact k_some () trivial (Sub.cons rfl (Sub.cons rfl (Sub.cons rfl (Sub.cons rfl (Sub.nil _))))) SubE.sub
    refine k_seq (k_seq (k_region ?_))
    refine o_val (ex_field (o := 0) 3 fa28_2 rfl rfl) ?_
    refine o_val (ex_loadA Try.isAgg23 Try.sizeOf23 rfl) ?_
    refine o_val (ex_call Try.call13 rfl (fun W hW => c13 wl wh 0 100000000)) ?_
    refine o_val (ex_not rfl) ?_
    refine o_val (ex_move rfl) ?_
    refine o_or 4 (c := !isSp ul uh (-10000000000000) 10000000000000) (fun h => ?_) (o_nil ?_)
    · refine o_val_g (ex_field (o := 0) 5 fa28_3 rfl rfl) ?_
      refine o_val_g (ex_loadA Try.isAgg23 Try.sizeOf23 rfl) ?_
      refine o_val_g (ex_call Try.call13 rfl (fun W hW => c13 ul uh (-10000000000000) 10000000000000)) ?_
      exact o_val_g (ex_not rfl) (o_nil (got rfl (.refl _)))
    refine k_cond rfl (fun h_1 => ?_) (fun h_1 => ?_)
    ·
      have hns : ¬ (isSp wl wh 0 100000000 && isSp ul uh (-10000000000000) 10000000000000) = true := by intro hh; rw [Bool.and_eq_true] at hh; simp [hh.1, hh.2] at h_1
      have r2 : b.rightE wl wh ul uh = 3 := by unfold Bo.rightE; rw [if_pos o0, if_neg hns]
      rw [r2] at e2 erl erh
      simp at erl erh
      subst e2 erl erh
      refine k_seq (k_region ?_)
      refine o_val (ex_move rfl) ?_
      refine o_val (ex_eql rfl rfl) ?_
      refine o_val (ex_move rfl) ?_
      refine o_and 3 (c := true) (fun h => ?_) ?_
      · refine o_val_g (ex_loadA Try.isAgg23 Try.sizeOf23 rfl) ?_
        refine o_val_g (ex_build bf23 rfl) ?_
        exact o_val_g (ex_eql_23 rfl rfl) (o_nil (got rfl (.refl _)))
      refine o_val (ex_move rfl) ?_
      refine o_and 1 (c := true) (fun h => ?_) ?_
      · exact o_val_g (ex_call Try.call10 rfl (fun W hW => c10)) (o_nil (got rfl (.refl _)))
      refine o_val (ex_assign rfl) (o_nil ?_)
      refine k_ret ?_
      exact fin1 rfl rfl fun W hW => ⟨rfl, hW.ext⟩
    ·
      have hs2 : isSp wl wh 0 100000000 = true ∧ isSp ul uh (-10000000000000) 10000000000000 = true := by simpa using h_1
      have hss : (isSp wl wh 0 100000000 && isSp ul uh (-10000000000000) 10000000000000) = true := by rw [hs2.1, hs2.2]; rfl
      have r0 : 0 ≤ b.rLo wl ul := by unfold Bo.rLo; split <;> omega
      have r1 : b.rHi wh uh ≤ 10000000000000 := by unfold Bo.rHi; omega
      refine k_skip ?_
      refine k_seq (k_region ?_)
      refine o_val (ex_loadA Try.isAgg25 Try.sizeOf25 rfl) ?_
      refine o_val (ex_field (o := 0) 3 fa28_2 rfl rfl) ?_
      refine o_val (ex_loadA Try.isAgg23 Try.sizeOf23 rfl) ?_
      refine o_val (ex_field (o := 0) 5 fa28_3 rfl rfl) ?_
      refine o_val (ex_loadA Try.isAgg23 Try.sizeOf23 rfl) ?_
      refine o_val (ex_call Try.call14 rfl (fun W hW => c14 b wl wh ul uh hb hs2.1 hs2.2)) ?_
      refine o_alloc Try.zeroValue23 (fun b10 => ?_)
      refine o_store Try.sizeOf23 rfl rfl (o_nil ?_)
      refine k_seq (k_seq (k_region ?_))
      refine o_val (ex_field (o := 0) 0 fa23_0 rfl rfl) ?_
      refine o_val (ex_load Try.isAgg3 rfl rfl) ?_
      refine o_val (ex_field (o := 0) 1 fa23_1 rfl rfl) ?_
      refine o_val (ex_load Try.isAgg3 rfl rfl) ?_
      refine o_val (ex_gtr rfl rfl) (o_nil ?_)
      refine k_cond rfl (fun h_2 => ?_) (fun h_2 => ?_)
      ·
        have hlt : b.rHi wh uh < b.rLo wl ul := by have : max (-1) (b.rHi wh uh) < min 10000000000001 (b.rLo wl ul) := of_decide_eq_true h_2; omega
        have r2 : b.rightE wl wh ul uh = 9 := by unfold Bo.rightE; rw [if_pos o0, if_pos hss, if_pos hlt]
        rw [r2] at e2 erl erh
        simp at erl erh
        subst e2 erl erh
        refine k_seq (k_region ?_)
        refine o_val (ex_move rfl) ?_
        refine o_val (ex_eql rfl rfl) ?_
        refine o_val (ex_move rfl) ?_
        refine o_and 3 (c := true) (fun h => ?_) ?_
        · refine o_val_g (ex_loadA Try.isAgg23 Try.sizeOf23 rfl) ?_
          refine o_val_g (ex_build bf23 rfl) ?_
          exact o_val_g (ex_eql_23 rfl rfl) (o_nil (got rfl (.refl _)))
        refine o_val (ex_move rfl) ?_
        refine o_and 1 (c := true) (fun h => ?_) ?_
        · exact o_val_g (ex_call Try.call10 rfl (fun W hW => c10)) (o_nil (got rfl (.refl _)))
        refine o_val (ex_assign rfl) (o_nil ?_)
        refine k_ret ?_
        exact fin1 rfl rfl fun W hW => ⟨rfl, hW.ext⟩
      ·
        have hge : ¬ b.rHi wh uh < b.rLo wl ul := by have : ¬ max (-1) (b.rHi wh uh) < min 10000000000001 (b.rLo wl ul) := of_decide_eq_false h_2; omega
        have r2 : b.rightE wl wh ul uh = 0 := by unfold Bo.rightE; rw [if_pos o0, if_pos hss, if_neg hge]
        rw [r2] at e2
        rw [if_pos r2] at erl erh
        subst e2
        have q1 : rl = min 10000000000001 (b.rLo wl ul) := by omega
        have q2 : rh = max (-1) (b.rHi wh uh) := by omega
        refine k_skip ?_
        refine k_seq (k_region ?_)
        refine o_val (ex_move rfl) ?_
        refine o_val (ex_eql rfl rfl) ?_
        refine o_val (ex_move rfl) ?_
        refine o_and 3 (c := decide (rl = min 10000000000001 (b.rLo wl ul)) && decide (rh = max (-1) (b.rHi wh uh))) (fun h => ?_) ?_
        · refine o_val_g (ex_loadA Try.isAgg23 Try.sizeOf23 rfl) ?_
          refine o_val_g (ex_loadA Try.isAgg23 Try.sizeOf23 rfl) ?_
          exact o_val_g (ex_eql_23 rfl rfl) (o_nil (got rfl (.refl _)))
        refine o_val (ex_move rfl) ?_
        refine o_and 1 (c := true) (fun h => ?_) ?_
        · exact o_val_g (ex_call Try.call10 rfl (fun W hW => c10)) (o_nil (got rfl (.refl _)))
        refine o_val (ex_assign rfl) (o_nil ?_)
        refine k_ret ?_
        exact fin1 rfl rfl fun W hW => ⟨by rw [decide_eq_true q1, decide_eq_true q2]; rfl, hW.ext⟩

end Go.Proofs.Yteecidddfcbabaa
