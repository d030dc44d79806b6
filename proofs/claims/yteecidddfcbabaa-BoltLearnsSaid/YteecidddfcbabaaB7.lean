/- The walks of small functions: what each call hands back, and that nothing that was there has turned. Printed by a program of this session (wip/tools/gen.py). -/
import Derived.Test.YteecidddfcbabaaB6
import Derived.Test.YteecidddfcbabaaNest
namespace Go.Proofs.Yteecidddfcbabaa
open Go
attribute [local irreducible] ExV Ex
set_option synthInstance.maxSize 2000
set_option synthInstance.maxHeartbeats 200000
set_option maxRecDepth 20000

theorem lrn_ok {b : Bo} (hb : b.Ok) (o0 : openE b [] = 0) {tl th fl fh : Int} (hs : isSp tl th 0 10000000000000 = true) (hf : isSp fl fh 0 100000000 = true) :
    lrnE b tl th fl fh = (if (lsO (can b tl th fl fh) b (nT b)).ok = true then 0 else 9) ∧ (lrnL b tl th fl fh)[0]?.getD 0 = (lsO (can b tl th fl fh) b (nT b)).xl ∧ (lrnL b tl th fl fh)[(lrnL b tl th fl fh).length - 1]?.getD 0 = (lsO (can b tl th fl fh) b (nT b)).xh ∧
    lmin ((lrnL b tl th fl fh).map (hLo b (kLo fh tl b.armLo) (kHi fl th b.armHi))) = (lsO (can b tl th fl fh) b (nT b)).yl ∧ lmax ((lrnL b tl th fl fh).map (hHi b (kLo fh tl b.armLo) (kHi fl th b.armHi))) = (lsO (can b tl th fl fh) b (nT b)).yh := by
  have s1 := isSp_iff.1 hs
  have s2 := isSp_iff.1 hf
  have e := (lsO_eq hb s1.2.1 s1.1 s2.2.1 s2.1 (nT b) (Nat.le_refl _)).1
  rw [e]
  have hss : (isSp tl th 0 10000000000000 && isSp fl fh 0 100000000) = true := by rw [hs, hf]; rfl
  have en : tsL b (kLo fh tl b.armLo) (kHi fl th b.armHi) (nT b) = [] → lrnE b tl th fl fh = 9 := fun h => by
    unfold lrnE
    rw [if_pos o0, if_pos hss, h]
    split <;> rfl
  by_cases h0 : tsL b (kLo fh tl b.armLo) (kHi fl th b.armHi) (nT b) = []
  · have h9 := en h0
    have hl : lrnL b tl th fl fh = [] := by unfold lrnL; rw [h9]; rfl
    rw [h9, hl, h0]
    exact ⟨rfl, rfl, rfl, rfl, rfl⟩
  · have hA : kLo fh tl b.armLo ≤ kHi fl th b.armHi := Decidable.byContradiction fun h => h0 (tsL_none hb h _)
    have hn : ¬ (tsL b (kLo fh tl b.armLo) (kHi fl th b.armHi) (nT b)).length = 0 := fun h => h0 (List.length_eq_zero_iff.1 h)
    have h9 : lrnE b tl th fl fh = 0 := by unfold lrnE; rw [if_pos o0, if_pos hss, if_pos hA, if_neg hn]
    have hl : lrnL b tl th fl fh = tsL b (kLo fh tl b.armLo) (kHi fl th b.armHi) (nT b) := by unfold lrnL; rw [if_pos h9]
    rw [h9, hl]
    unfold sumL
    rw [if_neg h0]
    exact ⟨rfl, rfl, rfl, rfl, rfl⟩

-- == f5 acme/acmelaw09.BoltLearns params [25, 23, 23] results [4] in [('tmp', ['6'])] ntmps 90 nfree 0
theorem c5 (b : Bo) (tl th fl fh : Int) {w : World} : Calls Try.prog 5 [.agg [.int .i64 b.lead, .int .i64 b.thread, .int .i64 b.head, .int .i64 b.tl, .int .i64 b.th, .int .i64 b.hl, .int .i64 b.hh, .int .i64 b.sl, .int .i64 b.sh, .int .i64 b.pl, .int .i64 b.ph, .int .i64 b.yl, .int .i64 b.yh].toArray, .agg [.int .i64 tl, .int .i64 th].toArray, .agg [.int .i64 fl, .int .i64 fh].toArray].toArray w fun e w' => e = .returned (.bool true) ∧ Ext [] w w' := by
  obtain ⟨E, e0⟩ : ∃ x : Int, x = lrnE b tl th fl fh := ⟨_, rfl⟩
  obtain ⟨xl, exl⟩ : ∃ x : Int, x = (lrnL b tl th fl fh)[0]?.getD 0 := ⟨_, rfl⟩
  obtain ⟨xh, exh⟩ : ∃ x : Int, x = (lrnL b tl th fl fh)[(lrnL b tl th fl fh).length - 1]?.getD 0 := ⟨_, rfl⟩
  obtain ⟨yl, eyl⟩ : ∃ x : Int, x = lmin ((lrnL b tl th fl fh).map (hLo b (kLo fh tl b.armLo) (kHi fl th b.armHi))) := ⟨_, rfl⟩
  obtain ⟨yh, eyh⟩ : ∃ x : Int, x = lmax ((lrnL b tl th fl fh).map (hHi b (kLo fh tl b.armLo) (kHi fl th b.armHi))) := ⟨_, rfl⟩
  have k19 : ∀ W : World, Calls Try.prog 19 [.agg [.int .i64 b.lead, .int .i64 b.thread, .int .i64 b.head, .int .i64 b.tl, .int .i64 b.th, .int .i64 b.hl, .int .i64 b.hh, .int .i64 b.sl, .int .i64 b.sh, .int .i64 b.pl, .int .i64 b.ph, .int .i64 b.yl, .int .i64 b.yh].toArray, .agg [.int .i64 tl, .int .i64 th].toArray, .agg [.int .i64 fl, .int .i64 fh].toArray].toArray W (fun e w' => e = .returned (.tuple #[.agg [.int .i64 xl, .int .i64 xh].toArray, .agg [.int .i64 yl, .int .i64 yh].toArray, .int .i64 E]) ∧ Ext [] W w') := fun W => by subst e0 exl exh eyl eyh; exact c19 b tl th fl fh
  refine fn_start Try.func5 rfl (N := 90) rfl ?_
  refine k_seq (k_region ?_)
  refine o_box rfl (fun b3 => ?_)
  refine o_box rfl (fun b4 => ?_)
  refine o_box rfl (fun b5 => ?_)
  refine o_val (ex_assign rfl) (o_nil ?_)
  refine k_seq (k_seq (k_region ?_))
  refine o_val (ex_loadA Try.isAgg25 Try.sizeOf25 rfl) ?_
  refine o_val (ex_call Try.call9 rfl (fun W hW => c9 b)) ?_
  refine o_val (ex_move rfl) ?_
  refine o_andN 18 (c := decide (39 < b.th - b.tl) || decide (39 < b.hh - b.hl)) (fun h => ?_) (o_nil ?_)
  · refine o_val_g (ex_field (o := 0) 3 fa25_3 rfl rfl) ?_
    refine o_val_g (ex_field (o := 3) 4 fa23_1 rfl rfl) ?_
    refine o_val_g (ex_load Try.isAgg3 rfl rfl) ?_
    refine o_val_g (ex_field (o := 0) 3 fa25_3 rfl rfl) ?_
    refine o_val_g (ex_field (o := 3) 3 fa23_0 rfl rfl) ?_
    refine o_val_g (ex_load Try.isAgg3 rfl rfl) ?_
    refine o_val_g (ex_sub64 rfl rfl (by have hb := b.chk_iff.1 h; have := hb.tt; have := hb.tl0; have := hb.th1; unfold I64; omega)) ?_
    refine o_val_g (ex_gtr rfl rfl) ?_
    refine o_val_g (ex_move rfl) ?_
    refine o_or_g 8 (c := decide (39 < b.hh - b.hl)) (fun h => ?_) (o_nil (got rfl (.refl _)))
    · refine o_val_g (ex_field (o := 0) 5 fa25_4 rfl rfl) ?_
      refine o_val_g (ex_field (o := 5) 6 fa23_1 rfl rfl) ?_
      refine o_val_g (ex_load Try.isAgg3 rfl rfl) ?_
      refine o_val_g (ex_field (o := 0) 5 fa25_4 rfl rfl) ?_
      refine o_val_g (ex_field (o := 5) 5 fa23_0 rfl rfl) ?_
      refine o_val_g (ex_load Try.isAgg3 rfl rfl) ?_
      refine o_val_g (ex_sub64 rfl rfl (by rename_i hq; have hb := b.chk_iff.1 hq; have := hb.hh; have := hb.hl0; have := hb.hh1; unfold I64; omega)) ?_
      exact o_val_g (ex_gtr rfl rfl) (o_nil (got rfl (.refl _)))
  refine k_cond rfl (fun h => ?_) (fun h => ?_)
  ·
    refine k_seq (k_region ?_)
    refine o_val (ex_call Try.call10 rfl (fun W hW => c10)) ?_
    refine o_val (ex_assign rfl) (o_nil ?_)
    refine k_ret ?_
    exact fin1 rfl rfl fun W hW => ⟨rfl, hW.ext⟩
  ·
    refine k_skip ?_
    refine k_seq (k_region ?_)
    refine o_val (ex_loadA Try.isAgg25 Try.sizeOf25 rfl) ?_
    refine o_val (ex_loadA Try.isAgg23 Try.sizeOf23 rfl) ?_
    refine o_val (ex_loadA Try.isAgg23 Try.sizeOf23 rfl) ?_
    refine o_val (ex_call Try.call19 rfl (fun W hW => k19 W)) ?_
    refine o_val (ex_move rfl) ?_
    refine o_val (ex_extract rfl rfl) ?_
    refine o_val (ex_extract rfl rfl) ?_
    refine o_val (ex_extract rfl rfl) ?_
    refine o_alloc Try.zeroValue23 (fun b7 => ?_)
    refine o_alloc Try.zeroValue23 (fun b8 => ?_)
    refine o_store Try.sizeOf23 rfl rfl ?_
    refine o_store Try.sizeOf23 rfl rfl ?_
    refine o_val (ex_assign rfl) (o_nil ?_)
    refine k_seq (k_region ?_)
    refine o_val (ex_build bf23 rfl) ?_
    refine o_val (ex_build bf23 rfl) ?_
    refine o_alloc Try.zeroValue23 (fun b11 => ?_)
    refine o_alloc Try.zeroValue23 (fun b12 => ?_)
    refine o_val (ex_assign rfl) ?_
    refine o_store Try.sizeOf23 rfl rfl ?_
    refine o_store Try.sizeOf23 rfl rfl (o_nil ?_)
    refine k_seq (k_block ?_)
    refine k_seq (k_region ?_)
    refine o_val (ex_loadA Try.isAgg25 Try.sizeOf25 rfl) ?_
    refine o_val (ex_call Try.call9 rfl (fun W hW => c9 b)) ?_
    refine o_val (ex_not rfl) ?_
    refine o_val (ex_assign rfl) (o_nil ?_)
    refine k_cut (ι := Unit) (fun _ => [(7, .pointer (some ⟨b7, 0, none⟩)), (8, .pointer (some ⟨b8, 0, none⟩)), (9, .int .i64 E), (10, .int .i64 E), (11, .pointer (some ⟨b11, 0, none⟩)), (12, .pointer (some ⟨b12, 0, none⟩))]) (fun _ => [⟨b12, 23, [.int .i64 yl, .int .i64 yh], true⟩, ⟨b11, 23, [.int .i64 xl, .int .i64 xh], true⟩, ⟨b8, 23, [.int .i64 yl, .int .i64 yh], true⟩, ⟨b7, 23, [.int .i64 xl, .int .i64 xh], true⟩]) (fun _ => True) ?_ (fun _ _ => ?_)
    · refine k_cond rfl (fun h_1 => ?_) (fun h_1 => ?_)
      ·
        have hc : ¬ b.chk = true := notT h_1
        have o2 : openE b [] = 2 := by unfold openE; rw [if_neg hc]
        have t2 : lrnE b tl th fl fh = 2 := by unfold lrnE; rw [o2]; rfl
        rw [t2] at e0
        have hl : lrnL b tl th fl fh = [] := by unfold lrnL; rw [t2]; rfl
        rw [hl] at exl exh eyl eyh
        simp [lmin, lmax] at exl exh eyl eyh
        subst e0 exl exh eyl eyh
        refine k_region ?_
        refine o_val (ex_assign rfl) (o_nil ?_)
        exact k_some () trivial (Sub.cons rfl (Sub.cons rfl (Sub.cons rfl (Sub.cons rfl (Sub.cons rfl (Sub.cons rfl (Sub.nil _))))))) SubE.sub
      ·
        have hc : b.chk = true := by simpa using h_1
        have hb := b.chk_iff.1 hc
        have o0 : openE b [] = 0 := by simp [openE, hc]
        refine k_seq (k_region ?_)
        refine o_val (ex_loadA Try.isAgg23 Try.sizeOf23 rfl) ?_
        refine o_val (ex_call Try.call13 rfl (fun W hW => c13 tl th 0 10000000000000)) ?_
        refine o_val (ex_not rfl) ?_
        refine o_val (ex_move rfl) ?_
        refine o_or 3 (c := !isSp fl fh 0 100000000) (fun h => ?_) ?_
        · refine o_val_g (ex_loadA Try.isAgg23 Try.sizeOf23 rfl) ?_
          refine o_val_g (ex_call Try.call13 rfl (fun W hW => c13 fl fh 0 100000000)) ?_
          exact o_val_g (ex_not rfl) (o_nil (got rfl (.refl _)))
        refine o_val (ex_assign rfl) (o_nil ?_)
        refine k_cut (ι := Unit) (fun _ => [(7, .pointer (some ⟨b7, 0, none⟩)), (8, .pointer (some ⟨b8, 0, none⟩)), (9, .int .i64 E), (10, .int .i64 E), (11, .pointer (some ⟨b11, 0, none⟩)), (12, .pointer (some ⟨b12, 0, none⟩))]) (fun _ => [⟨b12, 23, [.int .i64 yl, .int .i64 yh], true⟩, ⟨b11, 23, [.int .i64 xl, .int .i64 xh], true⟩, ⟨b8, 23, [.int .i64 yl, .int .i64 yh], true⟩, ⟨b7, 23, [.int .i64 xl, .int .i64 xh], true⟩]) (fun _ => True) ?_ (fun _ _ => ?_)
        · refine k_cond rfl (fun h_2 => ?_) (fun h_2 => ?_)
          ·
            have hns : ¬ (isSp tl th 0 10000000000000 && isSp fl fh 0 100000000) = true := by intro hh; rw [Bool.and_eq_true] at hh; simp [hh.1, hh.2] at h_2
            have t2 : lrnE b tl th fl fh = 3 := by unfold lrnE; rw [if_pos o0, if_neg hns]
            rw [t2] at e0
            have hl : lrnL b tl th fl fh = [] := by unfold lrnL; rw [t2]; rfl
            rw [hl] at exl exh eyl eyh
            simp [lmin, lmax] at exl exh eyl eyh
            subst e0 exl exh eyl eyh
            refine k_region ?_
            refine o_val (ex_assign rfl) (o_nil ?_)
            exact k_some () trivial (Sub.cons rfl (Sub.cons rfl (Sub.cons rfl (Sub.cons rfl (Sub.cons rfl (Sub.cons rfl (Sub.nil _))))))) SubE.sub
          ·
            have hs2 : isSp tl th 0 10000000000000 = true ∧ isSp fl fh 0 100000000 = true := by simpa using h_2
            have sf := isSp_iff.1 hs2.2
            obtain ⟨q0, q1, q2, q3, q4⟩ := lrn_ok hb o0 hs2.1 hs2.2
            rw [← e0] at q0
            rw [← exl] at q1
            rw [← exh] at q2
            rw [← eyl] at q3
            rw [← eyh] at q4
            clear exl exh eyl eyh k19
            subst q1 q2 q3 q4
            refine k_seq (k_region ?_)
            refine o_val (ex_loadA Try.isAgg25 Try.sizeOf25 rfl) ?_
            refine o_val (ex_loadA Try.isAgg23 Try.sizeOf23 rfl) ?_
            refine o_val (ex_loadA Try.isAgg23 Try.sizeOf23 rfl) ?_
            refine o_val (ex_call Try.call20 rfl (fun W hW => c20 b tl th fl fh hb ⟨sf.2.1, sf.1, sf.2.2⟩)) ?_
            refine o_val (ex_move rfl) ?_
            refine o_val (ex_extract rfl rfl) ?_
            refine o_val (ex_extract rfl rfl) ?_
            refine o_val (ex_extract rfl rfl) ?_
            refine o_alloc Try.zeroValue23 (fun b13 => ?_)
            refine o_alloc Try.zeroValue23 (fun b14 => ?_)
            refine o_store Try.sizeOf23 rfl rfl ?_
            refine o_store Try.sizeOf23 rfl rfl ?_
            refine o_val (ex_assign rfl) (o_nil ?_)
            refine k_seq (k_draw [true, true, false, false] 2 ?_ mixed (by kernel_rfl) rfl)
            refine d_loadA (i := 0) Try.isAgg23 Try.sizeOf23 rfl ?_
            refine d_loadA (i := 1) Try.isAgg23 Try.sizeOf23 rfl ?_
            refine d_rest ?_
            refine d_rest ?_
            refine d_nil ?_
            refine r_one 2 (rs_store [0, 0] rfl Try.sizeOf23 rfl rfl ?_) (by kernel_rfl)
            refine r_one 3 (rs_store [1, 2, 0, 1, 2] rfl Try.sizeOf23 rfl rfl ?_) (by kernel_rfl)
            refine r_nil ?_ (by kernel_rfl)
            refine k_seq (k_region ?_)
            refine o_val (ex_move rfl) ?_
            refine o_val (ex_not rfl) (o_nil ?_)
            refine k_cut (ι := Unit) (fun _ => [(7, .pointer (some ⟨b7, 0, none⟩)), (8, .pointer (some ⟨b8, 0, none⟩)), (9, .int .i64 E), (10, .int .i64 E), (11, .pointer (some ⟨b11, 0, none⟩)), (12, .pointer (some ⟨b12, 0, none⟩))]) (fun _ => [⟨b12, 23, [.int .i64 ((lsO (can b tl th fl fh) b (nT b)).yl), .int .i64 ((lsO (can b tl th fl fh) b (nT b)).yh)], true⟩, ⟨b11, 23, [.int .i64 ((lsO (can b tl th fl fh) b (nT b)).xl), .int .i64 ((lsO (can b tl th fl fh) b (nT b)).xh)], true⟩, ⟨b8, 23, [.int .i64 ((lsO (can b tl th fl fh) b (nT b)).yl), .int .i64 ((lsO (can b tl th fl fh) b (nT b)).yh)], true⟩, ⟨b7, 23, [.int .i64 ((lsO (can b tl th fl fh) b (nT b)).xl), .int .i64 ((lsO (can b tl th fl fh) b (nT b)).xh)], true⟩]) (fun _ => True) ?_ (fun _ _ => ?_)
            · refine k_cond rfl (fun h_3 => ?_) (fun h_3 => ?_)
              ·
                have hE : E = 9 := by rw [q0, if_neg (notT h_3)]
                refine k_region ?_
                refine o_val (ex_assign rfl) (o_nil ?_)
                exact k_some () trivial (Sub.cons rfl (Sub.cons rfl (Sub.cons rfl (Sub.cons' rfl (by rw [hE]) (Sub.cons rfl (Sub.cons rfl (Sub.nil _))))))) SubE.sub
              ·
                have hE : E = 0 := by rw [q0, if_pos (show (lsO (can b tl th fl fh) b (nT b)).ok = true by simpa using h_3)]
                refine k_skip ?_
                exact k_some () trivial (Sub.cons rfl (Sub.cons rfl (Sub.cons rfl (Sub.cons' rfl (by rw [hE]) (Sub.cons rfl (Sub.cons rfl (Sub.nil _))))))) SubE.sub
            exact k_some () trivial (Sub.cons rfl (Sub.cons rfl (Sub.cons rfl (Sub.cons rfl (Sub.cons rfl (Sub.cons rfl (Sub.nil _))))))) SubE.sub
        exact k_some () trivial (Sub.cons rfl (Sub.cons rfl (Sub.cons rfl (Sub.cons rfl (Sub.cons rfl (Sub.cons rfl (Sub.nil _))))))) SubE.sub
    refine k_seq (k_region ?_)
    refine o_val (ex_move rfl) ?_
    refine o_val (ex_move rfl) ?_
    refine o_val (ex_eql rfl rfl) ?_
    refine o_val (ex_move rfl) ?_
    refine o_and 3 (c := decide (xl = xl) && decide (xh = xh)) (fun h => ?_) ?_
    · refine o_val_g (ex_loadA Try.isAgg23 Try.sizeOf23 rfl) ?_
      refine o_val_g (ex_loadA Try.isAgg23 Try.sizeOf23 rfl) ?_
      exact o_val_g (ex_eql_23 rfl rfl) (o_nil (got rfl (.refl _)))
    refine o_val (ex_move rfl) ?_
    refine o_and 3 (c := decide (yl = yl) && decide (yh = yh)) (fun h => ?_) ?_
    · refine o_val_g (ex_loadA Try.isAgg23 Try.sizeOf23 rfl) ?_
      refine o_val_g (ex_loadA Try.isAgg23 Try.sizeOf23 rfl) ?_
      exact o_val_g (ex_eql_23 rfl rfl) (o_nil (got rfl (.refl _)))
    refine o_val (ex_move rfl) ?_
    refine o_and 1 (c := true) (fun h => ?_) ?_
    · exact o_val_g (ex_call Try.call10 rfl (fun W hW => c10)) (o_nil (got rfl (.refl _)))
    refine o_val (ex_assign rfl) (o_nil ?_)
    refine k_ret ?_
    exact fin1 rfl rfl fun W hW => ⟨by simp, hW.ext⟩

end Go.Proofs.Yteecidddfcbabaa
