/- The walks of functions: what each call hands back, and that nothing that was there has turned. Printed by a program of this session (wip/tools/gen.py). -/
import Derived.Test.YtdflfnednaleeaaD18
namespace Go.Proofs.Ytdflfnednaleeaa
open Go
attribute [local irreducible] ExV Ex
set_option synthInstance.maxSize 2000
set_option synthInstance.maxHeartbeats 200000
set_option maxRecDepth 20000

-- == f7 acme/acmelaw07.DieLearns params [26, 65] results [4] in [('tmp', ['4'])] ntmps 194 nfree 0
theorem c7 (t : To) (ws : List Sp) {A : Option Addr} {c : Nat} (z : Sp) (sh : Int) (wr : Sp) (st : Int) (zn : Sp) {w : World} (hws : ElAt w A ws) : Calls Try.prog 7 [.agg [.bool t.down, .int .i64 t.sl, .int .i64 t.sh, .int .i64 t.cl, .int .i64 t.ch, .slice A ws.length c].toArray, .agg [.int .i64 z.lo, .int .i64 z.hi, .int .i64 sh, .int .i64 wr.lo, .int .i64 wr.hi, .int .i64 st, .int .i64 zn.lo, .int .i64 zn.hi].toArray].toArray w fun e w' => e = .returned (.bool true) ∧ Ext [] w w' := by
  refine fn_start Try.func7 rfl (N := 194) rfl ?_
  refine k_seq (k_region ?_)
  refine o_box rfl (fun b2 => ?_)
  refine o_box rfl (fun b3 => ?_)
  refine o_val (ex_assign rfl) (o_nil ?_)
  refine k_seq (k_seq (k_region ?_))
  refine o_val (ex_field (o := 0) 5 fa26_3 rfl rfl) ?_
  refine o_val (ex_load Try.isAgg24 rfl rfl) ?_
  refine o_val (ex_len Try.runUnderlying24 rfl) ?_
  refine o_val (ex_gtr rfl rfl) (o_nil ?_)
  refine k_cond rfl (fun h => ?_) (fun h => ?_)
  ·
    refine k_seq (k_region ?_)
    refine o_val (ex_call Try.call14 rfl (fun W hW => c14)) ?_
    refine o_val (ex_assign rfl) (o_nil ?_)
    refine k_ret ?_
    exact fin1 rfl rfl fun W hW => ⟨rfl, hW.ext⟩
  ·
    have hl15 : ws.length ≤ 15 := by have : ¬ (15 : Int) < (ws.length : Int) := of_decide_eq_false h; omega
    refine k_skip ?_
    refine k_seq (k_region ?_)
    refine o_val (ex_loadA Try.isAgg26 Try.sizeOf26 rfl) ?_
    refine o_callB Try.call15 rfl (fun W hW => c15 t ws (c := c) hl15 (hws.ext hW.ext)) (fun v19 x19 o19 => ?_)
    obtain ⟨A5, c5, e19, h19⟩ := o19
    subst e19
    refine o_alloc Try.zeroValue26 (fun b5 => ?_)
    refine o_store Try.sizeOf26 rfl rfl (o_nil ?_)
    refine k_seq (k_region ?_)
    refine o_val (ex_loadA Try.isAgg26 Try.sizeOf26 rfl) ?_
    refine o_val (ex_field (o := 0) 0 fa65_0 rfl rfl) ?_
    refine o_val (ex_loadA Try.isAgg23 Try.sizeOf23 rfl) ?_
    refine o_val (ex_field (o := 0) 2 fa65_1 rfl rfl) ?_
    refine o_val (ex_load Try.isAgg3 rfl rfl) ?_
    refine o_val (ex_field (o := 0) 3 fa65_2 rfl rfl) ?_
    refine o_val (ex_loadA Try.isAgg23 Try.sizeOf23 rfl) ?_
    refine o_val (ex_call Try.call40 rfl (fun W hW => c40 t ws (A := A5) (c := c5) z sh wr (copy_at h19 hW (by repeat (first | exact List.sublist_append_left _ _ | exact List.Sublist.refl _ | apply List.Sublist.cons))))) ?_
    refine o_val (ex_move rfl) ?_
    refine o_val (ex_extract rfl rfl) ?_
    refine o_val (ex_extract rfl rfl) ?_
    refine o_alloc Try.zeroValue23 (fun b6 => ?_)
    refine o_store Try.sizeOf23 rfl rfl ?_
    refine o_val (ex_assign rfl) (o_nil ?_)
    refine k_seq (k_region ?_)
    refine o_val (ex_loadA Try.isAgg26 Try.sizeOf26 rfl) ?_
    refine o_val (ex_field (o := 0) 0 fa65_0 rfl rfl) ?_
    refine o_val (ex_loadA Try.isAgg23 Try.sizeOf23 rfl) ?_
    refine o_val (ex_field (o := 0) 5 fa65_3 rfl rfl) ?_
    refine o_val (ex_load Try.isAgg3 rfl rfl) ?_
    refine o_val (ex_field (o := 0) 6 fa65_4 rfl rfl) ?_
    refine o_val (ex_loadA Try.isAgg23 Try.sizeOf23 rfl) ?_
    refine o_val (ex_call Try.call41 rfl (fun W hW => c41 t ws (A := A5) (c := c5) z st zn (copy_at h19 hW (by repeat (first | exact List.sublist_append_left _ _ | exact List.Sublist.refl _ | apply List.Sublist.cons))))) ?_
    refine o_val (ex_move rfl) ?_
    refine o_val (ex_extract rfl rfl) ?_
    refine o_val (ex_extract rfl rfl) ?_
    refine o_val (ex_assign rfl) ?_
    refine o_val (ex_assign rfl) (o_nil ?_)
    refine k_seq (k_seq (k_region ?_))
    refine o_val (ex_loadA Try.isAgg26 Try.sizeOf26 rfl) ?_
    refine o_val (ex_loadA Try.isAgg26 Try.sizeOf26 rfl) ?_
    refine o_val (ex_call Try.call20 rfl (fun W hW => (by exact c20 t ws (A := A5) (c := c5) (A1 := A) (c1 := c) [] (A2 := none) (A3 := none) (c2 := 0) (c3 := 0) (by omega) (by simp) (copy_at h19 hW (by repeat (first | exact List.sublist_append_left _ _ | exact List.Sublist.refl _ | apply List.Sublist.cons))) (hws.ext hW.ext) (ElAt.nil _ _) (ElAt.nil _ _)))) ?_
    refine o_val (ex_not rfl) (o_nil ?_)
    refine k_cond rfl (fun h_1 => ?_) (fun h_1 => ?_)
    ·
      exact absurd h_1 (by decide)
    ·
      refine k_skip ?_
      refine k_seq (k_seq (k_region ?_))
      refine o_val (ex_loadA Try.isAgg26 Try.sizeOf26 rfl) ?_
      refine o_val (ex_call Try.call42 rfl (fun W hW => c42 t ws (hws.ext hW.ext))) ?_
      refine o_val (ex_assign rfl) (o_nil ?_)
      refine k_seq (k_region ?_)
      refine o_val (ex_move rfl) ?_
      refine o_val (ex_neq rfl rfl) (o_nil ?_)
      refine k_cond rfl (fun h_2 => ?_) (fun h_2 => ?_)
      ·
        have hn : ¬ toolE t ws = 0 := fun e => by simp [e] at h_2
        have hl1 : learnR t ws z sh wr = (⟨0, 0⟩, toolE t ws) := if_pos hn
        have hk1 : looksR t ws z st zn = (0, toolE t ws) := if_pos hn
        refine k_seq (k_region ?_)
        refine o_val (ex_move rfl) ?_
        refine o_val (ex_move rfl) ?_
        refine o_val (ex_eql rfl rfl) ?_
        refine o_val (ex_move rfl) ?_
        refine o_and 3 (c := decide ((looksR t ws z st zn).2 = toolE t ws)) (fun h => ?_) ?_
        · refine o_val_g (ex_move rfl) ?_
          refine o_val_g (ex_move rfl) ?_
          exact o_val_g (ex_eql rfl rfl) (o_nil (got rfl (.refl _)))
        refine o_val (ex_move rfl) ?_
        refine o_and 3 (c := (decide ((learnR t ws z sh wr).1.lo = 0) && decide ((learnR t ws z sh wr).1.hi = 0))) (fun h => ?_) ?_
        · refine o_val_g (ex_loadA Try.isAgg23 Try.sizeOf23 rfl) ?_
          refine o_val_g (ex_build bf23 rfl) ?_
          exact o_val_g (ex_eql_23 rfl rfl) (o_nil (got rfl (.refl _)))
        refine o_val (ex_move rfl) ?_
        refine o_and 2 (c := decide ((looksR t ws z st zn).1 = 0)) (fun h => ?_) ?_
        · refine o_val_g (ex_move rfl) ?_
          exact o_val_g (ex_eql rfl rfl) (o_nil (got rfl (.refl _)))
        refine o_val (ex_move rfl) ?_
        refine o_and 1 (c := true) (fun h => ?_) ?_
        · exact o_val_g (ex_call Try.call14 rfl (fun W hW => c14)) (o_nil (got rfl (.refl _)))
        refine o_val (ex_assign rfl) (o_nil ?_)
        refine k_ret ?_
        exact fin1 rfl rfl fun W hW => ⟨by rw [hl1, hk1]; simp, hW.ext⟩
      ·
        have hok : toolE t ws = 0 := by simpa using h_2
        have ok := toolE_ok.1 hok
        have oc := ok.c
        refine k_skip ?_
        refine k_seq (k_seq (k_region ?_))
        refine o_val (ex_field (o := 0) 0 fa65_0 rfl rfl) ?_
        refine o_val (ex_loadA Try.isAgg23 Try.sizeOf23 rfl) ?_
        refine o_val (ex_call Try.call43 rfl (fun W hW => c43 z.lo z.hi)) ?_
        refine o_val (ex_not rfl) ?_
        refine o_val (ex_move rfl) ?_
        refine o_or 7 (c := !isSp sh sh (-20000000000) 20000000000) (fun h => ?_) ?_
        · refine o_val_g (ex_field (o := 0) 2 fa65_1 rfl rfl) ?_
          refine o_val_g (ex_load Try.isAgg3 rfl rfl) ?_
          refine o_val_g (ex_field (o := 0) 2 fa65_1 rfl rfl) ?_
          refine o_val_g (ex_load Try.isAgg3 rfl rfl) ?_
          refine o_val_g (ex_call Try.call44 rfl (fun W hW => c44 sh sh)) ?_
          refine o_val_g (ex_call Try.call43 rfl (fun W hW => c43 sh sh)) ?_
          exact o_val_g (ex_not rfl) (o_nil (got rfl (.refl _)))
        refine o_val (ex_move rfl) ?_
        refine o_or 4 (c := !isSp wr.lo wr.hi (-1000000) 1000000) (fun h => ?_) (o_nil ?_)
        · refine o_val_g (ex_field (o := 0) 3 fa65_2 rfl rfl) ?_
          refine o_val_g (ex_loadA Try.isAgg23 Try.sizeOf23 rfl) ?_
          refine o_val_g (ex_call Try.call45 rfl (fun W hW => c45 wr.lo wr.hi (-1000000) 1000000)) ?_
          exact o_val_g (ex_not rfl) (o_nil (got rfl (.refl _)))
        refine k_cut (ι := Unit) (fun _ => [(2, .pointer (some ⟨b2, 0, none⟩)), (3, .pointer (some ⟨b3, 0, none⟩)), (8, .int .i64 (looksR t ws z st zn).1), (9, .int .i64 (looksR t ws z st zn).2)]) (fun _ => [⟨b3, 65, [.int .i64 z.lo, .int .i64 z.hi, .int .i64 sh, .int .i64 wr.lo, .int .i64 wr.hi, .int .i64 st, .int .i64 zn.lo, .int .i64 zn.hi], true⟩, ⟨b2, 26, [.bool t.down, .int .i64 t.sl, .int .i64 t.sh, .int .i64 t.cl, .int .i64 t.ch, .slice A ws.length c], true⟩]) (fun _ => True) ?_ (fun _ _ => ?_)
        · refine k_cond rfl (fun h_3 => ?_) (fun h_3 => ?_)
          ·
            have hl2 : learnR t ws z sh wr = (⟨0, 0⟩, 2) := (if_neg (by simp [hok])).trans (if_pos h_3)
            refine k_seq (k_region ?_)
            refine o_val (ex_move rfl) ?_
            refine o_val (ex_neq rfl rfl) ?_
            refine o_val (ex_move rfl) ?_
            refine o_or 3 (c := !(decide ((learnR t ws z sh wr).1.lo = 0) && decide ((learnR t ws z sh wr).1.hi = 0))) (fun h => ?_) (o_nil ?_)
            · refine o_val_g (ex_loadA Try.isAgg23 Try.sizeOf23 rfl) ?_
              refine o_val_g (ex_build bf23 rfl) ?_
              exact o_val_g (ex_neq_23 rfl rfl) (o_nil (got rfl (.refl _)))
            refine k_cond rfl (fun h_4 => ?_) (fun h_4 => ?_)
            ·
              rw [hl2] at h_4
              exact absurd h_4 (by decide)
            ·
              refine k_skip ?_
              exact k_some () trivial (Sub.cons rfl (Sub.cons rfl (Sub.cons rfl (Sub.cons rfl (Sub.nil _))))) (by show List.Sublist ([⟨b3, 65, [.int .i64 z.lo, .int .i64 z.hi, .int .i64 sh, .int .i64 wr.lo, .int .i64 wr.hi, .int .i64 st, .int .i64 zn.lo, .int .i64 zn.hi], true⟩, ⟨b2, 26, [.bool t.down, .int .i64 t.sl, .int .i64 t.sh, .int .i64 t.cl, .int .i64 t.ch, .slice A ws.length c], true⟩] : Hp) _; exact SubE.sub)
          ·
            have hb : ¬ ((!isSp z.lo z.hi (-20000000000) 20000000000 || !isSp sh sh (-20000000000) 20000000000) || !isSp wr.lo wr.hi (-1000000) 1000000) = true := by rw [h_3]; decide
            have h2 := h_3
            simp only [Bool.or_eq_false_iff, Bool.not_eq_false'] at h2
            obtain ⟨⟨z1, z2⟩, z3⟩ := h2
            have z1 := isSp_iff.1 z1
            have z2 := isSp_iff.1 z2
            have z3 := isSp_iff.1 z3
            have el : learnR t ws z sh wr = if min z.hi (sh - t.cl - wr.lo) < max z.lo (sh - t.ch - wr.hi) then (⟨0, 0⟩, 9) else (⟨max z.lo (sh - t.ch - wr.hi), min z.hi (sh - t.cl - wr.lo)⟩, 0) := by
              rw [show sh - t.cl - wr.lo = sh + (-wr.lo + -t.cl) by omega, show sh - t.ch - wr.hi = sh + (-wr.hi + -t.ch) by omega]
              exact (if_neg (by simp [hok])).trans (if_neg hb)
            refine k_seq (k_region ?_)
            refine o_val (ex_field (o := 0) 0 fa65_0 rfl rfl) ?_
            refine o_val (ex_field (o := 0) 0 fa23_0 rfl rfl) ?_
            refine o_val (ex_load Try.isAgg3 rfl rfl) ?_
            refine o_val (ex_field (o := 0) 2 fa65_1 rfl rfl) ?_
            refine o_val (ex_load Try.isAgg3 rfl rfl) ?_
            refine o_val (ex_field (o := 0) 3 fa26_2 rfl rfl) ?_
            refine o_val (ex_field (o := 3) 4 fa23_1 rfl rfl) ?_
            refine o_val (ex_load Try.isAgg3 rfl rfl) ?_
            refine o_val (ex_sub64 rfl rfl (by unfold I64; omega)) ?_
            refine o_val (ex_field (o := 0) 3 fa65_2 rfl rfl) ?_
            refine o_val (ex_field (o := 3) 4 fa23_1 rfl rfl) ?_
            refine o_val (ex_load Try.isAgg3 rfl rfl) ?_
            refine o_val (ex_sub64 rfl rfl (by unfold I64; omega)) ?_
            refine o_val (ex_max rfl rfl) ?_
            refine o_val (ex_field (o := 0) 0 fa65_0 rfl rfl) ?_
            refine o_val (ex_field (o := 0) 1 fa23_1 rfl rfl) ?_
            refine o_val (ex_load Try.isAgg3 rfl rfl) ?_
            refine o_val (ex_field (o := 0) 2 fa65_1 rfl rfl) ?_
            refine o_val (ex_load Try.isAgg3 rfl rfl) ?_
            refine o_val (ex_field (o := 0) 3 fa26_2 rfl rfl) ?_
            refine o_val (ex_field (o := 3) 3 fa23_0 rfl rfl) ?_
            refine o_val (ex_load Try.isAgg3 rfl rfl) ?_
            refine o_val (ex_sub64 rfl rfl (by unfold I64; omega)) ?_
            refine o_val (ex_field (o := 0) 3 fa65_2 rfl rfl) ?_
            refine o_val (ex_field (o := 3) 3 fa23_0 rfl rfl) ?_
            refine o_val (ex_load Try.isAgg3 rfl rfl) ?_
            refine o_val (ex_sub64 rfl rfl (by unfold I64; omega)) ?_
            refine o_val (ex_min rfl rfl) ?_
            refine o_val (ex_call Try.call44 rfl (fun W hW => c44 _ _)) ?_
            refine o_alloc Try.zeroValue23 (fun b11 => ?_)
            refine o_store Try.sizeOf23 rfl rfl (o_nil ?_)
            refine k_seq (k_region ?_)
            refine o_val (ex_assign rfl) (o_nil ?_)
            refine k_seq (k_seq (k_region ?_))
            refine o_val (ex_field (o := 0) 0 fa23_0 rfl rfl) ?_
            refine o_val (ex_load Try.isAgg3 rfl rfl) ?_
            refine o_val (ex_field (o := 0) 1 fa23_1 rfl rfl) ?_
            refine o_val (ex_load Try.isAgg3 rfl rfl) ?_
            refine o_val (ex_gtr rfl rfl) (o_nil ?_)
            refine k_cut (ι := Unit) (fun _ => [(2, .pointer (some ⟨b2, 0, none⟩)), (3, .pointer (some ⟨b3, 0, none⟩)), (6, .pointer (some ⟨b6, 0, none⟩)), (7, .int .i64 (learnR t ws z sh wr).2), (8, .int .i64 (looksR t ws z st zn).1), (9, .int .i64 (looksR t ws z st zn).2), (11, .pointer (some ⟨b11, 0, none⟩)), (12, .int .i64 (learnR t ws z sh wr).2)]) (fun _ => (⟨b11, 23, [.int .i64 (learnR t ws z sh wr).1.lo, .int .i64 (learnR t ws z sh wr).1.hi], true⟩ :: ⟨b6, 23, [.int .i64 (learnR t ws z sh wr).1.lo, .int .i64 (learnR t ws z sh wr).1.hi], true⟩ :: ([⟨b3, 65, [.int .i64 z.lo, .int .i64 z.hi, .int .i64 sh, .int .i64 wr.lo, .int .i64 wr.hi, .int .i64 st, .int .i64 zn.lo, .int .i64 zn.hi], true⟩, ⟨b2, 26, [.bool t.down, .int .i64 t.sl, .int .i64 t.sh, .int .i64 t.cl, .int .i64 t.ch, .slice A ws.length c], true⟩] : Hp))) (fun _ => True) ?_ (fun _ _ => ?_)
            · refine k_cond rfl (fun h_4 => ?_) (fun h_4 => ?_)
              ·
                have hl3 : learnR t ws z sh wr = (⟨0, 0⟩, 9) := el.trans (if_pos (of_decide_eq_true h_4))
                refine k_region ?_
                refine o_val (ex_build bf23 rfl) ?_
                refine o_store Try.sizeOf23 rfl rfl ?_
                refine o_val (ex_assign rfl) (o_nil ?_)
                exact k_some () trivial (Sub.cons rfl (Sub.cons rfl (Sub.cons rfl (Sub.cons rfl (Sub.cons rfl (Sub.cons rfl (Sub.cons rfl (Sub.cons' rfl (by rw [hl3]) (Sub.nil _))))))))) (by show List.Sublist (⟨b11, 23, [.int .i64 (learnR t ws z sh wr).1.lo, .int .i64 (learnR t ws z sh wr).1.hi], true⟩ :: ⟨b6, 23, [.int .i64 (learnR t ws z sh wr).1.lo, .int .i64 (learnR t ws z sh wr).1.hi], true⟩ :: ([⟨b3, 65, [.int .i64 z.lo, .int .i64 z.hi, .int .i64 sh, .int .i64 wr.lo, .int .i64 wr.hi, .int .i64 st, .int .i64 zn.lo, .int .i64 zn.hi], true⟩, ⟨b2, 26, [.bool t.down, .int .i64 t.sl, .int .i64 t.sh, .int .i64 t.cl, .int .i64 t.ch, .slice A ws.length c], true⟩] : Hp)) _; rw [hl3]; exact SubE.sub)
              ·
                have hl3 : learnR t ws z sh wr = (⟨max z.lo (sh - t.ch - wr.hi), min z.hi (sh - t.cl - wr.lo)⟩, 0) := el.trans (if_neg (of_decide_eq_false h_4))
                refine k_skip ?_
                exact k_some () trivial (Sub.cons rfl (Sub.cons rfl (Sub.cons rfl (Sub.cons rfl (Sub.cons rfl (Sub.cons rfl (Sub.cons rfl (Sub.cons' rfl (by rw [hl3]) (Sub.nil _))))))))) (by show List.Sublist (⟨b11, 23, [.int .i64 (learnR t ws z sh wr).1.lo, .int .i64 (learnR t ws z sh wr).1.hi], true⟩ :: ⟨b6, 23, [.int .i64 (learnR t ws z sh wr).1.lo, .int .i64 (learnR t ws z sh wr).1.hi], true⟩ :: ([⟨b3, 65, [.int .i64 z.lo, .int .i64 z.hi, .int .i64 sh, .int .i64 wr.lo, .int .i64 wr.hi, .int .i64 st, .int .i64 zn.lo, .int .i64 zn.hi], true⟩, ⟨b2, 26, [.bool t.down, .int .i64 t.sl, .int .i64 t.sh, .int .i64 t.cl, .int .i64 t.ch, .slice A ws.length c], true⟩] : Hp)) _; rw [hl3]; exact SubE.sub)
            refine k_seq (k_region ?_)
            refine o_val (ex_move rfl) ?_
            refine o_val (ex_move rfl) ?_
            refine o_val (ex_neq rfl rfl) ?_
            refine o_val (ex_move rfl) ?_
            refine o_or 3 (c := !(decide ((learnR t ws z sh wr).1.lo = (learnR t ws z sh wr).1.lo) && decide ((learnR t ws z sh wr).1.hi = (learnR t ws z sh wr).1.hi))) (fun h => ?_) (o_nil ?_)
            · refine o_val_g (ex_loadA Try.isAgg23 Try.sizeOf23 rfl) ?_
              refine o_val_g (ex_loadA Try.isAgg23 Try.sizeOf23 rfl) ?_
              exact o_val_g (ex_neq_23 rfl rfl) (o_nil (got rfl (.refl _)))
            refine k_cond rfl (fun h_4 => ?_) (fun h_4 => ?_)
            ·
              exact absurd h_4 (by simp)
            ·
              refine k_skip ?_
              exact k_some () trivial (Sub.cons rfl (Sub.cons rfl (Sub.cons rfl (Sub.cons rfl (Sub.nil _))))) (by show List.Sublist ([⟨b3, 65, [.int .i64 z.lo, .int .i64 z.hi, .int .i64 sh, .int .i64 wr.lo, .int .i64 wr.hi, .int .i64 st, .int .i64 zn.lo, .int .i64 zn.hi], true⟩, ⟨b2, 26, [.bool t.down, .int .i64 t.sl, .int .i64 t.sh, .int .i64 t.cl, .int .i64 t.ch, .slice A ws.length c], true⟩] : Hp) _; exact SubE.sub)
        refine k_seq (k_block ?_)
        refine k_seq (k_region ?_)
        refine o_val (ex_field (o := 0) 0 fa65_0 rfl rfl) ?_
        refine o_val (ex_loadA Try.isAgg23 Try.sizeOf23 rfl) ?_
        refine o_val (ex_call Try.call43 rfl (fun W hW => c43 z.lo z.hi)) ?_
        refine o_val (ex_not rfl) ?_
        refine o_val (ex_move rfl) ?_
        refine o_or 4 (c := !isSp zn.lo zn.hi 0 10000000000) (fun h => ?_) ?_
        · refine o_val_g (ex_field (o := 0) 6 fa65_4 rfl rfl) ?_
          refine o_val_g (ex_loadA Try.isAgg23 Try.sizeOf23 rfl) ?_
          refine o_val_g (ex_call Try.call46 rfl (fun W hW => c46 zn.lo zn.hi)) ?_
          exact o_val_g (ex_not rfl) (o_nil (got rfl (.refl _)))
        refine o_val (ex_assign rfl) (o_nil ?_)
        refine k_cond rfl (fun h_3 => ?_) (fun h_3 => ?_)
        ·
          have hk2 : looksR t ws z st zn = (0, 2) := (if_neg (by simp [hok])).trans (if_pos h_3)
          refine k_seq (k_region ?_)
          refine o_val (ex_move rfl) ?_
          refine o_val (ex_eql rfl rfl) ?_
          refine o_val (ex_move rfl) ?_
          refine o_and 2 (c := decide ((looksR t ws z st zn).1 = 0)) (fun h => ?_) ?_
          · refine o_val_g (ex_move rfl) ?_
            exact o_val_g (ex_eql rfl rfl) (o_nil (got rfl (.refl _)))
          refine o_val (ex_move rfl) ?_
          refine o_and 1 (c := true) (fun h => ?_) ?_
          · exact o_val_g (ex_call Try.call14 rfl (fun W hW => c14)) (o_nil (got rfl (.refl _)))
          refine o_val (ex_assign rfl) (o_nil ?_)
          refine k_ret ?_
          exact fin1 rfl rfl fun W hW => ⟨by rw [hk2]; simp, hW.ext⟩
        ·
          have hb : ¬ (!isSp z.lo z.hi (-20000000000) 20000000000 || !isSp zn.lo zn.hi 0 10000000000) = true := by rw [h_3]; decide
          refine k_seq (k_region ?_)
          refine o_val (ex_field (o := 0) 5 fa65_3 rfl rfl) ?_
          refine o_val (ex_load Try.isAgg3 rfl rfl) ?_
          refine o_val (ex_field (o := 0) 5 fa26_3 rfl rfl) ?_
          refine o_val (ex_load Try.isAgg24 rfl rfl) ?_
          refine o_val (ex_len Try.runUnderlying24 rfl) ?_
          refine o_val (ex_sub64 rfl rfl (by unfold I64; omega)) ?_
          refine o_val (ex_call Try.call27 rfl (fun W hW => c27 st 0 ((ws.length : Int) - 1))) ?_
          refine o_val (ex_not rfl) ?_
          refine o_val (ex_assign rfl) (o_nil ?_)
          refine k_cond rfl (fun h_4 => ?_) (fun h_4 => ?_)
          ·
            have hst : wi 0 ((ws.length : Int) - 1) [st] = false := by
              rw [wi_one, decide_eq_false_iff_not]
              intro hh
              rw [decide_eq_true hh.1, decide_eq_true hh.2] at h_4
              exact absurd h_4 (by decide)
            have hk3 : looksR t ws z st zn = (0, 7) := (if_neg (by simp [hok])).trans ((if_neg hb).trans (if_pos hst))
            refine k_seq (k_region ?_)
            refine o_val (ex_move rfl) ?_
            refine o_val (ex_eql rfl rfl) ?_
            refine o_val (ex_move rfl) ?_
            refine o_and 2 (c := decide ((looksR t ws z st zn).1 = 0)) (fun h => ?_) ?_
            · refine o_val_g (ex_move rfl) ?_
              exact o_val_g (ex_eql rfl rfl) (o_nil (got rfl (.refl _)))
            refine o_val (ex_move rfl) ?_
            refine o_and 1 (c := true) (fun h => ?_) ?_
            · exact o_val_g (ex_call Try.call14 rfl (fun W hW => c14)) (o_nil (got rfl (.refl _)))
            refine o_val (ex_assign rfl) (o_nil ?_)
            refine k_ret ?_
            exact fin1 rfl rfl fun W hW => ⟨by rw [hk3]; simp, hW.ext⟩
          ·
            have hst : wi 0 ((ws.length : Int) - 1) [st] = true := by
              rw [wi_one]
              simpa using h_4
            have hk4 := looks_ok hok h_3 (st := st) (by rw [hst]; decide)
            rw [wi_one, decide_eq_true_eq] at hst
            have h2 := h_3
            simp only [Bool.or_eq_false_iff, Bool.not_eq_false'] at h2
            have z1 := isSp_iff.1 h2.1
            refine k_skip ?_
            refine k_seq (k_region ?_)
            refine o_val (ex_move rfl) ?_
            refine o_val (ex_eql rfl rfl) ?_
            refine o_val (ex_move rfl) ?_
            refine o_and 10 (c := decide ((looksR t ws z st zn).1 = ((lead (lookC t ws z st zn) 10000 : Nat) : Int))) (fun h => ?_) ?_
            · refine o_val_g (ex_move rfl) ?_
              refine o_val_g (ex_loadA Try.isAgg26 Try.sizeOf26 rfl) ?_
              refine o_val_g (ex_field (o := 0) 0 fa65_0 rfl rfl) ?_
              refine o_val_g (ex_loadA Try.isAgg23 Try.sizeOf23 rfl) ?_
              refine o_val_g (ex_field (o := 0) 5 fa65_3 rfl rfl) ?_
              refine o_val_g (ex_load Try.isAgg3 rfl rfl) ?_
              refine o_val_g (ex_field (o := 0) 6 fa65_4 rfl rfl) ?_
              refine o_val_g (ex_loadA Try.isAgg23 Try.sizeOf23 rfl) ?_
              refine o_val_g (ex_call Try.call47 rfl (fun W hW => c47 t ws z st zn hok (by omega) (by omega) (hws.ext hW.ext))) ?_
              exact o_val_g (ex_eql rfl rfl) (o_nil (got rfl (.refl _)))
            refine o_val (ex_move rfl) ?_
            refine o_and 1 (c := true) (fun h => ?_) ?_
            · exact o_val_g (ex_call Try.call14 rfl (fun W hW => c14)) (o_nil (got rfl (.refl _)))
            refine o_val (ex_assign rfl) (o_nil ?_)
            refine k_ret ?_
            exact fin1 rfl rfl fun W hW => ⟨by rw [hk4]; simp, hW.ext⟩

end Go.Proofs.Ytdflfnednaleeaa
