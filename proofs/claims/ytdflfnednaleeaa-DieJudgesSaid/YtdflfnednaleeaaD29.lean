/- The walks of functions: what each call hands back, and that nothing that was there has turned. Printed by a program of this session (wip/tools/gen.py). -/
import Derived.Test.YtdflfnednaleeaaD28
import Derived.Test.YtdflfnednaleeaaD14
import Derived.Test.YtdflfnednaleeaaD17
namespace Go.Proofs.Ytdflfnednaleeaa
open Go
attribute [local irreducible] ExV Ex
set_option synthInstance.maxSize 2000
set_option synthInstance.maxHeartbeats 200000
set_option maxRecDepth 20000

theorem jud_set {t : To} {ws : List Sp} {os : List Od} (hok : chkE t ws os = 0) {l : List Stg} : (setE (openS t ws os) l = 0 → judR t ws os l = (judF (openS t ws os) l, 0) ∧ isPlanB (openS t ws os) l = true) ∧ (¬ setE (openS t ws os) l = 0 → judR t ws os l = (0, setE (openS t ws os) l)) := by
  unfold setE
  by_cases h1 : 1000 < l.length
  · rw [if_pos h1]
    exact ⟨fun h => absurd h (by decide), fun _ => (if_neg (by simp [hok])).trans (if_pos h1)⟩
  · rw [if_neg h1]
    by_cases h2 : isPlanB (openS t ws os) l = false
    · rw [if_pos h2]
      exact ⟨fun h => absurd h (by decide), fun _ => (if_neg (by simp [hok])).trans ((if_neg h1).trans (if_pos h2))⟩
    · rw [if_neg h2]
      refine ⟨fun _ => ⟨?_, by simpa using h2⟩, fun h => absurd rfl h⟩
      have e : judR t ws os l = if l.length = 0 ∨ 0 < (l.getD 0 dS).fr then (0, 0) else (judL (openS t ws os) l l.length 0, 0) := (if_neg (by simp [hok])).trans ((if_neg h1).trans (if_neg h2))
      rw [e]
      unfold judF
      split <;> rfl

-- == f6 acme/acmelaw07.DieJudges params [26, 27, 54] results [4] in [('tmp', ['6'])] ntmps 199 nfree 0
theorem c6 (t : To) (ws : List Sp) {A : Option Addr} {c : Nat} (os : List Od) {A2 : Option Addr} {c2 : Nat} (l : List Stg) {B1 : Option Addr} {d1 : Nat} (q : List Int) {B2 : Option Addr} {d2 : Nat} {w : World} (hws : ElAt w A ws) (hos : ElAt w A2 os) (hB1 : ElAt w B1 l) (hB2 : ElAt w B2 q) : Calls Try.prog 6 [.agg [.bool t.down, .int .i64 t.sl, .int .i64 t.sh, .int .i64 t.cl, .int .i64 t.ch, .slice A ws.length c].toArray, .slice A2 os.length c2, .agg [.slice B1 l.length d1, .slice B2 q.length d2].toArray].toArray w fun e w' => e = .returned (.bool true) ∧ Ext [] w w' := by
  refine fn_start Try.func6 rfl (N := 199) rfl ?_
  refine k_seq (k_region ?_)
  refine o_box rfl (fun b3 => ?_)
  refine o_box rfl (fun b5 => ?_)
  refine o_val (ex_assign rfl) (o_nil ?_)
  refine k_seq (k_seq (k_region ?_))
  refine o_val (ex_loadA Try.isAgg26 Try.sizeOf26 rfl) ?_
  refine o_val (ex_move rfl) ?_
  refine o_val (ex_call Try.call13 rfl (fun W hW => c13 t ws os 300 (hws.ext hW.ext) (hos.ext hW.ext))) ?_
  refine o_val (ex_move rfl) ?_
  refine o_orN 10 (c := decide ((50 : Int) < (l.length : Int)) && decide ((l.length : Int) ≤ 1000)) (fun h => ?_) ?_
  · refine o_val_g (ex_field (o := 0) 0 fa54_0 rfl rfl) ?_
    refine o_val_g (ex_load Try.isAgg43 rfl rfl) ?_
    refine o_val_g (ex_len Try.runUnderlying43 rfl) ?_
    refine o_val_g (ex_gtr rfl rfl) ?_
    refine o_val_g (ex_move rfl) ?_
    refine o_and_g 4 (c := decide ((l.length : Int) ≤ 1000)) (fun h => ?_) (o_nil (got rfl (.refl _)))
    · refine o_val_g (ex_field (o := 0) 0 fa54_0 rfl rfl) ?_
      refine o_val_g (ex_load Try.isAgg43 rfl rfl) ?_
      refine o_val_g (ex_len Try.runUnderlying43 rfl) ?_
      exact o_val_g (ex_leq rfl rfl) (o_nil (got rfl (.refl _)))
  refine o_val (ex_move rfl) ?_
  refine o_orN 10 (c := decide ((50 : Int) < (q.length : Int)) && decide ((q.length : Int) ≤ 1000)) (fun h => ?_) ?_
  · refine o_val_g (ex_field (o := 0) 1 fa54_1 rfl rfl) ?_
    refine o_val_g (ex_load Try.isAgg52 rfl rfl) ?_
    refine o_val_g (ex_len Try.runUnderlying52 rfl) ?_
    refine o_val_g (ex_gtr rfl rfl) ?_
    refine o_val_g (ex_move rfl) ?_
    refine o_and_g 4 (c := decide ((q.length : Int) ≤ 1000)) (fun h => ?_) (o_nil (got rfl (.refl _)))
    · refine o_val_g (ex_field (o := 0) 1 fa54_1 rfl rfl) ?_
      refine o_val_g (ex_load Try.isAgg52 rfl rfl) ?_
      refine o_val_g (ex_len Try.runUnderlying52 rfl) ?_
      exact o_val_g (ex_leq rfl rfl) (o_nil (got rfl (.refl _)))
  refine o_val (ex_move rfl) ?_
  refine o_or 4 (c := decide ((1005 : Int) < (l.length : Int))) (fun h => ?_) ?_
  · refine o_val_g (ex_field (o := 0) 0 fa54_0 rfl rfl) ?_
    refine o_val_g (ex_load Try.isAgg43 rfl rfl) ?_
    refine o_val_g (ex_len Try.runUnderlying43 rfl) ?_
    exact o_val_g (ex_gtr rfl rfl) (o_nil (got rfl (.refl _)))
  refine o_val (ex_move rfl) ?_
  refine o_or 4 (c := decide ((1005 : Int) < (q.length : Int))) (fun h => ?_) (o_nil ?_)
  · refine o_val_g (ex_field (o := 0) 1 fa54_1 rfl rfl) ?_
    refine o_val_g (ex_load Try.isAgg52 rfl rfl) ?_
    refine o_val_g (ex_len Try.runUnderlying52 rfl) ?_
    exact o_val_g (ex_gtr rfl rfl) (o_nil (got rfl (.refl _)))
  refine k_cond rfl (fun h => ?_) (fun h => ?_)
  ·
    refine k_seq (k_region ?_)
    refine o_val (ex_call Try.call14 rfl (fun W hW => c14)) ?_
    refine o_val (ex_assign rfl) (o_nil ?_)
    refine k_ret ?_
    exact fin1 rfl rfl fun W hW => ⟨rfl, hW.ext⟩
  ·
    have hh := h
    simp only [Bool.or_eq_false_iff] at hh
    obtain ⟨⟨⟨⟨⟨⟨ea, eb⟩, ec⟩, eA⟩, eB⟩, eC⟩, eD⟩ := hh
    have hl15 : ws.length ≤ 15 := by have := of_decide_eq_false ea; omega
    have hl45 : os.length ≤ 45 := by have := of_decide_eq_false eb; omega
    have hll : l.length ≤ 1005 := by have := of_decide_eq_false eC; omega
    have hlq : q.length ≤ 1005 := by have := of_decide_eq_false eD; omega
    refine k_skip ?_
    refine k_seq (k_draw [true, true, false, true, true, false, false, false] 4 ?_ mixed (by kernel_rfl) rfl)
    refine d_val (i := 0) [] (ex_field (o := 0) 0 fa54_0 rfl rfl) ?_
    refine d_load (i := 1) Try.isAgg43 rfl rfl ?_
    refine d_rest ?_
    refine d_val (i := 3) [] (ex_field (o := 0) 1 fa54_1 rfl rfl) ?_
    refine d_load (i := 4) Try.isAgg52 rfl rfl ?_
    refine d_rest ?_
    refine d_rest ?_
    refine d_rest ?_
    refine d_nil ?_
    refine r_one 2 (rs_callB Try.call32 rfl (fun W hW => c32 l (c := d1) hll (hB1.ext hW.ext)) (fun v59 x59 o59 => ?_)) (by kernel_rfl)
    obtain ⟨A9, c9, e59, h59, s59⟩ := o59
    subst e59
    refine r_one 5 (rs_callB Try.call33 rfl (fun W hW => c33 q (c := d2) hlq (hB2.ext hW.ext)) (fun v62 x62 o62 => ?_)) (by kernel_rfl)
    obtain ⟨A10, c10, e62, h62, s62⟩ := o62
    subst e62
    refine r_one 6 (rs_val rfl (ex_assign rfl) ?_) (by kernel_rfl)
    refine r_one 7 (rs_val rfl (ex_assign rfl) ?_) (by kernel_rfl)
    refine r_nil ?_ (by kernel_rfl)
    refine k_seq (k_region ?_)
    refine o_val (ex_loadA Try.isAgg26 Try.sizeOf26 rfl) ?_
    refine o_callB Try.call15 rfl (fun W hW => c15 t ws (c := c) hl15 (hws.ext hW.ext)) (fun v65 x65 o65 => ?_)
    obtain ⟨T1, u1, e65, h65⟩ := o65
    subst e65
    refine o_val (ex_move rfl) ?_
    refine o_callB Try.call16 rfl (fun W hW => c16 os (c := c2) (by omega) (hos.ext hW.ext)) (fun v67 x67 o67 => ?_)
    obtain ⟨T2, u2, e67, h67, _⟩ := o67
    subst e67
    refine o_val (ex_move rfl) ?_
    refine o_val (ex_call Try.call34 rfl (fun W hW => c34 t ws (A := T1) (c := u1) os (A2 := T2) (c2 := u2) l (A5 := A9) (c5 := c9) (copy_at h65 hW (by repeat (first | exact List.sublist_append_left _ _ | exact List.Sublist.refl _ | apply List.Sublist.cons | refine List.Sublist.trans ?_ (List.sublist_append_right _ _)))) (copy_at h67 hW (by repeat (first | exact List.sublist_append_left _ _ | exact List.Sublist.refl _ | apply List.Sublist.cons | refine List.Sublist.trans ?_ (List.sublist_append_right _ _)))) (by omega) (copy_at h59 hW (by repeat (first | exact List.sublist_append_left _ _ | exact List.Sublist.refl _ | apply List.Sublist.cons | refine List.Sublist.trans ?_ (List.sublist_append_right _ _)))))) ?_
    refine o_val (ex_move rfl) ?_
    refine o_val (ex_extract rfl rfl) ?_
    refine o_val (ex_extract rfl rfl) ?_
    refine o_val (ex_assign rfl) ?_
    refine o_val (ex_assign rfl) (o_nil ?_)
    refine k_seq (k_region ?_)
    refine o_val (ex_loadA Try.isAgg26 Try.sizeOf26 rfl) ?_
    refine o_callB Try.call15 rfl (fun W hW => c15 t ws (c := c) hl15 (hws.ext hW.ext)) (fun v74 x74 o74 => ?_)
    obtain ⟨T3, u3, e74, h74⟩ := o74
    subst e74
    refine o_val (ex_move rfl) ?_
    refine o_callB Try.call16 rfl (fun W hW => c16 os (c := c2) (by omega) (hos.ext hW.ext)) (fun v76 x76 o76 => ?_)
    obtain ⟨T4, u4, e76, h76, _⟩ := o76
    subst e76
    refine o_val (ex_move rfl) ?_
    refine o_val (ex_call Try.call35 rfl (fun W hW => c35 t ws (A := T3) (c := u3) os (A2 := T4) (c2 := u4) q (A5 := A10) (c5 := c10) (copy_at h74 hW (by repeat (first | exact List.sublist_append_left _ _ | exact List.Sublist.refl _ | apply List.Sublist.cons | refine List.Sublist.trans ?_ (List.sublist_append_right _ _)))) (copy_at h76 hW (by repeat (first | exact List.sublist_append_left _ _ | exact List.Sublist.refl _ | apply List.Sublist.cons | refine List.Sublist.trans ?_ (List.sublist_append_right _ _)))) (by omega) (copy_at h62 hW (by repeat (first | exact List.sublist_append_left _ _ | exact List.Sublist.refl _ | apply List.Sublist.cons | refine List.Sublist.trans ?_ (List.sublist_append_right _ _)))))) ?_
    refine o_val (ex_move rfl) ?_
    refine o_val (ex_extract rfl rfl) ?_
    refine o_val (ex_extract rfl rfl) ?_
    refine o_val (ex_assign rfl) ?_
    refine o_val (ex_assign rfl) (o_nil ?_)
    refine k_seq (k_seq (k_region ?_))
    refine o_val (ex_assign rfl) (o_nil ?_)
    refine k_block ?_
    refine k_loop (ι := Nat) (fun k => [(1, .slice A2 os.length c2), (3, .pointer (some ⟨b3, 0, none⟩)), (5, .pointer (some ⟨b5, 0, none⟩)), (7, .slice A9 l.length c9), (8, .slice A10 q.length c10), (9, .int .i64 (judR t ws os l).1), (10, .int .i64 (judR t ws os l).2), (11, .int .i64 (provR t ws os q).1), (12, .int .i64 (provR t ws os q).2), (13, .int .i64 (k : Int))]) (fun k => x62 ++ (x59 ++ [⟨b5, 54, [.slice B1 l.length d1, .slice B2 q.length d2], true⟩, ⟨b3, 26, [.bool t.down, .int .i64 t.sl, .int .i64 t.sh, .int .i64 t.cl, .int .i64 t.ch, .slice A ws.length c], true⟩])) (fun k => k ≤ l.length) (fun k => l.length - k) 0 (Nat.zero_le _) (Sub.cons rfl (Sub.cons rfl (Sub.cons rfl (Sub.cons rfl (Sub.cons rfl (Sub.cons rfl (Sub.cons rfl (Sub.cons rfl (Sub.cons rfl (Sub.cons rfl (Sub.nil _))))))))))) SubE.sub (fun k hk => ?_)
    refine k_seq (k_seq (k_region ?_))
    refine o_val (ex_move rfl) ?_
    refine o_val (ex_move rfl) ?_
    refine o_val (ex_len Try.runUnderlying43 rfl) ?_
    refine o_val (ex_lss rfl rfl) (o_nil ?_)
    refine k_cond rfl (fun h_1 => ?_) (fun h_1 => ?_)
    ·
      have hlt : k < l.length := by have : (k : Int) < (l.length : Int) := of_decide_eq_true h_1; omega
      obtain ⟨a, rfl⟩ := s59 (by omega)
      obtain ⟨a1, hA1, hc1⟩ := hB1 k hlt
      subst hA1
      refine k_skip ?_
      refine k_seq (k_block ?_)
      refine k_seq (k_draw [true, true, true, true, true, true, true, true, true, true] 0 ?_ mixed (by kernel_rfl) rfl)
      refine d_val (i := 0) [] (ex_move rfl) ?_
      refine d_val (i := 1) [] (ex_move rfl) ?_
      refine d_val (i := 2) [] (ex_index_old Try.runUnderlying43 Try.sizeOf51 rfl rfl (by omega) (by omega)) ?_
      refine d_val (i := 3) x59 (ex_loadA_at Try.isAgg51 Try.sizeOf51 rfl (vs := [.int .i64 l[k].fr, .int .i64 l[k].tg]) rfl (fun W hW => by obtain ⟨a2, e2, h2⟩ := h59 W (fun e he => hW.at_ e he) k hlt; cases e2; exact h2)) ?_
      refine d_val (i := 4) [] (ex_field (o := 0) 0 fa54_0 rfl rfl) ?_
      refine d_load (i := 5) Try.isAgg43 rfl rfl ?_
      refine d_val (i := 6) [] (ex_move rfl) ?_
      refine d_val (i := 7) [] (ex_index_old Try.runUnderlying43 Try.sizeOf51 rfl rfl (by omega) (by omega)) ?_
      refine d_val (i := 8) [] (ex_loadA_old Try.isAgg51 Try.sizeOf51 rfl rfl (vs := [.int .i64 l[k].fr, .int .i64 l[k].tg]) hc1 (by simp)) ?_
      refine d_val (i := 9) [] (ex_neq_51 rfl rfl) ?_
      refine d_nil ?_
      refine r_nil ?_ (by kernel_rfl)
      refine k_cond rfl (fun h_2 => ?_) (fun h_2 => ?_)
      ·
        exact absurd h_2 (by simp)
      ·
        refine k_skip ?_
        refine k_region ?_
        refine o_val (ex_move rfl) ?_
        refine o_val (ex_add64 rfl rfl (by unfold I64; omega)) ?_
        refine o_val (ex_assign rfl) (o_nil ?_)
        exact k_some (k + 1) ⟨hlt, by omega⟩ (Sub.cons rfl (Sub.cons rfl (Sub.cons rfl (Sub.cons rfl (Sub.cons rfl (Sub.cons rfl (Sub.cons rfl (Sub.cons rfl (Sub.cons rfl (Sub.cons rfl (Sub.nil _))))))))))) SubE.sub
    ·
      refine k_exit rfl ?_
      refine k_seq (k_seq (k_region ?_))
      refine o_val (ex_assign rfl) (o_nil ?_)
      refine k_block ?_
      refine k_loop (ι := Nat) (fun k => [(1, .slice A2 os.length c2), (3, .pointer (some ⟨b3, 0, none⟩)), (5, .pointer (some ⟨b5, 0, none⟩)), (8, .slice A10 q.length c10), (9, .int .i64 (judR t ws os l).1), (10, .int .i64 (judR t ws os l).2), (11, .int .i64 (provR t ws os q).1), (12, .int .i64 (provR t ws os q).2), (14, .int .i64 (k : Int))]) (fun k => x62 ++ [⟨b5, 54, [.slice B1 l.length d1, .slice B2 q.length d2], true⟩, ⟨b3, 26, [.bool t.down, .int .i64 t.sl, .int .i64 t.sh, .int .i64 t.cl, .int .i64 t.ch, .slice A ws.length c], true⟩]) (fun k => k ≤ q.length) (fun k => q.length - k) 0 (Nat.zero_le _) (Sub.cons rfl (Sub.cons rfl (Sub.cons rfl (Sub.cons rfl (Sub.cons rfl (Sub.cons rfl (Sub.cons rfl (Sub.cons rfl (Sub.cons rfl (Sub.nil _)))))))))) SubE.sub (fun k hk => ?_)
      refine k_seq (k_seq (k_region ?_))
      refine o_val (ex_move rfl) ?_
      refine o_val (ex_move rfl) ?_
      refine o_val (ex_len Try.runUnderlying52 rfl) ?_
      refine o_val (ex_lss rfl rfl) (o_nil ?_)
      refine k_cond rfl (fun h_2 => ?_) (fun h_2 => ?_)
      ·
        have hlt : k < q.length := by have : (k : Int) < (q.length : Int) := of_decide_eq_true h_2; omega
        obtain ⟨a, rfl⟩ := s62 (by omega)
        obtain ⟨a1, hA1, hc1⟩ := hB2 k hlt
        subst hA1
        refine k_skip ?_
        refine k_seq (k_block ?_)
        refine k_seq (k_draw [true, true, true, true, true, true, true, true, true, true] 0 ?_ mixed (by kernel_rfl) rfl)
        refine d_val (i := 0) [] (ex_move rfl) ?_
        refine d_val (i := 1) [] (ex_move rfl) ?_
        refine d_val (i := 2) [] (ex_index_old Try.runUnderlying52 Try.sizeOf3 rfl rfl (by omega) (by omega)) ?_
        refine d_val (i := 3) x62 (ex_load_at (v := .int .i64 q[k]) Try.isAgg3 rfl (fun W hW => by obtain ⟨a2, e2, h2⟩ := h62 W (fun e he => hW.at_ e he) k hlt; cases e2; exact int_cell h2)) ?_
        refine d_val (i := 4) [] (ex_field (o := 0) 1 fa54_1 rfl rfl) ?_
        refine d_load (i := 5) Try.isAgg52 rfl rfl ?_
        refine d_val (i := 6) [] (ex_move rfl) ?_
        refine d_val (i := 7) [] (ex_index_old Try.runUnderlying52 Try.sizeOf3 rfl rfl (by omega) (by omega)) ?_
        refine d_val (i := 8) [] (ex_load_old Try.isAgg3 rfl (int_cell hc1) (by simp)) ?_
        refine d_val (i := 9) [] (ex_neq rfl rfl) ?_
        refine d_nil ?_
        refine r_nil ?_ (by kernel_rfl)
        refine k_cond rfl (fun h_3 => ?_) (fun h_3 => ?_)
        ·
          exact absurd h_3 (by simp)
        ·
          refine k_skip ?_
          refine k_region ?_
          refine o_val (ex_move rfl) ?_
          refine o_val (ex_add64 rfl rfl (by unfold I64; omega)) ?_
          refine o_val (ex_assign rfl) (o_nil ?_)
          exact k_some (k + 1) ⟨hlt, by omega⟩ (Sub.cons rfl (Sub.cons rfl (Sub.cons rfl (Sub.cons rfl (Sub.cons rfl (Sub.cons rfl (Sub.cons rfl (Sub.cons rfl (Sub.cons rfl (Sub.nil _)))))))))) SubE.sub
      ·
        refine k_exit rfl ?_
        refine k_seq (k_region ?_)
        refine o_val (ex_loadA Try.isAgg26 Try.sizeOf26 rfl) ?_
        refine o_val (ex_move rfl) ?_
        refine o_val (ex_call Try.call21 rfl (fun W hW => c21 t ws os (hws.ext hW.ext) (hos.ext hW.ext))) ?_
        refine o_val (ex_assign rfl) (o_nil ?_)
        refine k_seq (k_seq (k_region ?_))
        refine o_val (ex_move rfl) ?_
        refine o_val (ex_neq rfl rfl) (o_nil ?_)
        refine k_cond rfl (fun h_3 => ?_) (fun h_3 => ?_)
        ·
          have hn : ¬ chkE t ws os = 0 := fun e => by simp [e] at h_3
          have e1 : judR t ws os l = (0, chkE t ws os) := if_pos hn
          have e2 : provR t ws os q = (0, chkE t ws os) := if_pos hn
          refine k_seq (k_region ?_)
          refine o_val (ex_move rfl) ?_
          refine o_val (ex_move rfl) ?_
          refine o_val (ex_eql rfl rfl) ?_
          refine o_val (ex_move rfl) ?_
          refine o_and 3 (c := decide ((provR t ws os q).2 = (chkE t ws os))) (fun h => ?_) ?_
          · refine o_val_g (ex_move rfl) ?_
            refine o_val_g (ex_move rfl) ?_
            exact o_val_g (ex_eql rfl rfl) (o_nil (got rfl (.refl _)))
          refine o_val (ex_move rfl) ?_
          refine o_and 2 (c := decide ((judR t ws os l).1 = 0)) (fun h => ?_) ?_
          · refine o_val_g (ex_move rfl) ?_
            exact o_val_g (ex_eql rfl rfl) (o_nil (got rfl (.refl _)))
          refine o_val (ex_move rfl) ?_
          refine o_and 2 (c := decide ((provR t ws os q).1 = 0)) (fun h => ?_) ?_
          · refine o_val_g (ex_move rfl) ?_
            exact o_val_g (ex_eql rfl rfl) (o_nil (got rfl (.refl _)))
          refine o_val (ex_move rfl) ?_
          refine o_and 1 (c := true) (fun h => ?_) ?_
          · exact o_val_g (ex_call Try.call14 rfl (fun W hW => c14)) (o_nil (got rfl (.refl _)))
          refine o_val (ex_assign rfl) (o_nil ?_)
          refine k_ret ?_
          exact fin1 rfl rfl fun W hW => ⟨by rw [e1, e2]; simp, hW.ext⟩
        ·
          have hok : chkE t ws os = 0 := by simpa using h_3
          have hjs := jud_set hok (l := l)
          refine k_skip ?_
          refine k_seq (k_region ?_)
          refine o_val (ex_assign rfl) (o_nil ?_)
          refine k_seq (k_seq (k_region ?_))
          refine o_val (ex_move rfl) ?_
          refine o_val (ex_field (o := 0) 0 fa54_0 rfl rfl) ?_
          refine o_val (ex_load Try.isAgg43 rfl rfl) ?_
          refine o_val (ex_call Try.call36 rfl (fun W hW => c36 (openS t ws os) os l (allP_open t ws os) hl45 (chk_pc hok) (hos.ext hW.ext) (hB1.ext hW.ext))) ?_
          refine o_val (ex_assign rfl) (o_nil ?_)
          refine k_seq (k_region ?_)
          refine o_val (ex_move rfl) ?_
          refine o_val (ex_eql rfl rfl) (o_nil ?_)
          refine k_cut (ι := Unit) (fun _ => [(1, .slice A2 os.length c2), (3, .pointer (some ⟨b3, 0, none⟩)), (5, .pointer (some ⟨b5, 0, none⟩)), (9, .int .i64 (judR t ws os l).1), (10, .int .i64 (judR t ws os l).2), (11, .int .i64 (provR t ws os q).1), (12, .int .i64 (provR t ws os q).2), (15, .int .i64 (setE (openS t ws os) l)), (16, .int .i64 (judR t ws os l).1)]) (fun _ => [⟨b5, 54, [.slice B1 l.length d1, .slice B2 q.length d2], true⟩, ⟨b3, 26, [.bool t.down, .int .i64 t.sl, .int .i64 t.sh, .int .i64 t.cl, .int .i64 t.ch, .slice A ws.length c], true⟩]) (fun _ => (judR t ws os l).2 = setE (openS t ws os) l) ?_ (fun _ hj2 => ?_)
          · refine k_cond rfl (fun h_4 => ?_) (fun h_4 => ?_)
            ·
              have hs0 := of_decide_eq_true h_4
              obtain ⟨hj, hpl⟩ := hjs.1 hs0
              refine k_region ?_
              refine o_val (ex_loadA Try.isAgg26 Try.sizeOf26 rfl) ?_
              refine o_val (ex_move rfl) ?_
              refine o_val (ex_field (o := 0) 0 fa54_0 rfl rfl) ?_
              refine o_val (ex_load Try.isAgg43 rfl rfl) ?_
              refine o_val (ex_call Try.call37 rfl (fun W hW => c37 t ws os l hok hll hpl (hws.ext hW.ext) (hos.ext hW.ext) (hB1.ext hW.ext))) ?_
              refine o_val (ex_assign rfl) (o_nil ?_)
              exact k_some () (by rw [hj, hs0]) (Sub.cons rfl (Sub.cons rfl (Sub.cons rfl (Sub.cons rfl (Sub.cons rfl (Sub.cons rfl (Sub.cons rfl (Sub.cons rfl (Sub.cons' rfl (by rw [hj]) (Sub.nil _)))))))))) SubE.sub
            ·
              have hj := hjs.2 (of_decide_eq_false h_4)
              refine k_skip ?_
              exact k_some () (by rw [hj]) (Sub.cons rfl (Sub.cons rfl (Sub.cons rfl (Sub.cons rfl (Sub.cons rfl (Sub.cons rfl (Sub.cons rfl (Sub.cons rfl (Sub.cons' rfl (by rw [hj]) (Sub.nil _)))))))))) SubE.sub
          refine k_seq (k_seq (k_region ?_))
          refine o_val (ex_move rfl) ?_
          refine o_val (ex_move rfl) ?_
          refine o_val (ex_neq rfl rfl) ?_
          refine o_val (ex_move rfl) ?_
          refine o_or 3 (c := !decide ((judR t ws os l).1 = (judR t ws os l).1)) (fun h => ?_) (o_nil ?_)
          · refine o_val_g (ex_move rfl) ?_
            refine o_val_g (ex_move rfl) ?_
            exact o_val_g (ex_neq rfl rfl) (o_nil (got rfl (.refl _)))
          refine k_cond rfl (fun h_4 => ?_) (fun h_4 => ?_)
          ·
            exact absurd h_4 (by rw [hj2]; simp)
          ·
            refine k_skip ?_
            refine k_seq (k_block ?_)
            refine k_seq (k_region ?_)
            refine o_val (ex_field (o := 0) 1 fa54_1 rfl rfl) ?_
            refine o_val (ex_load Try.isAgg52 rfl rfl) ?_
            refine o_val (ex_len Try.runUnderlying52 rfl) ?_
            refine o_val (ex_gtr rfl rfl) ?_
            refine o_val (ex_assign rfl) (o_nil ?_)
            refine k_cond rfl (fun h_5 => ?_) (fun h_5 => ?_)
            ·
              have e2 : provR t ws os q = (0, 5) := (if_neg (by simp [hok])).trans (if_pos (by have : (1000 : Int) < (q.length : Int) := of_decide_eq_true h_5; omega))
              refine k_seq (k_region ?_)
              refine o_val (ex_move rfl) ?_
              refine o_val (ex_eql rfl rfl) ?_
              refine o_val (ex_move rfl) ?_
              refine o_and 2 (c := decide ((provR t ws os q).1 = 0)) (fun h => ?_) ?_
              · refine o_val_g (ex_move rfl) ?_
                exact o_val_g (ex_eql rfl rfl) (o_nil (got rfl (.refl _)))
              refine o_val (ex_move rfl) ?_
              refine o_and 1 (c := true) (fun h => ?_) ?_
              · exact o_val_g (ex_call Try.call14 rfl (fun W hW => c14)) (o_nil (got rfl (.refl _)))
              refine o_val (ex_assign rfl) (o_nil ?_)
              refine k_ret ?_
              exact fin1 rfl rfl fun W hW => ⟨by rw [e2]; simp, hW.ext⟩
            ·
              have hq1 : ¬ 1000 < q.length := by have : ¬ (1000 : Int) < (q.length : Int) := of_decide_eq_false h_5; omega
              refine k_seq (k_region ?_)
              refine o_val (ex_move rfl) ?_
              refine o_val (ex_field (o := 0) 1 fa54_1 rfl rfl) ?_
              refine o_val (ex_load Try.isAgg52 rfl rfl) ?_
              refine o_val (ex_call Try.call38 rfl (fun W hW => c38 os q hl45 hlq (chk_pc hok) (hos.ext hW.ext) (hB2.ext hW.ext))) ?_
              refine o_val (ex_not rfl) ?_
              refine o_val (ex_assign rfl) (o_nil ?_)
              refine k_cond rfl (fun h_6 => ?_) (fun h_6 => ?_)
              ·
                have hup : upB (allP os) q = false := by simpa using h_6
                have e2 : provR t ws os q = (0, 2) := (if_neg (by simp [hok])).trans ((if_neg hq1).trans (if_pos (by rw [allP_open]; exact hup)))
                refine k_seq (k_region ?_)
                refine o_val (ex_move rfl) ?_
                refine o_val (ex_eql rfl rfl) ?_
                refine o_val (ex_move rfl) ?_
                refine o_and 2 (c := decide ((provR t ws os q).1 = 0)) (fun h => ?_) ?_
                · refine o_val_g (ex_move rfl) ?_
                  exact o_val_g (ex_eql rfl rfl) (o_nil (got rfl (.refl _)))
                refine o_val (ex_move rfl) ?_
                refine o_and 1 (c := true) (fun h => ?_) ?_
                · exact o_val_g (ex_call Try.call14 rfl (fun W hW => c14)) (o_nil (got rfl (.refl _)))
                refine o_val (ex_assign rfl) (o_nil ?_)
                refine k_ret ?_
                exact fin1 rfl rfl fun W hW => ⟨by rw [e2]; simp, hW.ext⟩
              ·
                have hup : upB (allP os) q = true := by simpa using h_6
                have e2 : provR t ws os q = (provL (openS t ws os) q (q.length - 1) 0, 0) := (if_neg (by simp [hok])).trans ((if_neg hq1).trans (if_neg (by rw [allP_open, hup]; decide)))
                refine k_skip ?_
                refine k_seq (k_region ?_)
                refine o_val (ex_move rfl) ?_
                refine o_val (ex_eql rfl rfl) ?_
                refine o_val (ex_move rfl) ?_
                refine o_and 7 (c := decide ((provR t ws os q).1 = provL (openS t ws os) q (q.length - 1) 0)) (fun h => ?_) ?_
                · refine o_val_g (ex_move rfl) ?_
                  refine o_val_g (ex_loadA Try.isAgg26 Try.sizeOf26 rfl) ?_
                  refine o_val_g (ex_move rfl) ?_
                  refine o_val_g (ex_field (o := 0) 1 fa54_1 rfl rfl) ?_
                  refine o_val_g (ex_load Try.isAgg52 rfl rfl) ?_
                  refine o_val_g (ex_call Try.call39 rfl (fun W hW => c39 t ws os q hok hlq hup (hws.ext hW.ext) (hos.ext hW.ext) (hB2.ext hW.ext))) ?_
                  exact o_val_g (ex_eql rfl rfl) (o_nil (got rfl (.refl _)))
                refine o_val (ex_move rfl) ?_
                refine o_and 1 (c := true) (fun h => ?_) ?_
                · exact o_val_g (ex_call Try.call14 rfl (fun W hW => c14)) (o_nil (got rfl (.refl _)))
                refine o_val (ex_assign rfl) (o_nil ?_)
                refine k_ret ?_
                exact fin1 rfl rfl fun W hW => ⟨by rw [e2]; simp, hW.ext⟩

end Go.Proofs.Ytdflfnednaleeaa
