/- The walks of functions: what each call hands back, and that nothing that was there has turned. Printed by a program of this session (wip/tools/gen.py). -/
import Derived.Test.YtdflfnednaleeaaD14
namespace Go.Proofs.Ytdflfnednaleeaa
open Go
attribute [local irreducible] ExV Ex
set_option synthInstance.maxSize 2000
set_option synthInstance.maxHeartbeats 200000
set_option maxRecDepth 20000

def learnR (t : To) (ws : List Sp) (z : Sp) (sh : Int) (wr : Sp) : Sp × Int :=
  if ¬ toolE t ws = 0 then (⟨0, 0⟩, toolE t ws) else
  if ((!isSp z.lo z.hi (-20000000000) 20000000000 || !isSp sh sh (-20000000000) 20000000000) || !isSp wr.lo wr.hi (-1000000) 1000000) = true then (⟨0, 0⟩, 2) else
  if min z.hi (sh + (-wr.lo + -t.cl)) < max z.lo (sh + (-wr.hi + -t.ch)) then (⟨0, 0⟩, 9) else (⟨max z.lo (sh + (-wr.hi + -t.ch)), min z.hi (sh + (-wr.lo + -t.cl))⟩, 0)
def wOf (ws : List Sp) (st : Int) : Sp := ws.getD st.toNat ⟨0, 0⟩
def looksR (t : To) (ws : List Sp) (z : Sp) (st : Int) (zn : Sp) : Int × Int :=
  if ¬ toolE t ws = 0 then (0, toolE t ws) else if (!isSp z.lo z.hi (-20000000000) 20000000000 || !isSp zn.lo zn.hi 0 10000000000) = true then (0, 2) else
  if wi 0 ((ws.length : Int) - 1) [st] = false then (0, 7) else
  if (turnS t.down z).lo + (turnS t.down ⟨t.cl, t.ch⟩).lo < (turnS t.down zn).lo then (0, 0) else
  ((lead (fun i => !decide ((turnS t.down zn).hi < (turnS t.down z).hi + (turnS t.down ⟨t.cl, t.ch⟩).hi + i * (wOf ws st).hi)) 10000 : Nat), 0)

-- == f40 acme/die.Learn params [26, 23, 3, 23] results [23, 33] in [('cell', ['8', '23']), ('tmp', ['9'])] ntmps 62 nfree 0
theorem c40 (t : To) (ws : List Sp) {A : Option Addr} {c : Nat} (z : Sp) (sh : Int) (wr : Sp) {w : World} (hws : ElAt w A ws) : Calls Try.prog 40 [.agg [.bool t.down, .int .i64 t.sl, .int .i64 t.sh, .int .i64 t.cl, .int .i64 t.ch, .slice A ws.length c].toArray, .agg [.int .i64 z.lo, .int .i64 z.hi].toArray, .int .i64 sh, .agg [.int .i64 wr.lo, .int .i64 wr.hi].toArray].toArray w fun e w' => e = .returned (.tuple #[.agg [.int .i64 (learnR t ws z sh wr).1.lo, .int .i64 (learnR t ws z sh wr).1.hi].toArray, .int .i64 (learnR t ws z sh wr).2]) ∧ Ext [] w w' := by
  refine fn_start Try.func40 rfl (N := 62) rfl ?_
  refine k_seq (k_region ?_)
  refine o_box rfl (fun b4 => ?_)
  refine o_box rfl (fun b5 => ?_)
  refine o_box rfl (fun b7 => ?_)
  refine o_alloc Try.zeroValue23 (fun b8 => ?_)
  refine o_val (ex_assign rfl) (o_nil ?_)
  refine k_seq (k_seq (k_region ?_))
  refine o_val (ex_loadA Try.isAgg26 Try.sizeOf26 rfl) ?_
  refine o_val (ex_call Try.call59 rfl (fun W hW => c59 t ws (hws.ext hW.ext))) ?_
  refine o_val (ex_assign rfl) (o_nil ?_)
  refine k_seq (k_region ?_)
  refine o_val (ex_move rfl) ?_
  refine o_val (ex_neq rfl rfl) (o_nil ?_)
  refine k_cond rfl (fun h => ?_) (fun h => ?_)
  ·
    have hn : ¬ toolE t ws = 0 := fun e => by simp [e] at h
    refine k_seq (k_region ?_)
    refine o_val (ex_loadA Try.isAgg23 Try.sizeOf23 rfl) ?_
    refine o_val (ex_move rfl) ?_
    refine o_store Try.sizeOf23 rfl rfl ?_
    refine o_val (ex_assign rfl) (o_nil ?_)
    refine k_ret ?_
    exact finC1 rfl Try.isAgg23 Try.sizeOf23 rfl rfl rfl fun W hW => ⟨by rw [show learnR t ws z sh wr = (⟨0, 0⟩, toolE t ws) from if_pos hn], hW.ext⟩
  ·
    have hok : toolE t ws = 0 := by simpa using h
    have ok := toolE_ok.1 hok
    have oc := ok.c
    refine k_skip ?_
    refine k_seq (k_region ?_)
    refine o_val (ex_move rfl) ?_
    refine o_val (ex_move rfl) ?_
    refine o_val (ex_build bf23 rfl) ?_
    refine o_alloc Try.zeroValue23 (fun b11 => ?_)
    refine o_store Try.sizeOf23 rfl rfl (o_nil ?_)
    refine k_seq (k_seq (k_region ?_))
    refine o_val (ex_loadA Try.isAgg23 Try.sizeOf23 rfl) ?_
    refine o_val (ex_call Try.call78 rfl (fun W hW => c78 z.lo z.hi)) ?_
    refine o_val (ex_not rfl) ?_
    refine o_val (ex_move rfl) ?_
    refine o_or 3 (c := !isSp sh sh (-20000000000) 20000000000) (fun h => ?_) ?_
    · refine o_val_g (ex_loadA Try.isAgg23 Try.sizeOf23 rfl) ?_
      refine o_val_g (ex_call Try.call78 rfl (fun W hW => c78 sh sh)) ?_
      exact o_val_g (ex_not rfl) (o_nil (got rfl (.refl _)))
    refine o_val (ex_move rfl) ?_
    refine o_or 3 (c := !isSp wr.lo wr.hi (-1000000) 1000000) (fun h => ?_) (o_nil ?_)
    · refine o_val_g (ex_loadA Try.isAgg23 Try.sizeOf23 rfl) ?_
      refine o_val_g (ex_call Try.call79 rfl (fun W hW => c79 wr.lo wr.hi (-1000000) 1000000)) ?_
      exact o_val_g (ex_not rfl) (o_nil (got rfl (.refl _)))
    refine k_cond rfl (fun h_1 => ?_) (fun h_1 => ?_)
    ·
      refine k_seq (k_region ?_)
      refine o_val (ex_loadA Try.isAgg23 Try.sizeOf23 rfl) ?_
      refine o_store Try.sizeOf23 rfl rfl ?_
      refine o_val (ex_assign rfl) (o_nil ?_)
      refine k_ret ?_
      exact finC1 rfl Try.isAgg23 Try.sizeOf23 rfl rfl rfl fun W hW => ⟨by rw [show learnR t ws z sh wr = (⟨0, 0⟩, 2) from (if_neg (by simp [hok])).trans (if_pos h_1)], hW.ext⟩
    ·
      have hb : ¬ ((!isSp z.lo z.hi (-20000000000) 20000000000 || !isSp sh sh (-20000000000) 20000000000) || !isSp wr.lo wr.hi (-1000000) 1000000) = true := by rw [h_1]; decide
      have h2 := h_1
      simp only [Bool.or_eq_false_iff, Bool.not_eq_false'] at h2
      obtain ⟨⟨z1, z2⟩, z3⟩ := h2
      have z1 := isSp_iff.1 z1
      have z2 := isSp_iff.1 z2
      have z3 := isSp_iff.1 z3
      refine k_skip ?_
      refine k_seq (k_draw [true, true, true, true, true, true, true, true, false, false] 2 ?_ mixed (by kernel_rfl) rfl)
      refine d_loadA (i := 0) Try.isAgg23 Try.sizeOf23 rfl ?_
      refine d_loadA (i := 1) Try.isAgg23 Try.sizeOf23 rfl ?_
      refine d_val (i := 2) [] (ex_call Try.call81 rfl (fun W hW => c81 wr.lo wr.hi (by unfold I64; omega) (by unfold I64; omega))) ?_
      refine d_val (i := 3) [] (ex_field (o := 0) 3 fa26_2 rfl rfl) ?_
      refine d_loadA (i := 4) Try.isAgg23 Try.sizeOf23 rfl ?_
      refine d_val (i := 5) [] (ex_call Try.call81 rfl (fun W hW => c81 t.cl t.ch (by unfold I64; omega) (by unfold I64; omega))) ?_
      refine d_val (i := 6) [] (ex_call Try.call80 rfl (fun W hW => c80 _ _ _ _ (by unfold I64; omega) (by unfold I64; omega))) ?_
      refine d_val (i := 7) [] (ex_call Try.call80 rfl (fun W hW => c80 _ _ _ _ (by unfold I64; omega) (by unfold I64; omega))) ?_
      refine d_rest ?_
      refine d_rest ?_
      refine d_nil ?_
      refine r_one 8 (rs_alloc rfl Try.zeroValue23 (fun b12 => ?_)) (by kernel_rfl)
      refine r_one 9 (rs_store [8, 7, 7, 0, 1, 2, 3, 4, 5, 6, 7, 8] rfl Try.sizeOf23 rfl rfl ?_) (by kernel_rfl)
      refine r_nil ?_ (by kernel_rfl)
      refine k_seq (k_region ?_)
      refine o_val (ex_field (o := 0) 0 fa23_0 rfl rfl) ?_
      refine o_val (ex_load Try.isAgg3 rfl rfl) ?_
      refine o_val (ex_field (o := 0) 0 fa23_0 rfl rfl) ?_
      refine o_val (ex_load Try.isAgg3 rfl rfl) ?_
      refine o_val (ex_max rfl rfl) ?_
      refine o_val (ex_field (o := 0) 1 fa23_1 rfl rfl) ?_
      refine o_val (ex_load Try.isAgg3 rfl rfl) ?_
      refine o_val (ex_field (o := 0) 1 fa23_1 rfl rfl) ?_
      refine o_val (ex_load Try.isAgg3 rfl rfl) ?_
      refine o_val (ex_min rfl rfl) ?_
      refine o_val (ex_build bf23 rfl) ?_
      refine o_store Try.sizeOf23 rfl rfl (o_nil ?_)
      refine k_seq (k_seq (k_region ?_))
      refine o_val (ex_field (o := 0) 0 fa23_0 rfl rfl) ?_
      refine o_val (ex_load Try.isAgg3 rfl rfl) ?_
      refine o_val (ex_field (o := 0) 1 fa23_1 rfl rfl) ?_
      refine o_val (ex_load Try.isAgg3 rfl rfl) ?_
      refine o_val (ex_gtr rfl rfl) (o_nil ?_)
      refine k_cond rfl (fun h_2 => ?_) (fun h_2 => ?_)
      ·
        refine k_seq (k_region ?_)
        refine o_val (ex_build bf23 rfl) ?_
        refine o_store Try.sizeOf23 rfl rfl ?_
        refine o_val (ex_assign rfl) (o_nil ?_)
        refine k_ret ?_
        exact finC1 rfl Try.isAgg23 Try.sizeOf23 rfl rfl rfl fun W hW => ⟨by rw [show learnR t ws z sh wr = (⟨0, 0⟩, 9) from (if_neg (by simp [hok])).trans ((if_neg hb).trans (if_pos (of_decide_eq_true h_2)))], hW.ext⟩
      ·
        refine k_skip ?_
        refine k_seq (k_region ?_)
        refine o_val (ex_loadA Try.isAgg23 Try.sizeOf23 rfl) ?_
        refine o_store Try.sizeOf23 rfl rfl ?_
        refine o_val (ex_assign rfl) (o_nil ?_)
        refine k_ret ?_
        exact finC1 rfl Try.isAgg23 Try.sizeOf23 rfl rfl rfl fun W hW => ⟨by rw [show learnR t ws z sh wr = _ from (if_neg (by simp [hok])).trans ((if_neg hb).trans (if_neg (of_decide_eq_false h_2)))], hW.ext⟩

-- == f83 acme/die.Looks$1 params [3] results [4] in [('tmp', ['5'])] ntmps 15 nfree 3
theorem c83 (i _ol oh wt _zl zh : Int) {b1 b2 b3 : Nat} {w : World} (h1 : w.cell? ⟨b1, 1, none⟩ = some (.int .i64 oh)) (h2 : w.cell? ⟨b2, 0, none⟩ = some (.int .i64 wt)) (h3 : w.cell? ⟨b3, 1, none⟩ = some (.int .i64 zh)) (hb : I64 (i * wt)) (hc : I64 (oh + i * wt)) : Calls Try.prog 83 [.int .i64 i, .pointer (some ⟨b1, 0, none⟩), .pointer (some ⟨b2, 0, none⟩), .pointer (some ⟨b3, 0, none⟩)].toArray w fun e w' => e = .returned (.bool (decide (zh < oh + i * wt))) ∧ Ext [] w w' := by
  refine fn_start Try.func83 rfl (N := 15) rfl ?_
  refine k_seq (k_region ?_)
  refine o_val (ex_assign rfl) (o_nil ?_)
  refine k_seq (k_region ?_)
  refine o_val (ex_field_old fa23_1 rfl) ?_
  refine o_val (ex_load_old Try.isAgg3 rfl (by rw [add_lit]; exact h1) (by simp)) ?_
  refine o_val (ex_move rfl) ?_
  refine o_val (ex_load_old Try.isAgg3 rfl h2 (by simp)) ?_
  refine o_val (ex_mul64 rfl rfl hb) ?_
  refine o_val (ex_add64 rfl rfl hc) ?_
  refine o_val (ex_field_old fa23_1 rfl) ?_
  refine o_val (ex_load_old Try.isAgg3 rfl (by rw [add_lit]; exact h3) (by simp)) ?_
  refine o_val (ex_gtr rfl rfl) ?_
  refine o_val (ex_assign rfl) (o_nil ?_)
  refine k_ret ?_
  exact fin1 rfl rfl fun W hW => ⟨rfl, hW.ext⟩

-- == f41 acme/die.Looks params [26, 23, 3, 23] results [3, 33] in [('tmp', ['8']), ('tmp', ['9'])] ntmps 60 nfree 0
theorem c41 (t : To) (ws : List Sp) {A : Option Addr} {c : Nat} (z : Sp) (st : Int) (zn : Sp) {w : World} (hws : ElAt w A ws) : Calls Try.prog 41 [.agg [.bool t.down, .int .i64 t.sl, .int .i64 t.sh, .int .i64 t.cl, .int .i64 t.ch, .slice A ws.length c].toArray, .agg [.int .i64 z.lo, .int .i64 z.hi].toArray, .int .i64 st, .agg [.int .i64 zn.lo, .int .i64 zn.hi].toArray].toArray w fun e w' => e = .returned (.tuple #[.int .i64 (looksR t ws z st zn).1, .int .i64 (looksR t ws z st zn).2]) ∧ Ext [] w w' := by
  refine fn_start Try.func41 rfl (N := 60) rfl ?_
  refine k_seq (k_region ?_)
  refine o_box rfl (fun b4 => ?_)
  refine o_box rfl (fun b5 => ?_)
  refine o_box rfl (fun b7 => ?_)
  refine o_val (ex_assign rfl) ?_
  refine o_val (ex_assign rfl) (o_nil ?_)
  refine k_seq (k_seq (k_region ?_))
  refine o_val (ex_loadA Try.isAgg26 Try.sizeOf26 rfl) ?_
  refine o_val (ex_call Try.call59 rfl (fun W hW => c59 t ws (hws.ext hW.ext))) ?_
  refine o_val (ex_assign rfl) (o_nil ?_)
  refine k_block ?_
  refine k_seq (k_region ?_)
  refine o_val (ex_move rfl) ?_
  refine o_val (ex_neq rfl rfl) ?_
  refine o_val (ex_assign rfl) (o_nil ?_)
  refine k_cond rfl (fun h => ?_) (fun h => ?_)
  ·
    have hn : ¬ toolE t ws = 0 := fun e => by simp [e] at h
    refine k_seq (k_region ?_)
    refine o_val (ex_move rfl) ?_
    refine o_val (ex_assign rfl) ?_
    refine o_val (ex_assign rfl) (o_nil ?_)
    refine k_ret ?_
    exact fin2 rfl rfl rfl fun W hW => ⟨by rw [show looksR t ws z st zn = (0, toolE t ws) from if_pos hn], hW.ext⟩
  ·
    have hok : toolE t ws = 0 := by simpa using h
    have ok := toolE_ok.1 hok
    have oc := ok.c
    have ow := ok.w
    have on8 := ok.n8
    refine k_seq (k_seq (k_region ?_))
    refine o_val (ex_loadA Try.isAgg23 Try.sizeOf23 rfl) ?_
    refine o_val (ex_call Try.call78 rfl (fun W hW => c78 z.lo z.hi)) ?_
    refine o_val (ex_not rfl) ?_
    refine o_val (ex_assign rfl) (o_nil ?_)
    refine k_cut (ι := Unit) (fun _ => [(2, .int .i64 st), (4, .pointer (some ⟨b4, 0, none⟩)), (5, .pointer (some ⟨b5, 0, none⟩)), (7, .pointer (some ⟨b7, 0, none⟩)), (20, .bool (!isSp z.lo z.hi (-20000000000) 20000000000 || !isSp zn.lo zn.hi 0 10000000000))]) (fun _ => [⟨b7, 23, [.int .i64 zn.lo, .int .i64 zn.hi], true⟩, ⟨b5, 23, [.int .i64 z.lo, .int .i64 z.hi], true⟩, ⟨b4, 26, [.bool t.down, .int .i64 t.sl, .int .i64 t.sh, .int .i64 t.cl, .int .i64 t.ch, .slice A ws.length c], true⟩]) (fun _ => True) ?_ (fun _ _ => ?_)
    · refine k_cond rfl (fun h_1 => ?_) (fun h_1 => ?_)
      ·
        refine k_skip ?_
        exact k_some () trivial (Sub.cons rfl (Sub.cons rfl (Sub.cons rfl (Sub.cons rfl (Sub.cons' rfl (by simp [h_1]) (Sub.nil _)))))) SubE.sub
      ·
        refine k_region ?_
        refine o_val (ex_loadA Try.isAgg23 Try.sizeOf23 rfl) ?_
        refine o_val (ex_call Try.call61 rfl (fun W hW => c61 zn.lo zn.hi)) ?_
        refine o_val (ex_not rfl) ?_
        refine o_val (ex_assign rfl) (o_nil ?_)
        exact k_some () trivial (Sub.cons rfl (Sub.cons rfl (Sub.cons rfl (Sub.cons rfl (Sub.cons' rfl (by simp [h_1]) (Sub.nil _)))))) SubE.sub
    refine k_cond rfl (fun h_1 => ?_) (fun h_1 => ?_)
    ·
      refine k_seq (k_region ?_)
      refine o_val (ex_assign rfl) ?_
      refine o_val (ex_assign rfl) (o_nil ?_)
      refine k_ret ?_
      exact fin2 rfl rfl rfl fun W hW => ⟨by rw [show looksR t ws z st zn = (0, 2) from (if_neg (by simp [hok])).trans (if_pos h_1)], hW.ext⟩
    ·
      have hb : ¬ (!isSp z.lo z.hi (-20000000000) 20000000000 || !isSp zn.lo zn.hi 0 10000000000) = true := by rw [h_1]; decide
      have h2 := h_1
      simp only [Bool.or_eq_false_iff, Bool.not_eq_false'] at h2
      obtain ⟨z1, z2⟩ := h2
      have z1 := isSp_iff.1 z1
      have z2 := isSp_iff.1 z2
      refine k_skip ?_
      refine k_seq (k_seq (k_region ?_))
      refine o_val (ex_loadA Try.isAgg26 Try.sizeOf26 rfl) ?_
      refine o_val (ex_move rfl) ?_
      refine o_val (ex_call Try.call62 rfl (fun W hW => c62 t ws st (by omega))) ?_
      refine o_val (ex_assign rfl) (o_nil ?_)
      refine k_seq (k_region ?_)
      refine o_val (ex_move rfl) ?_
      refine o_val (ex_neq rfl rfl) (o_nil ?_)
      refine k_cond rfl (fun h_2 => ?_) (fun h_2 => ?_)
      ·
        have hst : wi 0 ((ws.length : Int) - 1) [st] = false := by
          cases hq : wi 0 ((ws.length : Int) - 1) [st] with
          | false => rfl
          | true => rw [hq] at h_2; cases h_2
        refine k_seq (k_region ?_)
        refine o_val (ex_move rfl) ?_
        refine o_val (ex_assign rfl) ?_
        refine o_val (ex_assign rfl) (o_nil ?_)
        refine k_ret ?_
        exact fin2 rfl rfl rfl fun W hW => ⟨by rw [show looksR t ws z st zn = (0, 7) from (if_neg (by simp [hok])).trans ((if_neg hb).trans (if_pos hst)), hst]; rfl, hW.ext⟩
      ·
        have hst : wi 0 ((ws.length : Int) - 1) [st] = true := by
          cases hq : wi 0 ((ws.length : Int) - 1) [st] with
          | true => rfl
          | false => rw [hq] at h_2; cases h_2
        have hstf : ¬ wi 0 ((ws.length : Int) - 1) [st] = false := by rw [hst]; decide
        rw [wi_one, decide_eq_true_eq] at hst
        obtain ⟨a, hA, hc⟩ := hws st.toNat (by omega)
        have ewt : wOf ws st = ws[st.toNat]'(by omega) := by unfold wOf; simp [List.getD, List.getElem?_eq_getElem (show st.toNat < ws.length by omega)]
        have hwb := ow _ (List.getElem_mem (show st.toNat < ws.length by omega))
        rw [← ewt] at hwb
        have hc1 := hc 1 (.int .i64 (wOf ws st).hi) (by rw [ewt]; rfl)
        refine k_skip ?_
        refine k_seq (k_seq (k_region ?_))
        refine o_val (ex_field (o := 0) 0 fa26_0 rfl rfl) ?_
        refine o_val (ex_load Try.isAgg4 rfl rfl) (o_nil ?_)
        refine k_cut (ι := Unit) (fun _ => [(2, .int .i64 st), (4, .pointer (some ⟨b4, 0, none⟩)), (5, .pointer (some ⟨b5, 0, none⟩)), (7, .pointer (some ⟨b7, 0, none⟩))]) (fun _ => [⟨b7, 23, [.int .i64 (turnS t.down zn).lo, .int .i64 (turnS t.down zn).hi], true⟩, ⟨b5, 23, [.int .i64 (turnS t.down z).lo, .int .i64 (turnS t.down z).hi], true⟩, ⟨b4, 26, [.bool t.down, .int .i64 t.sl, .int .i64 t.sh, .int .i64 (turnS t.down ⟨t.cl, t.ch⟩).lo, .int .i64 (turnS t.down ⟨t.cl, t.ch⟩).hi, .slice A ws.length c], true⟩]) (fun _ => True) ?_ (fun _ _ => ?_)
        · refine k_cond rfl (fun h_3 => ?_) (fun h_3 => ?_)
          ·
            refine k_draw [true, true, true, true, true, true, true, false, false, true, false] 3 ?_ mixed (by kernel_rfl) rfl
            refine d_loadA (i := 0) Try.isAgg23 Try.sizeOf23 rfl ?_
            refine d_val (i := 1) [] (ex_call Try.call81 rfl (fun W hW => c81 z.lo z.hi (by unfold I64; omega) (by unfold I64; omega))) ?_
            refine d_loadA (i := 2) Try.isAgg23 Try.sizeOf23 rfl ?_
            refine d_val (i := 3) [] (ex_call Try.call81 rfl (fun W hW => c81 zn.lo zn.hi (by unfold I64; omega) (by unfold I64; omega))) ?_
            refine d_val (i := 4) [] (ex_field (o := 0) 3 fa26_2 rfl rfl) ?_
            refine d_loadA (i := 5) Try.isAgg23 Try.sizeOf23 rfl ?_
            refine d_val (i := 6) [] (ex_call Try.call81 rfl (fun W hW => c81 t.cl t.ch (by unfold I64; omega) (by unfold I64; omega))) ?_
            refine d_rest ?_
            refine d_rest ?_
            refine d_val (i := 9) [] (ex_field (o := 0) 3 fa26_2 rfl rfl) ?_
            refine d_rest ?_
            refine d_nil ?_
            refine r_one 7 (rs_store [1, 6, 0, 1] rfl Try.sizeOf23 rfl rfl ?_) (by kernel_rfl)
            refine r_one 8 (rs_store [3, 7, 0, 1, 2, 3, 7] rfl Try.sizeOf23 rfl rfl ?_) (by kernel_rfl)
            refine r_one 10 (rs_store [9, 6, 8, 0, 1, 2, 3, 4, 5, 6, 7, 8] rfl Try.sizeOf23 rfl rfl ?_) (by kernel_rfl)
            refine r_nil ?_ (by kernel_rfl)
            exact k_some () trivial (Sub.cons rfl (Sub.cons rfl (Sub.cons rfl (Sub.cons rfl (Sub.nil _))))) (by rw [show t.down = true from h_3]; dsimp only [turnS]; simp only [if_true]; exact SubE.sub)
          ·
            refine k_skip ?_
            exact k_some () trivial (Sub.cons rfl (Sub.cons rfl (Sub.cons rfl (Sub.cons rfl (Sub.nil _))))) (by rw [show t.down = false from h_3]; dsimp only [turnS]; simp only [Bool.false_eq_true, if_false]; exact SubE.sub)
        have bz : -20000000000 ≤ (turnS t.down z).lo ∧ (turnS t.down z).hi ≤ 20000000000 ∧ (turnS t.down z).lo ≤ (turnS t.down z).hi := by unfold turnS; split <;> first | omega | (dsimp only; omega)
        have bc : -1000000 ≤ (turnS t.down ⟨t.cl, t.ch⟩).lo ∧ (turnS t.down ⟨t.cl, t.ch⟩).hi ≤ 1000000 ∧ (turnS t.down ⟨t.cl, t.ch⟩).lo ≤ (turnS t.down ⟨t.cl, t.ch⟩).hi := by unfold turnS; split <;> first | omega | (dsimp only; omega)
        subst hA
        refine k_seq (k_draw [true, true, true, true, true, true, true, true, true, true, false, false, false, false] 4 ?_ mixed (by kernel_rfl) rfl)
        refine d_loadA (i := 0) Try.isAgg23 Try.sizeOf23 rfl ?_
        refine d_val (i := 1) [] (ex_field (o := 0) 3 fa26_2 rfl rfl) ?_
        refine d_loadA (i := 2) Try.isAgg23 Try.sizeOf23 rfl ?_
        refine d_val (i := 3) [] (ex_call Try.call80 rfl (fun W hW => c80 _ _ _ _ (by unfold I64; omega) (by unfold I64; omega))) ?_
        refine d_val (i := 4) [] (ex_field (o := 0) 5 fa26_3 rfl rfl) ?_
        refine d_load (i := 5) Try.isAgg24 rfl rfl ?_
        refine d_val (i := 6) [] (ex_move rfl) ?_
        refine d_val (i := 7) [] (ex_index_old Try.runUnderlying24 Try.sizeOf23 rfl rfl (by omega) (by omega)) ?_
        refine d_val (i := 8) [] (ex_field_old fa23_1 rfl) ?_
        refine d_val (i := 9) [] (ex_load_old (v := .int .i64 (wOf ws st).hi) Try.isAgg3 rfl hc1 (by simp)) ?_
        refine d_rest ?_
        refine d_rest ?_
        refine d_rest ?_
        refine d_rest ?_
        refine d_nil ?_
        refine r_allocs (by kernel_rfl) (by kernel_rfl) (by kernel_rfl) rfl rfl (j := 10) (j' := 11) Try.zeroValue23 Try.zeroValue3 (fun b12 b13 => ?_)
        refine r_one 12 (rs_store [10, 3, 3, 0, 1, 2, 3, 10, 11] rfl Try.sizeOf23 rfl rfl ?_) (by kernel_rfl)
        refine r_one 13 (rs_store [11, 9, 12, 0, 1, 2, 3, 4, 5, 6, 7, 8, 9, 10, 11, 12] rfl Try.sizeOf3 rfl rfl ?_) (by kernel_rfl)
        refine r_nil ?_ (by kernel_rfl)
        refine k_seq (k_seq (k_region ?_))
        refine o_val (ex_field (o := 0) 0 fa23_0 rfl rfl) ?_
        refine o_val (ex_load Try.isAgg3 rfl rfl) ?_
        refine o_val (ex_field (o := 0) 0 fa23_0 rfl rfl) ?_
        refine o_val (ex_load Try.isAgg3 rfl rfl) ?_
        refine o_val (ex_lss rfl rfl) (o_nil ?_)
        refine k_cond rfl (fun h_3 => ?_) (fun h_3 => ?_)
        ·
          refine k_seq (k_region ?_)
          refine o_val (ex_assign rfl) ?_
          refine o_val (ex_assign rfl) (o_nil ?_)
          refine k_ret ?_
          exact fin2 rfl rfl rfl fun W hW => ⟨by rw [show looksR t ws z st zn = (0, 0) from (if_neg (by simp [hok])).trans ((if_neg hb).trans ((if_neg hstf).trans (if_pos (of_decide_eq_true h_3))))], hW.ext⟩
        ·
          refine k_skip ?_
          refine k_seq (k_region ?_)
          refine o_val (ex_makeFunc rfl rfl) ?_
          refine o_val (ex_call (vs := [.int .i64 10000, .func (.func 83) [].toArray [.pointer (some ⟨b12, 0, none⟩), .pointer (some ⟨b13, 0, none⟩), .pointer (some ⟨b7, 0, none⟩)].toArray]) (v := .int .i64 (lead (fun i => !(fun i : Nat => decide ((turnS t.down zn).hi < (turnS t.down z).hi + (turnS t.down ⟨t.cl, t.ch⟩).hi + (i : Int) * (wOf ws st).hi)) i) 10000 : Nat)) Try.call82 rfl (fun W hW => by
            exact c82 (g := 83) (cap := [.pointer (some ⟨b12, 0, none⟩), .pointer (some ⟨b13, 0, none⟩), .pointer (some ⟨b7, 0, none⟩)]) (fun i : Nat => decide ((turnS t.down zn).hi < (turnS t.down z).hi + (turnS t.down ⟨t.cl, t.ch⟩).hi + (i : Int) * (wOf ws st).hi)) 10000 (by omega) Try.call83 (fun i j hij hj hp => by
              have := of_decide_eq_true hp
              have hm := Int.mul_le_mul_of_nonneg_right (show (i : Int) ≤ (j : Int) by omega) (show 0 ≤ (wOf ws st).hi by omega)
              exact decide_eq_true (by omega)) (fun i hi X hX => by
              have hp := prodB (a := (wOf ws st).hi) (A := 100000) (b := (i : Int)) (B := 10000) (by omega) (by omega) (by omega) (by omega)
              rw [Int.mul_comm] at hp
              exact c83 i ((turnS t.down z).lo + (turnS t.down ⟨t.cl, t.ch⟩).lo) _ _ (turnS t.down zn).lo _ (b1 := b12) (b2 := b13) (b3 := b7) ((cell_ent (hW.ext0 hX) (b := b12) (o := 1) rfl)) ((cell_ent (hW.ext0 hX) (b := b13) (o := 0) rfl)) ((cell_ent (hW.ext0 hX) (b := b7) (o := 1) rfl)) (by unfold I64; omega) (by unfold I64; omega)))) ?_
          refine o_val (ex_assign rfl) ?_
          refine o_val (ex_assign rfl) (o_nil ?_)
          refine k_ret ?_
          exact fin2 rfl rfl rfl fun W hW => ⟨by rw [show looksR t ws z st zn = _ from (if_neg (by simp [hok])).trans ((if_neg hb).trans ((if_neg hstf).trans (if_neg (of_decide_eq_false h_3))))], hW.ext⟩

end Go.Proofs.Ytdflfnednaleeaa
