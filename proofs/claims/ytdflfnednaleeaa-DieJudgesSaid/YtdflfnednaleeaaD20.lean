/- The walks of functions: what each call hands back, and that nothing that was there has turned. Printed by a program of this session (wip/tools/gen.py). -/
import Derived.Test.YtdflfnednaleeaaD17
import Derived.Test.YtdflfnednaleeaaPl8
namespace Go.Proofs.Ytdflfnednaleeaa
open Go
attribute [local irreducible] ExV Ex
set_option synthInstance.maxSize 2000
set_option synthInstance.maxHeartbeats 200000
set_option maxRecDepth 20000

-- == f69 acme/acmeref07.Order params [27, 3] results [88] in [('cell', ['4', '88'])] ntmps 26 nfree 0
theorem c69 (os : List Od) {A2 : Option Addr} {c2 : Nat} (p : Int) {w : World} (hl : os.length ≤ 45) (hpc : ∀ o, o ∈ os → 1 ≤ o.pc ∧ o.pc ≤ 10000) (h0 : 0 ≤ p) (hp : p < allP os) (hos : ElAt w A2 os) : Calls Try.prog 69 [.slice A2 os.length c2, .int .i64 p].toArray w fun e w' => e = .returned (odV (po os p)) ∧ Ext [] w w' := by
  have hl0 : 0 < os.length := by
    by_cases e : os.length = 0
    · unfold allP at hp; rw [e, pre_zero] at hp; omega
    · omega
  refine fn_start Try.func69 rfl (N := 26) rfl ?_
  refine k_seq (k_region ?_)
  refine o_alloc Try.zeroValue88 (fun b4 => o_nil ?_)
  refine k_seq (k_region ?_)
  refine o_val (ex_assign rfl) (o_nil ?_)
  refine k_seq (k_block ?_)
  refine k_loop (ι := Nat) (fun k => [(0, .slice A2 os.length c2), (1, .int .i64 (p - pre os k)), (4, .pointer (some ⟨b4, 0, none⟩)), (5, .int .i64 (k : Int))]) (fun k => [⟨b4, 88, [.int .i64 0, .int .i64 0, .int .i64 0, .int .i64 0], true⟩]) (fun k => k < os.length ∧ pre os k ≤ p) (fun k => os.length - k) 0 ⟨hl0, by rw [pre_zero]; exact h0⟩ (Sub.cons rfl (Sub.cons' rfl (by congr 1; first | (rw [pre_zero]; omega) | omega) (Sub.cons rfl (Sub.cons rfl (Sub.nil _))))) SubE.sub (fun k hk => ?_)
  obtain ⟨hlt, hI⟩ := hk
  obtain ⟨a, hA, hc⟩ := hos k hlt
  subst hA
  have hpk := hpc os[k] (List.getElem_mem hlt)
  have hpb := pre_bound hpc k (by omega)
  have hpa := pre_bound hpc os.length (Nat.le_refl _)
  have hps := pre_succ hlt
  unfold allP at hp
  refine k_seq (k_seq (k_region ?_))
  refine o_val (ex_move rfl) ?_
  refine o_val (ex_move rfl) ?_
  refine o_val (ex_move rfl) ?_
  refine o_val (ex_index_old Try.runUnderlying27 Try.sizeOf88 rfl rfl (by omega) (by omega)) ?_
  refine o_val (ex_field_old fa88_0 rfl) ?_
  refine o_val (ex_load_old Try.isAgg3 rfl (hc 0 (.int .i64 os[k].pc) rfl) (by simp)) ?_
  refine o_val (ex_geq rfl rfl) (o_nil ?_)
  refine k_cond rfl (fun h => ?_) (fun h => ?_)
  ·
    have h1 : os[k].pc ≤ p - pre os k := of_decide_eq_true h
    have hlt2 : k + 1 < os.length := by
      by_cases e : k + 1 = os.length
      · rw [← e] at hp; omega
      · omega
    refine k_skip ?_
    refine k_block ?_
    refine k_seq (k_region ?_)
    refine o_val (ex_move rfl) ?_
    refine o_val (ex_move rfl) ?_
    refine o_val (ex_move rfl) ?_
    refine o_val (ex_index_old Try.runUnderlying27 Try.sizeOf88 rfl rfl (by omega) (by omega)) ?_
    refine o_val (ex_field_old fa88_0 rfl) ?_
    refine o_val (ex_load_old Try.isAgg3 rfl (hc 0 (.int .i64 os[k].pc) rfl) (by simp)) ?_
    refine o_val (ex_sub64 rfl rfl (by unfold I64; omega)) ?_
    refine o_val (ex_assign rfl) (o_nil ?_)
    refine k_region ?_
    refine o_val (ex_move rfl) ?_
    refine o_val (ex_add64 rfl rfl (by unfold I64; omega)) ?_
    refine o_val (ex_assign rfl) (o_nil ?_)
    exact k_some (k + 1) ⟨⟨hlt2, by omega⟩, by omega⟩ (Sub.cons rfl (Sub.cons' rfl (by congr 1; first | (rw [pre_zero]; omega) | omega) (Sub.cons rfl (Sub.cons rfl (Sub.nil _))))) SubE.sub
  ·
    have h1 : ¬ os[k].pc ≤ p - pre os k := of_decide_eq_false h
    refine k_exit rfl ?_
    refine k_seq (k_region ?_)
    refine o_val (ex_move rfl) ?_
    refine o_val (ex_move rfl) ?_
    refine o_val (ex_index_old Try.runUnderlying27 Try.sizeOf88 rfl rfl (by omega) (by omega)) ?_
    refine o_val (ex_loadA_old Try.isAgg88 Try.sizeOf88 rfl rfl (vs := [.int .i64 os[k].pc, .int .i64 os[k].st, .int .i64 os[k].zl, .int .i64 os[k].zh]) hc (by simp)) ?_
    refine o_store Try.sizeOf88 rfl rfl (o_nil ?_)
    refine k_ret ?_
    exact finC rfl Try.isAgg88 Try.sizeOf88 rfl rfl fun W hW => ⟨by rw [po_of hpc h0 hlt hI (by omega)], hW.ext⟩

-- == f70 acme/acmeref07.Off params [26, 23] results [23] in [('cell', ['4', '23'])] ntmps 35 nfree 0
theorem c70 (t : To) (ws : List Sp) {A : Option Addr} {c : Nat} (x : Sp) {w : World} (ht : ToOk t ws) (hx : -100000000000 ≤ x.lo ∧ x.lo ≤ 100000000000 ∧ -100000000000 ≤ x.hi ∧ x.hi ≤ 100000000000) : Calls Try.prog 70 [.agg [.bool t.down, .int .i64 t.sl, .int .i64 t.sh, .int .i64 t.cl, .int .i64 t.ch, .slice A ws.length c].toArray, .agg [.int .i64 x.lo, .int .i64 x.hi].toArray].toArray w fun e w' => e = .returned (.agg [.int .i64 (t.sl + (turnS t.down x).lo + t.cl), .int .i64 (t.sh + (turnS t.down x).hi + t.ch)].toArray) ∧ Ext [] w w' := by
  refine fn_start Try.func70 rfl (N := 35) rfl ?_
  refine k_seq (k_region ?_)
  refine o_box rfl (fun b2 => ?_)
  refine o_box rfl (fun b3 => ?_)
  refine o_alloc Try.zeroValue23 (fun b4 => o_nil ?_)
  refine k_seq (k_seq (k_region ?_))
  refine o_val (ex_field (o := 0) 0 fa26_0 rfl rfl) ?_
  refine o_val (ex_load Try.isAgg4 rfl rfl) (o_nil ?_)
  refine k_cut (ι := Unit) (fun _ => [(2, .pointer (some ⟨b2, 0, none⟩)), (3, .pointer (some ⟨b3, 0, none⟩)), (4, .pointer (some ⟨b4, 0, none⟩))]) (fun _ => [⟨b4, 23, [.int .i64 0, .int .i64 0], true⟩, ⟨b3, 23, [.int .i64 (turnS t.down x).lo, .int .i64 (turnS t.down x).hi], true⟩, ⟨b2, 26, [.bool t.down, .int .i64 t.sl, .int .i64 t.sh, .int .i64 t.cl, .int .i64 t.ch, .slice A ws.length c], true⟩]) (fun _ => True) ?_ (fun _ _ => ?_)
  · refine k_cond rfl (fun h => ?_) (fun h => ?_)
    ·
      refine k_region ?_
      refine o_val (ex_field (o := 0) 1 fa23_1 rfl rfl) ?_
      refine o_val (ex_load Try.isAgg3 rfl rfl) ?_
      refine o_val (ex_neg64 rfl (by unfold I64; omega)) ?_
      refine o_val (ex_field (o := 0) 0 fa23_0 rfl rfl) ?_
      refine o_val (ex_load Try.isAgg3 rfl rfl) ?_
      refine o_val (ex_neg64 rfl (by unfold I64; omega)) ?_
      refine o_val (ex_build bf23 rfl) ?_
      refine o_store Try.sizeOf23 rfl rfl (o_nil ?_)
      exact k_some () trivial (Sub.cons rfl (Sub.cons rfl (Sub.cons rfl (Sub.nil _)))) (by rw [show t.down = true from h]; dsimp only [turnS]; simp only [if_true]; exact SubE.sub)
    ·
      refine k_skip ?_
      exact k_some () trivial (Sub.cons rfl (Sub.cons rfl (Sub.cons rfl (Sub.nil _)))) (by rw [show t.down = false from h]; dsimp only [turnS]; simp only [Bool.false_eq_true, if_false]; exact SubE.sub)
  have hb : -100000000000 ≤ (turnS t.down x).lo ∧ (turnS t.down x).lo ≤ 100000000000 ∧ -100000000000 ≤ (turnS t.down x).hi ∧ (turnS t.down x).hi ≤ 100000000000 := by unfold turnS; split <;> first | omega | (dsimp only; omega)
  have hs := ht.s
  have hc := ht.c
  refine k_seq (k_region ?_)
  refine o_val (ex_field (o := 0) 1 fa26_1 rfl rfl) ?_
  refine o_val (ex_field (o := 1) 1 fa23_0 rfl rfl) ?_
  refine o_val (ex_load Try.isAgg3 rfl rfl) ?_
  refine o_val (ex_field (o := 0) 0 fa23_0 rfl rfl) ?_
  refine o_val (ex_load Try.isAgg3 rfl rfl) ?_
  refine o_val (ex_add64 rfl rfl (by unfold I64; omega)) ?_
  refine o_val (ex_field (o := 0) 3 fa26_2 rfl rfl) ?_
  refine o_val (ex_field (o := 3) 3 fa23_0 rfl rfl) ?_
  refine o_val (ex_load Try.isAgg3 rfl rfl) ?_
  refine o_val (ex_add64 rfl rfl (by unfold I64; omega)) ?_
  refine o_val (ex_field (o := 0) 1 fa26_1 rfl rfl) ?_
  refine o_val (ex_field (o := 1) 2 fa23_1 rfl rfl) ?_
  refine o_val (ex_load Try.isAgg3 rfl rfl) ?_
  refine o_val (ex_field (o := 0) 1 fa23_1 rfl rfl) ?_
  refine o_val (ex_load Try.isAgg3 rfl rfl) ?_
  refine o_val (ex_add64 rfl rfl (by unfold I64; omega)) ?_
  refine o_val (ex_field (o := 0) 3 fa26_2 rfl rfl) ?_
  refine o_val (ex_field (o := 3) 4 fa23_1 rfl rfl) ?_
  refine o_val (ex_load Try.isAgg3 rfl rfl) ?_
  refine o_val (ex_add64 rfl rfl (by unfold I64; omega)) ?_
  refine o_val (ex_build bf23 rfl) ?_
  refine o_store Try.sizeOf23 rfl rfl (o_nil ?_)
  refine k_ret ?_
  exact finC rfl Try.isAgg23 Try.sizeOf23 rfl rfl fun W hW => ⟨rfl, hW.ext⟩

-- == f23 acme/acmeref07.Wear params [26, 27, 3, 3] results [23] in [('cell', ['8', '23'])] ntmps 40 nfree 0
theorem c23 (t : To) (ws : List Sp) {A : Option Addr} {c : Nat} (os : List Od) {A2 : Option Addr} {c2 : Nat} (f : Int) (n : Nat) {to : Int} (hto : to = f + n) {w : World} (hok : chkE t ws os = 0) (hf : 0 ≤ f) (hn : f + n ≤ allP os) (hws : ElAt w A ws) (hos : ElAt w A2 os) : Calls Try.prog 23 [.agg [.bool t.down, .int .i64 t.sl, .int .i64 t.sh, .int .i64 t.cl, .int .i64 t.ch, .slice A ws.length c].toArray, .slice A2 os.length c2, .int .i64 f, .int .i64 to].toArray w fun e w' => e = .returned (.agg [.int .i64 ((pw (openS t ws os) f n).lo), .int .i64 ((pw (openS t ws os) f n).hi)].toArray) ∧ Ext [] w w' := by
  have hS := openS_ok hok
  have hall := hS.all
  rw [allP_open] at hall
  have hck := chkE_ok.1 hok
  have hpc := chk_pc hok
  refine fn_start Try.func23 rfl (N := 40) rfl ?_
  refine k_seq (k_region ?_)
  refine o_box rfl (fun b4 => ?_)
  refine o_alloc Try.zeroValue23 (fun b8 => o_nil ?_)
  refine k_seq (k_region ?_)
  refine o_val (ex_build bf23 rfl) ?_
  refine o_alloc Try.zeroValue23 (fun b9 => ?_)
  refine o_store Try.sizeOf23 rfl rfl (o_nil ?_)
  refine k_seq (k_seq (k_region ?_))
  refine o_val (ex_move rfl) ?_
  refine o_val (ex_assign rfl) (o_nil ?_)
  refine k_block ?_
  refine k_loop (ι := Nat) (fun k => [(1, .slice A2 os.length c2), (3, .int .i64 to), (4, .pointer (some ⟨b4, 0, none⟩)), (8, .pointer (some ⟨b8, 0, none⟩)), (9, .pointer (some ⟨b9, 0, none⟩)), (10, .int .i64 (f + (k : Int)))]) (fun k => [⟨b9, 23, [.int .i64 (pw (openS t ws os) f k).lo, .int .i64 (pw (openS t ws os) f k).hi], true⟩, ⟨b8, 23, [.int .i64 0, .int .i64 0], true⟩, ⟨b4, 26, [.bool t.down, .int .i64 t.sl, .int .i64 t.sh, .int .i64 t.cl, .int .i64 t.ch, .slice A ws.length c], true⟩]) (fun k => k ≤ n) (fun k => n - k) 0 (Nat.zero_le _) (Sub.cons rfl (Sub.cons rfl (Sub.cons rfl (Sub.cons rfl (Sub.cons rfl (Sub.cons' rfl (by congr 1; omega) (Sub.nil _))))))) (by dsimp only [pw]; exact SubE.sub) (fun k hk => ?_)
  refine k_seq (k_seq (k_region ?_))
  refine o_val (ex_move rfl) ?_
  refine o_val (ex_move rfl) ?_
  refine o_val (ex_lss rfl rfl) (o_nil ?_)
  refine k_cond rfl (fun h => ?_) (fun h => ?_)
  ·
    have hlt : k < n := by have : f + (k : Int) < to := of_decide_eq_true h; omega
    have hpb := pw_bound hS f k
    have hm := po_mem hpc (p := f + k) (by omega) (by omega)
    have hoo := odE_ok.1 (hck.2.2.2 _ hm)
    obtain ⟨a, hA, hc⟩ := hws (po os (f + k)).st.toNat (by omega)
    subst hA
    have es : (stp (openS t ws os).ws (po (openS t ws os).os (f + k))) = ws[(po os (f + k)).st.toNat]'(by omega) := by
      rw [stp_open]; unfold stp; simp [List.getD, List.getElem?_eq_getElem (show (po os (f + k)).st.toNat < ws.length by omega)]
    have hsb := stp_bound hS (po (openS t ws os).os (f + k))
    refine k_skip ?_
    refine k_seq (k_block ?_)
    refine k_seq (k_draw [true, true, true, true, true, true, true, true, false, false] 2 ?_ mixed (by kernel_rfl) rfl)
    refine d_val (i := 0) [] (ex_field (o := 0) 5 fa26_3 rfl rfl) ?_
    refine d_load (i := 1) Try.isAgg24 rfl rfl ?_
    refine d_val (i := 2) [] (ex_move rfl) ?_
    refine d_val (i := 3) [] (ex_move rfl) ?_
    refine d_val (i := 4) [] (ex_call Try.call69 rfl (fun W hW => c69 os (f + k) (by omega) hpc (by omega) (by omega) (hos.ext hW.ext))) ?_
    refine d_val (i := 5) [] (ex_fieldV Try.runUnderlying88 Try.isAgg3 rfl rfl rfl) ?_
    refine d_val (i := 6) [] (ex_index_old Try.runUnderlying24 Try.sizeOf23 rfl rfl (by omega) (by omega)) ?_
    refine d_val (i := 7) [] (ex_loadA_old Try.isAgg23 Try.sizeOf23 rfl rfl (vs := [.int .i64 (stp (openS t ws os).ws (po (openS t ws os).os (f + k))).lo, .int .i64 (stp (openS t ws os).ws (po (openS t ws os).os (f + k))).hi]) (by rw [es]; exact hc) (by simp)) ?_
    refine d_rest ?_
    refine d_rest ?_
    refine d_nil ?_
    refine r_one 8 (rs_alloc rfl Try.zeroValue23 (fun b11 => ?_)) (by kernel_rfl)
    refine r_one 9 (rs_store [8, 7, 4, 0, 1, 2, 3, 4, 5, 6, 7, 8] rfl Try.sizeOf23 rfl rfl ?_) (by kernel_rfl)
    refine r_nil ?_ (by kernel_rfl)
    refine k_draw [true, true, true, true, true, true, true, true, true, true, true, false, true, false] 2 ?_ mixed (by kernel_rfl) rfl
    refine d_val (i := 0) [] (ex_field (o := 0) 0 fa23_0 rfl rfl) ?_
    refine d_load (i := 1) Try.isAgg3 rfl rfl ?_
    refine d_val (i := 2) [] (ex_field (o := 0) 0 fa23_0 rfl rfl) ?_
    refine d_load (i := 3) Try.isAgg3 rfl rfl ?_
    refine d_val (i := 4) [] (ex_add64 rfl rfl (by unfold I64; omega)) ?_
    refine d_val (i := 5) [] (ex_field (o := 0) 1 fa23_1 rfl rfl) ?_
    refine d_load (i := 6) Try.isAgg3 rfl rfl ?_
    refine d_val (i := 7) [] (ex_field (o := 0) 1 fa23_1 rfl rfl) ?_
    refine d_load (i := 8) Try.isAgg3 rfl rfl ?_
    refine d_val (i := 9) [] (ex_add64 rfl rfl (by unfold I64; omega)) ?_
    refine d_val (i := 10) [] (ex_field (o := 0) 0 fa23_0 rfl rfl) ?_
    refine d_rest ?_
    refine d_val (i := 12) [] (ex_field (o := 0) 1 fa23_1 rfl rfl) ?_
    refine d_rest ?_
    refine d_nil ?_
    refine r_one 11 (rs_store [10, 4, 0, 1, 2, 3, 4, 5, 6] rfl Try.sizeOf3 rfl rfl ?_) (by kernel_rfl)
    refine r_one 13 (rs_store [12, 9, 11, 0, 1, 2, 3, 4, 5, 6, 7, 8, 9, 10, 11] rfl Try.sizeOf3 rfl rfl ?_) (by kernel_rfl)
    refine r_nil ?_ (by kernel_rfl)
    refine k_region ?_
    refine o_val (ex_move rfl) ?_
    refine o_val (ex_add64 rfl rfl (by unfold I64; omega)) ?_
    refine o_val (ex_assign rfl) (o_nil ?_)
    exact k_some (k + 1) ⟨hlt, by omega⟩ (Sub.cons rfl (Sub.cons rfl (Sub.cons rfl (Sub.cons rfl (Sub.cons rfl (Sub.cons' rfl (by congr 1; omega) (Sub.nil _))))))) (by rw [pw_succ]; exact SubE.sub)
  ·
    have hge : k = n := by have : ¬ f + (k : Int) < to := of_decide_eq_false h; omega
    subst hge
    refine k_exit rfl ?_
    refine k_seq (k_region ?_)
    refine o_val (ex_loadA Try.isAgg23 Try.sizeOf23 rfl) ?_
    refine o_store Try.sizeOf23 rfl rfl (o_nil ?_)
    refine k_ret ?_
    exact finC rfl Try.isAgg23 Try.sizeOf23 rfl rfl fun W hW => ⟨rfl, hW.ext⟩

-- == f24 acme/acmeref07.Targets params [26, 27, 3, 3] results [23] in [('cell', ['8', '23'])] ntmps 66 nfree 0
theorem c24 (t : To) (ws : List Sp) {A : Option Addr} {c : Nat} (os : List Od) {A2 : Option Addr} {c2 : Nat} (f : Int) (n : Nat) {to : Int} (hto : to = f + n) {w : World} (hok : chkE t ws os = 0) (hf : 0 ≤ f) (hn : f + n ≤ allP os) (hws : ElAt w A ws) (hos : ElAt w A2 os) : Calls Try.prog 24 [.agg [.bool t.down, .int .i64 t.sl, .int .i64 t.sh, .int .i64 t.cl, .int .i64 t.ch, .slice A ws.length c].toArray, .slice A2 os.length c2, .int .i64 f, .int .i64 to].toArray w fun e w' => e = .returned (.agg [.int .i64 ((turnS t.down (ptg (openS t ws os) f n)).lo), .int .i64 ((turnS t.down (ptg (openS t ws os) f n)).hi)].toArray) ∧ Ext [] w w' := by
  have hS := openS_ok hok
  have hall := hS.all
  rw [allP_open] at hall
  have hck := chkE_ok.1 hok
  have hpc := chk_pc hok
  refine fn_start Try.func24 rfl (N := 66) rfl ?_
  refine k_seq (k_region ?_)
  refine o_box rfl (fun b4 => ?_)
  refine o_alloc Try.zeroValue23 (fun b8 => o_nil ?_)
  refine k_seq (k_region ?_)
  refine o_val (ex_build bf23 rfl) ?_
  refine o_val (ex_build bf23 rfl) ?_
  refine o_alloc Try.zeroValue23 (fun b9 => ?_)
  refine o_alloc Try.zeroValue23 (fun b10 => ?_)
  refine o_store Try.sizeOf23 rfl rfl ?_
  refine o_store Try.sizeOf23 rfl rfl (o_nil ?_)
  refine k_seq (k_seq (k_region ?_))
  refine o_val (ex_move rfl) ?_
  refine o_val (ex_assign rfl) (o_nil ?_)
  refine k_block ?_
  refine k_loop (ι := Nat) (fun k => [(1, .slice A2 os.length c2), (3, .int .i64 to), (4, .pointer (some ⟨b4, 0, none⟩)), (8, .pointer (some ⟨b8, 0, none⟩)), (9, .pointer (some ⟨b9, 0, none⟩)), (10, .pointer (some ⟨b10, 0, none⟩)), (11, .int .i64 (f + (k : Int)))]) (fun k => [⟨b10, 23, [.int .i64 (pw (openS t ws os) f k).lo, .int .i64 (pw (openS t ws os) f k).hi], true⟩, ⟨b9, 23, [.int .i64 (turnS t.down (ptg (openS t ws os) f k)).lo, .int .i64 (turnS t.down (ptg (openS t ws os) f k)).hi], true⟩, ⟨b8, 23, [.int .i64 0, .int .i64 0], true⟩, ⟨b4, 26, [.bool t.down, .int .i64 t.sl, .int .i64 t.sh, .int .i64 t.cl, .int .i64 t.ch, .slice A ws.length c], true⟩]) (fun k => k ≤ n) (fun k => n - k) 0 (Nat.zero_le _) (Sub.cons rfl (Sub.cons rfl (Sub.cons rfl (Sub.cons rfl (Sub.cons rfl (Sub.cons rfl (Sub.cons' rfl (by congr 1; omega) (Sub.nil _)))))))) (by rw [show turnS t.down (ptg (openS t ws os) f 0) = ⟨-1152921504606846976, 1152921504606846976⟩ by unfold turnS; split <;> rfl]; dsimp only [pw]; exact SubE.sub) (fun k hk => ?_)
  refine k_seq (k_seq (k_region ?_))
  refine o_val (ex_move rfl) ?_
  refine o_val (ex_move rfl) ?_
  refine o_val (ex_lss rfl rfl) (o_nil ?_)
  refine k_cond rfl (fun h => ?_) (fun h => ?_)
  ·
    have hlt : k < n := by have : f + (k : Int) < to := of_decide_eq_true h; omega
    have hpb := pw_bound hS f k
    have hm := po_mem hpc (p := f + k) (by omega) (by omega)
    have hoo := odE_ok.1 (hck.2.2.2 _ hm)
    obtain ⟨a, hA, hc⟩ := hws (po os (f + k)).st.toNat (by omega)
    subst hA
    have es : (stp (openS t ws os).ws (po (openS t ws os).os (f + k))) = ws[(po os (f + k)).st.toNat]'(by omega) := by
      rw [stp_open]; unfold stp; simp [List.getD, List.getElem?_eq_getElem (show (po os (f + k)).st.toNat < ws.length by omega)]
    have hsb := stp_bound hS (po (openS t ws os).os (f + k))
    have hto2 := hck.1.s
    have hto3 := hck.1.c
    have hwb : -100000000000 ≤ (turnS t.down (pw (openS t ws os) f k)).lo ∧ (turnS t.down (pw (openS t ws os) f k)).lo ≤ 100000000000 ∧ -100000000000 ≤ (turnS t.down (pw (openS t ws os) f k)).hi ∧ (turnS t.down (pw (openS t ws os) f k)).hi ≤ 100000000000 := by unfold turnS; split <;> first | omega | (dsimp only; omega)
    refine k_skip ?_
    refine k_seq (k_block ?_)
    refine k_seq (k_region ?_)
    refine o_val (ex_move rfl) ?_
    refine o_val (ex_move rfl) ?_
    refine o_val (ex_call Try.call69 rfl (fun W hW => c69 os (f + k) (by omega) hpc (by omega) (by omega) (hos.ext hW.ext))) ?_
    refine o_alloc Try.zeroValue88 (fun b12 => ?_)
    refine o_store Try.sizeOf88 rfl rfl (o_nil ?_)
    refine k_seq (k_region ?_)
    refine o_val (ex_loadA Try.isAgg26 Try.sizeOf26 rfl) ?_
    refine o_val (ex_loadA Try.isAgg23 Try.sizeOf23 rfl) ?_
    refine o_val (ex_call Try.call70 rfl (fun W hW => c70 t ws (pw (openS t ws os) f k) hck.1 (by omega))) ?_
    refine o_alloc Try.zeroValue23 (fun b13 => ?_)
    refine o_store Try.sizeOf23 rfl rfl (o_nil ?_)
    refine k_seq (k_region ?_)
    refine o_val (ex_field (o := 0) 0 fa23_0 rfl rfl) ?_
    refine o_val (ex_load Try.isAgg3 rfl rfl) ?_
    refine o_val (ex_field (o := 0) 2 fa88_2 rfl rfl) ?_
    refine o_val (ex_field (o := 2) 2 fa23_0 rfl rfl) ?_
    refine o_val (ex_load Try.isAgg3 rfl rfl) ?_
    refine o_val (ex_field (o := 0) 0 fa23_0 rfl rfl) ?_
    refine o_val (ex_load Try.isAgg3 rfl rfl) ?_
    refine o_val (ex_sub64 rfl rfl (by unfold I64; omega)) ?_
    refine o_val (ex_max rfl rfl) ?_
    refine o_val (ex_field (o := 0) 1 fa23_1 rfl rfl) ?_
    refine o_val (ex_load Try.isAgg3 rfl rfl) ?_
    refine o_val (ex_field (o := 0) 2 fa88_2 rfl rfl) ?_
    refine o_val (ex_field (o := 2) 3 fa23_1 rfl rfl) ?_
    refine o_val (ex_load Try.isAgg3 rfl rfl) ?_
    refine o_val (ex_field (o := 0) 1 fa23_1 rfl rfl) ?_
    refine o_val (ex_load Try.isAgg3 rfl rfl) ?_
    refine o_val (ex_sub64 rfl rfl (by unfold I64; omega)) ?_
    refine o_val (ex_min rfl rfl) ?_
    refine o_val (ex_build bf23 rfl) ?_
    refine o_store Try.sizeOf23 rfl rfl (o_nil ?_)
    refine k_seq (k_region ?_)
    refine o_val (ex_field (o := 0) 5 fa26_3 rfl rfl) ?_
    refine o_val (ex_load Try.isAgg24 rfl rfl) ?_
    refine o_val (ex_field (o := 0) 1 fa88_1 rfl rfl) ?_
    refine o_val (ex_load Try.isAgg3 rfl rfl) ?_
    refine o_val (ex_index_old Try.runUnderlying24 Try.sizeOf23 rfl rfl (by omega) (by omega)) ?_
    refine o_val (ex_loadA_old Try.isAgg23 Try.sizeOf23 rfl rfl (vs := [.int .i64 (stp (openS t ws os).ws (po (openS t ws os).os (f + k))).lo, .int .i64 (stp (openS t ws os).ws (po (openS t ws os).os (f + k))).hi]) (by rw [es]; exact hc) (by simp)) ?_
    refine o_alloc Try.zeroValue23 (fun b14 => ?_)
    refine o_store Try.sizeOf23 rfl rfl (o_nil ?_)
    refine k_region ?_
    refine o_val (ex_field (o := 0) 0 fa23_0 rfl rfl) ?_
    refine o_val (ex_load Try.isAgg3 rfl rfl) ?_
    refine o_val (ex_field (o := 0) 0 fa23_0 rfl rfl) ?_
    refine o_val (ex_load Try.isAgg3 rfl rfl) ?_
    refine o_val (ex_add64 rfl rfl (by unfold I64; omega)) ?_
    refine o_val (ex_field (o := 0) 1 fa23_1 rfl rfl) ?_
    refine o_val (ex_load Try.isAgg3 rfl rfl) ?_
    refine o_val (ex_field (o := 0) 1 fa23_1 rfl rfl) ?_
    refine o_val (ex_load Try.isAgg3 rfl rfl) ?_
    refine o_val (ex_add64 rfl rfl (by unfold I64; omega)) ?_
    refine o_val (ex_build bf23 rfl) ?_
    refine o_store Try.sizeOf23 rfl rfl (o_nil ?_)
    refine k_region ?_
    refine o_val (ex_move rfl) ?_
    refine o_val (ex_add64 rfl rfl (by unfold I64; omega)) ?_
    refine o_val (ex_assign rfl) (o_nil ?_)
    exact k_some (k + 1) ⟨hlt, by omega⟩ (Sub.cons rfl (Sub.cons rfl (Sub.cons rfl (Sub.cons rfl (Sub.cons rfl (Sub.cons rfl (Sub.cons' rfl (by congr 1; omega) (Sub.nil _)))))))) (by rw [ref_lo, ref_hi, pw_succ]; exact SubE.sub)
  ·
    have hge : k = n := by have : ¬ f + (k : Int) < to := of_decide_eq_false h; omega
    subst hge
    refine k_exit rfl ?_
    refine k_seq (k_region ?_)
    refine o_val (ex_loadA Try.isAgg23 Try.sizeOf23 rfl) ?_
    refine o_store Try.sizeOf23 rfl rfl (o_nil ?_)
    refine k_ret ?_
    exact finC rfl Try.isAgg23 Try.sizeOf23 rfl rfl fun W hW => ⟨rfl, hW.ext⟩

end Go.Proofs.Ytdflfnednaleeaa
