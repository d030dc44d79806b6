/- The walks of functions: what each call hands back, and that nothing that was there has turned. Printed by a program of this session (wip/tools/gen.py). -/
import Derived.Test.YtdflfnednaleeaaD16
namespace Go.Proofs.Ytdflfnednaleeaa
open Go
attribute [local irreducible] ExV Ex
set_option synthInstance.maxSize 2000
set_option synthInstance.maxHeartbeats 200000
set_option maxRecDepth 20000

/-- A copy: it lies in blocks of its own. -/
def CopyT (t : To) (ws : List Sp) (v : Value) (x : Hp) : Prop := ∃ A c, v = .agg [.bool t.down, .int .i64 t.sl, .int .i64 t.sh, .int .i64 t.cl, .int .i64 t.ch, .slice A ws.length c].toArray ∧ ∀ W, (∀ e, e ∈ x → W.heap[e.b]? = some e.obj) → ElAt W A ws
def CopyS {α : Type} [Elt α] (l : List α) (v : Value) (x : Hp) : Prop := ∃ A c, v = .slice A l.length c ∧ (∀ W, (∀ e, e ∈ x → W.heap[e.b]? = some e.obj) → ElAt W A l) ∧ (0 < l.length → ∃ a, A = some a)
theorem own_copy {α : Type} [E : Elt α] {e : TypeId} {v : Value} {l : List α} {x : Hp} (o : OwnsV e E.size v l.length (l.flatMap E.cells) x) (hn : (x.map (·.b)).Nodup) : CopyS l v x := by
  obtain ⟨A, c, hv, h⟩ := own_els o
  refine ⟨A, c, hv, fun W hx => h _ _ W (Sat.self hx hn), fun h0 => ?_⟩
  obtain ⟨g, cap, e2, _⟩ := own_at o h0
  rw [hv] at e2
  cases e2
  exact ⟨_, rfl⟩
theorem copy_at {α : Type} [Elt α] {l : List α} {A : Option Addr} {x : Hp} {w0 : World} (h : ∀ W, (∀ e, e ∈ x → W.heap[e.b]? = some e.obj) → ElAt W A l) {H : Hp} {W : World} (hW : Sat w0 [] H W) (hs : x.Sublist H) : ElAt W A l := h W (fun e he => hW.at_ e (hs.subset he))

-- == f15 acme/acmelaw07.copied params [26] results [26] in [('cell', ['2', '26'])] ntmps 9 nfree 0
theorem c15 (t : To) (ws : List Sp) {A : Option Addr} {c : Nat} {w : World} (hl : ws.length ≤ 15) (hws : ElAt w A ws) : Calls Try.prog 15 [.agg [.bool t.down, .int .i64 t.sl, .int .i64 t.sh, .int .i64 t.cl, .int .i64 t.ch, .slice A ws.length c].toArray].toArray w fun e w' => ∃ (v : Value) (x : Hp), e = .returned v ∧ CopyT t ws v x ∧ (∀ e, e ∈ x → w.heap.size ≤ e.b ∧ w'.heap[e.b]? = some e.obj) ∧ (x.map (·.b)).Nodup ∧ Ext [] w w' := by
  refine fn_start Try.func15 rfl (N := 9) rfl ?_
  refine k_seq (k_region ?_)
  refine o_box rfl (fun b1 => ?_)
  refine o_alloc Try.zeroValue26 (fun b2 => o_nil ?_)
  refine k_seq (k_region ?_)
  refine o_buildNil Try.runUnderlying24 Try.sizeOf23 (fun v3 x3 o3 => ?_)
  refine o_val (ex_field (o := 0) 5 fa26_3 rfl rfl) ?_
  refine o_val (ex_load Try.isAgg24 rfl rfl) ?_
  refine o_appendW (bytes := 16) (news := ws.flatMap spElt.cells) o3 Try.underlying24 (by kernel_rfl) (by omega) rfl rfl (fun W hW j u hu => (hws.ext hW.ext).flat j u hu) (by unfold maxLen; omega) (by omega) (fl_len ws) (fl_one ws) (fun v6 x6 o6 => ?_)
  obtain ⟨A6, c6, e6, h6⟩ := own_els (l := ws) (o6.cast (by omega) (by simp))
  subst e6
  refine o_val (ex_field (o := 0) 5 fa26_3 rfl rfl) ?_
  refine o_store Try.sizeOf24 rfl rfl (o_nil ?_)
  refine k_seq (k_region ?_)
  refine o_val (ex_loadA Try.isAgg26 Try.sizeOf26 rfl) ?_
  refine o_store Try.sizeOf26 rfl rfl (o_nil ?_)
  refine k_ret ?_
  exact finC rfl Try.isAgg26 Try.sizeOf26 rfl rfl fun W hW => ⟨_, x6, rfl, ⟨A6, c6, rfl, fun W' hx => h6 _ _ W' (Sat.self hx (hW.gives (by exact List.sublist_append_left _ _)).2)⟩, (hW.gives (by exact List.sublist_append_left _ _)).1, (hW.gives (by exact List.sublist_append_left _ _)).2, hW.ext⟩

-- == f16 acme/acmelaw07.list params [27] results [27] in [('tmp', ['2'])] ntmps 6 nfree 0
theorem c16 (os : List Od) {A : Option Addr} {c : Nat} {w : World} (hl : os.length ≤ 1005) (hrow : ElAt w A os) : Calls Try.prog 16 [.slice A os.length c].toArray w fun e w' => ∃ (v : Value) (x : Hp), e = .returned v ∧ CopyS os v x ∧ (∀ e, e ∈ x → w.heap.size ≤ e.b ∧ w'.heap[e.b]? = some e.obj) ∧ (x.map (·.b)).Nodup ∧ Ext [] w w' := by
  refine fn_start Try.func16 rfl (N := 6) rfl ?_
  refine k_seq (k_region ?_)
  refine o_val (ex_assign rfl) (o_nil ?_)
  refine k_seq (k_region ?_)
  refine o_buildNil Try.runUnderlying27 Try.sizeOf88 (fun v3 x3 o3 => ?_)
  refine o_val (ex_move rfl) ?_
  refine o_appendW (bytes := 32) (news := os.flatMap odElt.cells) o3 Try.underlying27 (by kernel_rfl) (by omega) rfl rfl (fun W hW j u hu => (hrow.ext hW.ext).flat j u hu) (by unfold maxLen; omega) (by omega) (fl_len os) (fl_one os) (fun v5 x5 o5 => ?_)
  refine o_val (ex_assign rfl) (o_nil ?_)
  refine k_ret ?_
  exact fin1 rfl rfl fun W hW => ⟨_, x5, rfl, own_copy (o5.cast (by omega) (by simp)) (hW.gives (by exact List.sublist_append_left _ _)).2, (hW.gives (by exact List.sublist_append_left _ _)).1, (hW.gives (by exact List.sublist_append_left _ _)).2, hW.ext⟩

-- == f32 acme/acmelaw07.settings params [43] results [43] in [('tmp', ['2'])] ntmps 6 nfree 0
theorem c32 (l : List Stg) {A : Option Addr} {c : Nat} {w : World} (hl : l.length ≤ 1005) (hrow : ElAt w A l) : Calls Try.prog 32 [.slice A l.length c].toArray w fun e w' => ∃ (v : Value) (x : Hp), e = .returned v ∧ CopyS l v x ∧ (∀ e, e ∈ x → w.heap.size ≤ e.b ∧ w'.heap[e.b]? = some e.obj) ∧ (x.map (·.b)).Nodup ∧ Ext [] w w' := by
  refine fn_start Try.func32 rfl (N := 6) rfl ?_
  refine k_seq (k_region ?_)
  refine o_val (ex_assign rfl) (o_nil ?_)
  refine k_seq (k_region ?_)
  refine o_buildNil Try.runUnderlying43 Try.sizeOf51 (fun v3 x3 o3 => ?_)
  refine o_val (ex_move rfl) ?_
  refine o_appendW (bytes := 16) (news := l.flatMap stgElt.cells) o3 Try.underlying43 (by kernel_rfl) (by omega) rfl rfl (fun W hW j u hu => (hrow.ext hW.ext).flat j u hu) (by unfold maxLen; omega) (by omega) (fl_len l) (fl_one l) (fun v5 x5 o5 => ?_)
  refine o_val (ex_assign rfl) (o_nil ?_)
  refine k_ret ?_
  exact fin1 rfl rfl fun W hW => ⟨_, x5, rfl, own_copy (o5.cast (by omega) (by simp)) (hW.gives (by exact List.sublist_append_left _ _)).2, (hW.gives (by exact List.sublist_append_left _ _)).1, (hW.gives (by exact List.sublist_append_left _ _)).2, hW.ext⟩

-- == f33 acme/acmelaw07.ints params [52] results [52] in [('tmp', ['2'])] ntmps 6 nfree 0
theorem c33 (l : List Int) {A : Option Addr} {c : Nat} {w : World} (hl : l.length ≤ 1005) (hrow : ElAt w A l) : Calls Try.prog 33 [.slice A l.length c].toArray w fun e w' => ∃ (v : Value) (x : Hp), e = .returned v ∧ CopyS l v x ∧ (∀ e, e ∈ x → w.heap.size ≤ e.b ∧ w'.heap[e.b]? = some e.obj) ∧ (x.map (·.b)).Nodup ∧ Ext [] w w' := by
  refine fn_start Try.func33 rfl (N := 6) rfl ?_
  refine k_seq (k_region ?_)
  refine o_val (ex_assign rfl) (o_nil ?_)
  refine k_seq (k_region ?_)
  refine o_buildNil Try.runUnderlying52 Try.sizeOf3 (fun v3 x3 o3 => ?_)
  refine o_val (ex_move rfl) ?_
  refine o_appendW (bytes := 8) (news := l.flatMap intElt.cells) o3 Try.underlying52 (by kernel_rfl) (by omega) rfl rfl (fun W hW j u hu => (hrow.ext hW.ext).flat j u hu) (by unfold maxLen; omega) (by omega) (fl_len l) (fl_one l) (fun v5 x5 o5 => ?_)
  refine o_val (ex_assign rfl) (o_nil ?_)
  refine k_ret ?_
  exact fin1 rfl rfl fun W hW => ⟨_, x5, rfl, own_copy (o5.cast (by omega) (by simp)) (hW.gives (by exact List.sublist_append_left _ _)).2, (hW.gives (by exact List.sublist_append_left _ _)).1, (hW.gives (by exact List.sublist_append_left _ _)).2, hW.ext⟩

-- == f20 acme/acmelaw07.unchanged params [26, 26, 27, 27] results [4] in [('tmp', ['8'])] ntmps 79 nfree 0
theorem c20 (t : To) (ws : List Sp) {A : Option Addr} {c : Nat} {A1 : Option Addr} {c1 : Nat} (os : List Od) {A2 A3 : Option Addr} {c2 c3 : Nat} {w : World} (hlw : ws.length < 4611686018427387904) (hlo : os.length < 4611686018427387904) (hws : ElAt w A ws) (hws1 : ElAt w A1 ws) (hos : ElAt w A2 os) (hos3 : ElAt w A3 os) : Calls Try.prog 20 [.agg [.bool t.down, .int .i64 t.sl, .int .i64 t.sh, .int .i64 t.cl, .int .i64 t.ch, .slice A ws.length c].toArray, .agg [.bool t.down, .int .i64 t.sl, .int .i64 t.sh, .int .i64 t.cl, .int .i64 t.ch, .slice A1 ws.length c1].toArray, .slice A2 os.length c2, .slice A3 os.length c3].toArray w fun e w' => e = .returned (.bool true) ∧ Ext [] w w' := by
  refine fn_start Try.func20 rfl (N := 79) rfl ?_
  refine k_seq (k_region ?_)
  refine o_box rfl (fun b4 => ?_)
  refine o_box rfl (fun b5 => ?_)
  refine o_val (ex_assign rfl) (o_nil ?_)
  refine k_seq (k_seq (k_region ?_))
  refine o_val (ex_field (o := 0) 0 fa26_0 rfl rfl) ?_
  refine o_val (ex_load Try.isAgg4 rfl rfl) ?_
  refine o_val (ex_field (o := 0) 0 fa26_0 rfl rfl) ?_
  refine o_val (ex_load Try.isAgg4 rfl rfl) ?_
  refine o_val (ex_neq_4 rfl rfl) ?_
  refine o_val (ex_move rfl) ?_
  refine o_or 5 (c := !(decide (t.sl = t.sl) && decide (t.sh = t.sh))) (fun h => ?_) ?_
  · refine o_val_g (ex_field (o := 0) 1 fa26_1 rfl rfl) ?_
    refine o_val_g (ex_loadA Try.isAgg23 Try.sizeOf23 rfl) ?_
    refine o_val_g (ex_field (o := 0) 1 fa26_1 rfl rfl) ?_
    refine o_val_g (ex_loadA Try.isAgg23 Try.sizeOf23 rfl) ?_
    exact o_val_g (ex_neq_23 rfl rfl) (o_nil (got rfl (.refl _)))
  refine o_val (ex_move rfl) ?_
  refine o_or 5 (c := !(decide (t.cl = t.cl) && decide (t.ch = t.ch))) (fun h => ?_) ?_
  · refine o_val_g (ex_field (o := 0) 3 fa26_2 rfl rfl) ?_
    refine o_val_g (ex_loadA Try.isAgg23 Try.sizeOf23 rfl) ?_
    refine o_val_g (ex_field (o := 0) 3 fa26_2 rfl rfl) ?_
    refine o_val_g (ex_loadA Try.isAgg23 Try.sizeOf23 rfl) ?_
    exact o_val_g (ex_neq_23 rfl rfl) (o_nil (got rfl (.refl _)))
  refine o_val (ex_move rfl) ?_
  refine o_or 7 (c := !decide ((ws.length : Int) = (ws.length : Int))) (fun h => ?_) ?_
  · refine o_val_g (ex_field (o := 0) 5 fa26_3 rfl rfl) ?_
    refine o_val_g (ex_load Try.isAgg24 rfl rfl) ?_
    refine o_val_g (ex_len Try.runUnderlying24 rfl) ?_
    refine o_val_g (ex_field (o := 0) 5 fa26_3 rfl rfl) ?_
    refine o_val_g (ex_load Try.isAgg24 rfl rfl) ?_
    refine o_val_g (ex_len Try.runUnderlying24 rfl) ?_
    exact o_val_g (ex_neq rfl rfl) (o_nil (got rfl (.refl _)))
  refine o_val (ex_move rfl) ?_
  refine o_or 5 (c := !decide ((os.length : Int) = (os.length : Int))) (fun h => ?_) (o_nil ?_)
  · refine o_val_g (ex_move rfl) ?_
    refine o_val_g (ex_len Try.runUnderlying27 rfl) ?_
    refine o_val_g (ex_move rfl) ?_
    refine o_val_g (ex_len Try.runUnderlying27 rfl) ?_
    exact o_val_g (ex_neq rfl rfl) (o_nil (got rfl (.refl _)))
  refine k_cond rfl (fun h => ?_) (fun h => ?_)
  ·
    exact absurd h (by simp)
  ·
    refine k_skip ?_
    refine k_seq (k_seq (k_region ?_))
    refine o_val (ex_assign rfl) (o_nil ?_)
    refine k_block ?_
    refine k_loop (ι := Nat) (fun k => [(2, .slice A2 os.length c2), (3, .slice A3 os.length c3), (4, .pointer (some ⟨b4, 0, none⟩)), (5, .pointer (some ⟨b5, 0, none⟩)), (9, .int .i64 (k : Int))]) (fun k => [⟨b5, 26, [.bool t.down, .int .i64 t.sl, .int .i64 t.sh, .int .i64 t.cl, .int .i64 t.ch, .slice A1 ws.length c1], true⟩, ⟨b4, 26, [.bool t.down, .int .i64 t.sl, .int .i64 t.sh, .int .i64 t.cl, .int .i64 t.ch, .slice A ws.length c], true⟩]) (fun k => k ≤ ws.length) (fun k => ws.length - k) 0 (Nat.zero_le _) (Sub.cons rfl (Sub.cons rfl (Sub.cons rfl (Sub.cons rfl (Sub.cons rfl (Sub.nil _)))))) SubE.sub (fun k hk => ?_)
    refine k_seq (k_seq (k_region ?_))
    refine o_val (ex_move rfl) ?_
    refine o_val (ex_field (o := 0) 5 fa26_3 rfl rfl) ?_
    refine o_val (ex_load Try.isAgg24 rfl rfl) ?_
    refine o_val (ex_len Try.runUnderlying24 rfl) ?_
    refine o_val (ex_lss rfl rfl) (o_nil ?_)
    refine k_cond rfl (fun h_1 => ?_) (fun h_1 => ?_)
    ·
      have hlt : k < ws.length := by have : (k : Int) < (ws.length : Int) := of_decide_eq_true h_1; omega
      obtain ⟨a, hA, hc⟩ := hws k hlt
      obtain ⟨a1, hA1, hc1⟩ := hws1 k hlt
      subst hA hA1
      refine k_skip ?_
      refine k_seq (k_block ?_)
      refine k_seq (k_draw [true, true, true, true, true, true, true, true, true, true, true] 0 ?_ mixed (by kernel_rfl) rfl)
      refine d_val (i := 0) [] (ex_field (o := 0) 5 fa26_3 rfl rfl) ?_
      refine d_load (i := 1) Try.isAgg24 rfl rfl ?_
      refine d_val (i := 2) [] (ex_move rfl) ?_
      refine d_val (i := 3) [] (ex_index_old Try.runUnderlying24 Try.sizeOf23 rfl rfl (by omega) (by omega)) ?_
      refine d_val (i := 4) [] (ex_loadA_old Try.isAgg23 Try.sizeOf23 rfl rfl (vs := [.int .i64 ws[k].lo, .int .i64 ws[k].hi]) hc (by simp)) ?_
      refine d_val (i := 5) [] (ex_field (o := 0) 5 fa26_3 rfl rfl) ?_
      refine d_load (i := 6) Try.isAgg24 rfl rfl ?_
      refine d_val (i := 7) [] (ex_move rfl) ?_
      refine d_val (i := 8) [] (ex_index_old Try.runUnderlying24 Try.sizeOf23 rfl rfl (by omega) (by omega)) ?_
      refine d_val (i := 9) [] (ex_loadA_old Try.isAgg23 Try.sizeOf23 rfl rfl (vs := [.int .i64 ws[k].lo, .int .i64 ws[k].hi]) hc1 (by simp)) ?_
      refine d_val (i := 10) [] (ex_neq_23 rfl rfl) ?_
      refine d_nil ?_
      refine r_nil ?_ (by kernel_rfl)
      refine k_cond rfl (fun h_2 => ?_) (fun h_2 => ?_)
      ·
        exact absurd h_2 (by simp)
      ·
        refine k_skip ?_
        refine k_region ?_
        refine o_val (ex_move rfl) ?_
        refine o_val (ex_add64 rfl rfl (by unfold I64; omega)) ?_
        refine o_val (ex_assign rfl) (o_nil ?_)
        exact k_some (k + 1) ⟨hlt, by omega⟩ (Sub.cons rfl (Sub.cons rfl (Sub.cons rfl (Sub.cons rfl (Sub.cons rfl (Sub.nil _)))))) SubE.sub
    ·
      refine k_exit rfl ?_
      refine k_seq (k_seq (k_region ?_))
      refine o_val (ex_assign rfl) (o_nil ?_)
      refine k_block ?_
      refine k_loop (ι := Nat) (fun k => [(2, .slice A2 os.length c2), (3, .slice A3 os.length c3), (10, .int .i64 (k : Int))]) (fun k => []) (fun k => k ≤ os.length) (fun k => os.length - k) 0 (Nat.zero_le _) (Sub.cons rfl (Sub.cons rfl (Sub.cons rfl (Sub.nil _)))) SubE.sub (fun k hk => ?_)
      refine k_seq (k_seq (k_region ?_))
      refine o_val (ex_move rfl) ?_
      refine o_val (ex_move rfl) ?_
      refine o_val (ex_len Try.runUnderlying27 rfl) ?_
      refine o_val (ex_lss rfl rfl) (o_nil ?_)
      refine k_cond rfl (fun h_2 => ?_) (fun h_2 => ?_)
      ·
        have hlt : k < os.length := by have : (k : Int) < (os.length : Int) := of_decide_eq_true h_2; omega
        obtain ⟨a, hA, hc⟩ := hos k hlt
        obtain ⟨a1, hA1, hc1⟩ := hos3 k hlt
        subst hA hA1
        refine k_skip ?_
        refine k_seq (k_block ?_)
        refine k_seq (k_draw [true, true, true, true, true, true, true, true, true] 0 ?_ mixed (by kernel_rfl) rfl)
        refine d_val (i := 0) [] (ex_move rfl) ?_
        refine d_val (i := 1) [] (ex_move rfl) ?_
        refine d_val (i := 2) [] (ex_index_old Try.runUnderlying27 Try.sizeOf88 rfl rfl (by omega) (by omega)) ?_
        refine d_val (i := 3) [] (ex_loadA_old Try.isAgg88 Try.sizeOf88 rfl rfl (vs := [.int .i64 os[k].pc, .int .i64 os[k].st, .int .i64 os[k].zl, .int .i64 os[k].zh]) hc (by simp)) ?_
        refine d_val (i := 4) [] (ex_move rfl) ?_
        refine d_val (i := 5) [] (ex_move rfl) ?_
        refine d_val (i := 6) [] (ex_index_old Try.runUnderlying27 Try.sizeOf88 rfl rfl (by omega) (by omega)) ?_
        refine d_val (i := 7) [] (ex_loadA_old Try.isAgg88 Try.sizeOf88 rfl rfl (vs := [.int .i64 os[k].pc, .int .i64 os[k].st, .int .i64 os[k].zl, .int .i64 os[k].zh]) hc1 (by simp)) ?_
        refine d_val (i := 8) [] (ex_neq_88 rfl rfl) ?_
        refine d_nil ?_
        refine r_nil ?_ (by kernel_rfl)
        refine k_cond rfl (fun h_3 => ?_) (fun h_3 => ?_)
        ·
          exact absurd h_3 (by simp)
        ·
          refine k_skip ?_
          refine k_region ?_
          refine o_val (ex_move rfl) ?_
          refine o_val (ex_add64 rfl rfl (by unfold I64; omega)) ?_
          refine o_val (ex_assign rfl) (o_nil ?_)
          exact k_some (k + 1) ⟨hlt, by omega⟩ (Sub.cons rfl (Sub.cons rfl (Sub.cons rfl (Sub.nil _)))) SubE.sub
      ·
        refine k_exit rfl ?_
        refine k_seq (k_region ?_)
        refine o_val (ex_assign rfl) (o_nil ?_)
        refine k_ret ?_
        exact fin1 rfl rfl fun W hW => ⟨rfl, hW.ext⟩

-- == f22 acme/acmeref07.All params [27] results [3] in [('tmp', ['2'])] ntmps 19 nfree 0
theorem c22 (os : List Od) {A2 : Option Addr} {c2 : Nat} {w : World} (hlo : os.length ≤ 45) (hpc : ∀ o, o ∈ os → 1 ≤ o.pc ∧ o.pc ≤ 10000) (hos : ElAt w A2 os) : Calls Try.prog 22 [.slice A2 os.length c2].toArray w fun e w' => e = .returned (.int .i64 (allP os)) ∧ Ext [] w w' := by
  refine fn_start Try.func22 rfl (N := 19) rfl ?_
  refine k_seq (k_region ?_)
  refine o_val (ex_assign rfl) (o_nil ?_)
  refine k_seq (k_region ?_)
  refine o_val (ex_assign rfl) (o_nil ?_)
  refine k_seq (k_seq (k_region ?_))
  refine o_val (ex_assign rfl) (o_nil ?_)
  refine k_block ?_
  refine k_loop (ι := Nat) (fun k => [(0, .slice A2 os.length c2), (3, .int .i64 (pre os k)), (4, .int .i64 (k : Int))]) (fun k => []) (fun k => k ≤ os.length ∧ True) (fun k => os.length - k) 0 ⟨Nat.zero_le _, trivial⟩ (Sub.cons rfl (Sub.cons rfl (Sub.cons rfl (Sub.nil _)))) SubE.sub (fun k hk => ?_)
  obtain ⟨hk, hI⟩ := hk
  refine k_seq (k_seq (k_region ?_))
  refine o_val (ex_move rfl) ?_
  refine o_val (ex_move rfl) ?_
  refine o_val (ex_len Try.runUnderlying27 rfl) ?_
  refine o_val (ex_lss rfl rfl) (o_nil ?_)
  refine k_cond rfl (fun h => ?_) (fun h => ?_)
  ·
    have hlt : k < os.length := by have : (k : Int) < (os.length : Int) := of_decide_eq_true h; omega
    obtain ⟨a, hA, hc⟩ := hos k hlt
    subst hA
    have hpb := pre_bound hpc k (by omega)
    have hpk := hpc os[k] (List.getElem_mem hlt)
    refine k_skip ?_
    refine k_seq (k_block ?_)
    refine k_region ?_
    refine o_val (ex_move rfl) ?_
    refine o_val (ex_move rfl) ?_
    refine o_val (ex_move rfl) ?_
    refine o_val (ex_index_old Try.runUnderlying27 Try.sizeOf88 rfl rfl (by omega) (by omega)) ?_
    refine o_val (ex_field_old fa88_0 rfl) ?_
    refine o_val (ex_load_old Try.isAgg3 rfl (hc 0 (.int .i64 os[k].pc) rfl) (by simp)) ?_
    refine o_val (exv_eq (by rw [← pre_succ hlt]) (ex_add64 rfl rfl (by unfold I64; omega))) ?_
    refine o_val (ex_assign rfl) (o_nil ?_)
    refine k_region ?_
    refine o_val (ex_move rfl) ?_
    refine o_val (ex_add64 rfl rfl (by unfold I64; omega)) ?_
    refine o_val (ex_assign rfl) (o_nil ?_)
    exact k_some (k + 1) ⟨⟨hlt, trivial⟩, by omega⟩ (Sub.cons rfl (Sub.cons rfl (Sub.cons rfl (Sub.nil _)))) SubE.sub
  ·
    have hge : k = os.length := by have : ¬ (k : Int) < (os.length : Int) := of_decide_eq_false h; omega
    subst hge
    refine k_exit rfl ?_
    refine k_seq (k_region ?_)
    refine o_val (ex_move rfl) ?_
    refine o_val (ex_assign rfl) (o_nil ?_)
    refine k_ret ?_
    exact fin1 rfl rfl fun W hW => ⟨rfl, hW.ext⟩

-- == f13 acme/acmelaw07.large params [26, 27, 3] results [4] in [('tmp', ['6'])] ntmps 28 nfree 0
theorem c13 (t : To) (ws : List Sp) {A : Option Addr} {c : Nat} (os : List Od) {A2 : Option Addr} {c2 : Nat} (pcs : Int) {w : World} (hws : ElAt w A ws) (hos : ElAt w A2 os) : Calls Try.prog 13 [.agg [.bool t.down, .int .i64 t.sl, .int .i64 t.sh, .int .i64 t.cl, .int .i64 t.ch, .slice A ws.length c].toArray, .slice A2 os.length c2, .int .i64 pcs].toArray w fun e w' => e = .returned (.bool ((decide ((15 : Int) < (ws.length : Int)) || decide ((45 : Int) < (os.length : Int))) || (decide (chkE t ws os = 0) && decide (pcs < allP os)))) ∧ Ext [] w w' := by
  refine fn_start Try.func13 rfl (N := 28) rfl ?_
  refine k_seq (k_region ?_)
  refine o_box rfl (fun b3 => ?_)
  refine o_val (ex_assign rfl) (o_nil ?_)
  refine k_seq (k_region ?_)
  refine o_val (ex_field (o := 0) 5 fa26_3 rfl rfl) ?_
  refine o_val (ex_load Try.isAgg24 rfl rfl) ?_
  refine o_val (ex_len Try.runUnderlying24 rfl) ?_
  refine o_val (ex_gtr rfl rfl) ?_
  refine o_val (ex_move rfl) ?_
  refine o_or 3 (c := decide ((45 : Int) < (os.length : Int))) (fun h => ?_) ?_
  · refine o_val_g (ex_move rfl) ?_
    refine o_val_g (ex_len Try.runUnderlying27 rfl) ?_
    exact o_val_g (ex_gtr rfl rfl) (o_nil (got rfl (.refl _)))
  refine o_val (ex_move rfl) ?_
  refine o_orN 10 (c := decide (chkE t ws os = 0) && decide (pcs < allP os)) (fun h => ?_) ?_
  · refine o_val_g (ex_loadA Try.isAgg26 Try.sizeOf26 rfl) ?_
    refine o_val_g (ex_move rfl) ?_
    refine o_val_g (ex_call Try.call21 rfl (fun W hW => c21 t ws os (hws.ext hW.ext) (hos.ext hW.ext))) ?_
    refine o_val_g (ex_eql rfl rfl) ?_
    refine o_val_g (ex_move rfl) ?_
    refine o_and_g 4 (c := decide (pcs < allP os)) (fun h => ?_) (o_nil (got rfl (.refl _)))
    · refine o_val_g (ex_move rfl) ?_
      refine o_val_g (ex_call Try.call22 rfl (fun W hW => (by have hok := chkE_ok.1 (of_decide_eq_true h); exact c22 os (by omega) (fun o ho => by have := odE_ok.1 (hok.2.2.2 o ho); omega) (hos.ext hW.ext)))) ?_
      refine o_val_g (ex_move rfl) ?_
      exact o_val_g (ex_gtr rfl rfl) (o_nil (got rfl (.refl _)))
  refine o_val (ex_assign rfl) (o_nil ?_)
  refine k_ret ?_
  exact fin1 rfl rfl fun W hW => ⟨rfl, hW.ext⟩

end Go.Proofs.Ytdflfnednaleeaa
