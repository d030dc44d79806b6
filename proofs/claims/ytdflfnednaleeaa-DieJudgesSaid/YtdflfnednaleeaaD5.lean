/- The walks of functions: what each call hands back, and that nothing that was there has turned. Printed by a program of this session (wip/tools/gen.py). -/
import Derived.Test.YtdflfnednaleeaaD4
namespace Go.Proofs.Ytdflfnednaleeaa
open Go
attribute [local irreducible] ExV Ex
set_option synthInstance.maxSize 2000
set_option synthInstance.maxHeartbeats 200000
set_option maxRecDepth 20000

/-- What open hands back: no shop, or one that lies in blocks of its own (x), and in what was given. -/
def OpenR (t : To) (ws : List Sp) (os : List Od) (A : Option Addr) (c : Nat) (A2 : Option Addr) (v : Value) (w w' : World) : Prop :=
  (¬ chkE t ws os = 0 ∧ v = .pointer none) ∨ (chkE t ws os = 0 ∧ ∃ (b : Nat) (x : Hp), v = .pointer (some ⟨b, 0, none⟩) ∧ (∀ e, e ∈ x → w.heap.size ≤ e.b ∧ w'.heap[e.b]? = some e.obj) ∧ (x.map (·.b)).Nodup ∧
    ∃ A3 c3 A4 c4, ∀ W, (∀ e, e ∈ x → W.heap[e.b]? = some e.obj) → ElAt W A ws → ElAt W A2 os → ShopAt W b (openS t ws os) A A3 A4 c c3 c4)
theorem ups_val {t : To} {ws : List Sp} {os : List Od} {A2 : Option Addr} {c2 : Nat} {v : Value} {x : Hp} (h : (t.down = false ∧ v = .slice A2 os.length c2) ∨ (t.down = true ∧ OwnsV 88 4 v os.length ((os.map turnO).flatMap odElt.cells) x)) :
    ∃ A5 c5, v = .slice A5 os.length c5 ∧ ∀ (w0 : World) (M : List Nat) (W : World), Sat w0 M x W → ElAt W A2 os → ElAt W A5 (openS t ws os).os := by
  rcases h with ⟨hd, rfl⟩ | ⟨hd, ho⟩
  · exact ⟨_, _, rfl, fun _ _ W _ h => by simpa [openS, hd] using h⟩
  · obtain ⟨A5, c5, e, h5⟩ := own_els (l := os.map turnO) (ho.cast (by simp) rfl)
    refine ⟨A5, c5, by simpa using e, fun w0 M W hW _ => ?_⟩
    have := h5 w0 M W hW
    simpa [openS, hd] using this
theorem range_pre (os : List Od) (k : Nat) : (List.range (k + 1)).map (pre os) = (List.range k).map (pre os) ++ [pre os k] := by rw [List.range_succ, List.map_append]; rfl

-- == f63 acme/die.open params [26, 27] results [98, 33] in [('tmp', ['4']), ('tmp', ['5'])] ntmps 55 nfree 0
theorem c63 (t : To) (ws : List Sp) {A : Option Addr} {c : Nat} (os : List Od) {A2 : Option Addr} {c2 : Nat} {w : World} (hws : ElAt w A ws) (hos : ElAt w A2 os) : Calls Try.prog 63 [.agg [.bool t.down, .int .i64 t.sl, .int .i64 t.sh, .int .i64 t.cl, .int .i64 t.ch, .slice A ws.length c].toArray, .slice A2 os.length c2].toArray w fun e w' => ∃ v, e = .returned (.tuple #[v, .int .i64 (chkE t ws os)]) ∧ OpenR t ws os A c A2 v w w' ∧ Ext [] w w' := by
  refine fn_start Try.func63 rfl (N := 55) rfl ?_
  refine k_seq (k_region ?_)
  refine o_box rfl (fun b2 => ?_)
  refine o_val (ex_assign rfl) ?_
  refine o_val (ex_assign rfl) (o_nil ?_)
  refine k_seq (k_seq (k_region ?_))
  refine o_val (ex_loadA Try.isAgg26 Try.sizeOf26 rfl) ?_
  refine o_val (ex_move rfl) ?_
  refine o_val (ex_call Try.call17 rfl (fun W hW => c17 t ws os (hws.ext hW.ext) (hos.ext hW.ext))) ?_
  refine o_val (ex_assign rfl) (o_nil ?_)
  refine k_seq (k_region ?_)
  refine o_val (ex_move rfl) ?_
  refine o_val (ex_neq rfl rfl) (o_nil ?_)
  refine k_cond rfl (fun h => ?_) (fun h => ?_)
  ·
    have hn : ¬ chkE t ws os = 0 := fun e => by simp [e] at h
    refine k_seq (k_region ?_)
    refine o_val (ex_move rfl) ?_
    refine o_val (ex_assign rfl) ?_
    refine o_val (ex_assign rfl) (o_nil ?_)
    refine k_ret ?_
    exact fin2 rfl rfl rfl fun W hW => ⟨_, rfl, .inl ⟨hn, rfl⟩, hW.ext⟩
  ·
    have hok : chkE t ws os = 0 := by simpa using h
    obtain ⟨hto, hn1, hn40, ho⟩ := chkE_ok.1 hok
    have hpc : ∀ o, o ∈ os → 1 ≤ o.pc ∧ o.pc ≤ 10000 := fun o hm => by have := odE_ok.1 (ho o hm); omega
    refine k_skip ?_
    refine k_seq (k_region ?_)
    refine o_buildSlice [.int .i64 0] [(0, 1)] Try.runUnderlying52 Try.sizeOf3 Try.zeroValue3 rfl (fun b16 => ?_)
    refine o_val (ex_field (o := 0) 0 fa26_0 rfl rfl) ?_
    refine o_val (ex_load Try.isAgg4 rfl rfl) ?_
    refine o_val (ex_build bf122 rfl) ?_
    refine o_box rfl (fun b20 => ?_)
    refine o_val (ex_assign rfl) (o_nil ?_)
    refine k_seq (k_region ?_)
    refine o_val (ex_move rfl) ?_
    refine o_val (ex_move rfl) ?_
    refine o_val (ex_loadA Try.isAgg26 Try.sizeOf26 rfl) ?_
    refine o_val (ex_move rfl) ?_
    refine o_callU Try.call92 rfl (fun W hW => c92 t ws os (c := c) (c2 := c2) (hos.ext hW.ext) hok) (fun v26 x26 o26 => ?_)
    obtain ⟨A5, c5, e26, h5⟩ := ups_val (ws := ws) o26
    subst e26
    refine o_val (ex_move rfl) ?_
    refine o_val (ex_extract rfl rfl) ?_
    refine o_val (ex_extract rfl rfl) ?_
    refine o_val (ex_nilCheck rfl) ?_
    refine o_val (ex_field (o := 0) 0 fa122_0 rfl rfl) ?_
    refine o_store Try.sizeOf26 rfl rfl ?_
    refine o_val (ex_nilCheck rfl) ?_
    refine o_val (ex_field (o := 0) 6 fa122_1 rfl rfl) ?_
    refine o_store Try.sizeOf27 rfl rfl (o_nil ?_)
    refine k_seq (k_seq (k_region ?_))
    refine o_val (ex_move rfl) ?_
    refine o_val (ex_len Try.runUnderlying27 rfl) ?_
    refine o_val (ex_move rfl) (o_nil ?_)
    refine k_block ?_
    refine k_loop (ι := OI) (fun k => [(7, .pointer (some ⟨b20, 0, none⟩)), (33, .slice A2 os.length c2), (34, .int .i64 (os.length : Int)), (35, .int .i64 (k.k : Int))]) (fun k => x26 ++ (⟨b20, 122, [.bool false, .int .i64 (openS t ws os).sl, .int .i64 (openS t ws os).sh, .int .i64 (openS t ws os).cl, .int .i64 (openS t ws os).ch, .slice A ws.length c, .slice A5 os.length c5, k.v, .bool t.down], true⟩ :: (k.x ++ []))) (fun k => k.k ≤ os.length ∧ OwnsV 3 1 k.v (k.k + 1) (((List.range (k.k + 1)).map (pre os)).map (Value.int .i64)) k.x) (fun k => os.length - k.k) ⟨0, .slice (some ⟨b16, 0, none⟩) 1 1, [⟨b16, 3, [.int .i64 0], true⟩]⟩ ⟨Nat.zero_le _, OwnsV.made rfl (by unfold maxLen; omega)⟩ (Sub.cons rfl (Sub.cons rfl (Sub.cons rfl (Sub.cons rfl (Sub.nil _))))) (by show List.Sublist (x26 ++ ([⟨b20, 122, [.bool false, .int .i64 (openS t ws os).sl, .int .i64 (openS t ws os).sh, .int .i64 (openS t ws os).cl, .int .i64 (openS t ws os).ch, .slice A ws.length c, .slice A5 os.length c5, .slice (some ⟨b16, 0, none⟩) 1 1, .bool t.down], true⟩, ⟨b16, 3, [.int .i64 0], true⟩] : Hp)) _; exact SubE.sub) (fun k hk => ?_)
    obtain ⟨k, v, x⟩ := k
    obtain ⟨hk, hO⟩ := hk
    dsimp only at hk hO ⊢
    refine k_seq (k_region ?_)
    refine o_val (ex_lss rfl rfl) (o_nil ?_)
    refine k_seq (k_cond rfl (fun h_1 => ?_) (fun h_1 => ?_))
    ·
      have hlt : k < os.length := by have : (k : Int) < (os.length : Int) := of_decide_eq_true h_1; omega
      obtain ⟨a, hA, hc⟩ := hos k hlt
      subst hA
      obtain ⟨g, cap, eg, hg⟩ := own_at hO (by omega)
      subst eg
      have hpb := pre_bound hpc k (by omega)
      have hpk := hpc os[k] (List.getElem_mem hlt)
      refine k_skip ?_
      refine k_seq (k_block ?_)
      refine k_seq (k_region ?_)
      refine o_val (ex_index_old Try.runUnderlying27 Try.sizeOf88 rfl rfl (by omega) (by omega)) ?_
      refine o_val (ex_loadA_old Try.isAgg88 Try.sizeOf88 rfl rfl (vs := [.int .i64 os[k].pc, .int .i64 os[k].st, .int .i64 os[k].zl, .int .i64 os[k].zh]) hc (by simp)) ?_
      refine o_alloc Try.zeroValue88 (fun b9 => ?_)
      refine o_store Try.sizeOf88 rfl rfl (o_nil ?_)
      refine k_draw [true, true, true, true, true, true, true, true, true, true, false, false, true, true, false] 3 ?_ mixed (by kernel_rfl) rfl
      refine d_val (i := 0) [] (ex_move rfl) ?_
      refine d_val (i := 1) [] (ex_move rfl) ?_
      refine d_val (i := 2) [] (ex_nilCheck rfl) ?_
      refine d_val (i := 3) [] (ex_field (o := 0) 7 fa122_2 rfl rfl) ?_
      refine d_load (i := 4) Try.isAgg52 rfl rfl ?_
      refine d_val (i := 5) [] (ex_move rfl) ?_
      refine d_val (i := 6) (⟨b20, 122, [.bool false, .int .i64 (openS t ws os).sl, .int .i64 (openS t ws os).sh, .int .i64 (openS t ws os).cl, .int .i64 (openS t ws os).ch, .slice A ws.length c, .slice A5 os.length c5, .slice (some ⟨g, 0, none⟩) (k + 1) cap, .bool t.down], true⟩ :: x) (ex_call Try.call64 rfl (fun W hW => c64 (a := ⟨g, 0, none⟩) (x := pre os k) (cell_ent hW (b := b20) (o := 7) rfl) (by omega) (by omega) (by rw [add_lit]; exact hg _ _ W (hW.drop (List.sublist_cons_self _ _)) _ _ (by simp)))) ?_
      refine d_val (i := 7) [] (ex_field (o := 0) 0 fa88_0 rfl rfl) ?_
      refine d_load (i := 8) Try.isAgg3 rfl rfl ?_
      refine d_val (i := 9) [] (ex_add64 rfl rfl (by unfold I64; omega)) ?_
      refine d_rest ?_
      refine d_rest ?_
      refine d_val (i := 12) [] (ex_nilCheck rfl) ?_
      refine d_val (i := 13) [] (ex_field (o := 0) 7 fa122_2 rfl rfl) ?_
      refine d_rest ?_
      refine d_nil ?_
      refine r_one 10 (rs_buildSlice [.int .i64 0] [(0, 1)] rfl Try.runUnderlying52 Try.sizeOf3 Try.zeroValue3 rfl (fun b49 => ?_)) (by kernel_rfl)
      refine r_one 11 (rs_append (bytes := 8) [4, 10, 6] rfl hO Try.underlying52 (by kernel_rfl) rfl rfl (by unfold maxLen; omega) (by omega) (fun v50 x50 o50 => ?_)) (by kernel_rfl)
      obtain ⟨g2, cap2, e2, hg2⟩ := own_at o50 (by omega)
      subst e2
      refine r_one 14 (rs_store [13, 11, 11, 0, 1, 2, 3, 4, 5, 6, 7, 8, 9, 10, 11] rfl Try.sizeOf52 rfl rfl ?_) (by kernel_rfl)
      refine r_nil ?_ (by kernel_rfl)
      refine k_region ?_
      refine o_val (ex_add64 rfl rfl (by unfold I64; omega)) ?_
      refine o_val (ex_move rfl) (o_nil ?_)
      exact k_some ⟨k + 1, .slice (some ⟨g2, 0, none⟩) (k + 1 + 1) cap2, x50⟩ ⟨⟨hlt, o50.cast rfl (by rw [range_pre os (k + 1), List.map_append, pre_succ hlt]; rfl)⟩, (by show os.length - (k + 1) < os.length - k; omega)⟩ (Sub.cons rfl (Sub.cons rfl (Sub.cons rfl (Sub.cons rfl (Sub.nil _))))) SubE.sub
    ·
      have hge : k = os.length := by have : ¬ (k : Int) < (os.length : Int) := of_decide_eq_false h_1; omega
      subst hge
      refine k_exit rfl ?_
      refine k_seq (k_region ?_)
      refine o_val (ex_move rfl) ?_
      refine o_val (ex_assign rfl) ?_
      refine o_val (ex_assign rfl) (o_nil ?_)
      refine k_ret ?_
      exact fin2 rfl rfl rfl fun W hW => ⟨_, by rw [hok], .inr ⟨hok, b20, x26 ++ (⟨b20, 122, [.bool false, .int .i64 (openS t ws os).sl, .int .i64 (openS t ws os).sh, .int .i64 (openS t ws os).cl, .int .i64 (openS t ws os).ch, .slice A ws.length c, .slice A5 os.length c5, v, .bool t.down], true⟩ :: x), rfl, fun e he => ⟨(by
      have hm : e ∈ x26 ++ (⟨b20, 122, [.bool false, .int .i64 (openS t ws os).sl, .int .i64 (openS t ws os).sh, .int .i64 (openS t ws os).cl, .int .i64 (openS t ws os).ch, .slice A ws.length c, .slice A5 os.length c5, v, .bool t.down], true⟩ :: (x ++ [])) := by simpa using he
      rcases hW.new e hm with h | h
      · exact h
      · cases h), hW.at_ e (by simpa using he)⟩, by have := hW.nodup; simpa using this, by
        obtain ⟨A4, c4, e4, h4⟩ := own_els (l := firstL os) (by rw [int_flat]; exact hO.cast (firstL_len os).symm (by rfl))
        rw [firstL_len] at e4
        refine ⟨A5, c5, A4, c4, fun W' hx hw1 ho1 => ?_⟩
        have hnd : ((x26 ++ (⟨b20, 122, [.bool false, .int .i64 (openS t ws os).sl, .int .i64 (openS t ws os).sh, .int .i64 (openS t ws os).cl, .int .i64 (openS t ws os).ch, .slice A ws.length c, .slice A5 os.length c5, v, .bool t.down], true⟩ :: x)).map (·.b)).Nodup := by have := hW.nodup; simpa using this
        have hS := Sat.self hx hnd
        obtain ⟨l1, l2, l3⟩ := openS_len t ws os
        refine ⟨fun j u hj => ?_, by rw [l2]; exact hw1, h5 _ _ W' (hS.drop (List.sublist_append_left _ _)) ho1, ?_⟩
        · refine (cell_of (hx _ (List.mem_append_right _ (List.mem_cons_self ..))) j).trans ?_
          rw [← hj]
          unfold Sh.cells
          rw [l1, l2, l3, e4]
        · have hf : firstL (openS t ws os).os = firstL os := by
            unfold firstL
            rw [l1]
            exact List.map_congr_left (fun k _ => openS_pre t ws os k)
          rw [hf]
          exact h4 _ _ W' (hS.drop ((List.sublist_cons_self _ _).trans (List.sublist_append_right _ _)))⟩, hW.ext⟩

end Go.Proofs.Ytdflfnednaleeaa
