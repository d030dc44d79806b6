/- The walks of functions: what each call hands back, and that nothing that was there has turned. Printed by a program of this session (wip/tools/gen.py). -/
import Derived.Test.YtdflfnednaleeaaMod7
namespace Go.Proofs.Ytdflfnednaleeaa
open Go
attribute [local irreducible] ExV Ex
set_option synthInstance.maxSize 2000
set_option synthInstance.maxHeartbeats 200000
set_option maxRecDepth 20000

theorem Sat.self {W : World} {x : Hp} (h : ∀ e, e ∈ x → W.heap[e.b]? = some e.obj) (hn : (x.map (·.b)).Nodup) : Sat W (x.map (·.b)) x W := ⟨Ext.refl _ _, h, fun e he => .inr (List.mem_map.2 ⟨e, he, rfl⟩), hn⟩

section
variable {P : Program} {N : Nat} {w0 : World} {M : List Nat} {Γ : Gam} {H : Hp} {ops : Array Oper} {Q : Exit → Act → World → Prop} {next : AW} {rest : List Oper} {d : Nat} {e : TypeId} {ty : Nat} {pos : String} {aft : Array Edge}
/-- A call that hands back a value, and a slice that is old or its own. -/
theorem o_callU {f size cnt : Nat} {args : List Operand} {vs : List Value} {ats : Array TypeId} {es : List Value} {u s : Value} {dn : Bool} (hcall : ∀ l W, (callFunc f l).run P W = .ok (.enter f l) W) (hargs : evs Γ args = some vs)
    (hc : ∀ W, Sat w0 M H W → Calls P f vs.toArray W (fun x W' => ∃ v, x = .returned (.tuple #[u, v]) ∧ ((dn = false ∧ v = s) ∨ (dn = true ∧ FreshV e size v cnt es W W')) ∧ Ext [] W W'))
    (k : ∀ v Hx, ((dn = false ∧ v = s) ∨ (dn = true ∧ OwnsV e size v cnt es Hx)) → OpsN P ops Q next N w0 M rest ((d, .tuple #[u, v]) :: Γ) (Hx ++ H)) (hdN : d < N := by decide) : OpsN P ops Q next N w0 M (⟨some d, .call ⟨.value (.func f), args.toArray, ats⟩, ty, pos, aft, none⟩ :: rest) Γ H :=
  o_step (ex_callF (bs := []) (φ := fun x H' => ∃ v Hx, x = .tuple #[u, v] ∧ ((dn = false ∧ v = s) ∨ (dn = true ∧ OwnsV e size v cnt es Hx)) ∧ H' = Hx ++ H) hcall hargs fun W hW => (hc W hW).mono fun x W' ⟨v, hx, hF, hE⟩ => by
    rcases hF with hF | ⟨hd, hF⟩
    · exact ⟨_, [] ++ H, hx, ⟨v, [], rfl, .inl hF, rfl⟩, hW.ext0 hE, hE⟩
    · obtain ⟨Hx, h1, h2⟩ := hF.take hW hE
      exact ⟨_, Hx ++ H, hx, ⟨v, Hx, rfl, .inr ⟨hd, h1⟩, rfl⟩, h2, hE⟩) (by rintro _ _ ⟨v, Hx, rfl, h, rfl⟩; exact k v Hx h) rfl rfl hdN
end
structure OI where
  (k : Nat) (v : Value) (x : Hp)

-- == f92 acme/die.up params [26, 27] results [26, 27] in [('cell', ['4', '26']), ('tmp', ['5'])] ntmps 39 nfree 0
theorem c92 (t : To) (ws : List Sp) {A : Option Addr} {c : Nat} (os : List Od) {A2 : Option Addr} {c2 : Nat} {w : World} (hos : ElAt w A2 os) (hok : chkE t ws os = 0) : Calls Try.prog 92 [.agg [.bool t.down, .int .i64 t.sl, .int .i64 t.sh, .int .i64 t.cl, .int .i64 t.ch, .slice A ws.length c].toArray, .slice A2 os.length c2].toArray w fun e w' => ∃ v, e = .returned (.tuple #[.agg [.bool false, .int .i64 (openS t ws os).sl, .int .i64 (openS t ws os).sh, .int .i64 (openS t ws os).cl, .int .i64 (openS t ws os).ch, .slice A ws.length c].toArray, v]) ∧ ((t.down = false ∧ v = .slice A2 os.length c2) ∨ (t.down = true ∧ FreshV 88 4 v os.length ((os.map turnO).flatMap odElt.cells) w w')) ∧ Ext [] w w' := by
  refine fn_start Try.func92 rfl (N := 39) rfl ?_
  refine k_seq (k_region ?_)
  refine o_box rfl (fun b2 => ?_)
  refine o_alloc Try.zeroValue26 (fun b4 => ?_)
  refine o_val (ex_assign rfl) (o_nil ?_)
  refine k_seq (k_seq (k_region ?_))
  refine o_val (ex_field (o := 0) 0 fa26_0 rfl rfl) ?_
  refine o_val (ex_load Try.isAgg4 rfl rfl) ?_
  refine o_val (ex_not rfl) (o_nil ?_)
  refine k_cond rfl (fun h => ?_) (fun h => ?_)
  ·
    have hd : t.down = false := by simpa using h
    refine k_seq (k_region ?_)
    refine o_val (ex_loadA Try.isAgg26 Try.sizeOf26 rfl) ?_
    refine o_val (ex_move rfl) ?_
    refine o_store Try.sizeOf26 rfl rfl ?_
    refine o_val (ex_assign rfl) (o_nil ?_)
    refine k_ret ?_
    exact finC1 rfl Try.isAgg26 Try.sizeOf26 rfl rfl rfl fun W hW => ⟨_, by simp [openS, hd], .inl ⟨hd, rfl⟩, hW.ext⟩
  ·
    have hd : t.down = true := by simpa using h
    obtain ⟨hto, hn1, hn40, ho⟩ := chkE_ok.1 hok
    have hts := hto.s
    have htc := hto.c
    refine k_skip ?_
    refine k_seq (k_region ?_)
    refine o_val (ex_assign rfl) (o_nil ?_)
    refine k_seq (k_seq (k_region ?_))
    refine o_val (ex_move rfl) ?_
    refine o_val (ex_len Try.runUnderlying27 rfl) ?_
    refine o_val (ex_move rfl) (o_nil ?_)
    refine k_block ?_
    refine k_loop (ι := OI) (fun k => [(2, .pointer (some ⟨b2, 0, none⟩)), (4, .pointer (some ⟨b4, 0, none⟩)), (6, k.v), (14, .slice A2 os.length c2), (15, .int .i64 (os.length : Int)), (16, .int .i64 (k.k : Int))]) (fun k => k.x ++ [⟨b4, 26, [.bool false, .int .i64 0, .int .i64 0, .int .i64 0, .int .i64 0, .slice none 0 0], true⟩, ⟨b2, 26, [.bool t.down, .int .i64 t.sl, .int .i64 t.sh, .int .i64 t.cl, .int .i64 t.ch, .slice A ws.length c], true⟩]) (fun k => k.k ≤ os.length ∧ OwnsV 88 4 k.v k.k (((os.take k.k).map turnO).flatMap odElt.cells) k.x) (fun k => os.length - k.k) ⟨0, .slice none 0 0, []⟩ ⟨Nat.zero_le _, OwnsV.nil 88 4⟩ (Sub.cons rfl (Sub.cons rfl (Sub.cons rfl (Sub.cons rfl (Sub.cons rfl (Sub.cons rfl (Sub.nil _))))))) SubE.sub (fun k hk => ?_)
    obtain ⟨k, v, x⟩ := k
    obtain ⟨hk, hO⟩ := hk
    dsimp only at hk hO ⊢
    refine k_seq (k_region ?_)
    refine o_val (ex_lss rfl rfl) (o_nil ?_)
    refine k_seq (k_cond rfl (fun h_1 => ?_) (fun h_1 => ?_))
    ·
      have hlt : k < os.length := by have : (k : Int) < (os.length : Int) := of_decide_eq_true h_1; omega
      obtain ⟨a, hA, hc⟩ := hos k hlt
      subst hA
      have hok1 := odE_ok.1 (ho os[k] (List.getElem_mem hlt))
      refine k_skip ?_
      refine k_seq (k_block ?_)
      refine k_seq (k_region ?_)
      refine o_val (ex_index_old Try.runUnderlying27 Try.sizeOf88 rfl rfl (by omega) (by omega)) ?_
      refine o_val (ex_loadA_old Try.isAgg88 Try.sizeOf88 rfl rfl (vs := [.int .i64 os[k].pc, .int .i64 os[k].st, .int .i64 os[k].zl, .int .i64 os[k].zh]) hc (by simp)) ?_
      refine o_alloc Try.zeroValue88 (fun b8 => ?_)
      refine o_store Try.sizeOf88 rfl rfl (o_nil ?_)
      refine k_seq (k_region ?_)
      refine o_val (ex_field (o := 0) 2 fa88_2 rfl rfl) ?_
      refine o_val (ex_loadA Try.isAgg23 Try.sizeOf23 rfl) ?_
      refine o_val (ex_call Try.call81 rfl (fun W hW => c81 os[k].zl os[k].zh (by unfold I64; omega) (by unfold I64; omega))) ?_
      refine o_val (ex_field (o := 0) 2 fa88_2 rfl rfl) ?_
      refine o_store Try.sizeOf23 rfl rfl (o_nil ?_)
      refine k_region ?_
      refine o_val (ex_move rfl) ?_
      refine o_val (ex_loadA Try.isAgg88 Try.sizeOf88 rfl) ?_
      refine o_buildSlice [.int .i64 0, .int .i64 0, .int .i64 0, .int .i64 0] [(0, 4)] Try.runUnderlying27 Try.sizeOf88 Try.zeroValue88 rfl (fun b26 => ?_)
      refine o_append (bytes := 32) hO Try.underlying27 (by kernel_rfl) rfl rfl (by unfold maxLen; omega) (by omega) (fun v27 x27 o27 => ?_)
      refine o_val (ex_assign rfl) (o_nil ?_)
      refine k_region ?_
      refine o_val (ex_add64 rfl rfl (by unfold I64; omega)) ?_
      refine o_val (ex_move rfl) (o_nil ?_)
      exact k_some ⟨k + 1, v27, x27⟩ ⟨⟨hlt, o27.cast rfl (by rw [List.take_succ_eq_append_getElem hlt, List.map_append, List.flatMap_append]; rfl)⟩, (by show os.length - (k + 1) < os.length - k; omega)⟩ (Sub.cons rfl (Sub.cons rfl (Sub.cons rfl (Sub.cons rfl (Sub.cons rfl (Sub.cons rfl (Sub.nil _))))))) SubE.sub
    ·
      have hge : k = os.length := by have : ¬ (k : Int) < (os.length : Int) := of_decide_eq_false h_1; omega
      rw [hge, List.take_length] at hO
      refine k_exit rfl ?_
      refine k_seq (k_draw [true, true, true, true, true, true, true, true, true, true, false, false] 2 ?_ mixed (by kernel_rfl) rfl)
      refine d_val (i := 0) [] (ex_field (o := 0) 1 fa26_1 rfl rfl) ?_
      refine d_loadA (i := 1) Try.isAgg23 Try.sizeOf23 rfl ?_
      refine d_val (i := 2) [] (ex_call Try.call81 rfl (fun W hW => c81 t.sl t.sh (by unfold I64; omega) (by unfold I64; omega))) ?_
      refine d_val (i := 3) [] (ex_field (o := 0) 3 fa26_2 rfl rfl) ?_
      refine d_loadA (i := 4) Try.isAgg23 Try.sizeOf23 rfl ?_
      refine d_val (i := 5) [] (ex_call Try.call81 rfl (fun W hW => c81 t.cl t.ch (by unfold I64; omega) (by unfold I64; omega))) ?_
      refine d_val (i := 6) [] (ex_field (o := 0) 5 fa26_3 rfl rfl) ?_
      refine d_load (i := 7) Try.isAgg24 rfl rfl ?_
      refine d_val (i := 8) [] (ex_build bf26 rfl) ?_
      refine d_val (i := 9) [] (ex_move rfl) ?_
      refine d_rest ?_
      refine d_rest ?_
      refine d_nil ?_
      refine r_one 10 (rs_store [8, 5, 0, 1, 2, 3, 4, 5, 6, 7, 8] rfl Try.sizeOf26 rfl rfl ?_) (by kernel_rfl)
      refine r_one 11 (rs_val rfl (ex_assign rfl) ?_) (by kernel_rfl)
      refine r_nil ?_ (by kernel_rfl)
      refine k_ret ?_
      exact finC1 rfl Try.isAgg26 Try.sizeOf26 rfl rfl rfl fun W hW => ⟨_, by simp [openS, hd], .inr ⟨hd, hO.fresh hW⟩, hW.ext⟩

-- == f64 (*acme/die.shop).all params [98] results [3] in [('tmp', ['2'])] ntmps 15 nfree 0
theorem c64 {b n c : Nat} {a : Addr} {x : Int} {w : World} (h1 : w.cell? ⟨b, 7, none⟩ = some (.slice (some a) n c)) (hn : 0 < n) (hn2 : n ≤ 41) (h2 : w.cell? (a.add (n - 1)) = some (.int .i64 x)) : Calls Try.prog 64 [.pointer (some ⟨b, 0, none⟩)].toArray w fun e w' => e = .returned (.int .i64 x) ∧ Ext [] w w' := by
  refine fn_start Try.func64 rfl (N := 15) rfl ?_
  refine k_seq (k_region ?_)
  refine o_val (ex_assign rfl) (o_nil ?_)
  refine k_seq (k_draw [true, true, true, true, true, true, true, true, true, true, true, true, false] 1 ?_ mixed (by kernel_rfl) rfl)
  refine d_val (i := 0) [] (ex_move rfl) ?_
  refine d_val (i := 1) [] (ex_nilCheck rfl) ?_
  refine d_val (i := 2) [] (ex_field_old fa122_2 rfl) ?_
  refine d_val (i := 3) [] (ex_load_old Try.isAgg52 rfl (by rw [add_lit]; exact h1) (by simp)) ?_
  refine d_val (i := 4) [] (ex_move rfl) ?_
  refine d_val (i := 5) [] (ex_nilCheck rfl) ?_
  refine d_val (i := 6) [] (ex_field_old fa122_2 rfl) ?_
  refine d_val (i := 7) [] (ex_load_old Try.isAgg52 rfl (by rw [add_lit]; exact h1) (by simp)) ?_
  refine d_val (i := 8) [] (ex_len Try.runUnderlying52 rfl) ?_
  refine d_val (i := 9) [] (ex_sub64 rfl rfl (by unfold I64; omega)) ?_
  refine d_val (i := 10) [] (ex_index_old Try.runUnderlying52 Try.sizeOf3 rfl rfl (by omega) (by omega)) ?_
  refine d_val (i := 11) [] (ex_load_old Try.isAgg3 rfl (by have e : ((n : Int) - 1).toNat * 1 = n - 1 := (by omega); rw [e]; exact h2) (by simp)) ?_
  refine d_rest ?_
  refine d_nil ?_
  refine r_one 12 (rs_val rfl (ex_assign rfl) ?_) (by kernel_rfl)
  refine r_nil ?_ (by kernel_rfl)
  refine k_ret ?_
  exact fin1 rfl rfl fun W hW => ⟨rfl, hW.ext⟩

end Go.Proofs.Ytdflfnednaleeaa
