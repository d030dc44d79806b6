/- The walks of functions: what each call hands back, and that nothing that was there has turned. Printed by a program of this session (wip/tools/gen.py). -/
import Derived.Test.YtdflfnednaleeaaD6
namespace Go.Proofs.Ytdflfnednaleeaa
open Go
attribute [local irreducible] ExV Ex
set_option synthInstance.maxSize 2000
set_option synthInstance.maxHeartbeats 200000
set_option maxRecDepth 20000

theorem Sat.extN {w0 : World} {M : List Nat} {H : Hp} {W X : World} (h : Sat w0 M H W) (k : Ext (H.map (·.b)) W X) : Ext M w0 X := h.ext.trans k (fun x hx hlt => by
  obtain ⟨e, he, rfl⟩ := List.mem_map.1 hx
  rcases h.new e he with h | h
  · omega
  · exact h)
theorem Sat.keepL {w0 : World} {M : List Nat} {x H : Hp} {W : World} (h : Sat w0 M (x ++ H) W) {e : Ent} (he : e ∈ x) {X : World} (k : Ext (H.map (·.b)) W X) : X.heap[e.b]? = some e.obj := by
  have hn := h.nodup
  rw [List.map_append, List.nodup_append] at hn
  rw [k.block e.b (h.lt (List.mem_append_left _ he)) (fun hm => hn.2.2 _ (List.mem_map.2 ⟨e, he, rfl⟩) _ hm rfl)]
  exact h.at_ e (List.mem_append_left _ he)
theorem Sat.takeL {w0 : World} {M : List Nat} {H : Hp} {W W' : World} {x : Hp} (h : Sat w0 M H W) (k : Ext [] W W') (hx : ∀ e, e ∈ x → W.heap.size ≤ e.b ∧ W'.heap[e.b]? = some e.obj) (hn : (x.map (·.b)).Nodup) : Sat w0 M (x ++ H) W' := by
  have h' := h.ext0 k
  refine ⟨h'.ext, fun e he => ?_, fun e he => ?_, ?_⟩
  · rcases List.mem_append.1 he with he | he
    · exact (hx e he).2
    · exact h'.at_ e he
  · rcases List.mem_append.1 he with he | he
    · exact .inl (Nat.le_trans h.ext.size (hx e he).1)
    · exact h'.new e he
  · rw [List.map_append, List.nodup_append]
    refine ⟨hn, h.nodup, fun a ha b hb hab => ?_⟩
    obtain ⟨e, he, rfl⟩ := List.mem_map.1 ha
    obtain ⟨e', he', rfl⟩ := List.mem_map.1 hb
    have := (hx e he).1
    have := h.lt he'
    omega
theorem Sat.gives {w : World} {x H : Hp} {W : World} (h : Sat w [] H W) (hs : x.Sublist H) : (∀ e, e ∈ x → w.heap.size ≤ e.b ∧ W.heap[e.b]? = some e.obj) ∧ (x.map (·.b)).Nodup :=
  ⟨fun e he => ⟨(by
    rcases h.new e (hs.subset he) with h | h
    · exact h
    · cases h), h.at_ e (hs.subset he)⟩, h.nodup.sublist (hs.map _)⟩

section
variable {P : Program} {N : Nat} {w0 : World} {M : List Nat} {Γ : Gam} {H : Hp} {ops : Array Oper} {Q : Exit → Act → World → Prop} {next : AW} {rest : List Oper} {d : Nat} {ty : Nat} {pos : String} {aft : Array Edge}
/-- A call that hands back a value, and blocks of its own. -/
theorem o_callB {f : Nat} {args : List Operand} {vs : List Value} {ats : Array TypeId} {φ : Value → Hp → Prop} (hcall : ∀ l W, (callFunc f l).run P W = .ok (.enter f l) W) (hargs : evs Γ args = some vs)
    (hc : ∀ W, Sat w0 M H W → Calls P f vs.toArray W (fun e W' => ∃ v x, e = .returned v ∧ φ v x ∧ (∀ e, e ∈ x → W.heap.size ≤ e.b ∧ W'.heap[e.b]? = some e.obj) ∧ (x.map (·.b)).Nodup ∧ Ext [] W W'))
    (k : ∀ v x, φ v x → OpsN P ops Q next N w0 M rest ((d, v) :: Γ) (x ++ H)) (hdN : d < N := by decide) : OpsN P ops Q next N w0 M (⟨some d, .call ⟨.value (.func f), args.toArray, ats⟩, ty, pos, aft, none⟩ :: rest) Γ H :=
  o_step (ex_callF (bs := []) (φ := fun v H' => ∃ x, φ v x ∧ H' = x ++ H) hcall hargs fun W hW => (hc W hW).mono fun e W' ⟨v, x, he, hφ, h1, h2, hE⟩ => ⟨v, x ++ H, he, ⟨x, hφ, rfl⟩, hW.takeL hE h1 h2, hE⟩) (by rintro v _ ⟨x, h, rfl⟩; exact k v x h) rfl rfl hdN
end
/-- A steel's wear, where it lies. -/
theorem stp_at {S : Sh} (hS : S.Ok) {k : Nat} (hk : k < S.os.length) : 0 ≤ (S.os.getD k dO).st ∧ (S.os.getD k dO).st < (S.ws.length : Int) ∧ ∀ W A, ElAt W A S.ws → ∃ a, A = some a ∧
    ∀ j v, [Value.int .i64 (stp S.ws (S.os.getD k dO)).lo, Value.int .i64 (stp S.ws (S.os.getD k dO)).hi][j]? = some v → W.cell? ((a.add ((S.os.getD k dO).st.toNat * 2)).add j) = some v := by
  have ho := hS.o S.os[k] (List.getElem_mem hk)
  rw [od_get hS hk]
  refine ⟨ho.2.2.1, ho.2.2.2.1, fun W A h => ?_⟩
  obtain ⟨a, hA, hc⟩ := h S.os[k].st.toNat (by omega)
  refine ⟨a, hA, fun j v hj => hc j v ?_⟩
  have e : stp S.ws S.os[k] = S.ws[S.os[k].st.toNat]'(by omega) := by unfold stp; simp [List.getD, List.getElem?_eq_getElem (show S.os[k].st.toNat < S.ws.length by omega)]
  rw [e] at hj
  exact hj

-- == f93 (*acme/die.shop).parts params [98, 3, 3] results [125] in [('tmp', ['6'])] ntmps 8 nfree 0
theorem c93 (b : Nat) (f t : Int) {w : World} : Calls Try.prog 93 [.pointer (some ⟨b, 0, none⟩), .int .i64 f, .int .i64 t].toArray w fun e w' => ∃ (v : Value) (x : Hp), e = .returned v ∧ (∃ s3 s4 s5, v = .func (.func 105) [].toArray [.pointer (some ⟨s3, 0, none⟩), .pointer (some ⟨s5, 0, none⟩), .pointer (some ⟨s4, 0, none⟩)].toArray ∧ x = ([⟨s5, 3, [.int .i64 t], true⟩, ⟨s4, 3, [.int .i64 f], true⟩, ⟨s3, 98, [.pointer (some ⟨b, 0, none⟩)], true⟩] : Hp)) ∧ (∀ e, e ∈ x → w.heap.size ≤ e.b ∧ w'.heap[e.b]? = some e.obj) ∧ (x.map (·.b)).Nodup ∧ Ext [] w w' := by
  refine fn_start Try.func93 rfl (N := 8) rfl ?_
  refine k_seq (k_region ?_)
  refine o_box rfl (fun b3 => ?_)
  refine o_box rfl (fun b4 => ?_)
  refine o_box rfl (fun b5 => ?_)
  refine o_val (ex_assign rfl) (o_nil ?_)
  refine k_seq (k_region ?_)
  refine o_val (ex_makeFunc rfl rfl) ?_
  refine o_val (ex_assign rfl) (o_nil ?_)
  refine k_ret ?_
  exact fin1 rfl rfl fun W hW => ⟨_, ([⟨b5, 3, [.int .i64 t], true⟩, ⟨b4, 3, [.int .i64 f], true⟩, ⟨b3, 98, [.pointer (some ⟨b, 0, none⟩)], true⟩] : Hp), rfl, ⟨b3, b4, b5, rfl, rfl⟩, (hW.gives (.refl _)).1, (hW.gives (.refl _)).2, hW.ext⟩

-- == f65 (*acme/die.shop).wear params [98, 3, 3] results [23] in [('cell', ['6', '23'])] ntmps 29 nfree 0
theorem c65 (S : Sh) (f t : Int) {b : Nat} (hS : S.Ok) (hf : -1000000 ≤ f ∧ f ≤ 1000000) (ht : -1000000 ≤ t ∧ t ≤ 1000000) {A1 A2 A3 : Option Addr} {c1 c2 c3 : Nat} {w : World} (hshop : ShopAt w b S A1 A2 A3 c1 c2 c3) : Calls Try.prog 65 [.pointer (some ⟨b, 0, none⟩), .int .i64 f, .int .i64 t].toArray w fun e w' => e = .returned (.agg [.int .i64 ((S.wear f t).lo), .int .i64 ((S.wear f t).hi)].toArray) ∧ Ext [] w w' := by
  refine fn_startM Try.func65 rfl (N := 29) rfl ?_
  refine k_seq (k_region ?_)
  refine o_box rfl (fun b3 => ?_)
  refine o_alloc Try.zeroValue23 (fun b6 => o_nil ?_)
  refine k_seq (k_seq (k_region ?_))
  refine o_val (ex_load Try.isAgg98 rfl rfl) ?_
  refine o_val (ex_move rfl) ?_
  refine o_val (ex_move rfl) ?_
  refine o_callB Try.call93 rfl (fun W hW => c93 b f t) (fun v12 x12 o12 => o_nil ?_)
  obtain ⟨s3, s4, s5, e12, ex12⟩ := o12
  subst e12 ex12
  refine k_block ?_
  refine k_rebaseH [⟨b6, 23, [.int .i64 0, .int .i64 0], true⟩, ⟨b3, 98, [.pointer (some ⟨b, 0, none⟩)], true⟩] (fun w1 hw1 => ?_)
  have hd : Sat w [] [⟨b6, 23, [.int .i64 0, .int .i64 0], true⟩, ⟨b3, 98, [.pointer (some ⟨b, 0, none⟩)], true⟩] w1 := hw1.drop (List.sublist_append_right _ _)
  refine k_range (ι := Sp) (κ := Nat) (τ := Unit) (fun s => [⟨b6, 23, [.int .i64 s.lo, .int .i64 s.hi], true⟩, ⟨b3, 98, [.pointer (some ⟨b, 0, none⟩)], true⟩]) (fun k s => s = wearS S f t k) (fun k s j => [(3, .pointer (some ⟨b3, 0, none⟩)), (6, .pointer (some ⟨b6, 0, none⟩)), (7, .pointer (some ⟨j, 0, none⟩)), (8, .int .i64 (cntP S.os f t k))]) (fun k s j => [⟨j, 88, [.int .i64 (S.os.getD k dO).pc, .int .i64 (S.os.getD k dO).st, .int .i64 (S.os.getD k dO).zl, .int .i64 (S.os.getD k dO).zh], true⟩, ⟨b6, 23, [.int .i64 s.lo, .int .i64 s.hi], true⟩, ⟨b3, 98, [.pointer (some ⟨b, 0, none⟩)], true⟩]) (fun _ _ _ => True) (fun _ => []) (fun _ _ => False) [] rfl Try.call105 (fun W hW => it105 hS hf ht (M := ([⟨b6, 23, [.int .i64 0, .int .i64 0], true⟩, ⟨b3, 98, [.pointer (some ⟨b, 0, none⟩)], true⟩] : Hp).map (·.b)) (fun X hX => hshop.ext (hd.extN (hW.ext.trans hX (fun _ h _ => h)))) (fun X hX => cell_of (hw1.keepL (e := ⟨s3, 98, [.pointer (some ⟨b, 0, none⟩)], true⟩) (by simp) (hW.ext.trans hX (fun _ h _ => h))) 0) (fun X hX => cell_of (hw1.keepL (e := ⟨s5, 3, [.int .i64 t], true⟩) (by simp) (hW.ext.trans hX (fun _ h _ => h))) 0) (fun X hX => cell_of (hw1.keepL (e := ⟨s4, 3, [.int .i64 f], true⟩) (by simp) (hW.ext.trans hX (fun _ h _ => h))) 0)) (fun _ => rfl) ⟨0, 0⟩ rfl (List.Sublist.refl _) (fun k s hk hs hp => by rw [hp, wear_no (of_decide_eq_false hs)]) (fun l k i w2 hk hs hp hSat => ?_) (fun l k i j w2 hk hs hp hA hSat => ?_) (fun i D hp => ?_) (fun _ _ h => h.elim) (fun _ _ _ h => by cases h)
  ·
    show Kn _ _ _ ((14, Value.int .i64 (cntP S.os f t k)) :: (13, odV (S.os.getD k dO)) :: _) _ _
    refine k_seq (k_region ?_)
    refine o_alloc Try.zeroValue88 (fun b7 => ?_)
    refine o_store Try.sizeOf88 rfl rfl (o_nil ?_)
    refine k_region ?_
    refine o_val (ex_assign rfl) (o_nil ?_)
    exact k_some b7 trivial (Sub.cons rfl (Sub.cons rfl (Sub.cons rfl (Sub.cons rfl (Sub.nil _))))) SubE.sub
  ·
    have hwb := wearS_bound hS f t k (by omega)
    have hcp : 0 < cntP S.os f t k := of_decide_eq_true hs
    have hcb := cntP_bound hS f t hk
    have hsb := stp_bound hS (S.os.getD k dO)
    obtain ⟨st0, st1, hst⟩ := stp_at hS hk
    have hE : ∀ W, Sat w2 _ [] W → Ext [] w W := fun W hW => hd.extN (hSat.extN hW.ext)
    obtain ⟨a, hA, _⟩ := hst w A1 hshop.w
    subst hA
    have hsc : ∀ W, Ext [] w W → ∀ j v, [Value.int .i64 (stp S.ws (S.os.getD k dO)).lo, Value.int .i64 (stp S.ws (S.os.getD k dO)).hi][j]? = some v → W.cell? ((a.add ((S.os.getD k dO).st.toNat * 2)).add j) = some v := fun W hW => by
      obtain ⟨a', ha', h⟩ := hst W _ (hshop.w.ext hW)
      cases ha'
      exact h
    have m1 := prodB (a := (stp S.ws (S.os.getD k dO)).lo) (A := 100000) (b := cntP S.os f t k) (B := 10000) (by omega) (by omega) (by omega) hcb
    have m2 := prodB (a := (stp S.ws (S.os.getD k dO)).hi) (A := 100000) (b := cntP S.os f t k) (B := 10000) (by omega) (by omega) (by omega) hcb
    have n40 := hS.n40
    subst hp
    refine k_block ?_
    refine k_draw [true, true, true, true, true, true, true, true, true, true, true, true, true, false] 1 ?_ mixed (by kernel_rfl) rfl
    refine d_loadA (i := 0) Try.isAgg23 Try.sizeOf23 rfl ?_
    refine d_load (i := 1) Try.isAgg98 rfl rfl ?_
    refine d_val (i := 2) [] (ex_nilCheck rfl) ?_
    refine d_val (i := 3) [] (ex_field_old fa122_0 rfl) ?_
    refine d_val (i := 4) [] (ex_field_old fa26_3 rfl) ?_
    refine d_val (i := 5) [] (ex_load_at Try.isAgg24 rfl (fun W hW => by rw [add_lit, add_lit]; exact (hshop.ext (hE W hW)).slice_cells.1)) ?_
    refine d_val (i := 6) [] (ex_field (o := 0) 1 fa88_1 rfl rfl) ?_
    refine d_load (i := 7) Try.isAgg3 rfl rfl ?_
    refine d_val (i := 8) [] (ex_index_old Try.runUnderlying24 Try.sizeOf23 rfl rfl (by omega) (by omega)) ?_
    refine d_val (i := 9) [] (ex_loadA_at Try.isAgg23 Try.sizeOf23 rfl (vs := [.int .i64 (stp S.ws (S.os.getD k dO)).lo, .int .i64 (stp S.ws (S.os.getD k dO)).hi]) rfl (fun W hW => hsc W (hE W hW))) ?_
    refine d_val (i := 10) [] (ex_move rfl) ?_
    refine d_val (i := 11) [] (ex_call Try.call94 rfl (fun W hW => c94 (stp S.ws (S.os.getD k dO)).lo (stp S.ws (S.os.getD k dO)).hi (cntP S.os f t k) (by unfold I64; omega) (by unfold I64; omega))) ?_
    refine d_val (i := 12) [] (ex_call Try.call80 rfl (fun W hW => c80 _ _ _ _ (by unfold I64; omega) (by unfold I64; omega))) ?_
    refine d_rest ?_
    refine d_nil ?_
    refine r_one 13 (rs_store [12, 12, 0, 1, 2, 3, 4, 5, 6, 7, 8, 9, 10, 11, 12] rfl Try.sizeOf23 rfl rfl ?_) (by kernel_rfl)
    refine r_nil ?_ (by kernel_rfl)
    exact k_some (⟨(wearS S f t k).lo + (stp S.ws (S.os.getD k dO)).lo * cntP S.os f t k, (wearS S f t k).hi + (stp S.ws (S.os.getD k dO)).hi * cntP S.os f t k⟩ : Sp) (wear_yes hcp).symm (Sub.nil _) SubE.sub
  ·
    subst hp
    refine kd_seq (kd_region ?_)
    refine o_val (ex_loadA Try.isAgg23 Try.sizeOf23 rfl) ?_
    refine o_store Try.sizeOf23 rfl rfl (o_nilD ?_)
    refine kd_ret (kd_fin ?_)
    exact finC rfl Try.isAgg23 Try.sizeOf23 rfl rfl fun W hW => ⟨rfl, (hd.rebase hW).ext⟩

theorem ShopAt.steel {W : World} {b : Nat} {S : Sh} {A1 A2 A3 : Option Addr} {c1 c2 c3 : Nat} (h : ShopAt W b S A1 A2 A3 c1 c2 c3) (j : Nat) (v : Value) (hj : [Value.int .i64 S.sl, Value.int .i64 S.sh][j]? = some v) : W.cell? ((⟨b, 1, none⟩ : Addr).add j) = some v := by
  match j, hj with
  | 0, hj => exact h.c 1 v hj
  | 1, hj => exact h.c 2 v hj
  | j + 2, hj => cases hj
theorem ShopAt.die {W : World} {b : Nat} {S : Sh} {A1 A2 A3 : Option Addr} {c1 c2 c3 : Nat} (h : ShopAt W b S A1 A2 A3 c1 c2 c3) (j : Nat) (v : Value) (hj : [Value.int .i64 S.cl, Value.int .i64 S.ch][j]? = some v) : W.cell? ((⟨b, 3, none⟩ : Addr).add j) = some v := by
  match j, hj with
  | 0, hj => exact h.c 3 v hj
  | 1, hj => exact h.c 4 v hj
  | j + 2, hj => cases hj
theorem od_bound {S : Sh} (hS : S.Ok) {k : Nat} (hk : k < S.os.length) : -10000000000 ≤ (S.os.getD k dO).zl ∧ (S.os.getD k dO).zl ≤ (S.os.getD k dO).zh ∧ (S.os.getD k dO).zh ≤ 10000000000 := by
  have := hS.o S.os[k] (List.getElem_mem hk)
  rw [od_get hS hk]; omega

-- == f68 (*acme/die.shop).targets params [98, 3, 3] results [23] in [('cell', ['6', '23'])] ntmps 88 nfree 0
theorem c68 (S : Sh) (f t : Int) {b : Nat} (hS : S.Ok) (hf : -1000000 ≤ f ∧ f ≤ 1000000) (ht : -1000000 ≤ t ∧ t ≤ 1000000) {A1 A2 A3 : Option Addr} {c1 c2 c3 : Nat} {w : World} (hshop : ShopAt w b S A1 A2 A3 c1 c2 c3) : Calls Try.prog 68 [.pointer (some ⟨b, 0, none⟩), .int .i64 f, .int .i64 t].toArray w fun e w' => e = .returned (.agg [.int .i64 ((S.tg f t).lo), .int .i64 ((S.tg f t).hi)].toArray) ∧ Ext [] w w' := by
  refine fn_startM Try.func68 rfl (N := 88) rfl ?_
  refine k_seq (k_region ?_)
  refine o_box rfl (fun b3 => ?_)
  refine o_alloc Try.zeroValue23 (fun b6 => o_nil ?_)
  refine k_seq (k_draw [true, true, true, true, true, true, true, true, true, true, true, false, false] 2 ?_ mixed (by kernel_rfl) rfl)
  refine d_load (i := 0) Try.isAgg98 rfl rfl ?_
  refine d_val (i := 1) [] (ex_nilCheck rfl) ?_
  refine d_val (i := 2) [] (ex_field_old fa122_0 rfl) ?_
  refine d_val (i := 3) [] (ex_field_old fa26_1 rfl) ?_
  refine d_val (i := 4) [] (ex_loadA_old Try.isAgg23 Try.sizeOf23 rfl rfl (vs := [.int .i64 S.sl, .int .i64 S.sh]) hshop.steel (by simp)) ?_
  refine d_load (i := 5) Try.isAgg98 rfl rfl ?_
  refine d_val (i := 6) [] (ex_nilCheck rfl) ?_
  refine d_val (i := 7) [] (ex_field_old fa122_0 rfl) ?_
  refine d_val (i := 8) [] (ex_field_old fa26_2 rfl) ?_
  refine d_val (i := 9) [] (ex_loadA_old Try.isAgg23 Try.sizeOf23 rfl rfl (vs := [.int .i64 S.cl, .int .i64 S.ch]) hshop.die (by simp)) ?_
  refine d_val (i := 10) [] (ex_call Try.call80 rfl (fun W hW => c80 S.sl S.sh S.cl S.ch (by have := hS.s; have := hS.c; unfold I64; omega) (by have := hS.s; have := hS.c; unfold I64; omega))) ?_
  refine d_rest ?_
  refine d_rest ?_
  refine d_nil ?_
  refine r_one 11 (rs_alloc rfl Try.zeroValue23 (fun b7 => ?_)) (by kernel_rfl)
  refine r_one 12 (rs_store [11, 10, 10, 0, 1, 2, 3, 4, 5, 6, 7, 8, 9, 10, 11] rfl Try.sizeOf23 rfl rfl ?_) (by kernel_rfl)
  refine r_nil ?_ (by kernel_rfl)
  refine k_seq (k_region ?_)
  refine o_val (ex_build bf23 rfl) ?_
  refine o_val (ex_build bf23 rfl) ?_
  refine o_alloc Try.zeroValue23 (fun b8 => ?_)
  refine o_alloc Try.zeroValue23 (fun b9 => ?_)
  refine o_alloc Try.zeroValue4 (fun b10 => ?_)
  refine o_store Try.sizeOf23 rfl rfl ?_
  refine o_store Try.sizeOf23 rfl rfl ?_
  refine o_store Try.sizeOf4 rfl rfl (o_nil ?_)
  refine k_seq (k_seq (k_region ?_))
  refine o_val (ex_load Try.isAgg98 rfl rfl) ?_
  refine o_val (ex_move rfl) ?_
  refine o_val (ex_move rfl) ?_
  refine o_callB Try.call93 rfl (fun W hW => c93 b f t) (fun v31 x31 o31 => o_nil ?_)
  obtain ⟨s3, s4, s5, e31, ex31⟩ := o31
  subst e31 ex31
  refine k_block ?_
  refine k_rebaseH [⟨b10, 4, [.bool false], true⟩, ⟨b9, 23, [.int .i64 0, .int .i64 0], true⟩, ⟨b8, 23, [.int .i64 0, .int .i64 0], true⟩, ⟨b7, 23, [.int .i64 (S.sl + S.cl), .int .i64 (S.sh + S.ch)], true⟩, ⟨b6, 23, [.int .i64 0, .int .i64 0], true⟩, ⟨b3, 98, [.pointer (some ⟨b, 0, none⟩)], true⟩] (fun w1 hw1 => ?_)
  have hd : Sat w [] [⟨b10, 4, [.bool false], true⟩, ⟨b9, 23, [.int .i64 0, .int .i64 0], true⟩, ⟨b8, 23, [.int .i64 0, .int .i64 0], true⟩, ⟨b7, 23, [.int .i64 (S.sl + S.cl), .int .i64 (S.sh + S.ch)], true⟩, ⟨b6, 23, [.int .i64 0, .int .i64 0], true⟩, ⟨b3, 98, [.pointer (some ⟨b, 0, none⟩)], true⟩] w1 := hw1.drop (List.sublist_append_right _ _)
  refine k_range (ι := Tg) (κ := Nat) (τ := Unit) (fun s => [⟨b10, 4, [.bool s.b], true⟩, ⟨b9, 23, [.int .i64 s.wl, .int .i64 s.wh], true⟩, ⟨b8, 23, [.int .i64 s.ol, .int .i64 s.oh], true⟩, ⟨b7, 23, [.int .i64 (S.sl + S.cl), .int .i64 (S.sh + S.ch)], true⟩, ⟨b6, 23, [.int .i64 0, .int .i64 0], true⟩, ⟨b3, 98, [.pointer (some ⟨b, 0, none⟩)], true⟩]) (fun k s => s = tgS S f t k) (fun k s j => [(3, .pointer (some ⟨b3, 0, none⟩)), (6, .pointer (some ⟨b6, 0, none⟩)), (7, .pointer (some ⟨b7, 0, none⟩)), (8, .pointer (some ⟨b8, 0, none⟩)), (9, .pointer (some ⟨b9, 0, none⟩)), (10, .pointer (some ⟨b10, 0, none⟩)), (11, .pointer (some ⟨j, 0, none⟩)), (12, .int .i64 (cntP S.os f t k))]) (fun k s j => [⟨j, 88, [.int .i64 (S.os.getD k dO).pc, .int .i64 (S.os.getD k dO).st, .int .i64 (S.os.getD k dO).zl, .int .i64 (S.os.getD k dO).zh], true⟩, ⟨b10, 4, [.bool s.b], true⟩, ⟨b9, 23, [.int .i64 s.wl, .int .i64 s.wh], true⟩, ⟨b8, 23, [.int .i64 s.ol, .int .i64 s.oh], true⟩, ⟨b7, 23, [.int .i64 (S.sl + S.cl), .int .i64 (S.sh + S.ch)], true⟩, ⟨b6, 23, [.int .i64 0, .int .i64 0], true⟩, ⟨b3, 98, [.pointer (some ⟨b, 0, none⟩)], true⟩]) (fun _ _ _ => True) (fun _ => []) (fun _ _ => False) [] rfl Try.call105 (fun W hW => it105 hS hf ht (M := ([⟨b10, 4, [.bool false], true⟩, ⟨b9, 23, [.int .i64 0, .int .i64 0], true⟩, ⟨b8, 23, [.int .i64 0, .int .i64 0], true⟩, ⟨b7, 23, [.int .i64 (S.sl + S.cl), .int .i64 (S.sh + S.ch)], true⟩, ⟨b6, 23, [.int .i64 0, .int .i64 0], true⟩, ⟨b3, 98, [.pointer (some ⟨b, 0, none⟩)], true⟩] : Hp).map (·.b)) (fun X hX => hshop.ext (hd.extN (hW.ext.trans hX (fun _ h _ => h)))) (fun X hX => cell_of (hw1.keepL (e := ⟨s3, 98, [.pointer (some ⟨b, 0, none⟩)], true⟩) (by simp) (hW.ext.trans hX (fun _ h _ => h))) 0) (fun X hX => cell_of (hw1.keepL (e := ⟨s5, 3, [.int .i64 t], true⟩) (by simp) (hW.ext.trans hX (fun _ h _ => h))) 0) (fun X hX => cell_of (hw1.keepL (e := ⟨s4, 3, [.int .i64 f], true⟩) (by simp) (hW.ext.trans hX (fun _ h _ => h))) 0)) (fun _ => rfl) ⟨false, 0, 0, 0, 0⟩ rfl (List.Sublist.refl _) (fun k s hk hs hp => by rw [hp, tg_no (of_decide_eq_false hs)]) (fun l k i w2 hk hs hp hSat => ?_) (fun l k i j w2 hk hs hp hA hSat => ?_) (fun i D hp => ?_) (fun _ _ h => h.elim) (fun _ _ _ h => by cases h)
  ·
    show Kn _ _ _ ((33, Value.int .i64 (cntP S.os f t k)) :: (32, odV (S.os.getD k dO)) :: _) _ _
    refine k_seq (k_region ?_)
    refine o_alloc Try.zeroValue88 (fun b11 => ?_)
    refine o_store Try.sizeOf88 rfl rfl (o_nil ?_)
    refine k_region ?_
    refine o_val (ex_assign rfl) (o_nil ?_)
    exact k_some b11 trivial (Sub.cons rfl (Sub.cons rfl (Sub.cons rfl (Sub.cons rfl (Sub.cons rfl (Sub.cons rfl (Sub.cons rfl (Sub.cons rfl (Sub.nil _))))))))) SubE.sub
  ·
    have hwb := wearS_bound hS f t k (by omega)
    have hob := od_bound hS hk
    have hs2 := hS.s
    have hc2 := hS.c
    have htw := tgS_wear S f t k
    have hi := hp.symm
    rw [hi] at htw
    rw [← htw.1, ← htw.2] at hwb
    have hcp : 0 < cntP S.os f t k := of_decide_eq_true hs
    have hcb := cntP_bound hS f t hk
    have hsb := stp_bound hS (S.os.getD k dO)
    obtain ⟨st0, st1, hst⟩ := stp_at hS hk
    have hE : ∀ W, Sat w2 _ [] W → Ext [] w W := fun W hW => hd.extN (hSat.extN hW.ext)
    obtain ⟨a, hA, _⟩ := hst w A1 hshop.w
    subst hA
    have hsc : ∀ W, Ext [] w W → ∀ j v, [Value.int .i64 (stp S.ws (S.os.getD k dO)).lo, Value.int .i64 (stp S.ws (S.os.getD k dO)).hi][j]? = some v → W.cell? ((a.add ((S.os.getD k dO).st.toNat * 2)).add j) = some v := fun W hW => by
      obtain ⟨a', ha', h⟩ := hst W _ (hshop.w.ext hW)
      cases ha'
      exact h
    have m1 := prodB (a := (stp S.ws (S.os.getD k dO)).lo) (A := 100000) (b := cntP S.os f t k) (B := 10000) (by omega) (by omega) (by omega) hcb
    have m2 := prodB (a := (stp S.ws (S.os.getD k dO)).hi) (A := 100000) (b := cntP S.os f t k) (B := 10000) (by omega) (by omega) (by omega) hcb
    have n40 := hS.n40
    have m3 := prodB (a := (stp S.ws (S.os.getD k dO)).hi) (A := 100000) (b := cntP S.os f t k - 1) (B := 10000) (by omega) (by omega) (by omega) (by omega)
    refine k_block ?_
    refine k_seq (k_draw [true, true, true, true, true, true, true, true, true, false, false] 2 ?_ mixed (by kernel_rfl) rfl)
    refine d_load (i := 0) Try.isAgg98 rfl rfl ?_
    refine d_val (i := 1) [] (ex_nilCheck rfl) ?_
    refine d_val (i := 2) [] (ex_field_old fa122_0 rfl) ?_
    refine d_val (i := 3) [] (ex_field_old fa26_3 rfl) ?_
    refine d_val (i := 4) [] (ex_load_at Try.isAgg24 rfl (fun W hW => by rw [add_lit, add_lit]; exact (hshop.ext (hE W hW)).slice_cells.1)) ?_
    refine d_val (i := 5) [] (ex_field (o := 0) 1 fa88_1 rfl rfl) ?_
    refine d_load (i := 6) Try.isAgg3 rfl rfl ?_
    refine d_val (i := 7) [] (ex_index_old Try.runUnderlying24 Try.sizeOf23 rfl rfl (by omega) (by omega)) ?_
    refine d_val (i := 8) [] (ex_loadA_at Try.isAgg23 Try.sizeOf23 rfl (vs := [.int .i64 (stp S.ws (S.os.getD k dO)).lo, .int .i64 (stp S.ws (S.os.getD k dO)).hi]) rfl (fun W hW => hsc W (hE W hW))) ?_
    refine d_rest ?_
    refine d_rest ?_
    refine d_nil ?_
    refine r_one 9 (rs_alloc rfl Try.zeroValue23 (fun b13 => ?_)) (by kernel_rfl)
    refine r_one 10 (rs_store [9, 8, 0, 1, 2, 3, 4, 5, 6, 7, 8, 9] rfl Try.sizeOf23 rfl rfl ?_) (by kernel_rfl)
    refine r_nil ?_ (by kernel_rfl)
    refine k_seq (k_region ?_)
    refine o_val (ex_field (o := 0) 2 fa88_2 rfl rfl) ?_
    refine o_val (ex_field (o := 2) 2 fa23_0 rfl rfl) ?_
    refine o_val (ex_load Try.isAgg3 rfl rfl) ?_
    refine o_val (ex_field (o := 0) 0 fa23_0 rfl rfl) ?_
    refine o_val (ex_load Try.isAgg3 rfl rfl) ?_
    refine o_val (ex_sub64 rfl rfl (by unfold I64; omega)) ?_
    refine o_val (ex_field (o := 0) 0 fa23_0 rfl rfl) ?_
    refine o_val (ex_load Try.isAgg3 rfl rfl) ?_
    refine o_val (ex_sub64 rfl rfl (by unfold I64; omega)) ?_
    refine o_val (ex_field (o := 0) 2 fa88_2 rfl rfl) ?_
    refine o_val (ex_field (o := 2) 3 fa23_1 rfl rfl) ?_
    refine o_val (ex_load Try.isAgg3 rfl rfl) ?_
    refine o_val (ex_field (o := 0) 1 fa23_1 rfl rfl) ?_
    refine o_val (ex_load Try.isAgg3 rfl rfl) ?_
    refine o_val (ex_sub64 rfl rfl (by unfold I64; omega)) ?_
    refine o_val (ex_field (o := 0) 1 fa23_1 rfl rfl) ?_
    refine o_val (ex_load Try.isAgg3 rfl rfl) ?_
    refine o_val (ex_sub64 rfl rfl (by unfold I64; omega)) ?_
    refine o_val (ex_field (o := 0) 1 fa23_1 rfl rfl) ?_
    refine o_val (ex_load Try.isAgg3 rfl rfl) ?_
    refine o_val (ex_move rfl) ?_
    refine o_val (ex_sub64 rfl rfl (by unfold I64; omega)) ?_
    refine o_val (ex_mul64 rfl rfl (by unfold I64; omega)) ?_
    refine o_val (ex_sub64 rfl rfl (by unfold I64; omega)) ?_
    refine o_val (ex_build bf23 rfl) ?_
    refine o_alloc Try.zeroValue23 (fun b14 => ?_)
    refine o_store Try.sizeOf23 rfl rfl (o_nil ?_)
    refine k_seq (k_seq (k_region ?_))
    refine o_val (ex_load Try.isAgg4 rfl rfl) ?_
    refine o_val (ex_not rfl) (o_nil ?_)
    refine k_cut (ι := Int × Int) (fun z => [(8, .pointer (some ⟨b8, 0, none⟩)), (9, .pointer (some ⟨b9, 0, none⟩)), (12, .int .i64 (cntP S.os f t k)), (13, .pointer (some ⟨b13, 0, none⟩)), (14, .pointer (some ⟨b14, 0, none⟩))]) (fun z => [⟨b14, 23, [.int .i64 ((S.os.getD k dO).zl - (S.sl + S.cl) - i.wl), .int .i64 ((S.os.getD k dO).zh - (S.sh + S.ch) - i.wh - (stp S.ws (S.os.getD k dO)).hi * (cntP S.os f t k - 1))], true⟩, ⟨b13, 23, [.int .i64 (stp S.ws (S.os.getD k dO)).lo, .int .i64 (stp S.ws (S.os.getD k dO)).hi], true⟩, ⟨b10, 4, [.bool true], true⟩, ⟨b9, 23, [.int .i64 i.wl, .int .i64 i.wh], true⟩, ⟨b8, 23, [.int .i64 z.1, .int .i64 z.2], true⟩, ⟨b7, 23, [.int .i64 (S.sl + S.cl), .int .i64 (S.sh + S.ch)], true⟩, ⟨b6, 23, [.int .i64 0, .int .i64 0], true⟩, ⟨b3, 98, [.pointer (some ⟨b, 0, none⟩)], true⟩]) (fun z => z.1 = (if i.b = true then i.ol else (S.os.getD k dO).zl - (S.sl + S.cl) - i.wl) ∧ z.2 = (if i.b = true then i.oh else (S.os.getD k dO).zh - (S.sh + S.ch) - i.wh - (stp S.ws (S.os.getD k dO)).hi * (cntP S.os f t k - 1))) ?_ (fun z hz => ?_)
    · refine k_cond rfl (fun h => ?_) (fun h => ?_)
      ·
        have hb : ¬ i.b = true := by simpa using h
        refine k_region ?_
        refine o_val (ex_loadA Try.isAgg23 Try.sizeOf23 rfl) ?_
        refine o_store Try.sizeOf23 rfl rfl ?_
        refine o_store Try.sizeOf4 rfl rfl (o_nil ?_)
        exact k_some ((S.os.getD k dO).zl - (S.sl + S.cl) - i.wl, (S.os.getD k dO).zh - (S.sh + S.ch) - i.wh - (stp S.ws (S.os.getD k dO)).hi * (cntP S.os f t k - 1)) (by rw [if_neg hb, if_neg hb]; exact ⟨rfl, rfl⟩) (Sub.cons rfl (Sub.cons rfl (Sub.cons rfl (Sub.cons rfl (Sub.cons rfl (Sub.nil _)))))) SubE.sub
      ·
        have hb : i.b = true := by simpa using h
        refine k_skip ?_
        exact k_some (i.ol, i.oh) (by rw [if_pos hb, if_pos hb]; exact ⟨rfl, rfl⟩) (Sub.cons rfl (Sub.cons rfl (Sub.cons rfl (Sub.cons rfl (Sub.cons rfl (Sub.nil _)))))) (by rw [hb]; exact SubE.sub)
    obtain ⟨z1, z2⟩ := z
    obtain ⟨hz1, hz2⟩ := hz
    dsimp only at hz1 hz2 ⊢
    subst hz1 hz2
    refine k_seq (k_region ?_)
    refine o_val (ex_field (o := 0) 0 fa23_0 rfl rfl) ?_
    refine o_val (ex_load Try.isAgg3 rfl rfl) ?_
    refine o_val (ex_field (o := 0) 0 fa23_0 rfl rfl) ?_
    refine o_val (ex_load Try.isAgg3 rfl rfl) ?_
    refine o_val (ex_max rfl rfl) ?_
    refine o_val (ex_field (o := 0) 1 fa23_1 rfl rfl) ?_
    refine o_val (ex_load Try.isAgg3 rfl rfl) ?_
    refine o_val (ex_field (o := 0) 1 fa23_1 rfl rfl) ?_
    refine o_val (ex_load Try.isAgg3 rfl rfl) ?_
    refine o_val (ex_min rfl rfl) ?_
    refine o_val (ex_build bf23 rfl) ?_
    refine o_store Try.sizeOf23 rfl rfl (o_nil ?_)
    refine k_draw [true, true, true, true, true, false] 1 ?_ mixed (by kernel_rfl) rfl
    refine d_loadA (i := 0) Try.isAgg23 Try.sizeOf23 rfl ?_
    refine d_loadA (i := 1) Try.isAgg23 Try.sizeOf23 rfl ?_
    refine d_val (i := 2) [] (ex_move rfl) ?_
    refine d_val (i := 3) [] (ex_call Try.call94 rfl (fun W hW => c94 (stp S.ws (S.os.getD k dO)).lo (stp S.ws (S.os.getD k dO)).hi (cntP S.os f t k) (by unfold I64; omega) (by unfold I64; omega))) ?_
    refine d_val (i := 4) [] (ex_call Try.call80 rfl (fun W hW => c80 _ _ _ _ (by unfold I64; omega) (by unfold I64; omega))) ?_
    refine d_rest ?_
    refine d_nil ?_
    refine r_one 5 (rs_store [4, 4, 0, 1, 2, 3, 4] rfl Try.sizeOf23 rfl rfl ?_) (by kernel_rfl)
    refine r_nil ?_ (by kernel_rfl)
    exact k_some (i.step S (S.os.getD k dO) (cntP S.os f t k)) (by rw [tg_yes hcp, hi]) (Sub.nil _) (by dsimp only [Tg.step]; exact SubE.sub)
  ·
    subst hp
    refine kd_seq (kd_region ?_)
    refine o_val (ex_loadA Try.isAgg23 Try.sizeOf23 rfl) ?_
    refine o_store Try.sizeOf23 rfl rfl (o_nilD ?_)
    refine kd_ret (kd_fin ?_)
    exact finC rfl Try.isAgg23 Try.sizeOf23 rfl rfl fun W hW => ⟨rfl, (hd.rebase hW).ext⟩

end Go.Proofs.Ytdflfnednaleeaa
