/- The walks of functions: what each call hands back, and that nothing that was there has turned. Printed by a program of this session (wip/tools/gen.py). -/
import Derived.Test.YtdflfnednaleeaaD10
namespace Go.Proofs.Ytdflfnednaleeaa
open Go
attribute [local irreducible] ExV Ex
set_option synthInstance.maxSize 2000
set_option synthInstance.maxHeartbeats 200000
set_option maxRecDepth 20000

section
variable {P : Program} {N : Nat} {w0 : World} {M : List Nat} {Γ : Gam} {H : Hp} {R : Ending → World → Prop}
theorem loadVar_ent1 {W : World} (hW : Sat w0 M H W) {T tb : TypeId} {b : Nat} {cs : List Value} {own : Bool} {v : Value} (hA : ∀ W, (isAgg T).run P W = .ok false W) [he : HasE H b tb cs own] (hv : cs[0]? = some v) : (loadVar T ⟨b, 0, none⟩).run P W = .ok v W :=
  run_loadVar_scalar (hA W) ((cell_of (hW.cells he) 0).trans hv)
/-- A value of one cell in a variable. -/
theorem finS1 {fn : Func} {t u : Nat} {T tb : TypeId} {b : Nat} {cs : List Value} {own : Bool} {v x : Value} (hr : fn.results = #[.cell t T, .tmp u]) (hA : ∀ W, (isAgg T).run P W = .ok false W)
    (hv : gl Γ t = some (.pointer (some ⟨b, 0, none⟩))) [he : HasE H b tb cs own] (hx : cs[0]? = some x) (hu : gl Γ u = some v) (h : ∀ W, Sat w0 M H W → R (.returned (.tuple #[x, v])) W) : Kn N w0 M Γ H (Fin P fn R) :=
  fun a W ha hW => ⟨ha.defers, _, by simp [results, hr, getD_of ha hv, getD_of ha hu, asAddr, loadVar_ent1 hW hA hx], h W hW⟩
theorem finSS {fn : Func} {t t' : Nat} {T T' tb tb' : TypeId} {b b' : Nat} {cs cs' : List Value} {own own' : Bool} {x x' : Value} (hr : fn.results = #[.cell t T, .cell t' T']) (hA : ∀ W, (isAgg T).run P W = .ok false W) (hA' : ∀ W, (isAgg T').run P W = .ok false W)
    (hv : gl Γ t = some (.pointer (some ⟨b, 0, none⟩))) [he : HasE H b tb cs own] (hx : cs[0]? = some x) (hv' : gl Γ t' = some (.pointer (some ⟨b', 0, none⟩))) [he' : HasE H b' tb' cs' own'] (hx' : cs'[0]? = some x') (h : ∀ W, Sat w0 M H W → R (.returned (.tuple #[x, x'])) W) : Kn N w0 M Γ H (Fin P fn R) :=
  fun a W ha hW => ⟨ha.defers, _, by simp [results, hr, getD_of ha hv, getD_of ha hv', asAddr, loadVar_ent1 hW hA hx, loadVar_ent1 hW hA' hx'], h W hW⟩
end
def mostR (t : To) (ws : List Sp) (os : List Od) (n : Int) : Int × Int :=
  if ¬ chkE t ws os = 0 then (0, chkE t ws os) else if wi 0 1000 [n] = false then (0, 3) else ((openS t ws os).at (min n.toNat (openS t ws os).sure), 0)

-- == f30 acme/die.Most params [26, 27, 3] results [3, 33] in [('cell', ['6', '3']), ('tmp', ['7'])] ntmps 36 nfree 0
theorem c30 (t : To) (ws : List Sp) {A : Option Addr} {c : Nat} (os : List Od) {A2 : Option Addr} {c2 : Nat} (n : Int) {w : World} (hws : ElAt w A ws) (hos : ElAt w A2 os) : Calls Try.prog 30 [.agg [.bool t.down, .int .i64 t.sl, .int .i64 t.sh, .int .i64 t.cl, .int .i64 t.ch, .slice A ws.length c].toArray, .slice A2 os.length c2, .int .i64 n].toArray w fun e w' => e = .returned (.tuple #[.int .i64 (mostR t ws os n).1, .int .i64 (mostR t ws os n).2]) ∧ Ext [] w w' := by
  refine fn_startM Try.func30 rfl (N := 36) rfl ?_
  refine k_seq (k_region ?_)
  refine o_box rfl (fun b3 => ?_)
  refine o_box rfl (fun b5 => ?_)
  refine o_alloc Try.zeroValue3 (fun b6 => ?_)
  refine o_val (ex_assign rfl) (o_nil ?_)
  refine k_seq (k_region ?_)
  refine o_val (ex_loadA Try.isAgg26 Try.sizeOf26 rfl) ?_
  refine o_val (ex_move rfl) ?_
  refine o_callB Try.call63 rfl (fun W hW => c63b t ws os (c := c) (c2 := c2) (hws.ext hW.ext) (hos.ext hW.ext)) (fun v14 x14 o14 => ?_)
  obtain ⟨v0, e14, op14⟩ := o14
  subst e14
  refine o_val (ex_move rfl) ?_
  refine o_val (ex_extract rfl rfl) ?_
  refine o_val (ex_extract rfl rfl) ?_
  refine o_val (ex_assign rfl) ?_
  refine o_val (ex_assign rfl) (o_nil ?_)
  refine k_seq (k_block ?_)
  refine k_seq (k_region ?_)
  refine o_val (ex_move rfl) ?_
  refine o_val (ex_neq rfl rfl) ?_
  refine o_val (ex_assign rfl) (o_nil ?_)
  refine k_cond rfl (fun h => ?_) (fun h => ?_)
  ·
    have hn : ¬ chkE t ws os = 0 := fun e => by simp [e] at h
    refine k_seq (k_region ?_)
    refine o_val (ex_move rfl) ?_
    refine o_store Try.sizeOf3 rfl rfl ?_
    refine o_val (ex_assign rfl) (o_nil ?_)
    refine k_ret ?_
    exact (k_finM (finS1 rfl Try.isAgg3 rfl rfl rfl fun W hW => ⟨by rw [show mostR t ws os n = (0, chkE t ws os) from if_pos hn], hW.ext⟩))
  ·
    have hok : chkE t ws os = 0 := by simpa using h
    have hS := openS_ok hok
    have hall := hS.all
    obtain ⟨b, A3, c3, A4, c4, rfl, hop⟩ := op14 hok
    have hsh : ∀ {W : World} {H' : Hp}, Sat w [] H' W → x14.Sublist H' → ShopAt W b (openS t ws os) A A3 A4 c c3 c4 := fun hW hs => hop _ (fun e he => hW.at_ e (hs.subset he)) (hws.ext hW.ext) (hos.ext hW.ext)
    refine k_seq (k_region ?_)
    refine o_val (ex_load Try.isAgg3 rfl rfl) ?_
    refine o_buildSlice [.int .i64 0] [(0, 1)] Try.runUnderlying52 Try.sizeOf3 Try.zeroValue3 rfl (fun b23 => ?_)
    refine o_val (ex_call Try.call60 rfl (fun W hW => c60 0 1000 [n] (by simp) (el_ent hW b23 [n] rfl))) ?_
    refine o_val (ex_not rfl) ?_
    refine o_val (ex_assign rfl) (o_nil ?_)
    refine k_cond rfl (fun h_1 => ?_) (fun h_1 => ?_)
    ·
      refine k_seq (k_region ?_)
      refine o_store Try.sizeOf3 rfl rfl ?_
      refine o_val (ex_assign rfl) (o_nil ?_)
      refine k_ret ?_
      exact (k_finM (finS1 rfl Try.isAgg3 rfl rfl rfl fun W hW => ⟨by rw [show mostR t ws os n = (0, 3) from (if_neg (by simp [hok])).trans (if_pos (by simpa using h_1))], hW.ext⟩))
    ·
      have hw1 : wi 0 1000 [n] = true := by simpa using h_1
      have hb : ¬ wi 0 1000 [n] = false := by rw [hw1]; decide
      rw [wi_one, decide_eq_true_eq] at hw1
      have hwn := hw1
      refine k_skip ?_
      refine k_seq (k_seq (k_region ?_))
      refine o_val (ex_move rfl) ?_
      refine o_val (ex_makeFunc rfl rfl) (o_nil ?_)
      refine k_block ?_
      refine k_rebaseH [⟨b6, 3, [.int .i64 0], true⟩, ⟨b5, 3, [.int .i64 n], true⟩, ⟨b3, 26, [.bool t.down, .int .i64 t.sl, .int .i64 t.sh, .int .i64 t.cl, .int .i64 t.ch, .slice A ws.length c], true⟩] (fun w1 hw1 => ?_)
      have hd0 : Sat w [] (x14 ++ [⟨b6, 3, [.int .i64 0], true⟩, ⟨b5, 3, [.int .i64 n], true⟩, ⟨b3, 26, [.bool t.down, .int .i64 t.sl, .int .i64 t.sh, .int .i64 t.cl, .int .i64 t.ch, .slice A ws.length c], true⟩]) w1 := hw1.drop (by first | exact List.Sublist.refl _ | exact List.Sublist.cons _ (List.Sublist.refl _))
      have hd : Sat w [] [⟨b6, 3, [.int .i64 0], true⟩, ⟨b5, 3, [.int .i64 n], true⟩, ⟨b3, 26, [.bool t.down, .int .i64 t.sl, .int .i64 t.sh, .int .i64 t.cl, .int .i64 t.ch, .slice A ws.length c], true⟩] w1 := hd0.drop (List.sublist_append_right _ _)
      have hshX : ∀ X, Ext (([⟨b6, 3, [.int .i64 0], true⟩, ⟨b5, 3, [.int .i64 n], true⟩, ⟨b3, 26, [.bool t.down, .int .i64 t.sl, .int .i64 t.sh, .int .i64 t.cl, .int .i64 t.ch, .slice A ws.length c], true⟩] : Hp).map (·.b)) w1 X → ShopAt X b (openS t ws os) A A3 A4 c c3 c4 := fun X k => hop X (fun e he => hd0.keepL he k) (hws.ext (hd.extN k)) (hos.ext (hd.extN k))
      refine k_range (ι := Int × Int) (κ := Unit) (τ := Int) (fun i => [⟨b6, 3, [.int .i64 i.2], true⟩, ⟨b5, 3, [.int .i64 i.1], true⟩, ⟨b3, 26, [.bool t.down, .int .i64 t.sl, .int .i64 t.sh, .int .i64 t.cl, .int .i64 t.ch, .slice A ws.length c], true⟩]) (fun k i => i.1 = n - k ∧ i.2 = (openS t ws os).at k ∧ 0 ≤ i.1) (fun k i _ => [(5, .pointer (some ⟨b5, 0, none⟩)), (6, .pointer (some ⟨b6, 0, none⟩)), (10, .int .i64 ((openS t ws os).at (k + 1)))]) (fun k i _ => [⟨b6, 3, [.int .i64 i.2], true⟩, ⟨b5, 3, [.int .i64 i.1], true⟩, ⟨b3, 26, [.bool t.down, .int .i64 t.sl, .int .i64 t.sh, .int .i64 t.cl, .int .i64 t.ch, .slice A ws.length c], true⟩]) (fun _ _ _ => True) (fun j => [⟨b6, 3, [.int .i64 j], true⟩]) (fun o j => o = some 1 ∧ j = (openS t ws os).at (min n.toNat (openS t ws os).sure)) [1] rfl Try.call72 (fun W hW => it72 hS (M := ([⟨b6, 3, [.int .i64 0], true⟩, ⟨b5, 3, [.int .i64 n], true⟩, ⟨b3, 26, [.bool t.down, .int .i64 t.sl, .int .i64 t.sh, .int .i64 t.cl, .int .i64 t.ch, .slice A ws.length c], true⟩] : Hp).map (·.b)) (fun X hX => hshX X (hW.ext.trans hX (fun _ h _ => h)))) (fun _ => rfl) (n, 0) ⟨by dsimp only; omega, rfl, hwn.1⟩ (List.Sublist.refl _) (fun k i hk hs hp => by cases hs) (fun l k i w2 hk hs hp hSat => ?_) (fun l k i j w2 hk hs hp hA hSat => ?_) (fun i D hp => ?_) (fun _ _ h => by cases h.1) (fun id j D hid hp => (by obtain rfl := List.mem_singleton.1 hid; obtain ⟨_, hp2⟩ := hp; refine kd_seq (kd_region ?_); refine o_val (ex_load Try.isAgg3 rfl rfl) ?_; refine o_store Try.sizeOf3 rfl rfl ?_; refine o_val (ex_assign rfl) (o_nilD ?_); refine kd_ret (kd_fin ?_); exact finS1 rfl Try.isAgg3 rfl rfl rfl fun W hW => ⟨by rw [show mostR t ws os n = _ from (if_neg (by simp [hok])).trans (if_neg hb), hp2], (hd.rebase hW).ext⟩))
      ·
        show Kn _ _ _ ((29, Value.int .i64 ((openS t ws os).at (k + 1))) :: _) _ _
        refine k_region ?_
        refine o_val (ex_assign rfl) (o_nil ?_)
        exact k_some () trivial (Sub.cons rfl (Sub.cons rfl (Sub.cons rfl (Sub.nil _)))) SubE.sub
      ·
        obtain ⟨hp1, hp2, hp3⟩ := hp
        refine k_block ?_
        refine k_seq (k_seq (k_region ?_))
        refine o_val (ex_load Try.isAgg3 rfl rfl) ?_
        refine o_val (ex_eql rfl rfl) (o_nil ?_)
        refine k_cond rfl (fun h_2 => ?_) (fun h_2 => ?_)
        ·
          refine k_exit rfl ?_
          exact k_some i.2 ⟨rfl, by have : i.1 = 0 := of_decide_eq_true h_2; rw [hp2, show k = n.toNat by omega] ; exact most_exit (by omega)⟩ (Sub.nil _) SubE.sub
        ·
          refine k_skip ?_
          refine k_draw [true, true, true, false, false] 2 ?_ mixed (by kernel_rfl) rfl
          refine d_val (i := 0) [] (ex_move rfl) ?_
          refine d_load (i := 1) Try.isAgg3 rfl rfl ?_
          refine d_val (i := 2) [] (ex_sub64 rfl rfl (by unfold I64; omega)) ?_
          refine d_rest ?_
          refine d_rest ?_
          refine d_nil ?_
          refine r_one 3 (rs_store [0, 0] rfl Try.sizeOf3 rfl rfl ?_) (by kernel_rfl)
          refine r_one 4 (rs_store [2, 3, 0, 1, 2, 3] rfl Try.sizeOf3 rfl rfl ?_) (by kernel_rfl)
          refine r_nil ?_ (by kernel_rfl)
          exact k_some (i.1 - 1, (openS t ws os).at (k + 1)) ⟨by dsimp only; omega, rfl, by have : ¬ i.1 = 0 := of_decide_eq_false h_2; dsimp only; omega⟩ (Sub.nil _) SubE.sub
      ·
        obtain ⟨hp1, hp2, hp3⟩ := hp
        refine kd_seq (kd_region ?_)
        refine o_val (ex_load Try.isAgg3 rfl rfl) ?_
        refine o_store Try.sizeOf3 rfl rfl ?_
        refine o_val (ex_assign rfl) (o_nilD ?_)
        refine kd_ret (kd_fin ?_)
        exact finS1 rfl Try.isAgg3 rfl rfl rfl fun W hW => ⟨by rw [show mostR t ws os n = _ from (if_neg (by simp [hok])).trans (if_neg hb), hp2, most_end hS (n := n.toNat) (by omega)], (hd.rebase hW).ext⟩

section
variable {P : Program} {N : Nat} {w0 : World} {M : List Nat} {Γ : Gam} {H : Hp} {ty : Nat} {pos : String} {aft : Array Edge} {grd : Option (Nat × Bool)} {dst : Option Nat}
theorem ex_fieldV {x : Operand} {t ft : TypeId} {f off : Nat} {fs : Array Field} {cs : List Value} {v : Value} (hu : ∀ W, (underlying t).run P W = .ok (.struct fs) W) (hA : ∀ W, (isAgg ft).run P W = .ok false W)
    (hf : (fs[f]?).map (fun d => (d.type, d.offset)) = some (ft, off)) (hx : ev Γ x = some (.agg cs.toArray)) (hv : cs[off]? = some v) : ExV P N w0 M Γ H ⟨dst, .field t x f, ty, pos, aft, grd⟩ v :=
  exv_run fun A W ha _ => by
    cases hd : fs[f]? with
    | none => rw [hd] at hf; cases hf
    | some fd =>
      rw [hd] at hf
      simp only [Option.map_some, Option.some.injEq, Prod.mk.injEq] at hf
      obtain ⟨h1, h2⟩ := hf
      simp [execOp, ha.eval hx, Instr.field, hu W, hd, asAgg, part, h1, h2, hA W, hv]
end
theorem Sat.keepMid {w0 : World} {M : List Nat} {l x H : Hp} {W : World} (h : Sat w0 M (l ++ (x ++ H)) W) {e : Ent} (he : e ∈ x) {X : World} (k : Ext ((l ++ H).map (·.b)) W X) : X.heap[e.b]? = some e.obj := by
  have hn := h.nodup
  rw [List.map_append, List.map_append, List.nodup_append, List.nodup_append] at hn
  have hx : e.b ∈ x.map (·.b) := List.mem_map.2 ⟨e, he, rfl⟩
  rw [k.block e.b (h.lt (List.mem_append_right _ (List.mem_append_left _ he))) (fun hm => by
    rw [List.map_append] at hm
    rcases List.mem_append.1 hm with hm | hm
    · exact hn.2.2 _ hm _ (List.mem_append_left _ hx) rfl
    · exact hn.2.1.2.2 _ hx _ hm rfl)]
  exact h.at_ e (List.mem_append_right _ (List.mem_append_left _ he))
def planR (t : To) (ws : List Sp) (os : List Od) : List Stg × Int :=
  if ¬ chkE t ws os = 0 then ([], chkE t ws os) else if (openS t ws os).at (openS t ws os).sure < allP (openS t ws os).os then ([], 7) else (planL (openS t ws os) (openS t ws os).sure, 0)
theorem OwnsV.form {e : TypeId} {size n : Nat} {v : Value} {xs : List Value} {Hx : Hp} (h : OwnsV e size v n xs Hx) : ∃ A c, v = .slice A n c := by
  rcases h.2 with ⟨h1, h2, _⟩ | ⟨g, cap, cs, h1, _⟩
  · subst h1 h2; exact ⟨none, 0, rfl⟩
  · subst h1; exact ⟨_, _, rfl⟩
theorem fresh_nil {e : TypeId} {size : Nat} {w W : World} : FreshV e size (.slice none 0 0) 0 [] w W := ⟨by simp, .inl ⟨rfl, rfl⟩⟩

-- == f26 acme/die.Plan params [26, 27] results [43, 33] in [('cell', ['4', '43']), ('cell', ['5', '33'])] ntmps 38 nfree 0
theorem c26 (t : To) (ws : List Sp) {A : Option Addr} {c : Nat} (os : List Od) {A2 : Option Addr} {c2 : Nat} {w : World} (hws : ElAt w A ws) (hos : ElAt w A2 os) : Calls Try.prog 26 [.agg [.bool t.down, .int .i64 t.sl, .int .i64 t.sh, .int .i64 t.cl, .int .i64 t.ch, .slice A ws.length c].toArray, .slice A2 os.length c2].toArray w fun e w' => ∃ v, e = .returned (.tuple #[v, .int .i64 (planR t ws os).2]) ∧ FreshV 51 2 v (planR t ws os).1.length ((planR t ws os).1.flatMap stgElt.cells) w w' ∧ Ext [] w w' := by
  refine fn_startM Try.func26 rfl (N := 38) rfl ?_
  refine k_seq (k_region ?_)
  refine o_box rfl (fun b2 => ?_)
  refine o_alloc Try.zeroValue43 (fun b4 => ?_)
  refine o_alloc Try.zeroValue33 (fun b5 => o_nil ?_)
  refine k_seq (k_region ?_)
  refine o_val (ex_loadA Try.isAgg26 Try.sizeOf26 rfl) ?_
  refine o_val (ex_move rfl) ?_
  refine o_callB Try.call63 rfl (fun W hW => c63b t ws os (c := c) (c2 := c2) (hws.ext hW.ext) (hos.ext hW.ext)) (fun v12 x12 o12 => ?_)
  obtain ⟨v0, e12, op12⟩ := o12
  subst e12
  refine o_val (ex_move rfl) ?_
  refine o_val (ex_extract rfl rfl) ?_
  refine o_val (ex_extract rfl rfl) ?_
  refine o_alloc Try.zeroValue98 (fun b6 => ?_)
  refine o_store Try.sizeOf98 rfl rfl ?_
  refine o_store Try.sizeOf33 rfl rfl (o_nil ?_)
  refine k_seq (k_seq (k_region ?_))
  refine o_val (ex_load Try.isAgg33 rfl rfl) ?_
  refine o_val (ex_neq rfl rfl) (o_nil ?_)
  refine k_cond rfl (fun h => ?_) (fun h => ?_)
  ·
    have hn : ¬ chkE t ws os = 0 := fun e => by simp [e] at h
    refine k_seq (k_draw [true, false, false] 2 ?_ mixed (by kernel_rfl) rfl)
    refine d_load (i := 0) Try.isAgg33 rfl rfl ?_
    refine d_rest ?_
    refine d_rest ?_
    refine d_nil ?_
    refine r_one 1 (rs_store [] rfl Try.sizeOf43 rfl rfl ?_) (by kernel_rfl)
    refine r_one 2 (rs_store [0, 1, 0, 1] rfl Try.sizeOf33 rfl rfl ?_) (by kernel_rfl)
    refine r_nil ?_ (by kernel_rfl)
    refine k_ret ?_
    exact (k_finM (finSS rfl Try.isAgg43 Try.isAgg33 rfl rfl rfl rfl fun W hW => ⟨_, by rw [show planR t ws os = ([], chkE t ws os) from if_pos hn], by rw [show planR t ws os = ([], chkE t ws os) from if_pos hn]; exact fresh_nil, hW.ext⟩))
  ·
    have hok : chkE t ws os = 0 := by simpa using h
    have hS := openS_ok hok
    have hall := hS.all
    obtain ⟨b, A3, c3, A4, c4, rfl, hop⟩ := op12 hok
    have hsh : ∀ {W : World} {H' : Hp}, Sat w [] H' W → x12.Sublist H' → ShopAt W b (openS t ws os) A A3 A4 c c3 c4 := fun hW hs => hop _ (fun e he => hW.at_ e (hs.subset he)) (hws.ext hW.ext) (hos.ext hW.ext)
    refine k_skip ?_
    refine k_seq (k_seq (k_region ?_))
    refine o_val (ex_load Try.isAgg98 rfl rfl) ?_
    refine o_val (ex_makeFunc rfl rfl) (o_nil ?_)
    refine k_block ?_
    refine k_rebaseH [⟨b6, 98, [.pointer (some ⟨b, 0, none⟩)], true⟩, ⟨b5, 33, [.int .i64 (chkE t ws os)], true⟩, ⟨b4, 43, [.slice none 0 0], true⟩, ⟨b2, 26, [.bool t.down, .int .i64 t.sl, .int .i64 t.sh, .int .i64 t.cl, .int .i64 t.ch, .slice A ws.length c], true⟩] (fun w1 hw1 => ?_)
    have hd : Sat w [] [⟨b6, 98, [.pointer (some ⟨b, 0, none⟩)], true⟩, ⟨b5, 33, [.int .i64 (chkE t ws os)], true⟩, ⟨b4, 43, [.slice none 0 0], true⟩, ⟨b2, 26, [.bool t.down, .int .i64 t.sl, .int .i64 t.sh, .int .i64 t.cl, .int .i64 t.ch, .slice A ws.length c], true⟩] w1 := hw1.drop (by show List.Sublist ([⟨b6, 98, [.pointer (some ⟨b, 0, none⟩)], true⟩, ⟨b5, 33, [.int .i64 (chkE t ws os)], true⟩, ⟨b4, 43, [.slice none 0 0], true⟩, ⟨b2, 26, [.bool t.down, .int .i64 t.sl, .int .i64 t.sh, .int .i64 t.cl, .int .i64 t.ch, .slice A ws.length c], true⟩] : Hp) _; exact SubE.sub)
    have hshX : ∀ X, Ext (([⟨b6, 98, [.pointer (some ⟨b, 0, none⟩)], true⟩, ⟨b5, 33, [.int .i64 (chkE t ws os)], true⟩, ⟨b4, 43, [.slice none 0 0], true⟩, ⟨b2, 26, [.bool t.down, .int .i64 t.sl, .int .i64 t.sh, .int .i64 t.cl, .int .i64 t.ch, .slice A ws.length c], true⟩] : Hp).map (·.b)) w1 X → ShopAt X b (openS t ws os) A A3 A4 c c3 c4 := fun X k => hop X (fun e he => Sat.keepMid (l := [⟨b6, 98, [.pointer (some ⟨b, 0, none⟩)], true⟩]) hw1 he k) (hws.ext (hd.extN k)) (hos.ext (hd.extN k))
    refine k_range (ι := OI) (κ := Unit) (τ := Unit) (fun i => ⟨b6, 98, [.pointer (some ⟨b, 0, none⟩)], true⟩ :: ⟨b5, 33, [.int .i64 (chkE t ws os)], true⟩ :: ⟨b4, 43, [i.v], true⟩ :: ⟨b2, 26, [.bool t.down, .int .i64 t.sl, .int .i64 t.sh, .int .i64 t.cl, .int .i64 t.ch, .slice A ws.length c], true⟩ :: (i.x ++ [])) (fun k i => k ≤ (openS t ws os).sure ∧ OwnsV 51 2 i.v k ((planL (openS t ws os) k).flatMap stgElt.cells) i.x) (fun k i _ => [(4, .pointer (some ⟨b4, 0, none⟩)), (5, .pointer (some ⟨b5, 0, none⟩)), (6, .pointer (some ⟨b6, 0, none⟩)), (7, .int .i64 ((openS t ws os).at k)), (8, .int .i64 ((openS t ws os).at (k + 1)))]) (fun k i _ => ⟨b6, 98, [.pointer (some ⟨b, 0, none⟩)], true⟩ :: ⟨b5, 33, [.int .i64 (chkE t ws os)], true⟩ :: ⟨b4, 43, [i.v], true⟩ :: ⟨b2, 26, [.bool t.down, .int .i64 t.sl, .int .i64 t.sh, .int .i64 t.cl, .int .i64 t.ch, .slice A ws.length c], true⟩ :: (i.x ++ [])) (fun _ _ _ => True) (fun _ => [⟨b5, 33, [.int .i64 7], true⟩, ⟨b4, 43, [.slice none 0 0], true⟩]) (fun o _ => o = none ∧ (openS t ws os).at (openS t ws os).sure < allP (openS t ws os).os) [] rfl Try.call72 (fun W hW => it72 hS (M := ([⟨b6, 98, [.pointer (some ⟨b, 0, none⟩)], true⟩, ⟨b5, 33, [.int .i64 (chkE t ws os)], true⟩, ⟨b4, 43, [.slice none 0 0], true⟩, ⟨b2, 26, [.bool t.down, .int .i64 t.sl, .int .i64 t.sh, .int .i64 t.cl, .int .i64 t.ch, .slice A ws.length c], true⟩] : Hp).map (·.b)) (fun X hX => hshX X (hW.ext.trans hX (fun _ h _ => h)))) (fun _ => rfl) ⟨0, .slice none 0 0, []⟩ ⟨Nat.zero_le _, OwnsV.nil 51 2⟩ (List.Sublist.refl _) (fun k i hk hs hp => by cases hs) (fun l k i w2 hk hs hp hSat => ?_) (fun l k i j w2 hk hs hp hA hSat => ?_) (fun i D hp => ?_) (fun j D hp => (by refine kd_fin ?_; exact finSS rfl Try.isAgg43 Try.isAgg33 rfl rfl rfl rfl fun W hW => ⟨_, by rw [show planR t ws os = ([], 7) from (if_neg (by simp [hok])).trans (if_pos hp.2)], by rw [show planR t ws os = ([], 7) from (if_neg (by simp [hok])).trans (if_pos hp.2)]; exact fresh_nil, (hd.rebase hW).ext⟩)) (fun _ _ _ h => by cases h)
    ·
      show Kn _ _ _ ((21, Value.int .i64 ((openS t ws os).at (k + 1))) :: (20, Value.int .i64 ((openS t ws os).at k)) :: _) _ _
      refine k_seq (k_region ?_)
      refine o_val (ex_assign rfl) (o_nil ?_)
      refine k_region ?_
      refine o_val (ex_assign rfl) (o_nil ?_)
      exact k_some () trivial (Sub.cons rfl (Sub.cons rfl (Sub.cons rfl (Sub.cons rfl (Sub.cons rfl (Sub.nil _)))))) SubE.sub
    ·
      obtain ⟨ik, v, x⟩ := i
      obtain ⟨hks, hO⟩ := hp
      dsimp only at hks hO hSat ⊢
      have ha1 := at_bound hS k
      have ha2 := at_bound hS (k + 1)
      have htb := tgS_bound hS ((openS t ws os).at k) ((openS t ws os).at (k + 1)) (openS t ws os).os.length (Nat.le_refl _)
      refine k_block ?_
      refine k_seq (k_seq (k_region ?_))
      refine o_val (ex_move rfl) ?_
      refine o_val (ex_move rfl) ?_
      refine o_val (ex_eql rfl rfl) (o_nil ?_)
      refine k_cond rfl (fun h_1 => ?_) (fun h_1 => ?_)
      ·
        refine k_seq (k_region ?_)
        refine o_store Try.sizeOf43 rfl rfl ?_
        refine o_store Try.sizeOf33 rfl rfl (o_nil ?_)
        refine k_ret ?_
        exact k_some () ⟨rfl, cnt_stuck hk hks (of_decide_eq_true h_1)⟩ (Sub.nil _) SubE.sub
      ·
        have hks2 := cnt_on hS hk hks (of_decide_eq_false h_1)
        have hsl := sure_le (openS t ws os)
        refine k_skip ?_
        refine k_draw [true, true, true, true, true, true, true, true, true, true, false, false, false] 3 ?_ mixed (by kernel_rfl) rfl
        refine d_load (i := 0) Try.isAgg43 rfl rfl ?_
        refine d_val (i := 1) [] (ex_move rfl) ?_
        refine d_load (i := 2) Try.isAgg98 rfl rfl ?_
        refine d_load (i := 3) Try.isAgg98 rfl rfl ?_
        refine d_val (i := 4) [] (ex_move rfl) ?_
        refine d_val (i := 5) [] (ex_move rfl) ?_
        refine d_val (i := 6) [] (ex_call Try.call68 rfl (fun W hW => c68 (openS t ws os) ((openS t ws os).at k) ((openS t ws os).at (k + 1)) hS (by omega) (by omega) (hshX W (hSat.extN hW.ext)))) ?_
        refine d_val (i := 7) [] (ex_call Try.call67 rfl (fun W hW => c67 (openS t ws os) _ _ (by unfold I64 Sh.tg; dsimp only; omega) (by unfold I64 Sh.tg; dsimp only; omega) (hshX W (hSat.extN hW.ext)))) ?_
        refine d_val (i := 8) [] (ex_fieldV Try.runUnderlying23 Try.isAgg3 rfl rfl rfl) ?_
        refine d_val (i := 9) [] (ex_build bf51 rfl) ?_
        refine d_rest ?_
        refine d_rest ?_
        refine d_rest ?_
        refine d_nil ?_
        refine r_one 10 (rs_buildSlice [.int .i64 0, .int .i64 0] [(0, 2)] rfl Try.runUnderlying43 Try.sizeOf51 Try.zeroValue51 rfl (fun b35 => ?_)) (by kernel_rfl)
        refine r_one 11 (rs_append (bytes := 16) [0, 10, 7] rfl hO Try.underlying43 (by kernel_rfl) rfl rfl (by unfold maxLen; omega) (by omega) (fun v36 x36 o36 => ?_)) (by kernel_rfl)
        obtain ⟨A6, c6, e36⟩ := o36.form
        subst e36
        refine r_one 12 (rs_store [11, 11, 0, 1, 2, 3, 4, 5, 6, 7, 8, 9, 10, 11] rfl Try.sizeOf43 rfl rfl ?_) (by kernel_rfl)
        refine r_nil ?_ (by kernel_rfl)
        exact k_some ⟨0, _, x36⟩ ⟨hks2, o36.cast rfl (by rw [planL_succ, List.flatMap_append]; rfl)⟩ (Sub.nil _) SubE.sub
    ·
      obtain ⟨ik, v, x⟩ := i
      obtain ⟨hks, hO⟩ := hp
      dsimp only at hks hO ⊢
      have hcd := cnt_done hks
      have hsl := sure_le (openS t ws os)
      have er : planR t ws os = (planL (openS t ws os) (openS t ws os).sure, 0) := (if_neg (by simp [hok])).trans (if_neg hcd.1)
      obtain ⟨A6, c6, e6⟩ := hO.form
      subst e6
      refine kd_seq (kd_region ?_)
      refine o_val (ex_load Try.isAgg43 rfl rfl) ?_
      refine o_store Try.sizeOf43 rfl rfl ?_
      refine o_store Try.sizeOf33 rfl rfl (o_nilD ?_)
      refine kd_ret (kd_fin ?_)
      exact finSS rfl Try.isAgg43 Try.isAgg33 rfl rfl rfl rfl fun W hW => ⟨_, by rw [er], by rw [er]; exact (hO.cast (by rw [planL_len, hcd.2]) (by rw [hcd.2])).fresh (hd.rebase hW), (hd.rebase hW).ext⟩

end Go.Proofs.Ytdflfnednaleeaa
