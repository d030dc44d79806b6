/- The walks of functions: what each call hands back, and that nothing that was there has turned. Printed by a program of this session (wip/tools/gen.py). -/
import Derived.Test.YtdflfnednaleeaaD7
import Derived.Test.YtdflfnednaleeaaPl7
namespace Go.Proofs.Ytdflfnednaleeaa
open Go
attribute [local irreducible] ExV Ex
set_option synthInstance.maxSize 2000
set_option synthInstance.maxHeartbeats 200000
set_option maxRecDepth 20000

section
variable {P : Program} {N : Nat} {w0 : World} {M : List Nat} {Γ : Gam} {H : Hp} {ty : Nat} {pos : String} {aft : Array Edge} {grd : Option (Nat × Bool)} {dst : Option Nat} {x y : Operand} {t t' : TypeId} {a : Int}
theorem ex_shru64 {k' : IntKind} {s : Nat} (hx : ev Γ x = some (.int .u64 a)) (hy : ev Γ y = some (.int k' s)) (hs : s ≤ 63) : ExV P N w0 M Γ H ⟨dst, .binOp .shr t x y t', ty, pos, aft, grd⟩ (.int .u64 (a / 2 ^ s)) :=
  exv_run fun A W ha _ => by
    have e1 : min s 64 = s := by omega
    have e2 : a.fdiv (2 ^ s) = a / 2 ^ s := Int.fdiv_eq_ediv_of_nonneg _ (by exact Int.le_of_lt (Int.pow_pos (by decide)))
    simp [execOp, ha.eval hx, ha.eval hy, eqGuard, binOp]
end
theorem u64_in {a : Int} (h0 : 0 ≤ a) (h : a ≤ 9223372036854775807) : IntKind.u64.wrap a = a := by
  show a % 18446744073709551616 = a
  omega

-- == f66 (*acme/die.shop).can params [98, 3, 3] results [4] in [('tmp', ['6'])] ntmps 17 nfree 0
theorem c66 (S : Sh) (f t : Int) {b : Nat} (hS : S.Ok) (hf : -1000000 ≤ f ∧ f ≤ 1000000) (ht : -1000000 ≤ t ∧ t ≤ 1000000) {A1 A2 A3 : Option Addr} {c1 c2 c3 : Nat} {w : World} (hshop : ShopAt w b S A1 A2 A3 c1 c2 c3) : Calls Try.prog 66 [.pointer (some ⟨b, 0, none⟩), .int .i64 f, .int .i64 t].toArray w fun e w' => e = .returned (.bool (S.can f t)) ∧ Ext [] w w' := by
  refine fn_start Try.func66 rfl (N := 17) rfl ?_
  refine k_seq (k_region ?_)
  refine o_val (ex_assign rfl) (o_nil ?_)
  refine k_seq (k_region ?_)
  refine o_val (ex_move rfl) ?_
  refine o_val (ex_move rfl) ?_
  refine o_val (ex_move rfl) ?_
  refine o_val (ex_call Try.call68 rfl (fun W hW => c68 S f t hS hf ht (hshop.ext hW.ext))) ?_
  refine o_alloc Try.zeroValue23 (fun b7 => ?_)
  refine o_store Try.sizeOf23 rfl rfl (o_nil ?_)
  refine k_seq (k_region ?_)
  refine o_val (ex_field (o := 0) 0 fa23_0 rfl rfl) ?_
  refine o_val (ex_load Try.isAgg3 rfl rfl) ?_
  refine o_val (ex_field (o := 0) 1 fa23_1 rfl rfl) ?_
  refine o_val (ex_load Try.isAgg3 rfl rfl) ?_
  refine o_val (ex_leq rfl rfl) ?_
  refine o_val (ex_assign rfl) (o_nil ?_)
  refine k_ret ?_
  exact fin1 rfl rfl fun W hW => ⟨rfl, hW.ext⟩

-- == f67 (*acme/die.shop).back params [98, 23] results [23] in [('cell', ['4', '23'])] ntmps 12 nfree 0
theorem c67 (S : Sh) (lo hi : Int) {b : Nat} (h1 : I64 (-lo)) (h2 : I64 (-hi)) {A1 A2 A3 : Option Addr} {c1 c2 c3 : Nat} {w : World} (hshop : ShopAt w b S A1 A2 A3 c1 c2 c3) : Calls Try.prog 67 [.pointer (some ⟨b, 0, none⟩), .agg [.int .i64 lo, .int .i64 hi].toArray].toArray w fun e w' => e = .returned (.agg [.int .i64 ((turnS S.down ⟨lo, hi⟩).lo), .int .i64 ((turnS S.down ⟨lo, hi⟩).hi)].toArray) ∧ Ext [] w w' := by
  refine fn_start Try.func67 rfl (N := 12) rfl ?_
  refine k_seq (k_region ?_)
  refine o_box rfl (fun b3 => ?_)
  refine o_alloc Try.zeroValue23 (fun b4 => o_nil ?_)
  refine k_seq (k_seq (k_region ?_))
  refine o_val (ex_move rfl) ?_
  refine o_val (ex_nilCheck rfl) ?_
  refine o_val (ex_field_old fa122_3 rfl) ?_
  refine o_val (ex_load_old Try.isAgg4 rfl (by rw [add_lit]; exact hshop.c 8 _ rfl) (by simp)) (o_nil ?_)
  refine k_cond rfl (fun h => ?_) (fun h => ?_)
  ·
    refine k_seq (k_region ?_)
    refine o_val (ex_loadA Try.isAgg23 Try.sizeOf23 rfl) ?_
    refine o_val (ex_call Try.call81 rfl (fun W hW => c81 lo hi h1 h2)) ?_
    refine o_store Try.sizeOf23 rfl rfl (o_nil ?_)
    refine k_ret ?_
    exact finC rfl Try.isAgg23 Try.sizeOf23 rfl rfl fun W hW => ⟨by rw [show S.down = true from h]; rfl, hW.ext⟩
  ·
    refine k_skip ?_
    refine k_seq (k_region ?_)
    refine o_val (ex_loadA Try.isAgg23 Try.sizeOf23 rfl) ?_
    refine o_store Try.sizeOf23 rfl rfl (o_nil ?_)
    refine k_ret ?_
    exact finC rfl Try.isAgg23 Try.sizeOf23 rfl rfl fun W hW => ⟨by rw [show S.down = false from h]; rfl, hW.ext⟩

-- == f82 sort.Search params [3, 115] results [3] in [('tmp', ['4'])] ntmps 26 nfree 0
theorem c82 {g : Nat} {cap : List Value} (p : Nat → Bool) (n : Nat) {w : World} (hn : n < 1000000000) (hcall : ∀ vs W, (callFunc g vs).run Try.prog W = .ok (.enter g vs) W) (hm : ∀ i j, i ≤ j → j < n → p i = true → p j = true)
    (hg : ∀ i : Nat, i < n → ∀ W, Ext [] w W → Calls Try.prog g ([Value.int .i64 i] ++ cap).toArray W (fun e W' => e = .returned (.bool (p i)) ∧ Ext [] W W')) : Calls Try.prog 82 [.int .i64 ((n : Int)), .func (.func g) [].toArray cap.toArray].toArray w fun e w' => e = .returned (.int .i64 (lead (fun i => !p i) n : Int)) ∧ Ext [] w w' := by
  refine fn_start Try.func82 rfl (N := 26) rfl ?_
  refine k_seq (k_region ?_)
  refine o_val (ex_assign rfl) (o_nil ?_)
  refine k_seq (k_region ?_)
  refine o_val (ex_move rfl) ?_
  refine o_val (ex_assign rfl) ?_
  refine o_val (ex_assign rfl) (o_nil ?_)
  refine k_seq (k_block ?_)
  refine k_loop (ι := Nat × Nat) (fun k => [(1, .func (.func g) [].toArray cap.toArray), (5, .int .i64 (k.1 : Int)), (6, .int .i64 (k.2 : Int))]) (fun k => []) (fun k => k.1 ≤ k.2 ∧ k.2 ≤ n ∧ (0 < k.1 → p (k.1 - 1) = false) ∧ (k.2 < n → p k.2 = true)) (fun k => k.2 - k.1) (0, n) ⟨Nat.zero_le _, Nat.le_refl _, fun h => absurd h (Nat.lt_irrefl 0), fun h => absurd h (Nat.lt_irrefl _)⟩ (Sub.cons rfl (Sub.cons rfl (Sub.cons rfl (Sub.nil _)))) SubE.sub (fun k hk => ?_)
  obtain ⟨lo, hi⟩ := k
  obtain ⟨h1, h2, h3, h4⟩ := hk
  dsimp only at h1 h2 h3 h4 ⊢
  refine k_seq (k_seq (k_region ?_))
  refine o_val (ex_move rfl) ?_
  refine o_val (ex_move rfl) ?_
  refine o_val (ex_lss rfl rfl) (o_nil ?_)
  refine k_cond rfl (fun h => ?_) (fun h => ?_)
  ·
    have hlt : lo < hi := by have : (lo : Int) < (hi : Int) := of_decide_eq_true h; omega
    refine k_skip ?_
    refine k_block ?_
    refine k_seq (k_region ?_)
    refine o_val (ex_move rfl) ?_
    refine o_val (ex_move rfl) ?_
    refine o_val (ex_add64 rfl rfl (by unfold I64; omega)) ?_
    refine o_val (ex_conv Try.runUnderlying3 Try.runUnderlying129 rfl (u64_in (by omega) (by omega))) ?_
    refine o_val (ex_shru64 (s := 1) rfl rfl (by omega)) ?_
    refine o_val (exv_eq (v := .int .i64 (((lo + hi) / 2 : Nat) : Int)) (by congr 1) (ex_conv64 Try.runUnderlying129 Try.runUnderlying3 rfl (by unfold I64; omega))) ?_
    refine o_val (ex_assign rfl) (o_nil ?_)
    refine k_seq (k_region ?_)
    refine o_val (ex_move rfl) ?_
    refine o_val (ex_move rfl) ?_
    refine o_val (ex_callV hcall rfl rfl (fun W hW => hg ((lo + hi) / 2) (by omega) W hW.ext)) ?_
    refine o_val (ex_not rfl) (o_nil ?_)
    refine k_cut (ι := Nat × Nat) (fun z => [(1, .func (.func g) [].toArray cap.toArray), (5, .int .i64 (z.1 : Int)), (6, .int .i64 (z.2 : Int))]) (fun z => []) (fun z => (z.1 ≤ z.2 ∧ z.2 ≤ n ∧ (0 < z.1 → p (z.1 - 1) = false) ∧ (z.2 < n → p z.2 = true)) ∧ z.2 - z.1 < hi - lo) ?_ (fun z hz => ?_)
    · refine k_cond rfl (fun h_1 => ?_) (fun h_1 => ?_)
      ·
        refine k_region ?_
        refine o_val (ex_move rfl) ?_
        refine o_val (ex_add64 rfl rfl (by unfold I64; omega)) ?_
        refine o_val (ex_assign rfl) (o_nil ?_)
        exact k_some ((lo + hi) / 2 + 1, hi) ⟨⟨(by show (lo + hi) / 2 + 1 ≤ hi; omega), h2, fun _ => by simpa using h_1, h4⟩, (by show hi - ((lo + hi) / 2 + 1) < hi - lo; omega)⟩ (Sub.cons rfl (Sub.cons rfl (Sub.cons rfl (Sub.nil _)))) SubE.sub
      ·
        refine k_region ?_
        refine o_val (ex_move rfl) ?_
        refine o_val (ex_assign rfl) (o_nil ?_)
        exact k_some (lo, (lo + hi) / 2) ⟨⟨(by show lo ≤ (lo + hi) / 2; omega), (by show (lo + hi) / 2 ≤ n; omega), h3, fun _ => by simpa using h_1⟩, (by show (lo + hi) / 2 - lo < hi - lo; omega)⟩ (Sub.cons rfl (Sub.cons rfl (Sub.cons rfl (Sub.nil _)))) SubE.sub
    exact k_some z hz (Sub.cons rfl (Sub.cons rfl (Sub.cons rfl (Sub.nil _)))) SubE.sub
  ·
    have hge : lo = hi := by have : ¬ (lo : Int) < (hi : Int) := of_decide_eq_false h; omega
    subst hge
    refine k_exit rfl ?_
    refine k_seq (k_region ?_)
    refine o_val (ex_move rfl) ?_
    refine o_val (ex_assign rfl) (o_nil ?_)
    refine k_ret ?_
    exact fin1 rfl rfl fun W hW => ⟨by rw [lead_is (fun i => !p i) n lo h2 (fun i hi => by cases hp : p i with
      | false => rfl
      | true => rw [hm i (lo - 1) (by omega) (by omega) hp] at h3; exact absurd (h3 (by omega)) (by decide)) (fun hl => by simp [h4 hl])], hW.ext⟩

-- == f95 (*acme/die.shop).reach$1 params [3] results [4] in [('tmp', ['4'])] ntmps 13 nfree 2
theorem c95 (S : Sh) (f i : Int) {b b2 b3 : Nat} (hS : S.Ok) (hf : -500000 ≤ f ∧ f ≤ 500000) (hi : 0 ≤ i ∧ i ≤ 400000) {A1 A2 A3 : Option Addr} {c1 c2 c3 : Nat} {w : World} (hshop : ShopAt w b S A1 A2 A3 c1 c2 c3) (h2 : w.cell? ⟨b2, 0, none⟩ = some (.pointer (some ⟨b, 0, none⟩))) (h3 : w.cell? ⟨b3, 0, none⟩ = some (.int .i64 f)) : Calls Try.prog 95 [.int .i64 i, .pointer (some ⟨b2, 0, none⟩), .pointer (some ⟨b3, 0, none⟩)].toArray w fun e w' => e = .returned (.bool (!S.can f (f + i + 1))) ∧ Ext [] w w' := by
  refine fn_start Try.func95 rfl (N := 13) rfl ?_
  refine k_seq (k_region ?_)
  refine o_val (ex_assign rfl) (o_nil ?_)
  refine k_seq (k_region ?_)
  refine o_val (ex_load_old Try.isAgg98 rfl h2 (by simp)) ?_
  refine o_val (ex_load_old Try.isAgg3 rfl h3 (by simp)) ?_
  refine o_val (ex_load_old Try.isAgg3 rfl h3 (by simp)) ?_
  refine o_val (ex_move rfl) ?_
  refine o_val (ex_add64 rfl rfl (by unfold I64; omega)) ?_
  refine o_val (ex_add64 rfl rfl (by unfold I64; omega)) ?_
  refine o_val (ex_call Try.call66 rfl (fun W hW => c66 S f (f + i + 1) hS (by omega) (by omega) (hshop.ext hW.ext))) ?_
  refine o_val (ex_not rfl) ?_
  refine o_val (ex_assign rfl) (o_nil ?_)
  refine k_ret ?_
  exact fin1 rfl rfl fun W hW => ⟨rfl, hW.ext⟩

-- == f71 (*acme/die.shop).reach params [98, 3] results [3] in [('tmp', ['4'])] ntmps 13 nfree 0
theorem c71 (S : Sh) (f : Int) {b : Nat} (hS : S.Ok) (hf : 0 ≤ f ∧ f ≤ allP S.os) {A1 A2 A3 : Option Addr} {c1 c2 c3 : Nat} {w : World} (hshop : ShopAt w b S A1 A2 A3 c1 c2 c3) : Calls Try.prog 71 [.pointer (some ⟨b, 0, none⟩), .int .i64 f].toArray w fun e w' => e = .returned (.int .i64 (S.reach f)) ∧ Ext [] w w' := by
  refine fn_start Try.func71 rfl (N := 13) rfl ?_
  refine k_seq (k_region ?_)
  refine o_box rfl (fun b2 => ?_)
  refine o_box rfl (fun b3 => ?_)
  refine o_val (ex_assign rfl) (o_nil ?_)
  refine k_seq (k_draw [true, true, true, true, true, true, true, true, false] 1 ?_ mixed (by kernel_rfl) rfl)
  refine d_load (i := 0) Try.isAgg3 rfl rfl ?_
  refine d_load (i := 1) Try.isAgg98 rfl rfl ?_
  refine d_val (i := 2) [] (ex_call Try.call64 rfl (fun W hW => all64 hS (hshop.ext hW.ext))) ?_
  refine d_load (i := 3) Try.isAgg3 rfl rfl ?_
  refine d_val (i := 4) [] (ex_sub64 rfl rfl (by have := hS.all; unfold I64; omega)) ?_
  refine d_val (i := 5) [] (ex_makeFunc rfl rfl) ?_
  refine d_val (i := 6) [⟨b3, 3, [.int .i64 f], true⟩, ⟨b2, 98, [.pointer (some ⟨b, 0, none⟩)], true⟩] (ex_call (vs := [.int .i64 (allP S.os - f), .func (.func 95) [].toArray [.pointer (some ⟨b2, 0, none⟩), .pointer (some ⟨b3, 0, none⟩)].toArray]) (v := .int .i64 (S.far f : Int)) Try.call82 rfl (fun W hW => by
      have hall := hS.all
      have e : allP S.os - f = ((allP S.os - f).toNat : Int) := by omega
      rw [e]
      have hh := c82 (g := 95) (cap := [.pointer (some ⟨b2, 0, none⟩), .pointer (some ⟨b3, 0, none⟩)]) (fun i => !S.can f (f + ((i + 1 : Nat) : Int))) (allP S.os - f).toNat (by omega) Try.call95 (fun i j hij hj hp => can_anti hS hf.1 hij hj hp) (fun i hi X hX => by
        have hE := hW.ext.trans0 hX
        have h := c95 S f i (b := b) (b2 := b2) (b3 := b3) hS (by omega) (by omega) (hshop.ext hE) ((cell_ent (hW.ext0 hX) (b := b2) (o := 0) rfl)) ((cell_ent (hW.ext0 hX) (b := b3) (o := 0) rfl))
        rw [show f + (i : Int) + 1 = f + ((i + 1 : Nat) : Int) by omega] at h
        exact h)
      simp only [Bool.not_not] at hh
      exact hh)) ?_
  refine d_val (i := 7) [] (ex_add64 rfl rfl (by have := hS.all; have := reach_bound S hf.2; unfold I64; unfold Sh.reach at this; omega)) ?_
  refine d_rest ?_
  refine d_nil ?_
  refine r_one 8 (rs_val rfl (ex_assign rfl) ?_) (by kernel_rfl)
  refine r_nil ?_ (by kernel_rfl)
  refine k_ret ?_
  exact fin1 rfl rfl fun W hW => ⟨rfl, hW.ext⟩

end Go.Proofs.Ytdflfnednaleeaa
