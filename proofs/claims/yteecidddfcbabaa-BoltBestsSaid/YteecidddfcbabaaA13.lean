/- The walks of small functions: what each call hands back, and that nothing that was there has turned. Printed by a program of this session (wip/tools/gen.py). -/
import Derived.Test.YteecidddfcbabaaA12
namespace Go.Proofs.Yteecidddfcbabaa
open Go
attribute [local irreducible] ExV Ex
set_option synthInstance.maxSize 2000
set_option synthInstance.maxHeartbeats 200000

-- == f82 slices.insertionSortCmpFunc[int] params [42, 3, 3, 80] results [] in [] ntmps 53 nfree 0
theorem z82 {f : Nat} {cap : List Value} (n : Nat) (cs : List Value) {g c : Nat} {w : World} (hn : n ≤ 20) (hb : w.heap[g]? = some (.cells cs.toArray 3 (0, 0))) : Calls Try.prog 82 [.slice (some ⟨g, 0, none⟩) n c, .int .i64 (n : Int), .int .i64 (n : Int), .func (.func f) [].toArray cap.toArray].toArray w fun e w' => e = .returned (.tuple #[]) ∧ w'.heap[g]? = some (.cells cs.toArray 3 (0, 0)) ∧ Ext [g] w w' := by
  refine fn_start' Try.func82 rfl (N := 53) rfl (by simp) (M := [g]) (H := [⟨g, 3, cs, true⟩]) ⟨Ext.refl _ _, by simpa [Ent.obj] using hb, by simp, by simp⟩ ?_
  refine k_seq (k_region ?_)
  refine o_val (ex_move rfl) ?_
  refine o_val (ex_add64 rfl rfl (by unfold I64; omega)) ?_
  refine o_val (ex_assign rfl) (o_nil ?_)
  refine k_block ?_
  refine k_loop (ι := Unit) (fun k => [(0, .slice (some ⟨g, 0, none⟩) n c), (1, .int .i64 (n : Int)), (2, .int .i64 (n : Int)), (3, .func (.func f) [].toArray cap.toArray), (8, .int .i64 ((n : Int) + 1))]) (fun k => [⟨g, 3, cs, true⟩]) (fun k => True) (fun k => 0) () trivial (Sub.cons rfl (Sub.cons rfl (Sub.cons rfl (Sub.cons rfl (Sub.cons rfl (Sub.nil _)))))) SubE.sub (fun k hk => ?_)
  refine k_seq (k_seq (k_region ?_))
  refine o_val (ex_move rfl) ?_
  refine o_val (ex_move rfl) ?_
  refine o_val (ex_lss rfl rfl) (o_nil ?_)
  refine k_cond rfl (fun h => ?_) (fun h => ?_)
  ·
    have : (n : Int) + 1 < n := of_decide_eq_true h
    omega
  ·
    refine k_exit rfl ?_
    try simp only [xlook, Nat.beq_refl, cond_true]
    exact fin0 rfl fun W hW => ⟨rfl, hW.cells HasE.here, hW.ext⟩

-- == f74 slices.stableCmpFunc[int] params [42, 3, 80] results [] in [] ntmps 63 nfree 0
theorem c74 {f : Nat} {cap : List Value} (cmp : Int → Int → Int) (l : List Int) (sp : List Value) {g c : Nat} {w : World} (hl : l.length ≤ 20) (hb : w.heap[g]? = some (.cells (l.map (Value.int .i64) ++ sp).toArray 3 (0, 0))) (hcall : ∀ vs W, (callFunc f vs).run Try.prog W = .ok (.enter f vs) W)
    (hf : ∀ x y, x ∈ l → y ∈ l → ∀ W, Ext [g] w W → Calls Try.prog f ([Value.int .i64 x, Value.int .i64 y] ++ cap).toArray W (fun e W' => e = .returned (.int .i64 (cmp x y)) ∧ Ext [] W W')) : Calls Try.prog 74 [.slice (some ⟨g, 0, none⟩) l.length c, .int .i64 (l.length : Int), .func (.func f) [].toArray cap.toArray].toArray w fun e w' => e = .returned (.tuple #[]) ∧ w'.heap[g]? = some (.cells ((sortR (fun x y => decide (cmp x y < 0)) l).reverse.map (Value.int .i64) ++ sp).toArray 3 (0, 0)) ∧ Ext [g] w w' := by
  refine fn_start' Try.func74 rfl (N := 63) rfl (by simp) (M := [g]) (H := [⟨g, 3, (l).map (Value.int .i64) ++ sp, true⟩]) ⟨Ext.refl _ _, by simpa [Ent.obj] using hb, by simp, by simp⟩ ?_
  refine k_seq (k_region ?_)
  refine o_val (ex_assign rfl) (o_nil ?_)
  refine k_seq (k_region ?_)
  refine o_val (ex_move rfl) ?_
  refine o_val (ex_assign rfl) ?_
  refine o_val (ex_assign rfl) (o_nil ?_)
  refine k_seq (k_block ?_)
  refine k_loop (ι := Int × List Int) (fun k => [(0, .slice (some ⟨g, 0, none⟩) l.length c), (1, .int .i64 (l.length : Int)), (2, .func (.func f) [].toArray cap.toArray), (6, .int .i64 20), (7, .int .i64 k.1), (8, .int .i64 (k.1 + 20))]) (fun k => [⟨g, 3, (k.2).map (Value.int .i64) ++ sp, true⟩]) (fun k => (k.1 = 0 ∧ k.2 = l) ∨ (k.1 = 20 ∧ l.length = 20 ∧ k.2 = (sortR (fun x y => decide (cmp x y < 0)) l).reverse)) (fun k => (20 - k.1).toNat) (0, l) (.inl ⟨rfl, rfl⟩) (Sub.cons rfl (Sub.cons rfl (Sub.cons rfl (Sub.cons rfl (Sub.cons rfl (Sub.cons rfl (Sub.nil _))))))) SubE.sub (fun k hk => ?_)
  obtain ⟨a, L⟩ := k
  dsimp only at hk ⊢
  refine k_seq (k_seq (k_region ?_))
  refine o_val (ex_move rfl) ?_
  refine o_val (ex_move rfl) ?_
  refine o_val (ex_leq rfl rfl) (o_nil ?_)
  refine k_cond rfl (fun h => ?_) (fun h => ?_)
  ·
    have hle : a + 20 ≤ (l.length : Int) := of_decide_eq_true h
    obtain ⟨ha, hL⟩ : a = 0 ∧ L = l := by
      rcases hk with h | ⟨h, _⟩
      · exact h
      · omega
    have hL2 := hL.symm
    clear hL
    subst ha hL2
    have h20 : l.length = 20 := by omega
    refine k_skip ?_
    refine k_block ?_
    refine k_seq (k_region ?_)
    refine o_val (ex_move rfl) ?_
    refine o_val (ex_move rfl) ?_
    refine o_val (ex_move rfl) ?_
    refine o_val (ex_move rfl) ?_
    refine o_callP (b := g) (cs' := ((sortR (fun x y => decide (cmp x y < 0)) l).reverse).map (Value.int .i64) ++ sp) Try.call82 rfl (fun W hW => (by have hc := c82 cmp l sp (c := c) (by omega) (hW.cells HasE.here) hcall (fun x y hx hy W2 h2 => hf x y hx hy W2 (hW.ext.trans h2 (fun z hz _ => hz))); have e20 : (l.length : Int) = 0 + 20 := (by omega); rw [← e20]; exact hc)) (o_nil ?_)
    refine k_seq (k_region ?_)
    refine o_val (ex_move rfl) ?_
    refine o_val (ex_assign rfl) (o_nil ?_)
    refine k_region ?_
    refine o_val (ex_move rfl) ?_
    refine o_val (ex_move rfl) ?_
    refine o_val (ex_add64 rfl rfl (by unfold I64; omega)) ?_
    refine o_val (ex_assign rfl) (o_nil ?_)
    exact k_some (20, (sortR (fun x y => decide (cmp x y < 0)) l).reverse) ⟨.inr ⟨rfl, h20, rfl⟩, by simp⟩ (Sub.cons rfl (Sub.cons rfl (Sub.cons rfl (Sub.cons rfl (Sub.cons' rfl (by simp) (Sub.cons' rfl (by simp) (Sub.nil _))))))) SubE.sub
  ·
    have hle : ¬ a + 20 ≤ (l.length : Int) := of_decide_eq_false h
    have key13 : ∀ W : World, W.heap[g]? = some (.cells (L.map (Value.int .i64) ++ sp).toArray 3 (0, 0)) → Ext [g] w W → Calls Try.prog 82 [.slice (some ⟨g, 0, none⟩) l.length c, .int .i64 a, .int .i64 (l.length : Int), .func (.func f) [].toArray cap.toArray].toArray W (fun x W2 => x = .returned (.tuple #[]) ∧ W2.heap[g]? = some (.cells (((sortR (fun x y => decide (cmp x y < 0)) l).reverse).map (Value.int .i64) ++ sp).toArray 3 (0, 0)) ∧ Ext [g] W W2) := by
      intro W hg hE
      rcases hk with ⟨ha, hL⟩ | ⟨ha, h20, hL⟩
      · subst ha
        rw [hL] at hg
        exact c82 cmp l sp (by omega) hg hcall (fun x y hx hy W2 h2 => hf x y hx hy W2 (hE.trans h2 (fun z hz _ => hz)))
      · have hz := z82 (f := f) (cap := cap) (c := c) l.length _ (by omega) hg
        have e20 : (l.length : Int) = a := by omega
        rw [hL] at hz
        rw [e20] at hz ⊢
        exact hz
    refine k_exit rfl ?_
    refine k_seq (k_region ?_)
    refine o_val (ex_move rfl) ?_
    refine o_val (ex_move rfl) ?_
    refine o_val (ex_move rfl) ?_
    refine o_val (ex_move rfl) ?_
    refine o_callP (b := g) (cs' := ((sortR (fun x y => decide (cmp x y < 0)) l).reverse).map (Value.int .i64) ++ sp) Try.call82 rfl (fun W hW => key13 W (hW.cells HasE.here) hW.ext) (o_nil ?_)
    refine k_block ?_
    refine k_loop (ι := Unit) (fun k => [(0, .slice (some ⟨g, 0, none⟩) l.length c), (1, .int .i64 (l.length : Int)), (2, .func (.func f) [].toArray cap.toArray), (6, .int .i64 20)]) (fun k => [⟨g, 3, ((sortR (fun x y => decide (cmp x y < 0)) l).reverse).map (Value.int .i64) ++ sp, true⟩]) (fun k => True) (fun k => 0) () trivial (Sub.cons rfl (Sub.cons rfl (Sub.cons rfl (Sub.cons rfl (Sub.nil _))))) SubE.sub (fun k hk => ?_)
    refine k_seq (k_seq (k_region ?_))
    refine o_val (ex_move rfl) ?_
    refine o_val (ex_move rfl) ?_
    refine o_val (ex_lss rfl rfl) (o_nil ?_)
    refine k_cond rfl (fun h_1 => ?_) (fun h_1 => ?_)
    ·
      have : (20 : Int) < l.length := of_decide_eq_true h_1
      omega
    ·
      refine k_exit rfl ?_
      try simp only [xlook, Nat.beq_refl, cond_true]
      exact fin0 rfl fun W hW => ⟨rfl, hW.cells HasE.here, hW.ext⟩

-- == f48 slices.SortStableFunc[[]int,int] params [42, 80] results [] in [] ntmps 9 nfree 0
theorem c48 {f : Nat} {cap : List Value} (cmp : Int → Int → Int) (l : List Int) (sp : List Value) {g c : Nat} {w : World} (hl : l.length ≤ 20) (hb : w.heap[g]? = some (.cells (l.map (Value.int .i64) ++ sp).toArray 3 (0, 0))) (hcall : ∀ vs W, (callFunc f vs).run Try.prog W = .ok (.enter f vs) W)
    (hf : ∀ x y, x ∈ l → y ∈ l → ∀ W, Ext [g] w W → Calls Try.prog f ([Value.int .i64 x, Value.int .i64 y] ++ cap).toArray W (fun e W' => e = .returned (.int .i64 (cmp x y)) ∧ Ext [] W W')) : Calls Try.prog 48 [.slice (some ⟨g, 0, none⟩) l.length c, .func (.func f) [].toArray cap.toArray].toArray w fun e w' => e = .returned (.tuple #[]) ∧ w'.heap[g]? = some (.cells ((sortR (fun x y => decide (cmp x y < 0)) l).reverse.map (Value.int .i64) ++ sp).toArray 3 (0, 0)) ∧ Ext [g] w w' := by
  refine fn_start' Try.func48 rfl (N := 9) rfl (by simp) (M := [g]) (H := [⟨g, 3, (l).map (Value.int .i64) ++ sp, true⟩]) ⟨Ext.refl _ _, by simpa [Ent.obj] using hb, by simp, by simp⟩ ?_
  refine k_region ?_
  refine o_val (ex_move rfl) ?_
  refine o_val (ex_move rfl) ?_
  refine o_val (ex_len Try.runUnderlying42 rfl) ?_
  refine o_val (ex_move rfl) ?_
  refine o_callP (b := g) (cs' := ((sortR (fun x y => decide (cmp x y < 0)) l).reverse).map (Value.int .i64) ++ sp) Try.call74 rfl (fun W hW => (by exact c74 cmp l sp hl (hW.cells HasE.here) hcall (fun x y hx hy W2 h2 => hf x y hx hy W2 (hW.ext.trans h2 (fun z hz _ => hz))))) (o_nil ?_)
  try simp only [xlook, Nat.beq_refl, cond_true]
  exact fin0 rfl fun W hW => ⟨rfl, hW.cells HasE.here, hW.ext⟩

end Go.Proofs.Yteecidddfcbabaa
