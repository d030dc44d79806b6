/- The walks of functions: what each call hands back, and that nothing that was there has turned. Printed by a program of this session (wip/tools/gen.py). -/
import Derived.Test.YtdflfnednaleeaaCpt
namespace Go.Proofs.Ytdflfnednaleeaa
open Go
attribute [local irreducible] ExV Ex
set_option synthInstance.maxSize 2000
set_option synthInstance.maxHeartbeats 200000
set_option maxRecDepth 20000

def ascB (l : List Int) : Bool := (List.range l.length).all fun i => i == 0 || !decide (l.getD i 0 < l.getD (i - 1) 0)
def neB (l : List Int) : Bool := (List.range l.length).all fun i => i == 0 || !decide (l.getD i 0 = l.getD (i - 1) 0)
theorem ascB_iff {l : List Int} : ascB l = true ↔ ∀ i, 0 < i → i < l.length → ¬ l.getD i 0 < l.getD (i - 1) 0 := by
  unfold ascB
  simp only [List.all_eq_true, List.mem_range, Bool.or_eq_true, beq_iff_eq, Bool.not_eq_true', decide_eq_false_iff_not]
  exact ⟨fun h i h0 hi => (h i hi).resolve_left (by omega), fun h i hi => if h0 : i = 0 then .inl h0 else .inr (h i (by omega) hi)⟩
theorem neB_iff {l : List Int} : neB l = true ↔ adjNe l := by
  unfold neB adjNe
  simp only [List.all_eq_true, List.mem_range, Bool.or_eq_true, beq_iff_eq, Bool.not_eq_true', decide_eq_false_iff_not]
  exact ⟨fun h i h0 hi => (h i hi).resolve_left (by omega), fun h i hi => if h0 : i = 0 then .inl h0 else .inr (h i (by omega) hi)⟩
/-- Numbers from 0 to another one, in strictly ascending order. -/
def upB (all : Int) (l : List Int) : Bool := wi 0 (all - 1) l && ascB l && neB l
theorem getD_at {l : List Int} {i : Nat} (h : i < l.length) : l.getD i 0 = l[i] := by simp [List.getD, List.getElem?_eq_getElem h]

-- == f108 cmp.isNaN[int] params [3] results [4] in [('tmp', ['2'])] ntmps 6 nfree 0
theorem c108 (n : Int) {w : World} : Calls Try.prog 108 [.int .i64 n].toArray w fun e w' => e = .returned (.bool false) ∧ Ext [] w w' := by
  refine fn_start Try.func108 rfl (N := 6) rfl ?_
  refine k_seq (k_region ?_)
  refine o_val (ex_assign rfl) (o_nil ?_)
  refine k_seq (k_region ?_)
  refine o_val (ex_move rfl) ?_
  refine o_val (ex_move rfl) ?_
  refine o_val (ex_neq rfl rfl) ?_
  refine o_val (ex_assign rfl) (o_nil ?_)
  refine k_ret ?_
  exact fin1 rfl rfl fun W hW => ⟨by simp, hW.ext⟩

-- == f107 cmp.Less[int] params [3, 3] results [4] in [('tmp', ['4'])] ntmps 17 nfree 0
theorem c107 (a b : Int) {w : World} : Calls Try.prog 107 [.int .i64 a, .int .i64 b].toArray w fun e w' => e = .returned (.bool (decide (a < b))) ∧ Ext [] w w' := by
  refine fn_start Try.func107 rfl (N := 17) rfl ?_
  refine k_seq (k_region ?_)
  refine o_val (ex_assign rfl) (o_nil ?_)
  refine k_seq (k_region ?_)
  refine o_val (ex_move rfl) ?_
  refine o_val (ex_call Try.call108 rfl (fun W hW => c108 a)) ?_
  refine o_val (ex_move rfl) ?_
  refine o_and 3 (c := !false) (fun h => ?_) ?_
  · refine o_val_g (ex_move rfl) ?_
    refine o_val_g (ex_call Try.call108 rfl (fun W hW => c108 b)) ?_
    exact o_val_g (ex_not rfl) (o_nil (got rfl (.refl _)))
  refine o_val (ex_move rfl) ?_
  refine o_or 3 (c := decide (a < b)) (fun h => ?_) ?_
  · refine o_val_g (ex_move rfl) ?_
    refine o_val_g (ex_move rfl) ?_
    exact o_val_g (ex_lss rfl rfl) (o_nil (got rfl (.refl _)))
  refine o_val (ex_assign rfl) (o_nil ?_)
  refine k_ret ?_
  exact fin1 rfl rfl fun W hW => ⟨by simp, hW.ext⟩

-- == f100 slices.IsSorted[[]int,int] params [52] results [4] in [('tmp', ['2'])] ntmps 21 nfree 0
theorem c100 (l : List Int) {A : Option Addr} {c : Nat} {w : World} (hl : l.length < 4611686018427387904) (hrow : ElAt w A l) : Calls Try.prog 100 [.slice A l.length c].toArray w fun e w' => e = .returned (.bool (ascB l)) ∧ Ext [] w w' := by
  refine fn_start Try.func100 rfl (N := 21) rfl ?_
  refine k_seq (k_region ?_)
  refine o_val (ex_assign rfl) (o_nil ?_)
  refine k_seq (k_seq (k_region ?_))
  refine o_val (ex_move rfl) ?_
  refine o_val (ex_len Try.runUnderlying52 rfl) ?_
  refine o_val (ex_sub64 rfl rfl (by unfold I64; omega)) ?_
  refine o_val (ex_assign rfl) (o_nil ?_)
  refine k_block ?_
  refine k_loop (ι := Int) (fun k => [(0, .slice A l.length c), (3, .int .i64 k)]) (fun k => []) (fun k => -1 ≤ k ∧ k ≤ (l.length : Int) - 1 ∧ ∀ i : Nat, k < i → i < l.length → ¬ l.getD i 0 < l.getD (i - 1) 0) (fun k => (k + 1).toNat) ((l.length : Int) - 1) ⟨by omega, Int.le_refl _, fun i h1 h2 => by omega⟩ (Sub.cons rfl (Sub.cons rfl (Sub.nil _))) SubE.sub (fun k hk => ?_)
  obtain ⟨hk1, hk2, hk3⟩ := hk
  refine k_seq (k_seq (k_region ?_))
  refine o_val (ex_move rfl) ?_
  refine o_val (ex_gtr rfl rfl) (o_nil ?_)
  refine k_cond rfl (fun h => ?_) (fun h => ?_)
  ·
    have h0 : 0 < k := of_decide_eq_true h
    obtain ⟨m, rfl⟩ : ∃ m : Nat, k = m + 1 := ⟨(k - 1).toNat, by omega⟩
    have hm : m + 1 < l.length := by omega
    obtain ⟨a, hA, hc1⟩ := hrow (m + 1) hm
    obtain ⟨a2, hA2, hc0⟩ := hrow m (by omega)
    rw [hA] at hA2
    cases hA2
    subst hA
    refine k_skip ?_
    refine k_seq (k_block ?_)
    refine k_seq (k_draw [true, true, true, true, true, true, true, true, true, true] 0 ?_ mixed (by kernel_rfl) rfl)
    refine d_val (i := 0) [] (ex_move rfl) ?_
    refine d_val (i := 1) [] (ex_move rfl) ?_
    refine d_val (i := 2) [] (ex_index_old Try.runUnderlying52 Try.sizeOf3 rfl rfl (by omega) (by omega)) ?_
    refine d_val (i := 3) [] (ex_load_old Try.isAgg3 rfl (by rw [show ((m : Int) + 1) = ((m + 1 : Nat) : Int) by omega]; exact int_cell hc1) (by simp)) ?_
    refine d_val (i := 4) [] (ex_move rfl) ?_
    refine d_val (i := 5) [] (ex_move rfl) ?_
    refine d_val (i := 6) [] (ex_sub64 rfl rfl (by unfold I64; omega)) ?_
    refine d_val (i := 7) [] (ex_index_old Try.runUnderlying52 Try.sizeOf3 rfl rfl (by omega) (by omega)) ?_
    refine d_val (i := 8) [] (ex_load_old Try.isAgg3 rfl (by rw [show ((m : Int) + 1 - 1) = (m : Int) by omega]; exact int_cell hc0) (by simp)) ?_
    refine d_val (i := 9) [] (ex_call Try.call107 rfl (fun W hW => c107 l[m + 1] l[m])) ?_
    refine d_nil ?_
    refine r_nil ?_ (by kernel_rfl)
    refine k_cond rfl (fun h_1 => ?_) (fun h_1 => ?_)
    ·
      have hlt : l[m + 1] < l[m] := of_decide_eq_true h_1
      refine k_seq (k_region ?_)
      refine o_val (ex_assign rfl) (o_nil ?_)
      refine k_ret ?_
      exact fin1 rfl rfl fun W hW => ⟨by rw [show ascB l = false from Bool.eq_false_iff.2 (fun e => ascB_iff.1 e (m + 1) (by omega) hm (by rw [getD_at hm, show m + 1 - 1 = m from rfl, getD_at (by omega)]; exact hlt))], hW.ext⟩
    ·
      have hlt : ¬ l[m + 1] < l[m] := of_decide_eq_false h_1
      refine k_skip ?_
      refine k_region ?_
      refine o_val (ex_move rfl) ?_
      refine o_val (ex_sub64 rfl rfl (by unfold I64; omega)) ?_
      refine o_val (ex_assign rfl) (o_nil ?_)
      exact k_some ((m : Int) + 1 - 1) ⟨⟨by omega, by omega, fun i h1 h2 => by
        by_cases hi : i = m + 1
        · subst hi; rw [getD_at hm, show m + 1 - 1 = m from rfl, getD_at (by omega)]; exact hlt
        · exact hk3 i (by omega) h2⟩, by omega⟩ (Sub.cons rfl (Sub.cons rfl (Sub.nil _))) SubE.sub
  ·
    have h0 : ¬ 0 < k := of_decide_eq_false h
    refine k_exit rfl ?_
    refine k_seq (k_region ?_)
    refine o_val (ex_assign rfl) (o_nil ?_)
    refine k_ret ?_
    exact fin1 rfl rfl fun W hW => ⟨by rw [show ascB l = true from ascB_iff.2 (fun i h1 h2 => hk3 i (by omega) h2)], hW.ext⟩

-- == f102 slices.Clone[[]int,int] params [52] results [52] in [('tmp', ['2'])] ntmps 8 nfree 0
theorem c102 (l : List Int) {A : Option Addr} {c : Nat} {w : World} (hl : l.length ≤ 1000) (hrow : ElAt w A l) : Calls Try.prog 102 [.slice A l.length c].toArray w fun e w' => ∃ v, e = .returned v ∧ FreshV 3 1 v l.length (l.map (Value.int .i64)) w w' ∧ Ext [] w w' := by
  refine fn_start Try.func102 rfl (N := 8) rfl ?_
  refine k_seq (k_region ?_)
  refine o_val (ex_assign rfl) (o_nil ?_)
  refine k_seq (k_seq (k_region ?_))
  refine o_val (ex_move rfl) ?_
  refine o_val (ex_eqlNil rfl rfl) (o_nil ?_)
  refine k_cond rfl (fun h => ?_) (fun h => ?_)
  ·
    have hl0 : l = [] := by
      cases l with
      | nil => rfl
      | cons x r => obtain ⟨a, e, _⟩ := hrow 0 (by simp); rw [e] at h; cases h
    subst hl0
    refine k_seq (k_region ?_)
    refine o_val (ex_assign rfl) (o_nil ?_)
    refine k_ret ?_
    exact fin1 rfl rfl fun W hW => ⟨_, rfl, fresh_nil, hW.ext⟩
  ·
    refine k_skip ?_
    refine k_seq (k_region ?_)
    refine o_buildNil Try.runUnderlying52 Try.sizeOf3 (fun v5 x5 o5 => ?_)
    refine o_val (ex_move rfl) ?_
    refine o_appendW (bytes := 8) (news := l.map (Value.int .i64)) o5 Try.underlying52 (by kernel_rfl) (by omega) rfl rfl (fun W hW j u hu => (hrow.ext hW.ext).flat j u (by rw [int_flat]; exact hu)) (by unfold maxLen; omega) (by omega) (by simp) (by intro u hu; obtain ⟨n, _, rfl⟩ := List.mem_map.1 hu; rfl) (fun v7 x7 o7 => ?_)
    refine o_val (ex_assign rfl) (o_nil ?_)
    refine k_ret ?_
    exact fin1 rfl rfl fun W hW => ⟨_, rfl, (o7.cast (by omega) (by simp)).fresh hW, hW.ext⟩

-- == f77 (*acme/die.shop).ascend params [98, 52] results [4] in [('tmp', ['4'])] ntmps 23 nfree 0
theorem c77 (S : Sh) (l : List Int) {A : Option Addr} {c b : Nat} (hS : S.Ok) (hl : l.length ≤ 1000) {A1 A2 A3 : Option Addr} {c1 c2 c3 : Nat} {w : World} (hshop : ShopAt w b S A1 A2 A3 c1 c2 c3) (hrow : ElAt w A l) : Calls Try.prog 77 [.pointer (some ⟨b, 0, none⟩), .slice A l.length c].toArray w fun e w' => e = .returned (.bool (upB (allP S.os) l)) ∧ Ext [] w w' := by
  refine fn_start Try.func77 rfl (N := 23) rfl ?_
  refine k_seq (k_region ?_)
  refine o_val (ex_assign rfl) (o_nil ?_)
  refine k_seq (k_region ?_)
  refine o_val (ex_move rfl) ?_
  refine o_val (ex_call Try.call64 rfl (fun W hW => all64 hS (hshop.ext hW.ext))) ?_
  refine o_val (ex_sub64 rfl rfl (by have := hS.all; unfold I64; omega)) ?_
  refine o_val (ex_move rfl) ?_
  refine o_val (ex_call Try.call60 rfl (fun W hW => c60 0 (allP S.os - 1) l (by omega) (hrow.ext hW.ext))) ?_
  refine o_val (ex_move rfl) ?_
  refine o_and 2 (c := ascB l) (fun h => ?_) ?_
  · refine o_val_g (ex_move rfl) ?_
    exact o_val_g (ex_call Try.call100 rfl (fun W hW => c100 l (by omega) (hrow.ext hW.ext))) (o_nil (got rfl (.refl _)))
  refine o_val (ex_move rfl) ?_
  refine o_and 7 (c := neB l) (fun h => ?_) ?_
  · refine o_val_g (ex_move rfl) ?_
    refine o_callO_g Try.call102 rfl (fun W hW => c102 l hl (hrow.ext hW.ext)) (fun v16 x16 o16 => ?_)
    refine o_compact_g (φ := fun v => ∃ A m c, v = .slice A m c ∧ (m = l.length ↔ adjNe l)) Try.call101 rfl (fun W hW => (compact_own o16 (by omega) hW).mono fun e W2 h => by obtain ⟨A, m, c, he, hm, hE⟩ := h; exact ⟨_, he, ⟨A, m, c, rfl, hm⟩, hE⟩) (fun v17 x17 o17 => ?_)
    obtain ⟨A7, m7, c7, e7, hm7⟩ := o17
    subst e7
    refine o_val_g (ex_len Try.runUnderlying52 rfl) ?_
    refine o_val_g (ex_move rfl) ?_
    refine o_val_g (ex_len Try.runUnderlying52 rfl) ?_
    exact o_val_g (exv_eq (v := .bool (neB l)) (by congr 1; rw [Bool.eq_iff_iff, decide_eq_true_eq, neB_iff, ← hm7]; omega) (ex_eql rfl rfl)) (o_nil (got rfl (.refl _)))
  refine o_val (ex_assign rfl) (o_nil ?_)
  refine k_ret ?_
  exact fin1 rfl rfl fun W hW => ⟨rfl, hW.ext⟩

end Go.Proofs.Ytdflfnednaleeaa
