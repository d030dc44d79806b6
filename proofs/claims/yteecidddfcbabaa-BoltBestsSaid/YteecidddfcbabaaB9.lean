/- The walks of small functions: what each call hands back, and that nothing that was there has turned. Printed by a program of this session (wip/tools/gen.py). -/
import Derived.Test.YteecidddfcbabaaB8
import Derived.Test.YteecidddfcbabaaNest
namespace Go.Proofs.Yteecidddfcbabaa
open Go
attribute [local irreducible] ExV Ex
set_option synthInstance.maxSize 2000
set_option synthInstance.maxHeartbeats 200000
set_option maxRecDepth 20000

theorem Wa.chk3 {y : Wa} (h : y.kind = 3) : y.chk = (((decide (y.tl = 0) && decide (y.th = 0)) && (decide (y.al = 0) && decide (y.ah = 0))) && isSp y.sl y.sh 0 100000) := by
  unfold Wa.chk
  rw [if_neg (by omega), if_neg (by omega), if_pos h]
  cases isSp y.sl y.sh 0 100000 <;> cases decide (y.tl = 0) <;> cases decide (y.th = 0) <;> simp
theorem Wa.chkNo {y : Wa} (h : ¬ y.kind = 3) (k : (!isSp y.tl y.th 0 10000000000000 || !(decide (y.sl = 0) && decide (y.sh = 0))) = true) : y.chk = false := by
  unfold Wa.chk
  by_cases h1 : y.kind = 1
  · rw [if_pos h1]
    revert k
    cases isSp y.tl y.th 0 10000000000000 <;> cases decide (y.sl = 0) <;> cases decide (y.sh = 0) <;> simp
  · rw [if_neg h1]
    by_cases h2 : y.kind = 2
    · rw [if_pos h2]
      revert k
      cases isSp y.tl y.th 0 10000000000000 <;> cases decide (y.sl = 0) <;> cases decide (y.sh = 0) <;> simp
    · rw [if_neg h2, if_neg h]
theorem Wa.chk12 {y : Wa} (h : ¬ y.kind = 3) (k : (!isSp y.tl y.th 0 10000000000000 || !(decide (y.sl = 0) && decide (y.sh = 0))) = false) :
    y.chk = ((decide (y.kind = 1) && (decide (y.al = 0) && decide (y.ah = 0))) || (decide (y.kind = 2) && isSp y.al y.ah 0 100000)) := by
  unfold Wa.chk
  by_cases h1 : y.kind = 1
  · rw [if_pos h1, h1]
    revert k
    cases isSp y.tl y.th 0 10000000000000 <;> cases decide (y.sl = 0) <;> cases decide (y.sh = 0) <;> simp
  · rw [if_neg h1, decide_eq_false h1]
    by_cases h2 : y.kind = 2
    · rw [if_pos h2, h2]
      revert k
      cases isSp y.tl y.th 0 10000000000000 <;> cases decide (y.sl = 0) <;> cases decide (y.sh = 0) <;> simp
    · rw [if_neg h2, if_neg h, decide_eq_false h2]
      rfl
theorem fine_ref {b : Bo} (hb : b.Ok) {y : Wa} (hy : y.Fit) (wl wh : Int) : fineB b wl wh y = ((decide (b.fHi y ≤ b.yl) && decide (wl ≤ b.fLo y)) && decide (b.fHi y ≤ wh)) := by
  have h := refF_between hb hy 0
  unfold fineB
  rw [wi_two, Bool.eq_iff_iff]
  simp only [Bool.and_eq_true, decide_eq_true_eq]
  omega
theorem cod2_ok {b : Bo} {wl wh : Int} {l : List Wa} (h : cod2 b wl wh l = 0) : b.Ok ∧ l.length ≤ 20 ∧ (∀ y, y ∈ l → y.chk = true) ∧ codK b l l.length = 0 := by
  have h1 : codK b l l.length = 0 := by
    unfold cod2 at h
    by_cases hk : codK b l l.length = 0
    · exact hk
    · rw [if_neg hk] at h; exact absurd h hk
  have h0 : cod0 b l = 0 := by
    unfold codK at h1
    by_cases hk : cod0 b l = 0
    · exact hk
    · rw [if_neg hk] at h1; exact absurd h1 hk
  have h2 := h1
  unfold codK at h2
  rw [if_pos h0, List.take_length] at h2
  unfold cod0 at h0
  cases hc : b.chk
  · simp [hc] at h0
  · by_cases h20 : 20 < l.length
    · simp [hc, h20] at h0
    · refine ⟨b.chk_iff.1 hc, by omega, fun y hy => ?_, h1⟩
      cases ha : l.any (fun y => !y.chk)
      · have := List.any_eq_false.1 ha y hy
        simpa using this
      · simp [ha] at h2
theorem codK_zero (b : Bo) (l : List Wa) : codK b l 0 = cod0 b l := by
  unfold codK
  by_cases h : cod0 b l = 0
  · rw [if_pos h, h]; rfl
  · rw [if_neg h]
theorem flat_split : ∀ (l : List Wa) (j : Nat) (u : Value), (l.flatMap Wa.cells)[j]? = some u → ∃ (k : Nat) (h : k < l.length) (r : Nat), j = k * 7 + r ∧ (l[k].cells)[r]? = some u
  | [], j, u, h => by simp at h
  | y :: r, j, u, h => by
    rw [List.flatMap_cons] at h
    by_cases hj : j < 7
    · rw [List.getElem?_append_left (by simpa [Wa.cells] using hj)] at h
      exact ⟨0, by simp, j, by omega, h⟩
    · rw [List.getElem?_append_right (by simp [Wa.cells]; omega)] at h
      obtain ⟨k, hk, q, e1, e2⟩ := flat_split r (j - y.cells.length) u h
      have : y.cells.length = 7 := rfl
      exact ⟨k + 1, by simpa using hk, q, by omega, by simpa using e2⟩
theorem flat_len : ∀ l : List Wa, (l.flatMap Wa.cells).length = l.length * 7
  | [] => rfl
  | y :: r => by
    rw [List.flatMap_cons, List.length_append, flat_len r, List.length_cons]
    have : y.cells.length = 7 := rfl
    omega
theorem flat_one : ∀ (l : List Wa) (u : Value), u ∈ l.flatMap Wa.cells → u.oneCell' = true
  | l, u, h => by
    obtain ⟨y, _, hu⟩ := List.mem_flatMap.1 h
    simp only [Wa.cells, List.mem_cons, List.not_mem_nil, or_false] at hu
    rcases hu with rfl | rfl | rfl | rfl | rfl | rfl | rfl <;> rfl
theorem ways_flat {W : World} {A : Option Addr} {l : List Wa} (h : WaysAt W A l) (j : Nat) (u : Value) (hu : (l.flatMap Wa.cells)[j]? = some u) : ∃ a, A = some a ∧ W.cell? (a.add j) = some u := by
  obtain ⟨k, hk, r, rfl, hr⟩ := flat_split l j u hu
  obtain ⟨a, hA, hc⟩ := h k hk
  refine ⟨a, hA, ?_⟩
  rw [← hc r u hr, Addr.add_add]

-- == f16 acme/acmeref09.Way params [47] results [4] in [('tmp', ['2'])] ntmps 52 nfree 0
theorem c16 (y : Wa) {w : World} : Calls Try.prog 16 [.agg [.int .i64 y.kind, .int .i64 y.tl, .int .i64 y.th, .int .i64 y.al, .int .i64 y.ah, .int .i64 y.sl, .int .i64 y.sh].toArray].toArray w fun e w' => e = .returned (.bool y.chk) ∧ Ext [] w w' := by
  refine fn_start Try.func16 rfl (N := 52) rfl ?_
  refine k_seq (k_region ?_)
  refine o_box rfl (fun b1 => ?_)
  refine o_val (ex_assign rfl) (o_nil ?_)
  refine k_seq (k_region ?_)
  refine o_val (ex_build bf23 rfl) ?_
  refine o_alloc Try.zeroValue23 (fun b3 => ?_)
  refine o_store Try.sizeOf23 rfl rfl (o_nil ?_)
  refine k_seq (k_seq (k_region ?_))
  refine o_val (ex_field (o := 0) 0 fa47_0 rfl rfl) ?_
  refine o_val (ex_load Try.isAgg45 rfl rfl) ?_
  refine o_val (ex_eql rfl rfl) (o_nil ?_)
  refine k_cond rfl (fun h => ?_) (fun h => ?_)
  ·
    refine k_seq (k_region ?_)
    refine o_val (ex_field (o := 0) 1 fa47_1 rfl rfl) ?_
    refine o_val (ex_loadA Try.isAgg23 Try.sizeOf23 rfl) ?_
    refine o_val (ex_loadA Try.isAgg23 Try.sizeOf23 rfl) ?_
    refine o_val (ex_eql_23 rfl rfl) ?_
    refine o_val (ex_move rfl) ?_
    refine o_and 4 (c := decide (y.al = 0) && decide (y.ah = 0)) (fun h => ?_) ?_
    · refine o_val_g (ex_field (o := 0) 3 fa47_2 rfl rfl) ?_
      refine o_val_g (ex_loadA Try.isAgg23 Try.sizeOf23 rfl) ?_
      refine o_val_g (ex_loadA Try.isAgg23 Try.sizeOf23 rfl) ?_
      exact o_val_g (ex_eql_23 rfl rfl) (o_nil (got rfl (.refl _)))
    refine o_val (ex_move rfl) ?_
    refine o_and 3 (c := isSp y.sl y.sh 0 100000) (fun h => ?_) ?_
    · refine o_val_g (ex_field (o := 0) 5 fa47_3 rfl rfl) ?_
      refine o_val_g (ex_loadA Try.isAgg23 Try.sizeOf23 rfl) ?_
      exact o_val_g (ex_call Try.call13 rfl (fun W hW => c13 y.sl y.sh 0 100000)) (o_nil (got rfl (.refl _)))
    refine o_val (ex_assign rfl) (o_nil ?_)
    refine k_ret ?_
    exact fin1 rfl rfl fun W hW => ⟨by rw [Wa.chk3 (of_decide_eq_true h)], hW.ext⟩
  ·
    refine k_skip ?_
    refine k_seq (k_seq (k_region ?_))
    refine o_val (ex_field (o := 0) 1 fa47_1 rfl rfl) ?_
    refine o_val (ex_loadA Try.isAgg23 Try.sizeOf23 rfl) ?_
    refine o_val (ex_call Try.call13 rfl (fun W hW => c13 y.tl y.th 0 10000000000000)) ?_
    refine o_val (ex_not rfl) ?_
    refine o_val (ex_move rfl) ?_
    refine o_or 4 (c := !(decide (y.sl = 0) && decide (y.sh = 0))) (fun h => ?_) (o_nil ?_)
    · refine o_val_g (ex_field (o := 0) 5 fa47_3 rfl rfl) ?_
      refine o_val_g (ex_loadA Try.isAgg23 Try.sizeOf23 rfl) ?_
      refine o_val_g (ex_loadA Try.isAgg23 Try.sizeOf23 rfl) ?_
      exact o_val_g (ex_neq_23 rfl rfl) (o_nil (got rfl (.refl _)))
    refine k_cond rfl (fun h_1 => ?_) (fun h_1 => ?_)
    ·
      refine k_seq (k_region ?_)
      refine o_val (ex_assign rfl) (o_nil ?_)
      refine k_ret ?_
      exact fin1 rfl rfl fun W hW => ⟨by rw [Wa.chkNo (of_decide_eq_false h) h_1], hW.ext⟩
    ·
      refine k_skip ?_
      refine k_seq (k_region ?_)
      refine o_val (ex_field (o := 0) 0 fa47_0 rfl rfl) ?_
      refine o_val (ex_load Try.isAgg45 rfl rfl) ?_
      refine o_val (ex_eql rfl rfl) ?_
      refine o_val (ex_move rfl) ?_
      refine o_and 4 (c := decide (y.al = 0) && decide (y.ah = 0)) (fun h => ?_) ?_
      · refine o_val_g (ex_field (o := 0) 3 fa47_2 rfl rfl) ?_
        refine o_val_g (ex_loadA Try.isAgg23 Try.sizeOf23 rfl) ?_
        refine o_val_g (ex_loadA Try.isAgg23 Try.sizeOf23 rfl) ?_
        exact o_val_g (ex_eql_23 rfl rfl) (o_nil (got rfl (.refl _)))
      refine o_val (ex_move rfl) ?_
      refine o_orN 8 (c := decide (y.kind = 2) && isSp y.al y.ah 0 100000) (fun h => ?_) ?_
      · refine o_val_g (ex_field (o := 0) 0 fa47_0 rfl rfl) ?_
        refine o_val_g (ex_load Try.isAgg45 rfl rfl) ?_
        refine o_val_g (ex_eql rfl rfl) ?_
        refine o_val_g (ex_move rfl) ?_
        refine o_and_g 3 (c := isSp y.al y.ah 0 100000) (fun h => ?_) (o_nil (got rfl (.refl _)))
        · refine o_val_g (ex_field (o := 0) 3 fa47_2 rfl rfl) ?_
          refine o_val_g (ex_loadA Try.isAgg23 Try.sizeOf23 rfl) ?_
          exact o_val_g (ex_call Try.call13 rfl (fun W hW => c13 y.al y.ah 0 100000)) (o_nil (got rfl (.refl _)))
      refine o_val (ex_assign rfl) (o_nil ?_)
      refine k_ret ?_
      exact fin1 rfl rfl fun W hW => ⟨by rw [Wa.chk12 (of_decide_eq_false h) h_1], hW.ext⟩

-- == f17 acme/acmeref09.Fine params [25, 47, 23] results [4] in [('tmp', ['6'])] ntmps 32 nfree 0
theorem c17 (b : Bo) (y : Wa) (wl wh : Int) {w : World} (hb : b.Ok) (hy : y.Fit) : Calls Try.prog 17 [.agg [.int .i64 b.lead, .int .i64 b.thread, .int .i64 b.head, .int .i64 b.tl, .int .i64 b.th, .int .i64 b.hl, .int .i64 b.hh, .int .i64 b.sl, .int .i64 b.sh, .int .i64 b.pl, .int .i64 b.ph, .int .i64 b.yl, .int .i64 b.yh].toArray, .agg [.int .i64 y.kind, .int .i64 y.tl, .int .i64 y.th, .int .i64 y.al, .int .i64 y.ah, .int .i64 y.sl, .int .i64 y.sh].toArray, .agg [.int .i64 wl, .int .i64 wh].toArray].toArray w fun e w' => e = .returned (.bool (fineB b wl wh y)) ∧ Ext [] w w' := by
  refine fn_start Try.func17 rfl (N := 32) rfl ?_
  refine k_seq (k_region ?_)
  refine o_box rfl (fun b3 => ?_)
  refine o_box rfl (fun b4 => ?_)
  refine o_box rfl (fun b5 => ?_)
  refine o_val (ex_assign rfl) (o_nil ?_)
  refine k_seq (k_region ?_)
  refine o_val (ex_loadA Try.isAgg25 Try.sizeOf25 rfl) ?_
  refine o_val (ex_loadA Try.isAgg47 Try.sizeOf47 rfl) ?_
  refine o_val (ex_call Try.call18 rfl (fun W hW => c18f b y hb hy)) ?_
  refine o_val (ex_move rfl) ?_
  refine o_val (ex_extract rfl rfl) ?_
  refine o_val (ex_extract rfl rfl) ?_
  refine o_val (ex_extract rfl rfl) ?_
  refine o_alloc Try.zeroValue23 (fun b7 => ?_)
  refine o_store Try.sizeOf23 rfl rfl ?_
  refine o_val (ex_assign rfl) ?_
  refine o_val (ex_assign rfl) (o_nil ?_)
  refine k_seq (k_region ?_)
  refine o_val (ex_move rfl) ?_
  refine o_val (ex_move rfl) ?_
  refine o_and 5 (c := decide (wl ≤ b.fLo y)) (fun h => ?_) ?_
  · refine o_val_g (ex_field (o := 0) 0 fa23_0 rfl rfl) ?_
    refine o_val_g (ex_load Try.isAgg3 rfl rfl) ?_
    refine o_val_g (ex_field (o := 0) 0 fa23_0 rfl rfl) ?_
    refine o_val_g (ex_load Try.isAgg3 rfl rfl) ?_
    exact o_val_g (ex_geq rfl rfl) (o_nil (got rfl (.refl _)))
  refine o_val (ex_move rfl) ?_
  refine o_and 5 (c := decide (b.fHi y ≤ wh)) (fun h => ?_) ?_
  · refine o_val_g (ex_field (o := 0) 1 fa23_1 rfl rfl) ?_
    refine o_val_g (ex_load Try.isAgg3 rfl rfl) ?_
    refine o_val_g (ex_field (o := 0) 1 fa23_1 rfl rfl) ?_
    refine o_val_g (ex_load Try.isAgg3 rfl rfl) ?_
    exact o_val_g (ex_leq rfl rfl) (o_nil (got rfl (.refl _)))
  refine o_val (ex_assign rfl) (o_nil ?_)
  refine k_ret ?_
  exact fin1 rfl rfl fun W hW => ⟨by rw [fine_ref hb hy], hW.ext⟩

end Go.Proofs.Yteecidddfcbabaa
