/- The iterator over the orders of which there are pieces between two numbers. -/
import Derived.Test.YtdflfnednaleeaaD5
namespace Go.Proofs.Ytdflfnednaleeaa
open Go
attribute [local irreducible] ExV Ex
set_option synthInstance.maxSize 2000
set_option synthInstance.maxHeartbeats 200000
set_option maxRecDepth 20000

theorem ShopAt.slice_cells {w : World} {b : Nat} {S : Sh} {A1 A2 A3 : Option Addr} {c1 c2 c3 : Nat} (h : ShopAt w b S A1 A2 A3 c1 c2 c3) :
    w.cell? ⟨b, 5, none⟩ = some (.slice A1 S.ws.length c1) ∧ w.cell? ⟨b, 6, none⟩ = some (.slice A2 S.os.length c2) ∧ w.cell? ⟨b, 7, none⟩ = some (.slice A3 (S.os.length + 1) c3) ∧ w.cell? ⟨b, 8, none⟩ = some (.bool S.down) := ⟨h.c 5 _ rfl, h.c 6 _ rfl, h.c 7 _ rfl, h.c 8 _ rfl⟩
theorem ShopAt.first {w : World} {b : Nat} {S : Sh} {A1 A2 A3 : Option Addr} {c1 c2 c3 : Nat} (h : ShopAt w b S A1 A2 A3 c1 c2 c3) {k : Nat} (hk : k ≤ S.os.length) : ∃ a, A3 = some a ∧ w.cell? (a.add (k * 1)) = some (.int .i64 (pre S.os k)) := by
  obtain ⟨a, e, hc⟩ := h.f k (by rw [firstL_len]; omega)
  have := hc 0 _ rfl
  rw [firstL_get hk, Addr.add_zero'] at this
  exact ⟨a, e, this⟩
/-- The number of all pieces. -/
theorem all64 {w : World} {b : Nat} {S : Sh} {A1 A2 A3 : Option Addr} {c1 c2 c3 : Nat} (hS : S.Ok) (h : ShopAt w b S A1 A2 A3 c1 c2 c3) : Calls Try.prog 64 [.pointer (some ⟨b, 0, none⟩)].toArray w fun e w' => e = .returned (.int .i64 (allP S.os)) ∧ Ext [] w w' := by
  obtain ⟨a, e, hc⟩ := h.first (Nat.le_refl _)
  subst e
  have n40 := hS.n40
  exact c64 (a := a) h.slice_cells.2.2.1 (by omega) (by omega) (by unfold allP; rw [← hc]; congr 2; omega)

/-- What is handed to the body: an order, and how many of its pieces. -/
def encP (S : Sh) (f t : Int) (i : Nat) : List Value := [odV (S.os.getD i dO), .int .i64 (cntP S.os f t i)]

theorem it105 {S : Sh} (hS : S.Ok) {b bs bf bt : Nat} {f t : Int} (hf : -1000000 ≤ f ∧ f ≤ 1000000) (ht : -1000000 ≤ t ∧ t ≤ 1000000) {Wb : World} {M : List Nat} {A1 A2 A3 : Option Addr} {c1 c2 c3 : Nat} (hshop : ∀ W, Ext M Wb W → ShopAt W b S A1 A2 A3 c1 c2 c3)
    (h1 : ∀ W, Ext M Wb W → W.cell? ⟨bs, 0, none⟩ = some (.pointer (some ⟨b, 0, none⟩))) (h2 : ∀ W, Ext M Wb W → W.cell? ⟨bt, 0, none⟩ = some (.int .i64 t)) (h3 : ∀ W, Ext M Wb W → W.cell? ⟨bf, 0, none⟩ = some (.int .i64 f)) :
    Iter Try.prog 105 [] [.pointer (some ⟨bs, 0, none⟩), .pointer (some ⟨bt, 0, none⟩), .pointer (some ⟨bf, 0, none⟩)] (encP S f t) (fun i => decide (0 < cntP S.os f t i)) S.os.length M Wb := by
  intro l J Jx W hJE hJ hJx hskip hY hJ0
  have n40 := hS.n40
  have q0 := hshop W (hJE 0 W hJ0)
  have q1 := h1 W (hJE 0 W hJ0)
  refine fn_startW (w0 := W) (M := []) (H := []) Try.func105 rfl (N := 48) rfl (by simp) (Sat.start W []) ?_
  refine k_seq (k_region ?_)
  refine o_val (ex_load_old Try.isAgg98 rfl q1 (by simp)) ?_
  refine o_val (ex_nilCheck rfl) ?_
  refine o_val (ex_field_old fa122_1 rfl) ?_
  refine o_val (ex_load_old Try.isAgg27 rfl (by rw [add_lit]; exact q0.slice_cells.2.1) (by simp)) ?_
  refine o_val (ex_len Try.runUnderlying27 rfl) ?_
  refine o_val (ex_move rfl) (o_nil ?_)
  refine k_block ?_
  refine k_loopJ (ι := Nat) (fun i => [(0, .func (.yield l) #[] #[]), (1, .pointer (some ⟨bs, 0, none⟩)), (2, .pointer (some ⟨bt, 0, none⟩)), (3, .pointer (some ⟨bf, 0, none⟩)), (11, .slice A2 S.os.length c2), (12, .int .i64 (S.os.length : Int)), (13, .int .i64 (i : Int))])
    (fun i X => i ≤ S.os.length ∧ J i X) (fun i => S.os.length - i) 0 (fun X hX => ⟨Nat.zero_le _, hJ 0 W X hJ0 hX.ext⟩) (Sub.cons rfl (Sub.cons rfl (Sub.cons rfl (Sub.cons rfl (Sub.cons rfl (Sub.cons rfl (Sub.cons rfl (Sub.nil _)))))))) (fun i W1 hi => ?_)
  obtain ⟨hi, hJi⟩ := hi
  have hsh := hshop W1 (hJE i W1 hJi)
  have p1 := h1 W1 (hJE i W1 hJi)
  have p2 := h2 W1 (hJE i W1 hJi)
  have p3 := h3 W1 (hJE i W1 hJi)
  refine k_seq (k_region ?_)
  refine o_val (ex_lss rfl rfl) (o_nil ?_)
  refine k_seq (k_cond rfl (fun h => ?_) (fun h => ?_))
  · have hlt : i < S.os.length := by have : (i : Int) < (S.os.length : Int) := of_decide_eq_true h; omega
    obtain ⟨a, hA, hc⟩ := hsh.o i hlt
    obtain ⟨g, hg, hc0⟩ := hsh.first (k := i) (by omega)
    obtain ⟨g', hg', hc1⟩ := hsh.first (k := i + 1) (by omega)
    rw [hg] at hg'
    cases hg'
    subst hA hg
    have pb := pre_bound hS.pc i (by omega)
    have pb1 := pre_bound hS.pc (i + 1) (by omega)
    refine k_skip ?_
    refine k_seq (k_block ?_)
    refine k_seq (k_region ?_)
    refine o_val (ex_move rfl) ?_
    refine o_val (ex_index_old Try.runUnderlying27 Try.sizeOf88 rfl rfl (by omega) (by omega)) ?_
    refine o_val (ex_loadA_old Try.isAgg88 Try.sizeOf88 rfl (vs := [.int .i64 S.os[i].pc, .int .i64 S.os[i].st, .int .i64 S.os[i].zl, .int .i64 S.os[i].zh]) rfl hc (by simp)) ?_
    refine o_alloc Try.zeroValue88 (fun b6 => ?_)
    refine o_val (ex_assign rfl) ?_
    refine o_store Try.sizeOf88 rfl rfl (o_nil ?_)
    refine k_seq (k_draw [true, true, true, true, true, true, true, true, true, true, true, true, true, true, true, true, true, true, true, true, false] 1 ?_ mixed (by kernel_rfl) rfl)
    refine d_val (i := 0) [] (ex_load_old Try.isAgg3 rfl p2 (by simp)) ?_
    refine d_val (i := 1) [] (ex_load_old Try.isAgg98 rfl p1 (by simp)) ?_
    refine d_val (i := 2) [] (ex_nilCheck rfl) ?_
    refine d_val (i := 3) [] (ex_field_old fa122_2 rfl) ?_
    refine d_val (i := 4) [] (ex_load_old Try.isAgg52 rfl (by rw [add_lit]; exact hsh.slice_cells.2.2.1) (by simp)) ?_
    refine d_val (i := 5) [] (ex_move rfl) ?_
    refine d_val (i := 6) [] (ex_add64 rfl rfl (by unfold I64; omega)) ?_
    refine d_val (i := 7) [] (ex_index_old Try.runUnderlying52 Try.sizeOf3 rfl rfl (by omega) (by omega)) ?_
    refine d_val (i := 8) [] (ex_load_old Try.isAgg3 rfl (by rw [show ((i : Int) + 1).toNat * 1 = (i + 1) * 1 by omega]; exact hc1) (by simp)) ?_
    refine d_val (i := 9) [] (ex_min rfl rfl) ?_
    refine d_val (i := 10) [] (ex_load_old Try.isAgg3 rfl p3 (by simp)) ?_
    refine d_val (i := 11) [] (ex_load_old Try.isAgg98 rfl p1 (by simp)) ?_
    refine d_val (i := 12) [] (ex_nilCheck rfl) ?_
    refine d_val (i := 13) [] (ex_field_old fa122_2 rfl) ?_
    refine d_val (i := 14) [] (ex_load_old Try.isAgg52 rfl (by rw [add_lit]; exact hsh.slice_cells.2.2.1) (by simp)) ?_
    refine d_val (i := 15) [] (ex_move rfl) ?_
    refine d_val (i := 16) [] (ex_index_old Try.runUnderlying52 Try.sizeOf3 rfl rfl (by omega) (by omega)) ?_
    refine d_val (i := 17) [] (ex_load_old Try.isAgg3 rfl (by rw [Int.toNat_natCast]; exact hc0) (by simp)) ?_
    refine d_val (i := 18) [] (ex_max rfl rfl) ?_
    refine d_val (i := 19) [] (exv_eq (show _ = Value.int .i64 (cntP S.os f t i) from rfl) (ex_sub64 rfl rfl (by unfold I64; omega))) ?_
    refine d_rest ?_
    refine d_nil ?_
    refine r_one 20 (rs_val rfl (ex_assign rfl) ?_) (by kernel_rfl)
    refine r_nil ?_ (by kernel_rfl)
    by_cases hm : 0 < cntP S.os f t i
    · refine k_seq (k_regionY ?_)
      refine y_ops (ι := Unit) 6 (fun _ => [(0, .func (.yield l) #[] #[]), (1, .pointer (some ⟨bs, 0, none⟩)), (2, .pointer (some ⟨bt, 0, none⟩)), (3, .pointer (some ⟨bf, 0, none⟩)), (11, .slice (some a) S.os.length c2), (12, .int .i64 (S.os.length : Int)), (13, .int .i64 (i : Int)), (40, .bool true), (41, .func (.yield l) #[] #[]),
        (42, odV S.os[i]), (43, .int .i64 (cntP S.os f t i))]) (fun _ => []) (fun _ => True) ?_ (fun _ _ => ?_)
      · refine o_val (ex_move rfl) ?_
        refine o_val (exv_eq (show _ = Value.bool true by rw [decide_eq_true hm]) (ex_gtr rfl rfl)) ?_
        refine o_val (ex_move rfl) ?_
        refine o_val_g (ex_move rfl) ?_
        refine o_val_g (ex_loadA Try.isAgg88 Try.sizeOf88 rfl) ?_
        refine o_val_g (ex_move rfl) (o_nil ?_)
        exact k_some () trivial (Sub.cons rfl (Sub.cons rfl (Sub.cons rfl (Sub.cons rfl (Sub.cons rfl (Sub.cons rfl (Sub.cons rfl (Sub.cons rfl (Sub.cons rfl (Sub.cons rfl (Sub.cons rfl (Sub.nil _)))))))))))) SubE.sub
      · refine y_yield (l := l) (vs := encP S f t i) (R' := fun v W' => (v = .bool true ∧ J (i + 1) W') ∨ (v = .bool false ∧ Jx W')) rfl rfl (by rw [encP, od_get hS hlt]; rfl) (fun W2 hW2 => ?_) (fun v W2 hv => ?_) (.inr ⟨40, true, rfl, rfl⟩)
        · obtain ⟨fn, tmps, assign, body, hy, hR⟩ := hY i W2 hlt (decide_eq_true hm) (hJ i W1 W2 hJi hW2.ext)
          refine ⟨fn, tmps, assign, body, hy, hR.mono fun e W' he => ?_⟩
          rcases he with ⟨rfl, he⟩ | ⟨rfl, he⟩
          · exact ⟨_, rfl, .inl ⟨rfl, he⟩⟩
          · exact ⟨_, rfl, .inr ⟨rfl, he⟩⟩
        · rcases hv with ⟨rfl, hJ1⟩ | ⟨rfl, hX⟩
          · refine y_end ?_
            refine o_val_g (ex_not rfl) ?_
            refine o_val (ex_pick rfl rfl) (o_nil ?_)
            refine k_false rfl ?_
            refine k_skip ?_
            refine k_region ?_
            refine o_val (ex_add64 rfl rfl (by unfold I64; omega)) ?_
            refine o_val (ex_move rfl) (o_nil ?_)
            exact k_someJ (i + 1) (by omega) (Sub.cons rfl (Sub.cons rfl (Sub.cons rfl (Sub.cons rfl (Sub.cons rfl (Sub.cons rfl (Sub.cons rfl (Sub.nil _)))))))) (fun X hX => ⟨hlt, hJ _ _ _ hJ1 hX.ext⟩)
          · refine y_end ?_
            refine o_val_g (ex_not rfl) ?_
            refine o_val (ex_pick rfl rfl) (o_nil ?_)
            refine k_true rfl ?_
            refine k_ret ?_
            exact fin0 rfl fun X hS1 => ⟨⟨_, rfl⟩, .inr (hJx _ _ hX hS1.ext)⟩
    · refine k_seq (k_region ?_)
      refine o_val (ex_move rfl) ?_
      refine o_val (exv_eq (show _ = Value.bool false by rw [decide_eq_false hm]) (ex_gtr rfl rfl)) ?_
      refine o_val (ex_move rfl) ?_
      refine o_and (b := false) 5 (c := false) (fun h => by cases h) (o_nil ?_)
      refine k_false rfl ?_
      refine k_skip ?_
      refine k_region ?_
      refine o_val (ex_add64 rfl rfl (by unfold I64; omega)) ?_
      refine o_val (ex_move rfl) (o_nil ?_)
      exact k_someJ (i + 1) (by omega) (Sub.cons rfl (Sub.cons rfl (Sub.cons rfl (Sub.cons rfl (Sub.cons rfl (Sub.cons rfl (Sub.cons rfl (Sub.nil _)))))))) (fun X hX => ⟨hlt, hskip i X hlt (decide_eq_false hm) (hJ _ _ _ hJi hX.ext)⟩)
  · have hge : i = S.os.length := by have : ¬ (i : Int) < (S.os.length : Int) := of_decide_eq_false h; omega
    subst hge
    refine k_exit rfl ?_
    try simp only [xlook, Nat.beq_refl, cond_true]
    exact fin0 rfl fun X hX => ⟨⟨_, rfl⟩, .inl (hJ _ _ _ hJi hX.ext)⟩

end Go.Proofs.Ytdflfnednaleeaa
