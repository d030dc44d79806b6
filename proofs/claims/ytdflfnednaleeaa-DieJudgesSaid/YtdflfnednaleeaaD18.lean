/- The walks of functions: what each call hands back, and that nothing that was there has turned. Printed by a program of this session (wip/tools/gen.py). -/
import Derived.Test.YtdflfnednaleeaaD17
namespace Go.Proofs.Ytdflfnednaleeaa
open Go
attribute [local irreducible] ExV Ex
set_option synthInstance.maxSize 2000
set_option synthInstance.maxHeartbeats 200000
set_option maxRecDepth 20000

/-- A size after n pieces. -/
def szN (t : To) (ws : List Sp) (z : Sp) (st : Int) : Nat → Sp
  | 0 => z
  | n + 1 => if t.down = true then ⟨(szN t ws z st n).lo - (wOf ws st).hi, (szN t ws z st n).hi - (wOf ws st).lo⟩ else ⟨(szN t ws z st n).lo + (wOf ws st).lo, (szN t ws z st n).hi + (wOf ws st).hi⟩
theorem szN_down {t : To} {ws : List Sp} {z : Sp} {st : Int} {n : Nat} (h : t.down = true) : szN t ws z st (n + 1) = ⟨(szN t ws z st n).lo - (wOf ws st).hi, (szN t ws z st n).hi - (wOf ws st).lo⟩ := if_pos h
theorem szN_up {t : To} {ws : List Sp} {z : Sp} {st : Int} {n : Nat} (h : t.down = false) : szN t ws z st (n + 1) = ⟨(szN t ws z st n).lo + (wOf ws st).lo, (szN t ws z st n).hi + (wOf ws st).hi⟩ := if_neg (by rw [h]; decide)
theorem wOf_bound {ws : List Sp} (h : ∀ s, s ∈ ws → s.lo ≤ s.hi ∧ 0 ≤ s.lo ∧ s.hi ≤ 100000) (st : Int) : 0 ≤ (wOf ws st).lo ∧ (wOf ws st).lo ≤ (wOf ws st).hi ∧ (wOf ws st).hi ≤ 100000 := by
  unfold wOf
  rw [List.getD_eq_getElem?_getD]
  cases hg : ws[st.toNat]? with
  | none => simp
  | some s => have := h s (List.mem_of_getElem? hg); simp only [Option.getD_some]; omega
theorem szN_bound {t : To} {ws : List Sp} (h : ∀ s, s ∈ ws → s.lo ≤ s.hi ∧ 0 ≤ s.lo ∧ s.hi ≤ 100000) {z : Sp} {st : Int} : ∀ n : Nat, z.lo - 100000 * n ≤ (szN t ws z st n).lo ∧ (szN t ws z st n).lo ≤ z.lo + 100000 * n ∧ z.hi - 100000 * n ≤ (szN t ws z st n).hi ∧ (szN t ws z st n).hi ≤ z.hi + 100000 * n
  | 0 => by unfold szN; omega
  | n + 1 => by
    have ih := szN_bound h (t := t) (z := z) (st := st) n
    have hw := wOf_bound h st
    unfold szN
    split <;> (dsimp only; omega)
theorem szN_eq (t : To) (ws : List Sp) (z : Sp) (st : Int) : ∀ n : Nat, szN t ws z st n = if t.down = true then ⟨z.lo - n * (wOf ws st).hi, z.hi - n * (wOf ws st).lo⟩ else ⟨z.lo + n * (wOf ws st).lo, z.hi + n * (wOf ws st).hi⟩
  | 0 => by unfold szN; simp
  | n + 1 => by
    unfold szN
    rw [szN_eq t ws z st n]
    have e : ∀ a : Int, ((n + 1 : Nat) : Int) * a = n * a + a := fun a => by rw [Int.natCast_add, Int.add_mul]; simp
    split <;> (rw [e, e]; congr 1 <;> (dsimp only; omega))
def lookC (t : To) (ws : List Sp) (z : Sp) (st : Int) (zn : Sp) (n : Nat) : Bool := decide (zn.lo ≤ (szN t ws z st n).lo + t.cl) && decide ((szN t ws z st n).hi + t.ch ≤ zn.hi)
theorem lead_ext {p q : Nat → Bool} (h : ∀ i, p i = q i) (n : Nat) : lead p n = lead q n := by rw [show p = q from funext h]
theorem looks_ok {t : To} {ws : List Sp} {z : Sp} {st : Int} {zn : Sp} (hok : toolE t ws = 0) (hb : (!isSp z.lo z.hi (-20000000000) 20000000000 || !isSp zn.lo zn.hi 0 10000000000) = false) (hst : ¬ wi 0 ((ws.length : Int) - 1) [st] = false) :
    looksR t ws z st zn = (((lead (lookC t ws z st zn) 10000 : Nat) : Int), 0) := by
  have ok := toolE_ok.1 hok
  have hw := wOf_bound ok.w st
  have e0 : looksR t ws z st zn = _ := (if_neg (by simp [hok])).trans ((if_neg (by rw [hb]; decide)).trans (if_neg hst))
  rw [e0]
  have hm : ∀ (n : Nat) (a : Int), 0 ≤ a → 0 ≤ (n : Int) * a := fun n a h => Int.mul_nonneg (by omega) h
  unfold turnS
  by_cases hd : t.down = true
  · rw [if_pos hd, if_pos hd, if_pos hd]
    dsimp only
    split
    · rename_i h
      rw [lead_is (lookC t ws z st zn) 10000 0 (by omega) (fun i hi => by omega) (fun _ => by unfold lookC szN; rw [Bool.and_eq_false_iff]; right; rw [decide_eq_false_iff_not]; omega)]
      rfl
    · rename_i h
      rw [lead_ext (q := lookC t ws z st zn) (fun i => by
        unfold lookC
        rw [szN_eq, if_pos hd]
        have := hm i (wOf ws st).lo (by omega)
        dsimp only
        rw [Bool.eq_iff_iff, Bool.not_eq_true', decide_eq_false_iff_not, Bool.and_eq_true, decide_eq_true_eq, decide_eq_true_eq]
        omega)]
  · rw [if_neg hd, if_neg hd, if_neg hd]
    dsimp only
    split
    · rename_i h
      rw [lead_is (lookC t ws z st zn) 10000 0 (by omega) (fun i hi => by omega) (fun _ => by unfold lookC szN; rw [Bool.and_eq_false_iff]; left; rw [decide_eq_false_iff_not]; omega)]
      rfl
    · rename_i h
      rw [lead_ext (q := lookC t ws z st zn) (fun i => by
        unfold lookC
        rw [szN_eq, if_neg hd]
        have := hm i (wOf ws st).lo (by omega)
        dsimp only
        rw [Bool.eq_iff_iff, Bool.not_eq_true', decide_eq_false_iff_not, Bool.and_eq_true, decide_eq_true_eq, decide_eq_true_eq]
        omega)]

-- == f47 acme/acmeref07.Looks params [26, 23, 3, 23] results [3] in [('tmp', ['8'])] ntmps 67 nfree 0
theorem c47 (t : To) (ws : List Sp) {A : Option Addr} {c : Nat} (z : Sp) (st : Int) (zn : Sp) {w : World} (hok : toolE t ws = 0) (hz : -20000000000 ≤ z.lo ∧ z.lo ≤ 20000000000 ∧ -20000000000 ≤ z.hi ∧ z.hi ≤ 20000000000) (hst : 0 ≤ st ∧ st < ws.length) (hws : ElAt w A ws) : Calls Try.prog 47 [.agg [.bool t.down, .int .i64 t.sl, .int .i64 t.sh, .int .i64 t.cl, .int .i64 t.ch, .slice A ws.length c].toArray, .agg [.int .i64 z.lo, .int .i64 z.hi].toArray, .int .i64 st, .agg [.int .i64 zn.lo, .int .i64 zn.hi].toArray].toArray w fun e w' => e = .returned (.int .i64 (lead (lookC t ws z st zn) 10000 : Nat)) ∧ Ext [] w w' := by
  have ok := toolE_ok.1 hok
  have oc := ok.c
  obtain ⟨a, hA, hc⟩ := hws st.toNat (by omega)
  subst hA
  have ewt : wOf ws st = ws[st.toNat]'(by omega) := by unfold wOf; simp [List.getD, List.getElem?_eq_getElem (show st.toNat < ws.length by omega)]
  have hwb := wOf_bound ok.w st
  refine fn_start Try.func47 rfl (N := 67) rfl ?_
  refine k_seq (k_region ?_)
  refine o_box rfl (fun b4 => ?_)
  refine o_box rfl (fun b5 => ?_)
  refine o_box rfl (fun b7 => ?_)
  refine o_val (ex_assign rfl) (o_nil ?_)
  refine k_seq (k_draw [true, true, true, true, true, false, false, false] 3 ?_ mixed (by kernel_rfl) rfl)
  refine d_val (i := 0) [] (ex_field (o := 0) 5 fa26_3 rfl rfl) ?_
  refine d_load (i := 1) Try.isAgg24 rfl rfl ?_
  refine d_val (i := 2) [] (ex_move rfl) ?_
  refine d_val (i := 3) [] (ex_index_old Try.runUnderlying24 Try.sizeOf23 rfl rfl (by omega) (by omega)) ?_
  refine d_val (i := 4) [] (ex_loadA_old Try.isAgg23 Try.sizeOf23 rfl rfl (vs := [.int .i64 (wOf ws st).lo, .int .i64 (wOf ws st).hi]) (by rw [ewt]; exact hc) (by simp)) ?_
  refine d_rest ?_
  refine d_rest ?_
  refine d_rest ?_
  refine d_nil ?_
  refine r_one 5 (rs_alloc rfl Try.zeroValue23 (fun b10 => ?_)) (by kernel_rfl)
  refine r_one 6 (rs_val rfl (ex_assign rfl) ?_) (by kernel_rfl)
  refine r_one 7 (rs_store [5, 4, 6, 0, 1, 2, 3, 4, 5, 6] rfl Try.sizeOf23 rfl rfl ?_) (by kernel_rfl)
  refine r_nil ?_ (by kernel_rfl)
  refine k_seq (k_block ?_)
  refine k_loop (ι := Nat) (fun k => [(4, .pointer (some ⟨b4, 0, none⟩)), (5, .pointer (some ⟨b5, 0, none⟩)), (7, .pointer (some ⟨b7, 0, none⟩)), (9, .int .i64 (k : Int)), (10, .pointer (some ⟨b10, 0, none⟩))]) (fun k => [⟨b10, 23, [.int .i64 (wOf ws st).lo, .int .i64 (wOf ws st).hi], true⟩, ⟨b7, 23, [.int .i64 zn.lo, .int .i64 zn.hi], true⟩, ⟨b5, 23, [.int .i64 (szN t ws z st k).lo, .int .i64 (szN t ws z st k).hi], true⟩, ⟨b4, 26, [.bool t.down, .int .i64 t.sl, .int .i64 t.sh, .int .i64 t.cl, .int .i64 t.ch, .slice (some a) ws.length c], true⟩]) (fun k => k ≤ 10000 ∧ ∀ i, i < k → lookC t ws z st zn i = true) (fun k => 10000 - k) 0 ⟨Nat.zero_le _, fun i hi => by omega⟩ (Sub.cons rfl (Sub.cons rfl (Sub.cons rfl (Sub.cons rfl (Sub.cons rfl (Sub.nil _)))))) (by unfold szN; exact SubE.sub) (fun k hk => ?_)
  obtain ⟨hk, hI⟩ := hk
  have hsb := szN_bound ok.w (t := t) (z := z) (st := st) k
  refine k_seq (k_seq (k_region ?_))
  refine o_val (ex_move rfl) ?_
  refine o_val (ex_lss rfl rfl) ?_
  refine o_val (ex_move rfl) ?_
  refine o_and 9 (c := decide (zn.lo ≤ (szN t ws z st k).lo + t.cl)) (fun h => ?_) ?_
  · refine o_val_g (ex_field (o := 0) 0 fa23_0 rfl rfl) ?_
    refine o_val_g (ex_load Try.isAgg3 rfl rfl) ?_
    refine o_val_g (ex_field (o := 0) 3 fa26_2 rfl rfl) ?_
    refine o_val_g (ex_field (o := 3) 3 fa23_0 rfl rfl) ?_
    refine o_val_g (ex_load Try.isAgg3 rfl rfl) ?_
    refine o_val_g (ex_add64 rfl rfl (by unfold I64; omega)) ?_
    refine o_val_g (ex_field (o := 0) 0 fa23_0 rfl rfl) ?_
    refine o_val_g (ex_load Try.isAgg3 rfl rfl) ?_
    exact o_val_g (ex_geq rfl rfl) (o_nil (got rfl (.refl _)))
  refine o_val (ex_move rfl) ?_
  refine o_and 9 (c := decide ((szN t ws z st k).hi + t.ch ≤ zn.hi)) (fun h => ?_) (o_nil ?_)
  · refine o_val_g (ex_field (o := 0) 1 fa23_1 rfl rfl) ?_
    refine o_val_g (ex_load Try.isAgg3 rfl rfl) ?_
    refine o_val_g (ex_field (o := 0) 3 fa26_2 rfl rfl) ?_
    refine o_val_g (ex_field (o := 3) 4 fa23_1 rfl rfl) ?_
    refine o_val_g (ex_load Try.isAgg3 rfl rfl) ?_
    refine o_val_g (ex_add64 rfl rfl (by unfold I64; omega)) ?_
    refine o_val_g (ex_field (o := 0) 1 fa23_1 rfl rfl) ?_
    refine o_val_g (ex_load Try.isAgg3 rfl rfl) ?_
    exact o_val_g (ex_leq rfl rfl) (o_nil (got rfl (.refl _)))
  refine k_cond rfl (fun h => ?_) (fun h => ?_)
  ·
    simp only [Bool.and_eq_true, decide_eq_true_eq] at h
    obtain ⟨⟨h1, h2⟩, h3⟩ := h
    have hlt : k < 10000 := by omega
    refine k_skip ?_
    refine k_block ?_
    refine k_seq (k_region ?_)
    refine o_val (ex_move rfl) ?_
    refine o_val (ex_add64 rfl rfl (by unfold I64; omega)) ?_
    refine o_val (ex_assign rfl) (o_nil ?_)
    refine k_seq (k_region ?_)
    refine o_val (ex_field (o := 0) 0 fa26_0 rfl rfl) ?_
    refine o_val (ex_load Try.isAgg4 rfl rfl) (o_nil ?_)
    refine k_cut (ι := Unit) (fun _ => [(4, .pointer (some ⟨b4, 0, none⟩)), (5, .pointer (some ⟨b5, 0, none⟩)), (7, .pointer (some ⟨b7, 0, none⟩)), (9, .int .i64 ((k + 1 : Nat) : Int)), (10, .pointer (some ⟨b10, 0, none⟩))]) (fun _ => [⟨b10, 23, [.int .i64 (wOf ws st).lo, .int .i64 (wOf ws st).hi], true⟩, ⟨b7, 23, [.int .i64 zn.lo, .int .i64 zn.hi], true⟩, ⟨b5, 23, [.int .i64 (szN t ws z st (k + 1)).lo, .int .i64 (szN t ws z st (k + 1)).hi], true⟩, ⟨b4, 26, [.bool t.down, .int .i64 t.sl, .int .i64 t.sh, .int .i64 t.cl, .int .i64 t.ch, .slice (some a) ws.length c], true⟩]) (fun _ => True) ?_ (fun _ _ => ?_)
    · refine k_cond rfl (fun h_1 => ?_) (fun h_1 => ?_)
      ·
        refine k_region ?_
        refine o_val (ex_field (o := 0) 0 fa23_0 rfl rfl) ?_
        refine o_val (ex_load Try.isAgg3 rfl rfl) ?_
        refine o_val (ex_field (o := 0) 1 fa23_1 rfl rfl) ?_
        refine o_val (ex_load Try.isAgg3 rfl rfl) ?_
        refine o_val (ex_sub64 rfl rfl (by unfold I64; omega)) ?_
        refine o_val (ex_field (o := 0) 1 fa23_1 rfl rfl) ?_
        refine o_val (ex_load Try.isAgg3 rfl rfl) ?_
        refine o_val (ex_field (o := 0) 0 fa23_0 rfl rfl) ?_
        refine o_val (ex_load Try.isAgg3 rfl rfl) ?_
        refine o_val (ex_sub64 rfl rfl (by unfold I64; omega)) ?_
        refine o_val (ex_build bf23 rfl) ?_
        refine o_store Try.sizeOf23 rfl rfl (o_nil ?_)
        exact k_some () trivial (Sub.cons rfl (Sub.cons rfl (Sub.cons rfl (Sub.cons rfl (Sub.cons rfl (Sub.nil _)))))) (by rw [szN_down h_1]; exact SubE.sub)
      ·
        refine k_region ?_
        refine o_val (ex_field (o := 0) 0 fa23_0 rfl rfl) ?_
        refine o_val (ex_load Try.isAgg3 rfl rfl) ?_
        refine o_val (ex_field (o := 0) 0 fa23_0 rfl rfl) ?_
        refine o_val (ex_load Try.isAgg3 rfl rfl) ?_
        refine o_val (ex_add64 rfl rfl (by unfold I64; omega)) ?_
        refine o_val (ex_field (o := 0) 1 fa23_1 rfl rfl) ?_
        refine o_val (ex_load Try.isAgg3 rfl rfl) ?_
        refine o_val (ex_field (o := 0) 1 fa23_1 rfl rfl) ?_
        refine o_val (ex_load Try.isAgg3 rfl rfl) ?_
        refine o_val (ex_add64 rfl rfl (by unfold I64; omega)) ?_
        refine o_val (ex_build bf23 rfl) ?_
        refine o_store Try.sizeOf23 rfl rfl (o_nil ?_)
        exact k_some () trivial (Sub.cons rfl (Sub.cons rfl (Sub.cons rfl (Sub.cons rfl (Sub.cons rfl (Sub.nil _)))))) (by rw [szN_up h_1]; exact SubE.sub)
    exact k_some (k + 1) ⟨⟨hlt, fun i hi => by
        by_cases e : i = k
        · subst e; unfold lookC; rw [decide_eq_true h2, decide_eq_true h3]; rfl
        · exact hI i (by omega)⟩, by omega⟩ (Sub.cons rfl (Sub.cons rfl (Sub.cons rfl (Sub.cons rfl (Sub.cons rfl (Sub.nil _)))))) SubE.sub
  ·
    refine k_exit rfl ?_
    refine k_seq (k_region ?_)
    refine o_val (ex_move rfl) ?_
    refine o_val (ex_assign rfl) (o_nil ?_)
    refine k_ret ?_
    exact fin1 rfl rfl fun W hW => ⟨by rw [lead_is (lookC t ws z st zn) 10000 k hk hI (fun hl => by rw [decide_eq_true (show (k : Int) < 10000 by omega), Bool.true_and] at h; exact h)], hW.ext⟩

end Go.Proofs.Ytdflfnednaleeaa
