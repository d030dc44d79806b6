/- The walks of functions: what each call hands back, and that nothing that was there has turned. Printed by a program of this session (wip/tools/gen.py). -/
import Derived.Test.YtdflfnednaleeaaD13
namespace Go.Proofs.Ytdflfnednaleeaa
open Go
attribute [local irreducible] ExV Ex
set_option synthInstance.maxSize 2000
set_option synthInstance.maxHeartbeats 200000
set_option maxRecDepth 20000

/-- Whether a target is among those of n pieces from one on. -/
def Sh.fits (S : Sh) (f tg : Int) (n : Nat) : Bool := wi (turnS S.down (S.tg f (f + n))).lo (turnS S.down (S.tg f (f + n))).hi [tg]
theorem fits_mono {S : Sh} (hS : S.Ok) {f tg : Int} (hf : 0 ≤ f) {m n : Nat} (h0 : 0 < m) (hmn : m ≤ n) (h : f + n ≤ allP S.os) (hc : S.fits f tg n = true) : S.fits f tg m = true := by
  have := ptg_mono S f hmn
  unfold Sh.fits at *
  rw [targets_pieces hS hf (by omega) h, wi_one, decide_eq_true_eq] at hc
  rw [targets_pieces hS hf h0 (by omega), wi_one, decide_eq_true_eq]
  unfold turnS at *
  by_cases hd : S.down = true
  · rw [if_pos hd] at hc ⊢; dsimp only at hc ⊢; omega
  · rw [if_neg hd] at hc ⊢; omega
theorem fits_anti {S : Sh} (hS : S.Ok) {f tg to : Int} (hf : 0 ≤ f) (hto : to ≤ allP S.os) {i j : Nat} (hij : i ≤ j) (h : j < (to - f).toNat) (hc : (!S.fits f tg (i + 1)) = true) : (!S.fits f tg (j + 1)) = true := by
  cases hj : S.fits f tg (j + 1) with
  | false => rfl
  | true => rw [fits_mono hS hf (m := i + 1) (n := j + 1) (by omega) (by omega) (by omega) hj] at hc; cases hc
/-- The first piece that is not sure with a setting, before another one. -/
def Sh.jud (S : Sh) (x : Stg) (to : Int) : Int := x.fr + lead (fun i => S.fits x.fr x.tg (i + 1)) (to - x.fr).toNat
theorem jud_bound (S : Sh) (x : Stg) {to : Int} (h : x.fr ≤ to) : x.fr ≤ S.jud x to ∧ S.jud x to ≤ to := by
  have := (lead_ok (fun i => S.fits x.fr x.tg (i + 1)) (to - x.fr).toNat).1
  unfold Sh.jud; omega
def isPlanB (S : Sh) (l : List Stg) : Bool := upB (allP S.os) (l.map Stg.fr) && !l.any (fun x => !wi (-10000000000) 20000000000 [x.tg])
def dS : Stg := ⟨0, 0⟩
def judTo (S : Sh) (l : List Stg) (i : Nat) : Int := if i + 1 < l.length then (l.getD (i + 1) dS).fr else allP S.os
def judL (S : Sh) (l : List Stg) : Nat → Nat → Int
  | 0, _ => allP S.os
  | n + 1, i => if S.jud (l.getD i dS) (judTo S l i) < judTo S l i then S.jud (l.getD i dS) (judTo S l i) else judL S l n (i + 1)
theorem judL_zero (S : Sh) (l : List Stg) (i : Nat) : judL S l 0 i = allP S.os := rfl
theorem judL_succ (S : Sh) (l : List Stg) (n i : Nat) : judL S l (n + 1) i = if S.jud (l.getD i dS) (judTo S l i) < judTo S l i then S.jud (l.getD i dS) (judTo S l i) else judL S l n (i + 1) := rfl
def judR (t : To) (ws : List Sp) (os : List Od) (l : List Stg) : Int × Int :=
  if ¬ chkE t ws os = 0 then (0, chkE t ws os) else if 1000 < l.length then (0, 5) else if isPlanB (openS t ws os) l = false then (0, 2) else
  if l.length = 0 ∨ 0 < (l.getD 0 dS).fr then (0, 0) else (judL (openS t ws os) l l.length 0, 0)
def provL (S : Sh) (l : List Int) : Nat → Nat → Int
  | 0, _ => -1
  | n + 1, i => if S.can (l.getD i 0) (l.getD (i + 1) 0 + 1) = true then i else provL S l n (i + 1)
theorem provL_zero (S : Sh) (l : List Int) (i : Nat) : provL S l 0 i = -1 := rfl
theorem provL_succ (S : Sh) (l : List Int) (n i : Nat) : provL S l (n + 1) i = if S.can (l.getD i 0) (l.getD (i + 1) 0 + 1) = true then (i : Int) else provL S l n (i + 1) := rfl
def provR (t : To) (ws : List Sp) (os : List Od) (l : List Int) : Int × Int :=
  if ¬ chkE t ws os = 0 then (0, chkE t ws os) else if 1000 < l.length then (0, 5) else if upB (allP (openS t ws os).os) l = false then (0, 2) else (provL (openS t ws os) l (l.length - 1) 0, 0)
theorem upB_at {all : Int} {l : List Int} (h : upB all l = true) {i : Nat} (hi : i < l.length) : 0 ≤ l.getD i 0 ∧ l.getD i 0 ≤ all - 1 ∧ (i + 1 < l.length → l.getD i 0 < l.getD (i + 1) 0) := by
  unfold upB at h
  simp only [Bool.and_eq_true] at h
  obtain ⟨⟨h1, h2⟩, h3⟩ := h
  have hw : wi 0 (all - 1) [l.getD i 0] = true := by
    unfold wi at h1 ⊢
    rw [Bool.not_eq_true', List.any_eq_false] at h1
    rw [Bool.not_eq_true', List.any_eq_false]
    intro x hx
    rw [List.mem_singleton.1 hx]
    exact h1 _ (by rw [getD_at hi]; exact List.getElem_mem hi)
  rw [wi_one, decide_eq_true_eq] at hw
  refine ⟨hw.1, hw.2, fun h4 => ?_⟩
  have a := ascB_iff.1 h2 (i + 1) (by omega) h4
  have b := neB_iff.1 h3 (i + 1) (by omega) h4
  rw [show i + 1 - 1 = i by omega] at a b
  omega
theorem sGetD {l : List Stg} {i : Nat} (h : i < l.length) : l.getD i dS = l[i] := by simp [List.getD, List.getElem?_eq_getElem h]
theorem frGetD (l : List Stg) (i : Nat) (h : i < l.length) : (l.map Stg.fr).getD i 0 = (l.getD i dS).fr := by rw [getD_at (by simpa using h), sGetD h]; simp
theorem isPlan_at {S : Sh} {l : List Stg} (h : isPlanB S l = true) {i : Nat} (hi : i < l.length) : 0 ≤ (l.getD i dS).fr ∧ (l.getD i dS).fr ≤ allP S.os - 1 ∧ (i + 1 < l.length → (l.getD i dS).fr < (l.getD (i + 1) dS).fr) := by
  unfold isPlanB at h
  rw [Bool.and_eq_true] at h
  have := upB_at h.1 (i := i) (by simpa using hi)
  rw [frGetD l i hi] at this
  refine ⟨this.1, this.2.1, fun h2 => ?_⟩
  have h3 := this.2.2 (by simpa using h2)
  rw [frGetD l (i + 1) h2] at h3
  exact h3
theorem judTo_bound {S : Sh} {l : List Stg} (h : isPlanB S l = true) {i : Nat} (hi : i < l.length) : (l.getD i dS).fr ≤ judTo S l i ∧ judTo S l i ≤ allP S.os := by
  have h1 := isPlan_at h hi
  unfold judTo
  split
  · rename_i h2
    have := isPlan_at h h2
    have := h1.2.2 h2
    omega
  · omega
theorem provL_bound (S : Sh) (l : List Int) : ∀ n i, -1 ≤ provL S l n i ∧ provL S l n i ≤ i + n
  | 0, i => by unfold provL; omega
  | n + 1, i => by
    have := provL_bound S l n (i + 1)
    unfold provL
    split <;> omega

-- == f75 (*acme/die.shop).isPlan params [98, 43] results [4] in [('tmp', ['4'])] ntmps 28 nfree 0
theorem c75 (S : Sh) (l : List Stg) {A : Option Addr} {c b : Nat} (hS : S.Ok) (hl : l.length ≤ 1000) {A1 A2 A3 : Option Addr} {c1 c2 c3 : Nat} {w : World} (hshop : ShopAt w b S A1 A2 A3 c1 c2 c3) (hrow : ElAt w A l) : Calls Try.prog 75 [.pointer (some ⟨b, 0, none⟩), .slice A l.length c].toArray w fun e w' => e = .returned (.bool (isPlanB S l)) ∧ Ext [] w w' := by
  refine fn_start Try.func75 rfl (N := 28) rfl ?_
  refine k_seq (k_region ?_)
  refine o_val (ex_assign rfl) (o_nil ?_)
  refine k_seq (k_region ?_)
  refine o_val (ex_assign rfl) (o_nil ?_)
  refine k_seq (k_seq (k_region ?_))
  refine o_val (ex_move rfl) ?_
  refine o_val (ex_len Try.runUnderlying43 rfl) ?_
  refine o_val (ex_move rfl) (o_nil ?_)
  refine k_block ?_
  refine k_loop (ι := OI) (fun k => [(0, .pointer (some ⟨b, 0, none⟩)), (1, .slice A l.length c), (5, k.v), (8, .slice A l.length c), (9, .int .i64 (l.length : Int)), (10, .int .i64 (k.k : Int))]) (fun k => k.x ++ []) (fun k => k.k ≤ l.length ∧ OwnsV 3 1 k.v k.k (((l.take k.k).map Stg.fr).map (Value.int .i64)) k.x) (fun k => l.length - k.k) ⟨0, .slice none 0 0, []⟩ ⟨Nat.zero_le _, OwnsV.nil 3 1⟩ (Sub.cons rfl (Sub.cons rfl (Sub.cons rfl (Sub.cons rfl (Sub.cons rfl (Sub.cons rfl (Sub.nil _))))))) (List.Sublist.refl _) (fun k hk => ?_)
  obtain ⟨k, v, x⟩ := k
  obtain ⟨hk, hO⟩ := hk
  dsimp only at hk hO ⊢
  refine k_seq (k_region ?_)
  refine o_val (ex_lss rfl rfl) (o_nil ?_)
  refine k_seq (k_cond rfl (fun h => ?_) (fun h => ?_))
  ·
    have hlt : k < l.length := by have : (k : Int) < (l.length : Int) := of_decide_eq_true h; omega
    obtain ⟨a, hA, hc⟩ := hrow k hlt
    subst hA
    refine k_skip ?_
    refine k_seq (k_block ?_)
    refine k_seq (k_region ?_)
    refine o_val (ex_index_old Try.runUnderlying43 Try.sizeOf51 rfl rfl (by omega) (by omega)) ?_
    refine o_val (ex_loadA_old Try.isAgg51 Try.sizeOf51 rfl rfl (vs := [.int .i64 l[k].fr, .int .i64 l[k].tg]) hc (by simp)) ?_
    refine o_alloc Try.zeroValue51 (fun b7 => ?_)
    refine o_store Try.sizeOf51 rfl rfl (o_nil ?_)
    refine k_region ?_
    refine o_val (ex_move rfl) ?_
    refine o_val (ex_field (o := 0) 0 fa51_0 rfl rfl) ?_
    refine o_val (ex_load Try.isAgg3 rfl rfl) ?_
    refine o_buildSlice [.int .i64 0] [(0, 1)] Try.runUnderlying52 Try.sizeOf3 Try.zeroValue3 rfl (fun b17 => ?_)
    refine o_append (bytes := 8) hO Try.underlying52 (by kernel_rfl) rfl rfl (by unfold maxLen; omega) (by omega) (fun v18 x18 o18 => ?_)
    refine o_val (ex_assign rfl) (o_nil ?_)
    refine k_region ?_
    refine o_val (ex_add64 rfl rfl (by unfold I64; omega)) ?_
    refine o_val (ex_move rfl) (o_nil ?_)
    exact k_some ⟨k + 1, v18, x18⟩ ⟨⟨hlt, o18.cast rfl (by rw [List.take_succ_eq_append_getElem hlt, List.map_append, List.map_append]; rfl)⟩, (by show l.length - (k + 1) < l.length - k; omega)⟩ (Sub.cons rfl (Sub.cons rfl (Sub.cons rfl (Sub.cons rfl (Sub.cons rfl (Sub.cons rfl (Sub.nil _))))))) SubE.sub
  ·
    have hge : k = l.length := by have : ¬ (k : Int) < (l.length : Int) := of_decide_eq_false h; omega
    subst hge
    rw [List.take_length] at hO
    obtain ⟨A5, c5, e5, h5⟩ := own_els (l := l.map Stg.fr) (hO.cast (by simp) (int_flat _).symm)
    subst e5
    refine k_exit rfl ?_
    refine k_seq (k_region ?_)
    refine o_val (ex_move rfl) ?_
    refine o_val (ex_move rfl) ?_
    refine o_val (ex_call Try.call77 rfl (fun W hW => c77 S (l.map Stg.fr) hS (by simpa using hl) (hshop.ext hW.ext) (h5 _ _ W (hW.drop (List.sublist_append_left _ _))))) ?_
    refine o_val (ex_move rfl) ?_
    refine o_and 3 (c := !l.any (fun x : Stg => !wi (-10000000000) 20000000000 [x.tg])) (fun h => ?_) ?_
    · refine o_val_g (ex_move rfl) ?_
      refine o_val_g (ex_call Try.call96 rfl (fun W hW => (by exact c96 (g := 97) (cap := []) (fun x : Stg => !wi (-10000000000) 20000000000 [x.tg]) l (by omega) Try.call97 (hrow.ext hW.ext) (fun x _ W1 _ => c97 x)))) ?_
      exact o_val_g (ex_not rfl) (o_nil (got rfl (.refl _)))
    refine o_val (ex_assign rfl) (o_nil ?_)
    refine k_ret ?_
    exact fin1 rfl rfl fun W hW => ⟨by unfold isPlanB; rfl, hW.ext⟩

-- == f99 (*acme/die.shop).judge$1 params [3] results [4] in [('tmp', ['4'])] ntmps 26 nfree 2
theorem c99 (S : Sh) (x : Stg) (i : Int) {b b2 b3 : Nat} (hS : S.Ok) (hf : -500000 ≤ x.fr ∧ x.fr ≤ 400000) (hi : 0 ≤ i ∧ i ≤ 400000) {A1 A2 A3 : Option Addr} {c1 c2 c3 : Nat} {w : World} (hshop : ShopAt w b S A1 A2 A3 c1 c2 c3) (h2 : w.cell? ⟨b2, 0, none⟩ = some (.pointer (some ⟨b, 0, none⟩))) (h3 : w.cell? ⟨b3, 0, none⟩ = some (.int .i64 x.fr)) (h4 : w.cell? ⟨b3, 1, none⟩ = some (.int .i64 x.tg)) : Calls Try.prog 99 [.int .i64 i, .pointer (some ⟨b2, 0, none⟩), .pointer (some ⟨b3, 0, none⟩)].toArray w fun e w' => e = .returned (.bool (!wi (turnS S.down (S.tg x.fr (x.fr + i + 1))).lo (turnS S.down (S.tg x.fr (x.fr + i + 1))).hi [x.tg])) ∧ Ext [] w w' := by
  refine fn_start Try.func99 rfl (N := 26) rfl ?_
  refine k_seq (k_region ?_)
  refine o_val (ex_assign rfl) (o_nil ?_)
  refine k_seq (k_draw [true, true, true, true, true, true, true, true, true, true, true, false, false] 2 ?_ mixed (by kernel_rfl) rfl)
  refine d_val (i := 0) [] (ex_load_old Try.isAgg98 rfl h2 (by simp)) ?_
  refine d_val (i := 1) [] (ex_load_old Try.isAgg98 rfl h2 (by simp)) ?_
  refine d_val (i := 2) [] (ex_field_old fa51_0 rfl) ?_
  refine d_val (i := 3) [] (ex_load_old Try.isAgg3 rfl (by rw [add_lit]; exact h3) (by simp)) ?_
  refine d_val (i := 4) [] (ex_field_old fa51_0 rfl) ?_
  refine d_val (i := 5) [] (ex_load_old Try.isAgg3 rfl (by rw [add_lit]; exact h3) (by simp)) ?_
  refine d_val (i := 6) [] (ex_move rfl) ?_
  refine d_val (i := 7) [] (ex_add64 rfl rfl (by unfold I64; omega)) ?_
  refine d_val (i := 8) [] (ex_add64 rfl rfl (by unfold I64; omega)) ?_
  refine d_val (i := 9) [] (ex_call Try.call68 rfl (fun W hW => c68 S x.fr (x.fr + i + 1) hS (by omega) (by omega) (hshop.ext hW.ext))) ?_
  refine d_val (i := 10) [] (ex_call Try.call67 rfl (fun W hW => c67 S _ _ (by have := tgS_bound hS x.fr (x.fr + i + 1) S.os.length (Nat.le_refl _); unfold I64 Sh.tg; dsimp only; omega) (by have := tgS_bound hS x.fr (x.fr + i + 1) S.os.length (Nat.le_refl _); unfold I64 Sh.tg; dsimp only; omega) (hshop.ext hW.ext))) ?_
  refine d_rest ?_
  refine d_rest ?_
  refine d_nil ?_
  refine r_one 11 (rs_alloc rfl Try.zeroValue23 (fun b5 => ?_)) (by kernel_rfl)
  refine r_one 12 (rs_store [11, 10, 10, 0, 1, 2, 3, 4, 5, 6, 7, 8, 9, 10, 11] rfl Try.sizeOf23 rfl rfl ?_) (by kernel_rfl)
  refine r_nil ?_ (by kernel_rfl)
  refine k_seq (k_region ?_)
  refine o_val (ex_field (o := 0) 0 fa23_0 rfl rfl) ?_
  refine o_val (ex_load Try.isAgg3 rfl rfl) ?_
  refine o_val (ex_field (o := 0) 1 fa23_1 rfl rfl) ?_
  refine o_val (ex_load Try.isAgg3 rfl rfl) ?_
  refine o_val (ex_field_old fa51_1 rfl) ?_
  refine o_val (ex_load_old Try.isAgg3 rfl (by rw [add_lit]; exact h4) (by simp)) ?_
  refine o_buildSlice [.int .i64 0] [(0, 1)] Try.runUnderlying52 Try.sizeOf3 Try.zeroValue3 rfl (fun b23 => ?_)
  refine o_val (ex_call Try.call60 rfl (fun W hW => c60 (turnS S.down (S.tg x.fr (x.fr + i + 1))).lo (turnS S.down (S.tg x.fr (x.fr + i + 1))).hi [x.tg] (by simp) (el_ent hW b23 [x.tg] rfl))) ?_
  refine o_val (ex_not rfl) ?_
  refine o_val (ex_assign rfl) (o_nil ?_)
  refine k_ret ?_
  exact fin1 rfl rfl fun W hW => ⟨rfl, hW.ext⟩

-- == f76 (*acme/die.shop).judge params [98, 51, 3] results [3] in [('tmp', ['6'])] ntmps 16 nfree 0
theorem c76 (S : Sh) (x : Stg) (to : Int) {b : Nat} (hS : S.Ok) (hf : 0 ≤ x.fr ∧ x.fr ≤ to) (hto : to ≤ allP S.os) {A1 A2 A3 : Option Addr} {c1 c2 c3 : Nat} {w : World} (hshop : ShopAt w b S A1 A2 A3 c1 c2 c3) : Calls Try.prog 76 [.pointer (some ⟨b, 0, none⟩), .agg [.int .i64 x.fr, .int .i64 x.tg].toArray, .int .i64 to].toArray w fun e w' => e = .returned (.int .i64 (S.jud x to)) ∧ Ext [] w w' := by
  refine fn_start Try.func76 rfl (N := 16) rfl ?_
  refine k_seq (k_region ?_)
  refine o_box rfl (fun b3 => ?_)
  refine o_box rfl (fun b4 => ?_)
  refine o_val (ex_assign rfl) (o_nil ?_)
  refine k_seq (k_draw [true, true, true, true, true, true, true, true, true, false] 1 ?_ mixed (by kernel_rfl) rfl)
  refine d_val (i := 0) [] (ex_field (o := 0) 0 fa51_0 rfl rfl) ?_
  refine d_load (i := 1) Try.isAgg3 rfl rfl ?_
  refine d_val (i := 2) [] (ex_move rfl) ?_
  refine d_val (i := 3) [] (ex_field (o := 0) 0 fa51_0 rfl rfl) ?_
  refine d_load (i := 4) Try.isAgg3 rfl rfl ?_
  refine d_val (i := 5) [] (ex_sub64 rfl rfl (by have := hS.all; unfold I64; omega)) ?_
  refine d_val (i := 6) [] (ex_makeFunc rfl rfl) ?_
  refine d_val (i := 7) [⟨b4, 51, [.int .i64 x.fr, .int .i64 x.tg], true⟩, ⟨b3, 98, [.pointer (some ⟨b, 0, none⟩)], true⟩] (ex_call (vs := [.int .i64 (to - x.fr), .func (.func 99) [].toArray [.pointer (some ⟨b3, 0, none⟩), .pointer (some ⟨b4, 0, none⟩)].toArray]) (v := .int .i64 (lead (fun i => S.fits x.fr x.tg (i + 1)) (to - x.fr).toNat : Int)) Try.call82 rfl (fun W hW => by
      have hall := hS.all
      have e : to - x.fr = ((to - x.fr).toNat : Int) := by omega
      rw [e]
      have hh := c82 (g := 99) (cap := [.pointer (some ⟨b3, 0, none⟩), .pointer (some ⟨b4, 0, none⟩)]) (fun i => !S.fits x.fr x.tg (i + 1)) (to - x.fr).toNat (by omega) Try.call99 (fun i j hij hj hp => fits_anti hS hf.1 hto hij hj hp) (fun i hi X hX => by
        have hE := hW.ext.trans0 hX
        have h := c99 S x i (b := b) (b2 := b3) (b3 := b4) hS (by omega) (by omega) (hshop.ext hE) ((cell_ent (hW.ext0 hX) (b := b3) (o := 0) rfl)) ((cell_ent (hW.ext0 hX) (b := b4) (o := 0) rfl)) ((cell_ent (hW.ext0 hX) (b := b4) (o := 1) rfl))
        rw [show x.fr + (i : Int) + 1 = x.fr + ((i + 1 : Nat) : Int) by omega] at h
        exact h)
      simp only [Bool.not_not] at hh
      exact hh)) ?_
  refine d_val (i := 8) [] (ex_add64 rfl rfl (by have := hS.all; have := jud_bound S x hf.2; unfold I64; unfold Sh.jud at this; omega)) ?_
  refine d_rest ?_
  refine d_nil ?_
  refine r_one 9 (rs_val rfl (ex_assign rfl) ?_) (by kernel_rfl)
  refine r_nil ?_ (by kernel_rfl)
  refine k_ret ?_
  exact fin1 rfl rfl fun W hW => ⟨rfl, hW.ext⟩

-- == f34 acme/die.Judge params [26, 27, 43] results [3, 33] in [('tmp', ['6']), ('tmp', ['7'])] ntmps 72 nfree 0
theorem c34 (t : To) (ws : List Sp) {A : Option Addr} {c : Nat} (os : List Od) {A2 : Option Addr} {c2 : Nat} (l : List Stg) {A5 : Option Addr} {c5 : Nat} {w : World} (hws : ElAt w A ws) (hos : ElAt w A2 os) (hl : l.length < 4611686018427387904) (hrow : ElAt w A5 l) : Calls Try.prog 34 [.agg [.bool t.down, .int .i64 t.sl, .int .i64 t.sh, .int .i64 t.cl, .int .i64 t.ch, .slice A ws.length c].toArray, .slice A2 os.length c2, .slice A5 l.length c5].toArray w fun e w' => e = .returned (.tuple #[.int .i64 (judR t ws os l).1, .int .i64 (judR t ws os l).2]) ∧ Ext [] w w' := by
  refine fn_start Try.func34 rfl (N := 72) rfl ?_
  refine k_seq (k_region ?_)
  refine o_box rfl (fun b3 => ?_)
  refine o_val (ex_assign rfl) ?_
  refine o_val (ex_assign rfl) (o_nil ?_)
  refine k_seq (k_region ?_)
  refine o_val (ex_loadA Try.isAgg26 Try.sizeOf26 rfl) ?_
  refine o_val (ex_move rfl) ?_
  refine o_callB Try.call63 rfl (fun W hW => c63b t ws os (c := c) (c2 := c2) (hws.ext hW.ext) (hos.ext hW.ext)) (fun v16 x16 o16 => ?_)
  obtain ⟨v0, e16, op16⟩ := o16
  subst e16
  refine o_val (ex_move rfl) ?_
  refine o_val (ex_extract rfl rfl) ?_
  refine o_val (ex_extract rfl rfl) ?_
  refine o_val (ex_assign rfl) ?_
  refine o_val (ex_assign rfl) (o_nil ?_)
  refine k_seq (k_block ?_)
  refine k_seq (k_region ?_)
  refine o_val (ex_move rfl) ?_
  refine o_val (ex_neq rfl rfl) ?_
  refine o_val (ex_assign rfl) (o_nil ?_)
  refine k_cond rfl (fun h => ?_) (fun h => ?_)
  ·
    have hn : ¬ chkE t ws os = 0 := fun e => by simp [e] at h
    refine k_seq (k_region ?_)
    refine o_val (ex_move rfl) ?_
    refine o_val (ex_assign rfl) ?_
    refine o_val (ex_assign rfl) (o_nil ?_)
    refine k_ret ?_
    exact fin2 rfl rfl rfl fun W hW => ⟨by rw [show judR t ws os l = (0, chkE t ws os) from if_pos hn], hW.ext⟩
  ·
    have hok : chkE t ws os = 0 := by simpa using h
    have hS := openS_ok hok
    have hall := hS.all
    obtain ⟨b, A3, c3, A4, c4, rfl, hop⟩ := op16 hok
    have hsh : ∀ {W : World} {H' : Hp}, Sat w [] H' W → x16.Sublist H' → ShopAt W b (openS t ws os) A A3 A4 c c3 c4 := fun hW hs => hop _ (fun e he => hW.at_ e (hs.subset he)) (hws.ext hW.ext) (hos.ext hW.ext)
    refine k_seq (k_region ?_)
    refine o_val (ex_move rfl) ?_
    refine o_val (ex_len Try.runUnderlying43 rfl) ?_
    refine o_val (ex_gtr rfl rfl) ?_
    refine o_val (ex_assign rfl) (o_nil ?_)
    refine k_cond rfl (fun h_1 => ?_) (fun h_1 => ?_)
    ·
      refine k_seq (k_region ?_)
      refine o_val (ex_assign rfl) ?_
      refine o_val (ex_assign rfl) (o_nil ?_)
      refine k_ret ?_
      exact fin2 rfl rfl rfl fun W hW => ⟨by rw [show judR t ws os l = (0, 5) from (if_neg (by simp [hok])).trans (if_pos (by have : (1000 : Int) < (l.length : Int) := of_decide_eq_true h_1; omega))], hW.ext⟩
    ·
      have hl2 : ¬ 1000 < l.length := by have : ¬ (1000 : Int) < (l.length : Int) := of_decide_eq_false h_1; omega
      refine k_seq (k_region ?_)
      refine o_val (ex_move rfl) ?_
      refine o_val (ex_move rfl) ?_
      refine o_val (ex_call Try.call75 rfl (fun W hW => c75 (openS t ws os) l hS (by omega) (hsh hW (List.sublist_append_left _ _)) (hrow.ext hW.ext))) ?_
      refine o_val (ex_not rfl) ?_
      refine o_val (ex_assign rfl) (o_nil ?_)
      refine k_cond rfl (fun h_2 => ?_) (fun h_2 => ?_)
      ·
        have hpl : isPlanB (openS t ws os) l = false := by simpa using h_2
        refine k_seq (k_region ?_)
        refine o_val (ex_assign rfl) ?_
        refine o_val (ex_assign rfl) (o_nil ?_)
        refine k_ret ?_
        exact fin2 rfl rfl rfl fun W hW => ⟨by rw [show judR t ws os l = (0, 2) from (if_neg (by simp [hok])).trans ((if_neg hl2).trans (if_pos hpl))], hW.ext⟩
      ·
        have hpl : isPlanB (openS t ws os) l = true := by simpa using h_2
        have hplf : ¬ isPlanB (openS t ws os) l = false := by rw [hpl]; decide
        refine k_seq (k_seq (k_region ?_))
        refine o_val (ex_move rfl) ?_
        refine o_val (ex_len Try.runUnderlying43 rfl) ?_
        refine o_val (ex_eql rfl rfl) ?_
        refine o_val (ex_assign rfl) (o_nil ?_)
        refine k_cut (ι := Unit) (fun _ => [(2, .slice A5 l.length c5), (8, .pointer (some ⟨b, 0, none⟩)), (32, .bool (decide (l.length = 0 ∨ 0 < (l.getD 0 dS).fr)))]) (fun _ => x16 ++ []) (fun _ => True) ?_ (fun _ _ => ?_)
        · refine k_cond rfl (fun h_3 => ?_) (fun h_3 => ?_)
          ·
            have h0 : l.length = 0 := by have : (l.length : Int) = 0 := of_decide_eq_true h_3; omega
            refine k_skip ?_
            exact k_some () trivial (Sub.cons rfl (Sub.cons rfl (Sub.cons' rfl (by rw [h_3, decide_eq_true (Or.inl h0)]) (Sub.nil _)))) SubE.sub
          ·
            have h0 : ¬ l.length = 0 := by have : ¬ (l.length : Int) = 0 := of_decide_eq_false h_3; omega
            obtain ⟨a, hA, hc0⟩ := hrow 0 (by omega)
            subst hA
            have hc1 := hc0 0 (.int .i64 l[0].fr) rfl
            refine k_region ?_
            refine o_val (ex_move rfl) ?_
            refine o_val (ex_index_old Try.runUnderlying43 Try.sizeOf51 rfl rfl (by omega) (by omega)) ?_
            refine o_val (ex_field_old fa51_0 rfl) ?_
            refine o_val (ex_load_old Try.isAgg3 rfl (by simpa [add_lit, Addr.add_zero'] using hc1) (by simp)) ?_
            refine o_val (ex_gtr rfl rfl) ?_
            refine o_val (ex_assign rfl) (o_nil ?_)
            exact k_some () trivial (Sub.cons rfl (Sub.cons rfl (Sub.cons' rfl (by rw [sGetD (show 0 < l.length by omega)]; congr 1; rw [decide_eq_decide]; omega) (Sub.nil _)))) SubE.sub
        refine k_cond rfl (fun h_3 => ?_) (fun h_3 => ?_)
        ·
          have hz : l.length = 0 ∨ 0 < (l.getD 0 dS).fr := of_decide_eq_true h_3
          refine k_seq (k_region ?_)
          refine o_val (ex_assign rfl) ?_
          refine o_val (ex_assign rfl) (o_nil ?_)
          refine k_ret ?_
          exact fin2 rfl rfl rfl fun W hW => ⟨by rw [show judR t ws os l = (0, 0) from (if_neg (by simp [hok])).trans ((if_neg hl2).trans ((if_neg hplf).trans (if_pos hz)))], hW.ext⟩
        ·
          have hz : ¬ (l.length = 0 ∨ 0 < (l.getD 0 dS).fr) := of_decide_eq_false h_3
          have hjr : judR t ws os l = (judL (openS t ws os) l l.length 0, 0) := (if_neg (by simp [hok])).trans ((if_neg hl2).trans ((if_neg hplf).trans (if_neg hz)))
          refine k_skip ?_
          refine k_seq (k_seq (k_region ?_))
          refine o_val (ex_move rfl) ?_
          refine o_val (ex_len Try.runUnderlying43 rfl) ?_
          refine o_val (ex_move rfl) (o_nil ?_)
          refine k_block ?_
          refine k_loop (ι := Nat) (fun k => [(2, .slice A5 l.length c5), (8, .pointer (some ⟨b, 0, none⟩)), (41, .slice A5 l.length c5), (42, .int .i64 (l.length : Int)), (43, .int .i64 (k : Int))]) (fun k => x16 ++ []) (fun k => k ≤ l.length ∧ judL (openS t ws os) l (l.length - k) k = judL (openS t ws os) l l.length 0) (fun k => l.length - k) 0 ⟨Nat.zero_le _, rfl⟩ (Sub.cons rfl (Sub.cons rfl (Sub.cons rfl (Sub.cons rfl (Sub.cons rfl (Sub.nil _)))))) SubE.sub (fun k hk => ?_)
          obtain ⟨hk, hJ⟩ := hk
          refine k_seq (k_region ?_)
          refine o_val (ex_lss rfl rfl) (o_nil ?_)
          refine k_seq (k_cond rfl (fun h_4 => ?_) (fun h_4 => ?_))
          ·
            have hlt : k < l.length := by have : (k : Int) < (l.length : Int) := of_decide_eq_true h_4; omega
            obtain ⟨a, hA, hc⟩ := hrow k hlt
            subst hA
            have hjt := judTo_bound hpl hlt
            have hpa := isPlan_at hpl hlt
            have hjb := jud_bound (openS t ws os) (l.getD k dS) hjt.1
            rw [show l.length - k = (l.length - (k + 1)) + 1 by omega, judL_succ] at hJ
            refine k_skip ?_
            refine k_seq (k_block ?_)
            refine k_seq (k_region ?_)
            refine o_val (ex_move rfl) ?_
            refine o_val (ex_index_old Try.runUnderlying43 Try.sizeOf51 rfl rfl (by omega) (by omega)) ?_
            refine o_val (ex_loadA_old Try.isAgg51 Try.sizeOf51 rfl rfl (vs := [.int .i64 (l.getD k dS).fr, .int .i64 (l.getD k dS).tg]) (by rw [sGetD hlt]; exact hc) (by simp)) ?_
            refine o_alloc Try.zeroValue51 (fun b10 => ?_)
            refine o_val (ex_assign rfl) ?_
            refine o_store Try.sizeOf51 rfl rfl (o_nil ?_)
            refine k_seq (k_region ?_)
            refine o_val (ex_move rfl) ?_
            refine o_val (ex_call Try.call64 rfl (fun W hW => all64 hS (hsh hW (List.Sublist.cons _ (List.sublist_append_left _ _))))) ?_
            refine o_val (ex_assign rfl) (o_nil ?_)
            refine k_seq (k_seq (k_region ?_))
            refine o_val (ex_move rfl) ?_
            refine o_val (ex_add64 rfl rfl (by unfold I64; omega)) ?_
            refine o_val (ex_move rfl) ?_
            refine o_val (ex_len Try.runUnderlying43 rfl) ?_
            refine o_val (ex_lss rfl rfl) (o_nil ?_)
            refine k_cut (ι := Unit) (fun _ => [(2, .slice (some a) l.length c5), (8, .pointer (some ⟨b, 0, none⟩)), (10, .pointer (some ⟨b10, 0, none⟩)), (11, .int .i64 (judTo (openS t ws os) l k)), (41, .slice (some a) l.length c5), (42, .int .i64 (l.length : Int)), (43, .int .i64 (k : Int))]) (fun _ => ⟨b10, 51, [.int .i64 (l.getD k dS).fr, .int .i64 (l.getD k dS).tg], true⟩ :: (x16 ++ [])) (fun _ => True) ?_ (fun _ _ => ?_)
            · refine k_cond rfl (fun h_5 => ?_) (fun h_5 => ?_)
              ·
                have hlt2 : k + 1 < l.length := by have : (k : Int) + 1 < (l.length : Int) := of_decide_eq_true h_5; omega
                obtain ⟨a2, hA2, hc2⟩ := hrow (k + 1) hlt2
                cases hA2
                have hc3 := hc2 0 (.int .i64 l[k + 1].fr) rfl
                have ejt : (judTo (openS t ws os) l k) = l[k + 1].fr := by unfold judTo; rw [if_pos hlt2, sGetD hlt2]
                refine k_region ?_
                refine o_val (ex_move rfl) ?_
                refine o_val (ex_move rfl) ?_
                refine o_val (ex_add64 rfl rfl (by unfold I64; omega)) ?_
                refine o_val (ex_index_old Try.runUnderlying43 Try.sizeOf51 rfl rfl (by omega) (by omega)) ?_
                refine o_val (ex_field_old fa51_0 rfl) ?_
                refine o_val (ex_load_old Try.isAgg3 rfl (by rw [show ((k : Int) + 1).toNat = k + 1 by omega]; exact hc3) (by simp)) ?_
                refine o_val (ex_assign rfl) (o_nil ?_)
                exact k_some () trivial (Sub.cons rfl (Sub.cons rfl (Sub.cons rfl (Sub.cons' rfl (by rw [ejt]) (Sub.cons rfl (Sub.cons rfl (Sub.cons rfl (Sub.nil _)))))))) SubE.sub
              ·
                have hlt2 : ¬ k + 1 < l.length := by have : ¬ (k : Int) + 1 < (l.length : Int) := of_decide_eq_false h_5; omega
                have ejt : (judTo (openS t ws os) l k) = allP (openS t ws os).os := by unfold judTo; rw [if_neg hlt2]
                refine k_skip ?_
                exact k_some () trivial (Sub.cons rfl (Sub.cons rfl (Sub.cons rfl (Sub.cons' rfl (by rw [ejt]) (Sub.cons rfl (Sub.cons rfl (Sub.cons rfl (Sub.nil _)))))))) SubE.sub
            refine k_seq (k_region ?_)
            refine o_val (ex_move rfl) ?_
            refine o_val (ex_loadA Try.isAgg51 Try.sizeOf51 rfl) ?_
            refine o_val (ex_move rfl) ?_
            refine o_val (ex_call Try.call76 rfl (fun W hW => c76 (openS t ws os) (l.getD k dS) (judTo (openS t ws os) l k) hS ⟨hpa.1, hjt.1⟩ hjt.2 (hsh hW (List.Sublist.cons _ (List.sublist_append_left _ _))))) ?_
            refine o_val (ex_assign rfl) (o_nil ?_)
            refine k_seq (k_region ?_)
            refine o_val (ex_move rfl) ?_
            refine o_val (ex_move rfl) ?_
            refine o_val (ex_lss rfl rfl) (o_nil ?_)
            refine k_cond rfl (fun h_5 => ?_) (fun h_5 => ?_)
            ·
              have hlt5 := of_decide_eq_true h_5
              rw [if_pos hlt5] at hJ
              refine k_seq (k_region ?_)
              refine o_val (ex_move rfl) ?_
              refine o_val (ex_assign rfl) ?_
              refine o_val (ex_assign rfl) (o_nil ?_)
              refine k_ret ?_
              exact fin2 rfl rfl rfl fun W hW => ⟨by rw [hjr, ← hJ], hW.ext⟩
            ·
              have hlt5 := of_decide_eq_false h_5
              rw [if_neg hlt5] at hJ
              refine k_skip ?_
              refine k_region ?_
              refine o_val (ex_add64 rfl rfl (by unfold I64; omega)) ?_
              refine o_val (ex_move rfl) (o_nil ?_)
              exact k_some (k + 1) ⟨⟨hlt, hJ⟩, by omega⟩ (Sub.cons rfl (Sub.cons rfl (Sub.cons rfl (Sub.cons rfl (Sub.cons rfl (Sub.nil _)))))) SubE.sub
          ·
            have hge : k = l.length := by have : ¬ (k : Int) < (l.length : Int) := of_decide_eq_false h_4; omega
            subst hge
            rw [Nat.sub_self, judL_zero] at hJ
            refine k_exit rfl ?_
            refine k_seq (k_region ?_)
            refine o_val (ex_move rfl) ?_
            refine o_val (ex_call Try.call64 rfl (fun W hW => all64 hS (hsh hW (List.sublist_append_left _ _)))) ?_
            refine o_val (ex_assign rfl) ?_
            refine o_val (ex_assign rfl) (o_nil ?_)
            refine k_ret ?_
            exact fin2 rfl rfl rfl fun W hW => ⟨by rw [hjr, ← hJ], hW.ext⟩

-- == f35 acme/die.Proves params [26, 27, 52] results [3, 33] in [('tmp', ['6']), ('tmp', ['7'])] ntmps 50 nfree 0
theorem c35 (t : To) (ws : List Sp) {A : Option Addr} {c : Nat} (os : List Od) {A2 : Option Addr} {c2 : Nat} (l : List Int) {A5 : Option Addr} {c5 : Nat} {w : World} (hws : ElAt w A ws) (hos : ElAt w A2 os) (hl : l.length < 4611686018427387904) (hrow : ElAt w A5 l) : Calls Try.prog 35 [.agg [.bool t.down, .int .i64 t.sl, .int .i64 t.sh, .int .i64 t.cl, .int .i64 t.ch, .slice A ws.length c].toArray, .slice A2 os.length c2, .slice A5 l.length c5].toArray w fun e w' => e = .returned (.tuple #[.int .i64 (provR t ws os l).1, .int .i64 (provR t ws os l).2]) ∧ Ext [] w w' := by
  refine fn_start Try.func35 rfl (N := 50) rfl ?_
  refine k_seq (k_region ?_)
  refine o_box rfl (fun b3 => ?_)
  refine o_val (ex_assign rfl) ?_
  refine o_val (ex_assign rfl) (o_nil ?_)
  refine k_seq (k_region ?_)
  refine o_val (ex_loadA Try.isAgg26 Try.sizeOf26 rfl) ?_
  refine o_val (ex_move rfl) ?_
  refine o_callB Try.call63 rfl (fun W hW => c63b t ws os (c := c) (c2 := c2) (hws.ext hW.ext) (hos.ext hW.ext)) (fun v13 x13 o13 => ?_)
  obtain ⟨v0, e13, op13⟩ := o13
  subst e13
  refine o_val (ex_move rfl) ?_
  refine o_val (ex_extract rfl rfl) ?_
  refine o_val (ex_extract rfl rfl) ?_
  refine o_val (ex_assign rfl) ?_
  refine o_val (ex_assign rfl) (o_nil ?_)
  refine k_seq (k_block ?_)
  refine k_seq (k_region ?_)
  refine o_val (ex_move rfl) ?_
  refine o_val (ex_neq rfl rfl) ?_
  refine o_val (ex_assign rfl) (o_nil ?_)
  refine k_cond rfl (fun h => ?_) (fun h => ?_)
  ·
    have hn : ¬ chkE t ws os = 0 := fun e => by simp [e] at h
    refine k_seq (k_region ?_)
    refine o_val (ex_move rfl) ?_
    refine o_val (ex_assign rfl) ?_
    refine o_val (ex_assign rfl) (o_nil ?_)
    refine k_ret ?_
    exact fin2 rfl rfl rfl fun W hW => ⟨by rw [show provR t ws os l = (0, chkE t ws os) from if_pos hn], hW.ext⟩
  ·
    have hok : chkE t ws os = 0 := by simpa using h
    have hS := openS_ok hok
    have hall := hS.all
    obtain ⟨b, A3, c3, A4, c4, rfl, hop⟩ := op13 hok
    have hsh : ∀ {W : World} {H' : Hp}, Sat w [] H' W → x13.Sublist H' → ShopAt W b (openS t ws os) A A3 A4 c c3 c4 := fun hW hs => hop _ (fun e he => hW.at_ e (hs.subset he)) (hws.ext hW.ext) (hos.ext hW.ext)
    refine k_seq (k_region ?_)
    refine o_val (ex_move rfl) ?_
    refine o_val (ex_len Try.runUnderlying52 rfl) ?_
    refine o_val (ex_gtr rfl rfl) ?_
    refine o_val (ex_assign rfl) (o_nil ?_)
    refine k_cond rfl (fun h_1 => ?_) (fun h_1 => ?_)
    ·
      refine k_seq (k_region ?_)
      refine o_val (ex_assign rfl) ?_
      refine o_val (ex_assign rfl) (o_nil ?_)
      refine k_ret ?_
      exact fin2 rfl rfl rfl fun W hW => ⟨by rw [show provR t ws os l = (0, 5) from (if_neg (by simp [hok])).trans (if_pos (by have : (1000 : Int) < (l.length : Int) := of_decide_eq_true h_1; omega))], hW.ext⟩
    ·
      have hl2 : ¬ 1000 < l.length := by have : ¬ (1000 : Int) < (l.length : Int) := of_decide_eq_false h_1; omega
      refine k_seq (k_region ?_)
      refine o_val (ex_move rfl) ?_
      refine o_val (ex_move rfl) ?_
      refine o_val (ex_call Try.call77 rfl (fun W hW => c77 (openS t ws os) l hS (by omega) (hsh hW (List.sublist_append_left _ _)) (hrow.ext hW.ext))) ?_
      refine o_val (ex_not rfl) ?_
      refine o_val (ex_assign rfl) (o_nil ?_)
      refine k_cond rfl (fun h_2 => ?_) (fun h_2 => ?_)
      ·
        have hpl : upB (allP (openS t ws os).os) l = false := by simpa using h_2
        refine k_seq (k_region ?_)
        refine o_val (ex_assign rfl) ?_
        refine o_val (ex_assign rfl) (o_nil ?_)
        refine k_ret ?_
        exact fin2 rfl rfl rfl fun W hW => ⟨by rw [show provR t ws os l = (0, 2) from (if_neg (by simp [hok])).trans ((if_neg hl2).trans (if_pos hpl))], hW.ext⟩
      ·
        have hpl : upB (allP (openS t ws os).os) l = true := by simpa using h_2
        have hplf : ¬ upB (allP (openS t ws os).os) l = false := by rw [hpl]; decide
        have hjr : provR t ws os l = (provL (openS t ws os) l (l.length - 1) 0, 0) := (if_neg (by simp [hok])).trans ((if_neg hl2).trans (if_neg hplf))
        refine k_skip ?_
        refine k_seq (k_seq (k_region ?_))
        refine o_val (ex_move rfl) ?_
        refine o_val (ex_len Try.runUnderlying52 rfl) ?_
        refine o_val (ex_sub64 rfl rfl (by unfold I64; omega)) ?_
        refine o_val (exv_eq (v := .int .i64 ((l.length - 1 : Nat) : Int)) (by congr 1; omega) (ex_max rfl rfl)) ?_
        refine o_val (ex_move rfl) (o_nil ?_)
        refine k_block ?_
        refine k_loop (ι := Nat) (fun k => [(2, .slice A5 l.length c5), (8, .pointer (some ⟨b, 0, none⟩)), (32, .int .i64 ((l.length - 1 : Nat) : Int)), (33, .int .i64 (k : Int))]) (fun k => x13 ++ []) (fun k => k ≤ l.length - 1 ∧ provL (openS t ws os) l (l.length - 1 - k) k = provL (openS t ws os) l (l.length - 1) 0) (fun k => l.length - 1 - k) 0 ⟨Nat.zero_le _, rfl⟩ (Sub.cons rfl (Sub.cons rfl (Sub.cons rfl (Sub.cons rfl (Sub.nil _))))) SubE.sub (fun k hk => ?_)
        obtain ⟨hk, hJ⟩ := hk
        refine k_seq (k_region ?_)
        refine o_val (ex_lss rfl rfl) (o_nil ?_)
        refine k_seq (k_cond rfl (fun h_3 => ?_) (fun h_3 => ?_))
        ·
          have hlt : k < l.length - 1 := by have : (k : Int) < ((l.length - 1 : Nat) : Int) := of_decide_eq_true h_3; omega
          obtain ⟨a, hA, hc⟩ := hrow k (by omega)
          obtain ⟨a2, hA2, hc2⟩ := hrow (k + 1) (by omega)
          rw [hA] at hA2
          cases hA2
          subst hA
          have hpa := upB_at hpl (i := k) (by omega)
          have hpb := upB_at hpl (i := k + 1) (by omega)
          rw [show l.length - 1 - k = (l.length - 1 - (k + 1)) + 1 by omega, provL_succ] at hJ
          refine k_skip ?_
          refine k_seq (k_block ?_)
          refine k_seq (k_region ?_)
          refine o_val (ex_move rfl) ?_
          refine o_val (ex_assign rfl) (o_nil ?_)
          refine k_seq (k_draw [true, true, true, true, true, true, true, true, true, true, true, true] 0 ?_ mixed (by kernel_rfl) rfl)
          refine d_val (i := 0) [] (ex_move rfl) ?_
          refine d_val (i := 1) [] (ex_move rfl) ?_
          refine d_val (i := 2) [] (ex_move rfl) ?_
          refine d_val (i := 3) [] (ex_index_old Try.runUnderlying52 Try.sizeOf3 rfl rfl (by omega) (by omega)) ?_
          refine d_val (i := 4) [] (ex_load_old (v := .int .i64 (l.getD k 0)) Try.isAgg3 rfl (by rw [getD_at (show k < l.length by omega)]; exact int_cell hc) (by simp)) ?_
          refine d_val (i := 5) [] (ex_move rfl) ?_
          refine d_val (i := 6) [] (ex_move rfl) ?_
          refine d_val (i := 7) [] (ex_add64 rfl rfl (by unfold I64; omega)) ?_
          refine d_val (i := 8) [] (ex_index_old Try.runUnderlying52 Try.sizeOf3 rfl rfl (by omega) (by omega)) ?_
          refine d_val (i := 9) [] (ex_load_old (v := .int .i64 (l.getD (k + 1) 0)) Try.isAgg3 rfl (by rw [show ((k : Int) + 1) = ((k + 1 : Nat) : Int) by omega, getD_at (show k + 1 < l.length by omega)]; exact int_cell hc2) (by simp)) ?_
          refine d_val (i := 10) [] (ex_add64 rfl rfl (by unfold I64; omega)) ?_
          refine d_val (i := 11) (x13 ++ []) (ex_call Try.call66 rfl (fun W hW => c66 (openS t ws os) (l.getD k 0) (l.getD (k + 1) 0 + 1) hS (by omega) (by omega) (hsh hW (List.sublist_append_left _ _)))) ?_
          refine d_nil ?_
          refine r_nil ?_ (by kernel_rfl)
          refine k_cond rfl (fun h_4 => ?_) (fun h_4 => ?_)
          ·
            rw [if_pos h_4] at hJ
            refine k_seq (k_region ?_)
            refine o_val (ex_move rfl) ?_
            refine o_val (ex_assign rfl) ?_
            refine o_val (ex_assign rfl) (o_nil ?_)
            refine k_ret ?_
            exact fin2 rfl rfl rfl fun W hW => ⟨by rw [hjr, ← hJ], hW.ext⟩
          ·
            rw [if_neg (by rw [h_4]; decide)] at hJ
            refine k_skip ?_
            refine k_region ?_
            refine o_val (ex_add64 rfl rfl (by unfold I64; omega)) ?_
            refine o_val (ex_move rfl) (o_nil ?_)
            exact k_some (k + 1) ⟨⟨hlt, hJ⟩, by omega⟩ (Sub.cons rfl (Sub.cons rfl (Sub.cons rfl (Sub.cons rfl (Sub.nil _))))) SubE.sub
        ·
          have hge : k = l.length - 1 := by have : ¬ (k : Int) < ((l.length - 1 : Nat) : Int) := of_decide_eq_false h_3; omega
          subst hge
          rw [Nat.sub_self, provL_zero] at hJ
          refine k_exit rfl ?_
          refine k_seq (k_region ?_)
          refine o_val (ex_assign rfl) ?_
          refine o_val (ex_assign rfl) (o_nil ?_)
          refine k_ret ?_
          exact fin2 rfl rfl rfl fun W hW => ⟨by rw [hjr, ← hJ], hW.ext⟩

end Go.Proofs.Ytdflfnednaleeaa
