/- The walks of small functions: what each call hands back, and that nothing that was there has turned. Printed by a program of this session (wip/tools/gen.py). -/
import Derived.Test.YteecidddfcbabaaA1
namespace Go.Proofs.Yteecidddfcbabaa
open Go
attribute [local irreducible] ExV Ex
set_option synthInstance.maxSize 2000
set_option synthInstance.maxHeartbeats 200000

theorem tdiv_bounds {n d K : Int} (hd : 1 ≤ d) (h0 : -K ≤ n) (h1 : n ≤ K) (hK : 0 ≤ K) : -K ≤ n.tdiv d ∧ n.tdiv d ≤ K := by
  have h := Int.natAbs_tdiv_le_natAbs n d
  omega

/-- Whether integers lie between two others. -/
def wi (least most : Int) (l : List Int) : Bool := !l.any fun n => decide (n < least) || decide (most < n)

/-- Whether a span is valid. -/
def isSp (lo hi least most : Int) : Bool := decide (lo ≤ hi ∧ least ≤ lo ∧ hi ≤ most)

theorem wi_one (least most n : Int) : wi least most [n] = decide (least ≤ n ∧ n ≤ most) := by
  simp only [wi, List.any_cons, List.any_nil, Bool.or_false, Bool.not_or]
  by_cases h : least ≤ n <;> by_cases k : n ≤ most <;> simp [h, k] <;> omega

theorem isSp_eq (lo hi least most : Int) : (decide (lo ≤ hi) && wi least most [lo, hi]) = isSp lo hi least most := by
  unfold isSp wi
  rw [Bool.eq_iff_iff]
  simp only [List.any_cons, List.any_nil, Bool.or_false, Bool.and_eq_true, decide_eq_true_eq, Bool.not_eq_true', Bool.or_eq_false_iff, decide_eq_false_iff_not]
  omega

/-- A bolt's integers. -/
structure Bo where
  (lead thread head tl th hl hh sl sh pl ph yl yh : Int)

/-- Whether a bolt is valid. -/
structure Bo.Ok (b : Bo) : Prop where
  (l0 : 1 ≤ b.lead) (l1 : b.lead ≤ 100000) (t0 : 0 ≤ b.thread) (t1 : b.thread ≤ 100000) (h0 : 0 ≤ b.head) (h1 : b.head ≤ 100000)
  (tt : b.tl ≤ b.th) (tl0 : 0 ≤ b.tl) (th1 : b.th ≤ 1000) (hh : b.hl ≤ b.hh) (hl0 : 0 ≤ b.hl) (hh1 : b.hh ≤ 1000)
  (ss : b.sl ≤ b.sh) (sl0 : 1 ≤ b.sl) (sh1 : b.sh ≤ 100000000) (pp : b.pl ≤ b.ph) (pl0 : 1 ≤ b.pl) (ph1 : b.ph ≤ 100000) (yy : b.yl ≤ b.yh) (yl0 : 1 ≤ b.yl) (yh1 : b.yh ≤ 100000000)

def Bo.fric (b : Bo) (t h : Int) : Int := b.thread * t + b.head * h
def Bo.armLo (b : Bo) : Int := 1000 * b.lead + b.fric b.tl b.hl
def Bo.armHi (b : Bo) : Int := 1000 * b.lead + b.fric b.th b.hh

/-- Bounds of a product. -/
theorem mulB {a b A B : Int} (h0 : 0 ≤ a) (h1 : a ≤ A) (k0 : 0 ≤ b) (k1 : b ≤ B) : 0 ≤ a * b ∧ a * b ≤ A * B :=
  ⟨Int.mul_nonneg h0 k0, Int.mul_le_mul h1 k1 k0 (by omega)⟩

/-- Division, rounded up. -/
def upq (n by_ : Int) : Int := -((-n) / by_)

theorem quoDown {n d : Int} (hd : 1 ≤ d) : (if n.tmod d < 0 then n.tdiv d - 1 else n.tdiv d) = n / d := by
  have h1 := Int.mul_tdiv_add_tmod n d
  rcases Int.le_total 0 n with hn | hn
  · have h2 := Int.tmod_nonneg d hn
    rw [if_neg (by omega), Int.tdiv_eq_ediv_of_nonneg hn]
  · have h2 := Int.tmod_lt_of_pos n (show 0 < d by omega)
    have h3 : -d < n.tmod d := by
      have := Int.tmod_lt_of_pos (-n) (show 0 < d by omega)
      rw [Int.neg_tmod] at this; omega
    symm
    split
    · rename_i h
      exact ((Int.ediv_emod_unique (r := n.tmod d + d) (by omega)).2 ⟨by rw [Int.mul_sub]; omega, by omega, by omega⟩).1
    · rename_i h
      exact ((Int.ediv_emod_unique (r := n.tmod d) (by omega)).2 ⟨by omega, by omega, by omega⟩).1

theorem div_bounds {n d K : Int} (hd : 1 ≤ d) (h0 : -K ≤ n) (h1 : n ≤ K) (hK : 0 ≤ K) : -K ≤ n / d ∧ n / d ≤ K := by
  constructor
  · have : -K * d ≤ n := by
      have := Int.mul_le_mul_of_nonpos_left (a := -K) (show (-K : Int) ≤ 0 by omega) hd
      omega
    exact (Int.le_ediv_iff_mul_le (by omega)).2 this
  · have h2 : n / d * d ≤ n := Int.ediv_mul_le n (by omega)
    rcases Int.le_total (n / d) 0 with h | h
    · omega
    · have := Int.mul_le_mul_of_nonneg_left hd h
      omega

theorem cell_ent {w0 : World} {M : List Nat} {H : Hp} {W : World} (hW : Sat w0 M H W) {b : Nat} {t : TypeId} {cs : List Value} {own : Bool} [he : HasE H b t cs own] {o : Nat} {v : Value} (h : cs[o]? = some v) : W.cell? ⟨b, o, none⟩ = some v := by
  rw [cell_of (hW.cells he)]; exact h

/-- A row of integers in a block. -/
theorem row_ints {w0 : World} {M : List Nat} {H : Hp} {W : World} (hW : Sat w0 M H W) (b : Nat) {t : TypeId} {cs : List Value} {own : Bool} {l : List Int} [he : HasE H b t cs own] [hi : IntsOf cs l] : RowsAt W (some ⟨b, 0, none⟩) (l.map (Value.int .i64)) :=
  hi.eq ▸ row_ent hW

-- == f66 slices.ContainsFunc[[]int,int] params [42, 116] results [4] in [('tmp', ['4'])] ntmps 9 nfree 0
theorem c66 {g : Nat} {cap : List Value} (p : Int → Bool) (l : List Int) {A : Option Addr} {c : Nat} {w : World} (hl : l.length < 4611686018427387904) (hcall : ∀ vs W, (callFunc g vs).run Try.prog W = .ok (.enter g vs) W) (hrow : RowsAt w A (l.map (Value.int .i64)))
    (hg : ∀ x, x ∈ l → ∀ W, Ext [] w W → Calls Try.prog g ([Value.int .i64 x] ++ cap).toArray W (fun e W' => e = .returned (.bool (p x)) ∧ Ext [] W W')) : Calls Try.prog 66 [.slice A l.length c, .func (.func g) [].toArray cap.toArray].toArray w fun e w' => e = .returned (.bool (l.any p)) ∧ Ext [] w w' := by
  refine fn_start Try.func66 rfl (N := 9) rfl ?_
  refine k_seq (k_region ?_)
  refine o_val (ex_assign rfl) (o_nil ?_)
  refine k_seq (k_region ?_)
  refine o_val (ex_move rfl) ?_
  refine o_val (ex_move rfl) ?_
  refine o_val (ex_call Try.call81 rfl (fun W hW => c81 p l hl hcall (row_ext hrow hW.ext) (fun x hx W1 h1 => hg x hx W1 (hW.ext.trans0 h1)))) ?_
  refine o_val (ex_geq rfl rfl) ?_
  refine o_val (ex_assign rfl) (o_nil ?_)
  refine k_ret ?_
  exact fin1 rfl rfl fun W hW => ⟨by rw [idxOf_any], hW.ext⟩

-- == f67 acme/bolt.within$1 params [3] results [4] in [('tmp', ['4'])] ntmps 13 nfree 2
theorem c67 (n least most : Int) {p q : Addr} {w : World} (hp : w.cell? p = some (.int .i64 least)) (hq : w.cell? q = some (.int .i64 most)) : Calls Try.prog 67 [.int .i64 n, .pointer (some p), .pointer (some q)].toArray w fun e w' => e = .returned (.bool (decide (n < least) || decide (most < n))) ∧ Ext [] w w' := by
  refine fn_start Try.func67 rfl (N := 13) rfl ?_
  refine k_seq (k_region ?_)
  refine o_val (ex_assign rfl) (o_nil ?_)
  refine k_seq (k_region ?_)
  refine o_val (ex_move rfl) ?_
  refine o_val (ex_load_old Try.isAgg3 rfl hp (by simp)) ?_
  refine o_val (ex_lss rfl rfl) ?_
  refine o_val (ex_move rfl) ?_
  refine o_or 3 (c := decide (most < n)) (fun h => ?_) ?_
  · refine o_val_g (ex_move rfl) ?_
    refine o_val_g (ex_load_old Try.isAgg3 rfl hq (by simp)) ?_
    exact o_val_g (ex_gtr rfl rfl) (o_nil (got rfl (.refl _)))
  refine o_val (ex_assign rfl) (o_nil ?_)
  refine k_ret ?_
  exact fin1 rfl rfl fun W hW => ⟨rfl, hW.ext⟩

-- == f29 acme/bolt.within params [3, 3, 42] results [4] in [('tmp', ['6'])] ntmps 11 nfree 0
theorem c29 (least most : Int) (l : List Int) {A : Option Addr} {c : Nat} {w : World} (hl : l.length < 4611686018427387904) (hrow : RowsAt w A (l.map (Value.int .i64))) : Calls Try.prog 29 [.int .i64 least, .int .i64 most, .slice A l.length c].toArray w fun e w' => e = .returned (.bool (wi least most l)) ∧ Ext [] w w' := by
  refine fn_start Try.func29 rfl (N := 11) rfl ?_
  refine k_seq (k_region ?_)
  refine o_box rfl (fun b3 => ?_)
  refine o_box rfl (fun b4 => ?_)
  refine o_val (ex_assign rfl) (o_nil ?_)
  refine k_seq (k_region ?_)
  refine o_val (ex_move rfl) ?_
  refine o_val (ex_makeFunc rfl rfl) ?_
  refine o_val (ex_call Try.call66 rfl (fun W hW => (by exact c66 (g := 67) (cap := [.pointer (some ⟨b3, 0, none⟩), .pointer (some ⟨b4, 0, none⟩)]) (fun n => decide (n < least) || decide (most < n)) l hl Try.call67 (row_ext hrow hW.ext) (fun x _ W1 h1 => c67 x least most (by have := hW.ext0 h1; exact cell_ent this (b := b3) (o := 0) rfl) (by have := hW.ext0 h1; exact cell_ent this (b := b4) (o := 0) rfl))))) ?_
  refine o_val (ex_not rfl) ?_
  refine o_val (ex_assign rfl) (o_nil ?_)
  refine k_ret ?_
  exact fin1 rfl rfl fun W hW => ⟨rfl, hW.ext⟩

-- == f34 acme/bolt.isSpan params [23, 3, 3] results [4] in [('tmp', ['6'])] ntmps 22 nfree 0
theorem c34 (lo hi least most : Int) {w : World} : Calls Try.prog 34 [.agg [.int .i64 lo, .int .i64 hi].toArray, .int .i64 least, .int .i64 most].toArray w fun e w' => e = .returned (.bool (isSp lo hi least most)) ∧ Ext [] w w' := by
  refine fn_start Try.func34 rfl (N := 22) rfl ?_
  refine k_seq (k_region ?_)
  refine o_box rfl (fun b3 => ?_)
  refine o_val (ex_assign rfl) (o_nil ?_)
  refine k_seq (k_region ?_)
  refine o_val (ex_field (o := 0) 0 fa23_0 rfl rfl) ?_
  refine o_val (ex_load Try.isAgg3 rfl rfl) ?_
  refine o_val (ex_field (o := 0) 1 fa23_1 rfl rfl) ?_
  refine o_val (ex_load Try.isAgg3 rfl rfl) ?_
  refine o_val (ex_leq rfl rfl) ?_
  refine o_val (ex_move rfl) ?_
  refine o_and 8 (c := wi least most [lo, hi]) (fun h => ?_) ?_
  · refine o_val_g (ex_move rfl) ?_
    refine o_val_g (ex_move rfl) ?_
    refine o_val_g (ex_field (o := 0) 0 fa23_0 rfl rfl) ?_
    refine o_val_g (ex_load Try.isAgg3 rfl rfl) ?_
    refine o_val_g (ex_field (o := 0) 1 fa23_1 rfl rfl) ?_
    refine o_val_g (ex_load Try.isAgg3 rfl rfl) ?_
    refine o_buildSlice_g [.int .i64 0, .int .i64 0] [(0, 1), (1, 1)] Try.runUnderlying42 Try.sizeOf3 Try.zeroValue3 rfl (fun b19 => ?_)
    exact o_val_g (ex_call Try.call29 rfl (fun W hW => (by exact c29 least most [lo, hi] (by simp) (row_ints hW b19)))) (o_nil (got rfl (.cons _ (.refl _))))
  refine o_val (ex_assign rfl) (o_nil ?_)
  refine k_ret ?_
  exact fin1 rfl rfl fun W hW => ⟨by rw [isSp_eq], hW.ext⟩

-- == f33 acme/bolt.isForce params [23] results [4] in [('tmp', ['2'])] ntmps 5 nfree 0
theorem c33 (lo hi : Int) {w : World} : Calls Try.prog 33 [.agg [.int .i64 lo, .int .i64 hi].toArray].toArray w fun e w' => e = .returned (.bool (isSp lo hi 0 100000000)) ∧ Ext [] w w' := by
  refine fn_start Try.func33 rfl (N := 5) rfl ?_
  refine k_seq (k_region ?_)
  refine o_box rfl (fun b1 => ?_)
  refine o_val (ex_assign rfl) (o_nil ?_)
  refine k_seq (k_region ?_)
  refine o_val (ex_loadA Try.isAgg23 Try.sizeOf23 rfl) ?_
  refine o_val (ex_call Try.call34 rfl (fun W hW => c34 lo hi 0 100000000)) ?_
  refine o_val (ex_assign rfl) (o_nil ?_)
  refine k_ret ?_
  exact fin1 rfl rfl fun W hW => ⟨rfl, hW.ext⟩

-- == f52 acme/bolt.isTorque params [23] results [4] in [('tmp', ['2'])] ntmps 5 nfree 0
theorem c52 (lo hi : Int) {w : World} : Calls Try.prog 52 [.agg [.int .i64 lo, .int .i64 hi].toArray].toArray w fun e w' => e = .returned (.bool (isSp lo hi 0 10000000000000)) ∧ Ext [] w w' := by
  refine fn_start Try.func52 rfl (N := 5) rfl ?_
  refine k_seq (k_region ?_)
  refine o_box rfl (fun b1 => ?_)
  refine o_val (ex_assign rfl) (o_nil ?_)
  refine k_seq (k_region ?_)
  refine o_val (ex_loadA Try.isAgg23 Try.sizeOf23 rfl) ?_
  refine o_val (ex_call Try.call34 rfl (fun W hW => c34 lo hi 0 10000000000000)) ?_
  refine o_val (ex_assign rfl) (o_nil ?_)
  refine k_ret ?_
  exact fin1 rfl rfl fun W hW => ⟨rfl, hW.ext⟩

-- == f68 acme/bolt.down params [3, 3] results [3] in [('tmp', ['4'])] ntmps 16 nfree 0
theorem c68 (n d : Int) {w : World} (hd : 1 ≤ d) (hn : -4611686018427387904 ≤ n ∧ n ≤ 4611686018427387904) : Calls Try.prog 68 [.int .i64 n, .int .i64 d].toArray w fun e w' => e = .returned (.int .i64 (n / d)) ∧ Ext [] w w' := by
  have hI : I64 n := by unfold I64; omega
  have hJ : I64 (n.tdiv d - 1) := by have := tdiv_bounds (n := n) (K := 4611686018427387904) hd (by omega) (by omega) (by omega); unfold I64; omega
  refine fn_start Try.func68 rfl (N := 16) rfl ?_
  refine k_seq (k_region ?_)
  refine o_val (ex_assign rfl) (o_nil ?_)
  refine k_seq (k_region ?_)
  refine o_val (ex_move rfl) ?_
  refine o_val (ex_move rfl) ?_
  refine o_val (ex_quo64 rfl rfl (by omega) hI) ?_
  refine o_val (ex_assign rfl) (o_nil ?_)
  refine k_seq (k_seq (k_region ?_))
  refine o_val (ex_move rfl) ?_
  refine o_val (ex_move rfl) ?_
  refine o_val (ex_rem64 rfl rfl (by omega)) ?_
  refine o_val (ex_lss rfl rfl) (o_nil ?_)
  refine k_cut (ι := Unit) (fun _ => [(5, .int .i64 (n / d))]) (fun _ => []) (fun _ => True) ?_ (fun _ _ => ?_)
  · refine k_cond rfl (fun h => ?_) (fun h => ?_)
    ·
      refine k_region ?_
      refine o_val (ex_move rfl) ?_
      refine o_val (ex_sub64 rfl rfl hJ) ?_
      refine o_val (ex_assign rfl) (o_nil ?_)
      exact k_some () trivial (Sub.cons' rfl (by rw [← quoDown hd, if_pos (by simpa using h)]) (Sub.nil _)) SubE.sub
    ·
      refine k_skip ?_
      exact k_some () trivial (Sub.cons' rfl (by rw [← quoDown hd, if_neg (by simpa using h)]) (Sub.nil _)) SubE.sub
  refine k_seq (k_region ?_)
  refine o_val (ex_move rfl) ?_
  refine o_val (ex_assign rfl) (o_nil ?_)
  refine k_ret ?_
  exact fin1 rfl rfl fun W hW => ⟨rfl, hW.ext⟩

-- == f30 acme/bolt.up params [3, 3] results [3] in [('tmp', ['4'])] ntmps 10 nfree 0
theorem c30 (n d : Int) {w : World} (hd : 1 ≤ d) (hn : -4611686018427387904 ≤ n ∧ n ≤ 4611686018427387904) : Calls Try.prog 30 [.int .i64 n, .int .i64 d].toArray w fun e w' => e = .returned (.int .i64 (upq n d)) ∧ Ext [] w w' := by
  have hJ : I64 (-(-n / d)) := by have := div_bounds (n := -n) (K := 4611686018427387904) hd (by omega) (by omega) (by omega); unfold I64; omega
  refine fn_start Try.func30 rfl (N := 10) rfl ?_
  refine k_seq (k_region ?_)
  refine o_val (ex_assign rfl) (o_nil ?_)
  refine k_seq (k_region ?_)
  refine o_val (ex_move rfl) ?_
  refine o_val (ex_neg64 rfl (by unfold I64; omega)) ?_
  refine o_val (ex_move rfl) ?_
  refine o_val (ex_call Try.call68 rfl (fun W hW => c68 (-n) d hd (by omega))) ?_
  refine o_val (ex_neg64 rfl hJ) ?_
  refine o_val (ex_assign rfl) (o_nil ?_)
  refine k_ret ?_
  exact fin1 rfl rfl fun W hW => ⟨rfl, hW.ext⟩

-- == f31 (acme/bolt.kind).lead params [76] results [3] in [('tmp', ['2'])] ntmps 7 nfree 0
theorem c31 (b : Bo) {w : World} (h0 : 0 ≤ b.lead) (h1 : b.lead ≤ 100000) : Calls Try.prog 31 [.agg [.int .i64 b.lead, .int .i64 b.thread, .int .i64 b.head, .int .i64 b.tl, .int .i64 b.th, .int .i64 b.hl, .int .i64 b.hh, .int .i64 b.sl, .int .i64 b.sh, .int .i64 b.pl, .int .i64 b.ph, .int .i64 b.yl, .int .i64 b.yh].toArray].toArray w fun e w' => e = .returned (.int .i64 (1000 * b.lead)) ∧ Ext [] w w' := by
  refine fn_start Try.func31 rfl (N := 7) rfl ?_
  refine k_seq (k_region ?_)
  refine o_box rfl (fun b1 => ?_)
  refine o_val (ex_assign rfl) (o_nil ?_)
  refine k_seq (k_region ?_)
  refine o_val (ex_field (o := 0) 0 fa76_0 rfl rfl) ?_
  refine o_val (ex_field (o := 0) 0 fa25_0 rfl rfl) ?_
  refine o_val (ex_load Try.isAgg3 rfl rfl) ?_
  refine o_val (ex_mul64 rfl rfl (by unfold I64; omega)) ?_
  refine o_val (ex_assign rfl) (o_nil ?_)
  refine k_ret ?_
  exact fin1 rfl rfl fun W hW => ⟨rfl, hW.ext⟩

-- == f32 (acme/bolt.kind).friction params [76, 3, 3] results [3] in [('tmp', ['6'])] ntmps 18 nfree 0
theorem c32 (b : Bo) (t h : Int) {w : World} (hb : b.Ok) (t0 : 0 ≤ t) (t1 : t ≤ 1000) (h0 : 0 ≤ h) (h1 : h ≤ 1000) : Calls Try.prog 32 [.agg [.int .i64 b.lead, .int .i64 b.thread, .int .i64 b.head, .int .i64 b.tl, .int .i64 b.th, .int .i64 b.hl, .int .i64 b.hh, .int .i64 b.sl, .int .i64 b.sh, .int .i64 b.pl, .int .i64 b.ph, .int .i64 b.yl, .int .i64 b.yh].toArray, .int .i64 t, .int .i64 h].toArray w fun e w' => e = .returned (.int .i64 (b.fric t h)) ∧ Ext [] w w' := by
  have m1 := mulB hb.t0 hb.t1 t0 t1
  have m2 := mulB hb.h0 hb.h1 h0 h1
  refine fn_start Try.func32 rfl (N := 18) rfl ?_
  refine k_seq (k_region ?_)
  refine o_box rfl (fun b3 => ?_)
  refine o_val (ex_assign rfl) (o_nil ?_)
  refine k_seq (k_region ?_)
  refine o_val (ex_field (o := 0) 0 fa76_0 rfl rfl) ?_
  refine o_val (ex_field (o := 0) 1 fa25_1 rfl rfl) ?_
  refine o_val (ex_load Try.isAgg3 rfl rfl) ?_
  refine o_val (ex_move rfl) ?_
  refine o_val (ex_mul64 rfl rfl (by unfold I64; omega)) ?_
  refine o_val (ex_field (o := 0) 0 fa76_0 rfl rfl) ?_
  refine o_val (ex_field (o := 0) 2 fa25_2 rfl rfl) ?_
  refine o_val (ex_load Try.isAgg3 rfl rfl) ?_
  refine o_val (ex_move rfl) ?_
  refine o_val (ex_mul64 rfl rfl (by unfold I64; omega)) ?_
  refine o_val (ex_add64 rfl rfl (by unfold I64; omega)) ?_
  refine o_val (ex_assign rfl) (o_nil ?_)
  refine k_ret ?_
  exact fin1 rfl rfl fun W hW => ⟨rfl, hW.ext⟩

theorem Bo.Ok.fric {b : Bo} (hb : b.Ok) {t h : Int} (t0 : 0 ≤ t) (t1 : t ≤ 1000) (h0 : 0 ≤ h) (h1 : h ≤ 1000) : 0 ≤ b.fric t h ∧ b.fric t h ≤ 200000000 := by
  have m1 := mulB hb.t0 hb.t1 t0 t1
  have m2 := mulB hb.h0 hb.h1 h0 h1
  unfold Bo.fric; omega
theorem Bo.Ok.lo {b : Bo} (hb : b.Ok) : 0 ≤ b.fric b.tl b.hl ∧ b.fric b.tl b.hl ≤ 200000000 := hb.fric hb.tl0 (by have := hb.tt; have := hb.th1; omega) hb.hl0 (by have := hb.hh; have := hb.hh1; omega)
theorem Bo.Ok.hi {b : Bo} (hb : b.Ok) : 0 ≤ b.fric b.th b.hh ∧ b.fric b.th b.hh ≤ 200000000 := hb.fric (by have := hb.tt; have := hb.tl0; omega) hb.th1 (by have := hb.hh; have := hb.hl0; omega) hb.hh1
theorem Bo.Ok.lohi {b : Bo} (hb : b.Ok) : b.fric b.tl b.hl ≤ b.fric b.th b.hh := by
  have m1 := Int.mul_le_mul_of_nonneg_left hb.tt hb.t0
  have m2 := Int.mul_le_mul_of_nonneg_left hb.hh hb.h0
  unfold Bo.fric; omega
theorem Bo.Ok.arm {b : Bo} (hb : b.Ok) : 1000 ≤ b.armLo ∧ b.armLo ≤ b.armHi ∧ b.armHi ≤ 300000000 := by
  have := hb.lo; have := hb.hi; have := hb.lohi; have := hb.l0; have := hb.l1
  unfold Bo.armLo Bo.armHi; omega

-- == f69 (acme/bolt.kind).frictions params [76] results [23] in [('cell', ['2', '23'])] ntmps 24 nfree 0
theorem c69 (b : Bo) {w : World} (hb : b.Ok) : Calls Try.prog 69 [.agg [.int .i64 b.lead, .int .i64 b.thread, .int .i64 b.head, .int .i64 b.tl, .int .i64 b.th, .int .i64 b.hl, .int .i64 b.hh, .int .i64 b.sl, .int .i64 b.sh, .int .i64 b.pl, .int .i64 b.ph, .int .i64 b.yl, .int .i64 b.yh].toArray].toArray w fun e w' => e = .returned (.agg [.int .i64 (b.fric b.tl b.hl), .int .i64 (b.fric b.th b.hh)].toArray) ∧ Ext [] w w' := by
  have := hb.tt
  have := hb.tl0
  have := hb.th1
  have := hb.hh
  have := hb.hl0
  have := hb.hh1
  refine fn_start Try.func69 rfl (N := 24) rfl ?_
  refine k_seq (k_region ?_)
  refine o_box rfl (fun b1 => ?_)
  refine o_alloc Try.zeroValue23 (fun b2 => o_nil ?_)
  refine k_seq (k_draw [true, true, true, true, true, true, true, true, true, true, true, true, true, true, true, true, true, true, true, true, true, false] 1 ?_ mixed (by kernel_rfl) rfl)
  refine d_loadA (i := 0) Try.isAgg76 Try.sizeOf76 rfl ?_
  refine d_val (i := 1) [] (ex_field (o := 0) 0 fa76_0 rfl rfl) ?_
  refine d_val (i := 2) [] (ex_field (o := 0) 3 fa25_3 rfl rfl) ?_
  refine d_val (i := 3) [] (ex_field (o := 3) 3 fa23_0 rfl rfl) ?_
  refine d_load (i := 4) Try.isAgg3 rfl rfl ?_
  refine d_val (i := 5) [] (ex_field (o := 0) 0 fa76_0 rfl rfl) ?_
  refine d_val (i := 6) [] (ex_field (o := 0) 5 fa25_4 rfl rfl) ?_
  refine d_val (i := 7) [] (ex_field (o := 5) 5 fa23_0 rfl rfl) ?_
  refine d_load (i := 8) Try.isAgg3 rfl rfl ?_
  refine d_val (i := 9) [] (ex_call Try.call32 rfl (fun W hW => c32 b b.tl b.hl hb hb.tl0 (by omega) hb.hl0 (by omega))) ?_
  refine d_loadA (i := 10) Try.isAgg76 Try.sizeOf76 rfl ?_
  refine d_val (i := 11) [] (ex_field (o := 0) 0 fa76_0 rfl rfl) ?_
  refine d_val (i := 12) [] (ex_field (o := 0) 3 fa25_3 rfl rfl) ?_
  refine d_val (i := 13) [] (ex_field (o := 3) 4 fa23_1 rfl rfl) ?_
  refine d_load (i := 14) Try.isAgg3 rfl rfl ?_
  refine d_val (i := 15) [] (ex_field (o := 0) 0 fa76_0 rfl rfl) ?_
  refine d_val (i := 16) [] (ex_field (o := 0) 5 fa25_4 rfl rfl) ?_
  refine d_val (i := 17) [] (ex_field (o := 5) 6 fa23_1 rfl rfl) ?_
  refine d_load (i := 18) Try.isAgg3 rfl rfl ?_
  refine d_val (i := 19) [] (ex_call Try.call32 rfl (fun W hW => c32 b b.th b.hh hb (by omega) hb.th1 (by omega) hb.hh1)) ?_
  refine d_val (i := 20) [] (ex_build bf23 rfl) ?_
  refine d_rest ?_
  refine d_nil ?_
  refine r_one 21 (rs_store [20, 19, 0, 1, 2, 3, 4, 5, 6, 7, 8, 9, 10, 11, 12, 13, 14, 15, 16, 17, 18, 19, 20] rfl Try.sizeOf23 rfl rfl ?_) (by kernel_rfl)
  refine r_nil ?_ (by kernel_rfl)
  refine k_ret ?_
  exact finC rfl Try.isAgg23 Try.sizeOf23 rfl rfl fun W hW => ⟨rfl, hW.ext⟩

-- == f36 (acme/bolt.kind).arms params [76] results [23] in [('cell', ['2', '23'])] ntmps 17 nfree 0
theorem c36 (b : Bo) {w : World} (hb : b.Ok) : Calls Try.prog 36 [.agg [.int .i64 b.lead, .int .i64 b.thread, .int .i64 b.head, .int .i64 b.tl, .int .i64 b.th, .int .i64 b.hl, .int .i64 b.hh, .int .i64 b.sl, .int .i64 b.sh, .int .i64 b.pl, .int .i64 b.ph, .int .i64 b.yl, .int .i64 b.yh].toArray].toArray w fun e w' => e = .returned (.agg [.int .i64 b.armLo, .int .i64 b.armHi].toArray) ∧ Ext [] w w' := by
  have := hb.l0
  have := hb.l1
  have := hb.lo
  have := hb.hi
  refine fn_start Try.func36 rfl (N := 17) rfl ?_
  refine k_seq (k_region ?_)
  refine o_box rfl (fun b1 => ?_)
  refine o_alloc Try.zeroValue23 (fun b2 => o_nil ?_)
  refine k_seq (k_region ?_)
  refine o_val (ex_loadA Try.isAgg76 Try.sizeOf76 rfl) ?_
  refine o_val (ex_call Try.call69 rfl (fun W hW => c69 b hb)) ?_
  refine o_alloc Try.zeroValue23 (fun b3 => ?_)
  refine o_store Try.sizeOf23 rfl rfl (o_nil ?_)
  refine k_seq (k_draw [true, true, true, true, true, true, true, true, true, true, true, false] 1 ?_ mixed (by kernel_rfl) rfl)
  refine d_loadA (i := 0) Try.isAgg76 Try.sizeOf76 rfl ?_
  refine d_val (i := 1) [] (ex_call Try.call31 rfl (fun W hW => c31 b (by omega) hb.l1)) ?_
  refine d_val (i := 2) [] (ex_field (o := 0) 0 fa23_0 rfl rfl) ?_
  refine d_load (i := 3) Try.isAgg3 rfl rfl ?_
  refine d_val (i := 4) [] (ex_add64 rfl rfl (by unfold I64; omega)) ?_
  refine d_loadA (i := 5) Try.isAgg76 Try.sizeOf76 rfl ?_
  refine d_val (i := 6) [] (ex_call Try.call31 rfl (fun W hW => c31 b (by omega) hb.l1)) ?_
  refine d_val (i := 7) [] (ex_field (o := 0) 1 fa23_1 rfl rfl) ?_
  refine d_load (i := 8) Try.isAgg3 rfl rfl ?_
  refine d_val (i := 9) [] (ex_add64 rfl rfl (by unfold I64; omega)) ?_
  refine d_val (i := 10) [] (ex_build bf23 rfl) ?_
  refine d_rest ?_
  refine d_nil ?_
  refine r_one 11 (rs_store [10, 6, 0, 1, 2, 3, 4, 5, 6, 7, 8, 9, 10] rfl Try.sizeOf23 rfl rfl ?_) (by kernel_rfl)
  refine r_nil ?_ (by kernel_rfl)
  refine k_ret ?_
  exact finC rfl Try.isAgg23 Try.sizeOf23 rfl rfl fun W hW => ⟨rfl, hW.ext⟩

end Go.Proofs.Yteecidddfcbabaa
