/- The walks of small functions: what each call hands back, and that nothing that was there has turned. Printed by a program of this session (wip/tools/gen.py). -/
import Derived.Test.YteecidddfcbabaaA6
namespace Go.Proofs.Yteecidddfcbabaa
open Go
attribute [local irreducible] ExV Ex
set_option synthInstance.maxSize 2000
set_option synthInstance.maxHeartbeats 200000

def Bo.arm (b : Bo) (p q : Int) : Int := 1000 * b.lead + b.fric p q
def refF (b : Bo) (kind : Int) (x : Tr) : Int := if kind = 3 then x.spring * x.stretch else 1000 * x.torque / b.arm x.t x.h + (if kind = 2 then x.stiff * x.angle / 1000 else 0)

structure Tr.Fit (x : Tr) : Prop where
  (t : 0 ≤ x.t ∧ x.t ≤ 1000) (h : 0 ≤ x.h ∧ x.h ≤ 1000) (stiff : 0 ≤ x.stiff ∧ x.stiff ≤ 100000000) (spring : 0 ≤ x.spring ∧ x.spring ≤ 100000) (torque : 0 ≤ x.torque ∧ x.torque ≤ 30000000000000) (angle : 0 ≤ x.angle ∧ x.angle ≤ 100000) (stretch : 0 ≤ x.stretch ∧ x.stretch ≤ 100000)

theorem Bo.Ok.armB {b : Bo} (hb : b.Ok) {p q : Int} (p0 : 0 ≤ p ∧ p ≤ 1000) (q0 : 0 ≤ q ∧ q ≤ 1000) : 1000 ≤ b.arm p q ∧ b.arm p q ≤ 300000000 := by
  have := hb.fric p0.1 p0.2 q0.1 q0.2
  have := hb.l0
  have := hb.l1
  unfold Bo.arm; omega

theorem refF_bounds {b : Bo} (hb : b.Ok) (kind : Int) {x : Tr} (hx : x.Fit) : 0 ≤ refF b kind x ∧ refF b kind x ≤ 100000000000000000 := by
  have ha := hb.armB hx.t hx.h
  have := hx.torque
  have m1 := mulB hx.spring.1 hx.spring.2 hx.stretch.1 hx.stretch.2
  have m2 := mulB hx.stiff.1 hx.stiff.2 hx.angle.1 hx.angle.2
  have d1 := div_bounds (n := 1000 * x.torque) (d := b.arm x.t x.h) (K := 30000000000000000) (by omega) (by omega) (by omega) (by omega)
  have d2 : 0 ≤ 1000 * x.torque / b.arm x.t x.h := Int.ediv_nonneg (by omega) (by omega)
  unfold refF
  split
  · omega
  · split <;> omega

-- == f12 acme/acmeref09.Arm params [25, 26] results [3] in [('tmp', ['4'])] ntmps 20 nfree 0
theorem c12 (b : Bo) (p q : Int) {w : World} (hb : b.Ok) (hp : 0 ≤ p ∧ p ≤ 1000) (hq : 0 ≤ q ∧ q ≤ 1000) : Calls Try.prog 12 [.agg [.int .i64 b.lead, .int .i64 b.thread, .int .i64 b.head, .int .i64 b.tl, .int .i64 b.th, .int .i64 b.hl, .int .i64 b.hh, .int .i64 b.sl, .int .i64 b.sh, .int .i64 b.pl, .int .i64 b.ph, .int .i64 b.yl, .int .i64 b.yh].toArray, .agg [.int .i64 p, .int .i64 q].toArray].toArray w fun e w' => e = .returned (.int .i64 (b.arm p q)) ∧ Ext [] w w' := by
  have m1 := mulB hb.t0 hb.t1 hp.1 hp.2
  have m2 := mulB hb.h0 hb.h1 hq.1 hq.2
  have := hb.l0
  have := hb.l1
  refine fn_start Try.func12 rfl (N := 20) rfl ?_
  refine k_seq (k_region ?_)
  refine o_box rfl (fun b2 => ?_)
  refine o_box rfl (fun b3 => ?_)
  refine o_val (ex_assign rfl) (o_nil ?_)
  refine k_seq (k_region ?_)
  refine o_val (ex_field (o := 0) 0 fa25_0 rfl rfl) ?_
  refine o_val (ex_load Try.isAgg3 rfl rfl) ?_
  refine o_val (ex_mul64 rfl rfl (by unfold I64; omega)) ?_
  refine o_val (ex_field (o := 0) 1 fa25_1 rfl rfl) ?_
  refine o_val (ex_load Try.isAgg3 rfl rfl) ?_
  refine o_val (ex_indexArr 0 Try.runUnderlying26 Try.sizeOf3 rfl rfl (by decide) (by decide) rfl) ?_
  refine o_val (ex_load Try.isAgg3 rfl rfl) ?_
  refine o_val (ex_mul64 rfl rfl (by unfold I64; omega)) ?_
  refine o_val (ex_add64 rfl rfl (by unfold I64; omega)) ?_
  refine o_val (ex_field (o := 0) 2 fa25_2 rfl rfl) ?_
  refine o_val (ex_load Try.isAgg3 rfl rfl) ?_
  refine o_val (ex_indexArr 1 Try.runUnderlying26 Try.sizeOf3 rfl rfl (by decide) (by decide) rfl) ?_
  refine o_val (ex_load Try.isAgg3 rfl rfl) ?_
  refine o_val (ex_mul64 rfl rfl (by unfold I64; omega)) ?_
  refine o_val (ex_add64 rfl rfl (by unfold I64; omega)) ?_
  refine o_val (ex_assign rfl) (o_nil ?_)
  refine k_ret ?_
  exact fin1 rfl rfl fun W hW => ⟨by unfold Bo.arm Bo.fric; rw [Int.add_assoc], hW.ext⟩

-- == f51 acme/acmeref09.Force params [25, 45, 101] results [3] in [('tmp', ['6'])] ntmps 34 nfree 0
theorem c51 (b : Bo) (kind : Int) (x : Tr) {w : World} (hb : b.Ok) (hx : x.Fit) : Calls Try.prog 51 [.agg [.int .i64 b.lead, .int .i64 b.thread, .int .i64 b.head, .int .i64 b.tl, .int .i64 b.th, .int .i64 b.hl, .int .i64 b.hh, .int .i64 b.sl, .int .i64 b.sh, .int .i64 b.pl, .int .i64 b.ph, .int .i64 b.yl, .int .i64 b.yh].toArray, .int .i64 kind, .agg [.int .i64 x.t, .int .i64 x.h, .int .i64 x.stiff, .int .i64 x.spring, .int .i64 x.yield, .int .i64 x.torque, .int .i64 x.angle, .int .i64 x.stretch].toArray].toArray w fun e w' => e = .returned (.int .i64 (refF b kind x)) ∧ Ext [] w w' := by
  have ha := hb.armB hx.t hx.h
  have ht := hx.torque
  have m1 := mulB hx.spring.1 hx.spring.2 hx.stretch.1 hx.stretch.2
  have m2 := mulB hx.stiff.1 hx.stiff.2 hx.angle.1 hx.angle.2
  have d1 := div_bounds (n := 1000 * x.torque) (d := b.arm x.t x.h) (K := 30000000000000000) (by omega) (by omega) (by omega) (by omega)
  have d2 := div_bounds (n := x.stiff * x.angle) (d := 1000) (K := 10000000000000) (by omega) (by omega) (by omega) (by omega)
  refine fn_start Try.func51 rfl (N := 34) rfl ?_
  refine k_seq (k_region ?_)
  refine o_box rfl (fun b3 => ?_)
  refine o_box rfl (fun b5 => ?_)
  refine o_val (ex_assign rfl) (o_nil ?_)
  refine k_seq (k_seq (k_region ?_))
  refine o_val (ex_move rfl) ?_
  refine o_val (ex_eql rfl rfl) (o_nil ?_)
  refine k_cond rfl (fun h => ?_) (fun h => ?_)
  ·
    refine k_seq (k_region ?_)
    refine o_val (ex_field (o := 0) 3 fa101_2 rfl rfl) ?_
    refine o_val (ex_load Try.isAgg3 rfl rfl) ?_
    refine o_val (ex_field (o := 0) 7 fa101_6 rfl rfl) ?_
    refine o_val (ex_load Try.isAgg3 rfl rfl) ?_
    refine o_val (ex_mul64 rfl rfl (by unfold I64; omega)) ?_
    refine o_val (ex_assign rfl) (o_nil ?_)
    refine k_ret ?_
    exact fin1 rfl rfl fun W hW => ⟨by unfold refF; rw [if_pos (of_decide_eq_true h)], hW.ext⟩
  ·
    refine k_skip ?_
    refine k_seq (k_draw [true, true, true, true, true, true, true, true, false] 1 ?_ mixed (by kernel_rfl) rfl)
    refine d_val (i := 0) [] (ex_field (o := 0) 5 fa101_4 rfl rfl) ?_
    refine d_load (i := 1) Try.isAgg3 rfl rfl ?_
    refine d_val (i := 2) [] (ex_mul64 rfl rfl (by unfold I64; omega)) ?_
    refine d_loadA (i := 3) Try.isAgg25 Try.sizeOf25 rfl ?_
    refine d_val (i := 4) [] (ex_field (o := 0) 0 fa101_0 rfl rfl) ?_
    refine d_loadA (i := 5) Try.isAgg26 Try.sizeOf26 rfl ?_
    refine d_val (i := 6) [] (ex_call Try.call12 rfl (fun W hW => c12 b x.t x.h hb hx.t hx.h)) ?_
    refine d_val (i := 7) [] (ex_quoE rfl rfl (by omega) (by omega) (by unfold I64; omega)) ?_
    refine d_rest ?_
    refine d_nil ?_
    refine r_one 8 (rs_val rfl (ex_assign rfl) ?_) (by kernel_rfl)
    refine r_nil ?_ (by kernel_rfl)
    refine k_seq (k_seq (k_region ?_))
    refine o_val (ex_move rfl) ?_
    refine o_val (ex_eql rfl rfl) (o_nil ?_)
    refine k_cut (ι := Unit) (fun _ => [(7, .int .i64 (1000 * x.torque / b.arm x.t x.h + (if kind = 2 then x.stiff * x.angle / 1000 else 0)))]) (fun _ => [⟨b5, 101, [.int .i64 x.t, .int .i64 x.h, .int .i64 x.stiff, .int .i64 x.spring, .int .i64 x.yield, .int .i64 x.torque, .int .i64 x.angle, .int .i64 x.stretch], true⟩, ⟨b3, 25, [.int .i64 b.lead, .int .i64 b.thread, .int .i64 b.head, .int .i64 b.tl, .int .i64 b.th, .int .i64 b.hl, .int .i64 b.hh, .int .i64 b.sl, .int .i64 b.sh, .int .i64 b.pl, .int .i64 b.ph, .int .i64 b.yl, .int .i64 b.yh], true⟩]) (fun _ => True) ?_ (fun _ _ => ?_)
    · refine k_cond rfl (fun h_1 => ?_) (fun h_1 => ?_)
      ·
        refine k_region ?_
        refine o_val (ex_move rfl) ?_
        refine o_val (ex_field (o := 0) 2 fa101_1 rfl rfl) ?_
        refine o_val (ex_load Try.isAgg3 rfl rfl) ?_
        refine o_val (ex_field (o := 0) 6 fa101_5 rfl rfl) ?_
        refine o_val (ex_load Try.isAgg3 rfl rfl) ?_
        refine o_val (ex_mul64 rfl rfl (by unfold I64; omega)) ?_
        refine o_val (ex_quoE rfl rfl (by omega) (by omega) (by unfold I64; omega)) ?_
        refine o_val (ex_add64 rfl rfl (by unfold I64; omega)) ?_
        refine o_val (ex_assign rfl) (o_nil ?_)
        exact k_some () trivial (Sub.cons' rfl (by rw [if_pos (of_decide_eq_true h_1)]) (Sub.nil _)) SubE.sub
      ·
        refine k_skip ?_
        exact k_some () trivial (Sub.cons' rfl (by rw [if_neg (of_decide_eq_false h_1), Int.add_zero]) (Sub.nil _)) SubE.sub
    refine k_seq (k_region ?_)
    refine o_val (ex_move rfl) ?_
    refine o_val (ex_assign rfl) (o_nil ?_)
    refine k_ret ?_
    exact fin1 rfl rfl fun W hW => ⟨by unfold refF; rw [if_neg (of_decide_eq_false h)], hW.ext⟩

-- == f45 acme/acmeref09.Set params [3, 23] results [47] in [('cell', ['4', '47'])] ntmps 17 nfree 0
theorem c45 (q lo hi : Int) {w : World} (hq : -30000000000000 ≤ q ∧ q ≤ 30000000000000) (hl : -30000000000000 ≤ lo ∧ lo ≤ 30000000000000) (hh : -30000000000000 ≤ hi ∧ hi ≤ 30000000000000) : Calls Try.prog 45 [.int .i64 q, .agg [.int .i64 lo, .int .i64 hi].toArray].toArray w fun e w' => e = .returned (.agg [.int .i64 1, .int .i64 (max 0 (q + lo)), .int .i64 (max 0 (q + hi)), .int .i64 0, .int .i64 0, .int .i64 0, .int .i64 0].toArray) ∧ Ext [] w w' := by
  refine fn_start Try.func45 rfl (N := 17) rfl ?_
  refine k_seq (k_region ?_)
  refine o_box rfl (fun b3 => ?_)
  refine o_alloc Try.zeroValue47 (fun b4 => o_nil ?_)
  refine k_seq (k_region ?_)
  refine o_val (ex_move rfl) ?_
  refine o_val (ex_field (o := 0) 0 fa23_0 rfl rfl) ?_
  refine o_val (ex_load Try.isAgg3 rfl rfl) ?_
  refine o_val (ex_add64 rfl rfl (by unfold I64; omega)) ?_
  refine o_val (ex_max rfl rfl) ?_
  refine o_val (ex_move rfl) ?_
  refine o_val (ex_field (o := 0) 1 fa23_1 rfl rfl) ?_
  refine o_val (ex_load Try.isAgg3 rfl rfl) ?_
  refine o_val (ex_add64 rfl rfl (by unfold I64; omega)) ?_
  refine o_val (ex_max rfl rfl) ?_
  refine o_val (ex_build bf23 rfl) ?_
  refine o_val (ex_build bf47 rfl) ?_
  refine o_store Try.sizeOf47 rfl rfl (o_nil ?_)
  refine k_ret ?_
  exact finC rfl Try.isAgg47 Try.sizeOf47 rfl rfl fun W hW => ⟨rfl, hW.ext⟩

structure St where
  (lo hi : Int) (su po : Bool)
def stF (b : Bo) (y : Wa) : Nat → St
  | 0 => ⟨0, 0, true, false⟩
  | n + 1 => ⟨min (if n = 0 then refF b y.kind (truth b y n) else (stF b y n).lo) (refF b y.kind (truth b y n)), max (if n = 0 then refF b y.kind (truth b y n) else (stF b y n).hi) (refF b y.kind (truth b y n)),
    (stF b y n).su && decide (refF b y.kind (truth b y n) ≤ (truth b y n).yield), (stF b y n).po || decide (refF b y.kind (truth b y n) ≤ (truth b y n).yield)⟩

theorem truths_get (b : Bo) (y : Wa) : ∀ n k, k < n → ((truths b y n).drop (k * 8)).take 8 = (truth b y k).cells
  | n + 1, k, h => by
    have hl : (truths b y n).length = n * 8 := by
      clear h
      induction n with
      | zero => rfl
      | succ n ih => rw [truths_succ, List.length_append, ih]; simp [Tr.cells]; omega
    rw [truths_succ]
    by_cases hk : k < n
    · rw [List.drop_append_of_le_length (by omega), List.take_append_of_le_length (by rw [List.length_drop]; omega)]
      exact truths_get b y n k hk
    · have : k = n := by omega
      subst this
      rw [List.drop_append, List.drop_of_length_le (by omega), hl]
      simp [Tr.cells]

theorem row_get {cs xs ys : List Value} {N o n : Nat} (h : cs.take N = xs) (h2 : (xs.drop o).take n = ys) (hN : o + n ≤ N) : (cs.drop o).take n = ys := by
  rw [← h2, ← h, List.drop_take, List.take_take]
  congr 1
  omega

-- == f18 acme/acmeref09.Forces params [25, 47] results [23, 4, 4] in [('cell', ['4', '23']), ('tmp', ['5']), ('tmp', ['6'])] ntmps 68 nfree 0
theorem c18 (b : Bo) (y : Wa) {w : World} (hb : b.Ok) (hf : ∀ k, k < 256 → (truth b y k).Fit) : Calls Try.prog 18 [.agg [.int .i64 b.lead, .int .i64 b.thread, .int .i64 b.head, .int .i64 b.tl, .int .i64 b.th, .int .i64 b.hl, .int .i64 b.hh, .int .i64 b.sl, .int .i64 b.sh, .int .i64 b.pl, .int .i64 b.ph, .int .i64 b.yl, .int .i64 b.yh].toArray, .agg [.int .i64 y.kind, .int .i64 y.tl, .int .i64 y.th, .int .i64 y.al, .int .i64 y.ah, .int .i64 y.sl, .int .i64 y.sh].toArray].toArray w fun e w' => e = .returned (.tuple #[.agg [.int .i64 ((stF b y 256).lo), .int .i64 ((stF b y 256).hi)].toArray, .bool (stF b y 256).su, .bool (stF b y 256).po]) ∧ Ext [] w w' := by
  refine fn_start Try.func18 rfl (N := 68) rfl ?_
  refine k_seq (k_region ?_)
  refine o_box rfl (fun b2 => ?_)
  refine o_box rfl (fun b3 => ?_)
  refine o_alloc Try.zeroValue23 (fun b4 => ?_)
  refine o_val (ex_assign rfl) ?_
  refine o_val (ex_assign rfl) (o_nil ?_)
  refine k_seq (k_region ?_)
  refine o_val (ex_loadA Try.isAgg25 Try.sizeOf25 rfl) ?_
  refine o_val (ex_loadA Try.isAgg47 Try.sizeOf47 rfl) ?_
  refine o_callO Try.call50 rfl (fun W hW => c50 b y) (fun v15 x15 o15 => ?_)
  rcases o15.2 with ⟨_, h0, _⟩ | ⟨g, cap, cs, rfl, rfl, hcap, hmax, hcs, htake⟩
  · exact absurd h0 (by decide)
  simp only [List.cons_append, List.nil_append]
  refine o_val (ex_assign rfl) (o_nil ?_)
  refine k_seq (k_region ?_)
  refine o_val (ex_build bf23 rfl) ?_
  refine o_alloc Try.zeroValue23 (fun b8 => ?_)
  refine o_store Try.sizeOf23 rfl rfl ?_
  refine o_val (ex_assign rfl) ?_
  refine o_val (ex_assign rfl) (o_nil ?_)
  refine k_seq (k_seq (k_region ?_))
  refine o_val (ex_assign rfl) (o_nil ?_)
  refine k_block ?_
  refine k_loop (ι := Nat) (fun k => [(2, .pointer (some ⟨b2, 0, none⟩)), (3, .pointer (some ⟨b3, 0, none⟩)), (4, .pointer (some ⟨b4, 0, none⟩)), (7, .slice (some ⟨g, 0, none⟩) 256 cap), (8, .pointer (some ⟨b8, 0, none⟩)), (9, .bool (stF b y k).su), (10, .bool (stF b y k).po), (11, .int .i64 (k : Int))]) (fun k => [⟨b8, 23, [.int .i64 (stF b y k).lo, .int .i64 (stF b y k).hi], true⟩, ⟨g, 101, cs, true⟩, ⟨b4, 23, [.int .i64 0, .int .i64 0], true⟩, ⟨b3, 47, [.int .i64 y.kind, .int .i64 y.tl, .int .i64 y.th, .int .i64 y.al, .int .i64 y.ah, .int .i64 y.sl, .int .i64 y.sh], true⟩, ⟨b2, 25, [.int .i64 b.lead, .int .i64 b.thread, .int .i64 b.head, .int .i64 b.tl, .int .i64 b.th, .int .i64 b.hl, .int .i64 b.hh, .int .i64 b.sl, .int .i64 b.sh, .int .i64 b.pl, .int .i64 b.ph, .int .i64 b.yl, .int .i64 b.yh], true⟩]) (fun k => k ≤ 256) (fun k => 256 - k) 0 (by omega) (Sub.cons rfl (Sub.cons rfl (Sub.cons rfl (Sub.cons rfl (Sub.cons rfl (Sub.cons rfl (Sub.cons rfl (Sub.cons rfl (Sub.nil _))))))))) (.refl _) (fun k hk => ?_)
  have hk : k ≤ 256 := hk
  refine k_seq (k_seq (k_region ?_))
  refine o_val (ex_move rfl) ?_
  refine o_val (ex_move rfl) ?_
  refine o_val (ex_len Try.runUnderlying97 rfl) ?_
  refine o_val (ex_lss rfl rfl) (o_nil ?_)
  refine k_cond rfl (fun h => ?_) (fun h => ?_)
  ·
    have hlt : k < 256 := by have : (k : Int) < ((256 : Nat) : Int) := of_decide_eq_true h; omega
    have hF := hf k hlt
    have hrow := row_get htake (truths_get b y 256 k hlt) (by omega)
    haveI hsl : Slc cs (k * 8) 8 (truth b y k).cells := ⟨hrow.symm, by omega⟩
    have hy4 : cs[k * 8 + 4]? = some (.int .i64 (truth b y k).yield) := by
      have e : ((cs.drop (k * 8)).take 8)[4]? = some (.int .i64 (truth b y k).yield) := by rw [hrow]; rfl
      rw [List.getElem?_take, if_pos (by omega), List.getElem?_drop] at e
      exact e
    refine k_skip ?_
    refine k_seq (k_block ?_)
    refine k_seq (k_draw [true, true, true, true, true, true, true, true, false] 1 ?_ mixed (by kernel_rfl) rfl)
    refine d_loadA (i := 0) Try.isAgg25 Try.sizeOf25 rfl ?_
    refine d_val (i := 1) [] (ex_field (o := 0) 0 fa47_0 rfl rfl) ?_
    refine d_load (i := 2) Try.isAgg45 rfl rfl ?_
    refine d_val (i := 3) [] (ex_move rfl) ?_
    refine d_val (i := 4) [] (ex_move rfl) ?_
    refine d_val (i := 5) [] (ex_index (k * 8) Try.runUnderlying97 Try.sizeOf101 rfl rfl (by omega) (by omega) (by omega)) ?_
    refine d_loadA (i := 6) Try.isAgg101 Try.sizeOf101 rfl ?_
    refine d_val (i := 7) [] (ex_call Try.call51 rfl (fun W hW => (by exact c51 b y.kind (truth b y k) hb hF))) ?_
    refine d_rest ?_
    refine d_nil ?_
    refine r_one 8 (rs_val rfl (ex_assign rfl) ?_) (by kernel_rfl)
    refine r_nil ?_ (by kernel_rfl)
    refine k_seq (k_seq (k_region ?_))
    refine o_val (ex_move rfl) ?_
    refine o_val (ex_eql rfl rfl) (o_nil ?_)
    refine k_cut (ι := Int × Int) (fun r => [(2, .pointer (some ⟨b2, 0, none⟩)), (3, .pointer (some ⟨b3, 0, none⟩)), (4, .pointer (some ⟨b4, 0, none⟩)), (7, .slice (some ⟨g, 0, none⟩) 256 cap), (8, .pointer (some ⟨b8, 0, none⟩)), (9, .bool (stF b y k).su), (10, .bool (stF b y k).po), (11, .int .i64 (k : Int)), (12, .int .i64 (refF b y.kind (truth b y k)))]) (fun r => [⟨b8, 23, [.int .i64 r.1, .int .i64 r.2], true⟩, ⟨g, 101, cs, true⟩, ⟨b4, 23, [.int .i64 0, .int .i64 0], true⟩, ⟨b3, 47, [.int .i64 y.kind, .int .i64 y.tl, .int .i64 y.th, .int .i64 y.al, .int .i64 y.ah, .int .i64 y.sl, .int .i64 y.sh], true⟩, ⟨b2, 25, [.int .i64 b.lead, .int .i64 b.thread, .int .i64 b.head, .int .i64 b.tl, .int .i64 b.th, .int .i64 b.hl, .int .i64 b.hh, .int .i64 b.sl, .int .i64 b.sh, .int .i64 b.pl, .int .i64 b.ph, .int .i64 b.yl, .int .i64 b.yh], true⟩]) (fun r => r.1 = (if k = 0 then refF b y.kind (truth b y k) else (stF b y k).lo) ∧ r.2 = (if k = 0 then refF b y.kind (truth b y k) else (stF b y k).hi)) ?_ (fun r hr => ?_)
    · refine k_cond rfl (fun h_1 => ?_) (fun h_1 => ?_)
      ·
        have hk0 : k = 0 := by have : (k : Int) = 0 := of_decide_eq_true h_1; omega
        refine k_region ?_
        refine o_val (ex_move rfl) ?_
        refine o_val (ex_move rfl) ?_
        refine o_val (ex_build bf23 rfl) ?_
        refine o_store Try.sizeOf23 rfl rfl (o_nil ?_)
        exact k_some (refF b y.kind (truth b y k), refF b y.kind (truth b y k)) ⟨by rw [if_pos hk0], by rw [if_pos hk0]⟩ (Sub.cons rfl (Sub.cons rfl (Sub.cons rfl (Sub.cons rfl (Sub.cons rfl (Sub.cons rfl (Sub.cons rfl (Sub.cons rfl (Sub.cons rfl (Sub.nil _)))))))))) SubE.sub
      ·
        have hk0 : ¬ k = 0 := by have : ¬ (k : Int) = 0 := of_decide_eq_false h_1; omega
        refine k_skip ?_
        exact k_some ((stF b y k).lo, (stF b y k).hi) ⟨by rw [if_neg hk0], by rw [if_neg hk0]⟩ (Sub.cons rfl (Sub.cons rfl (Sub.cons rfl (Sub.cons rfl (Sub.cons rfl (Sub.cons rfl (Sub.cons rfl (Sub.cons rfl (Sub.cons rfl (Sub.nil _)))))))))) SubE.sub
    obtain ⟨rl, rh⟩ := r
    dsimp only at hr ⊢
    obtain ⟨rfl, rfl⟩ := hr
    refine k_seq (k_region ?_)
    refine o_val (ex_field (o := 0) 0 fa23_0 rfl rfl) ?_
    refine o_val (ex_load Try.isAgg3 rfl rfl) ?_
    refine o_val (ex_move rfl) ?_
    refine o_val (ex_min rfl rfl) ?_
    refine o_val (ex_field (o := 0) 1 fa23_1 rfl rfl) ?_
    refine o_val (ex_load Try.isAgg3 rfl rfl) ?_
    refine o_val (ex_move rfl) ?_
    refine o_val (ex_max rfl rfl) ?_
    refine o_val (ex_build bf23 rfl) ?_
    refine o_store Try.sizeOf23 rfl rfl (o_nil ?_)
    cases hsu : (stF b y k).su <;> cases hpo : (stF b y k).po
    ·
      refine k_draw [true, true, true, true, true, true, true, true, true, true, true, true, true, true, true, true, true, true, true, true, false, false] 2 ?_ mixed (by kernel_rfl) rfl
      refine d_val (i := 0) [] (ex_move rfl) ?_
      refine d_val (i := 1) [] (ex_move rfl) ?_
      refine d_skip (i := 2) ?_
      refine d_skip (i := 3) ?_
      refine d_skip (i := 4) ?_
      refine d_skip (i := 5) ?_
      refine d_skip (i := 6) ?_
      refine d_skip (i := 7) ?_
      refine d_skip (i := 8) ?_
      refine d_val (i := 9) [] (ex_pick rfl rfl) ?_
      refine d_val (i := 10) [] (ex_move rfl) ?_
      refine d_val (i := 11) [] (ex_move rfl) ?_
      refine d_val_g (i := 12) [] (ex_move rfl) ?_
      refine d_val_g (i := 13) [] (ex_move rfl) ?_
      refine d_val_g (i := 14) [] (ex_move rfl) ?_
      refine d_val_g (i := 15) [] (ex_index (k * 8) Try.runUnderlying97 Try.sizeOf101 rfl rfl (by omega) (by omega) (by omega)) ?_
      refine d_val_g (i := 16) [] (ex_field (o := k * 8) (k * 8 + 4) fa101_3 rfl rfl) ?_
      refine d_load_g (i := 17) Try.isAgg3 rfl hy4 ?_
      refine d_val_g (i := 18) [] (ex_leq rfl rfl) ?_
      refine d_val (i := 19) [] (ex_pick rfl rfl) ?_
      refine d_rest ?_
      refine d_rest ?_
      refine d_nil ?_
      refine r_one 20 (rs_val rfl (ex_assign rfl) ?_) (by kernel_rfl)
      refine r_one 21 (rs_val rfl (ex_assign rfl) ?_) (by kernel_rfl)
      refine r_nil ?_ (by kernel_rfl)
      refine k_region ?_
      refine o_val (ex_move rfl) ?_
      refine o_val (ex_add64 rfl rfl (by unfold I64; omega)) ?_
      refine o_val (ex_assign rfl) (o_nil ?_)
      exact k_some (k + 1) ⟨show k + 1 ≤ 256 by omega, by omega⟩ (Sub.cons rfl (Sub.cons rfl (Sub.cons rfl (Sub.cons rfl (Sub.cons rfl (Sub.cons' rfl (by simp [stF, hsu]) (Sub.cons' rfl (by simp [stF, hpo]) (Sub.cons rfl (Sub.nil _))))))))) (.refl _)
    ·
      refine k_draw [true, true, true, true, true, true, true, true, true, true, true, true, true, true, true, true, true, true, true, true, false, false] 2 ?_ mixed (by kernel_rfl) rfl
      refine d_val (i := 0) [] (ex_move rfl) ?_
      refine d_val (i := 1) [] (ex_move rfl) ?_
      refine d_skip (i := 2) ?_
      refine d_skip (i := 3) ?_
      refine d_skip (i := 4) ?_
      refine d_skip (i := 5) ?_
      refine d_skip (i := 6) ?_
      refine d_skip (i := 7) ?_
      refine d_skip (i := 8) ?_
      refine d_val (i := 9) [] (ex_pick rfl rfl) ?_
      refine d_val (i := 10) [] (ex_move rfl) ?_
      refine d_val (i := 11) [] (ex_move rfl) ?_
      refine d_skip (i := 12) ?_
      refine d_skip (i := 13) ?_
      refine d_skip (i := 14) ?_
      refine d_skip (i := 15) ?_
      refine d_skip (i := 16) ?_
      refine d_skip (i := 17) ?_
      refine d_skip (i := 18) ?_
      refine d_val (i := 19) [] (ex_pick rfl rfl) ?_
      refine d_rest ?_
      refine d_rest ?_
      refine d_nil ?_
      refine r_one 20 (rs_val rfl (ex_assign rfl) ?_) (by kernel_rfl)
      refine r_one 21 (rs_val rfl (ex_assign rfl) ?_) (by kernel_rfl)
      refine r_nil ?_ (by kernel_rfl)
      refine k_region ?_
      refine o_val (ex_move rfl) ?_
      refine o_val (ex_add64 rfl rfl (by unfold I64; omega)) ?_
      refine o_val (ex_assign rfl) (o_nil ?_)
      exact k_some (k + 1) ⟨show k + 1 ≤ 256 by omega, by omega⟩ (Sub.cons rfl (Sub.cons rfl (Sub.cons rfl (Sub.cons rfl (Sub.cons rfl (Sub.cons' rfl (by simp [stF, hsu]) (Sub.cons' rfl (by simp [stF, hpo]) (Sub.cons rfl (Sub.nil _))))))))) (.refl _)
    ·
      refine k_draw [true, true, true, true, true, true, true, true, true, true, true, true, true, true, true, true, true, true, true, true, false, false] 2 ?_ mixed (by kernel_rfl) rfl
      refine d_val (i := 0) [] (ex_move rfl) ?_
      refine d_val (i := 1) [] (ex_move rfl) ?_
      refine d_val_g (i := 2) [] (ex_move rfl) ?_
      refine d_val_g (i := 3) [] (ex_move rfl) ?_
      refine d_val_g (i := 4) [] (ex_move rfl) ?_
      refine d_val_g (i := 5) [] (ex_index (k * 8) Try.runUnderlying97 Try.sizeOf101 rfl rfl (by omega) (by omega) (by omega)) ?_
      refine d_val_g (i := 6) [] (ex_field (o := k * 8) (k * 8 + 4) fa101_3 rfl rfl) ?_
      refine d_load_g (i := 7) Try.isAgg3 rfl hy4 ?_
      refine d_val_g (i := 8) [] (ex_leq rfl rfl) ?_
      refine d_val (i := 9) [] (ex_pick rfl rfl) ?_
      refine d_val (i := 10) [] (ex_move rfl) ?_
      refine d_val (i := 11) [] (ex_move rfl) ?_
      refine d_val_g (i := 12) [] (ex_move rfl) ?_
      refine d_val_g (i := 13) [] (ex_move rfl) ?_
      refine d_val_g (i := 14) [] (ex_move rfl) ?_
      refine d_val_g (i := 15) [] (ex_index (k * 8) Try.runUnderlying97 Try.sizeOf101 rfl rfl (by omega) (by omega) (by omega)) ?_
      refine d_val_g (i := 16) [] (ex_field (o := k * 8) (k * 8 + 4) fa101_3 rfl rfl) ?_
      refine d_load_g (i := 17) Try.isAgg3 rfl hy4 ?_
      refine d_val_g (i := 18) [] (ex_leq rfl rfl) ?_
      refine d_val (i := 19) [] (ex_pick rfl rfl) ?_
      refine d_rest ?_
      refine d_rest ?_
      refine d_nil ?_
      refine r_one 20 (rs_val rfl (ex_assign rfl) ?_) (by kernel_rfl)
      refine r_one 21 (rs_val rfl (ex_assign rfl) ?_) (by kernel_rfl)
      refine r_nil ?_ (by kernel_rfl)
      refine k_region ?_
      refine o_val (ex_move rfl) ?_
      refine o_val (ex_add64 rfl rfl (by unfold I64; omega)) ?_
      refine o_val (ex_assign rfl) (o_nil ?_)
      exact k_some (k + 1) ⟨show k + 1 ≤ 256 by omega, by omega⟩ (Sub.cons rfl (Sub.cons rfl (Sub.cons rfl (Sub.cons rfl (Sub.cons rfl (Sub.cons' rfl (by simp [stF, hsu]) (Sub.cons' rfl (by simp [stF, hpo]) (Sub.cons rfl (Sub.nil _))))))))) (.refl _)
    ·
      refine k_draw [true, true, true, true, true, true, true, true, true, true, true, true, true, true, true, true, true, true, true, true, false, false] 2 ?_ mixed (by kernel_rfl) rfl
      refine d_val (i := 0) [] (ex_move rfl) ?_
      refine d_val (i := 1) [] (ex_move rfl) ?_
      refine d_val_g (i := 2) [] (ex_move rfl) ?_
      refine d_val_g (i := 3) [] (ex_move rfl) ?_
      refine d_val_g (i := 4) [] (ex_move rfl) ?_
      refine d_val_g (i := 5) [] (ex_index (k * 8) Try.runUnderlying97 Try.sizeOf101 rfl rfl (by omega) (by omega) (by omega)) ?_
      refine d_val_g (i := 6) [] (ex_field (o := k * 8) (k * 8 + 4) fa101_3 rfl rfl) ?_
      refine d_load_g (i := 7) Try.isAgg3 rfl hy4 ?_
      refine d_val_g (i := 8) [] (ex_leq rfl rfl) ?_
      refine d_val (i := 9) [] (ex_pick rfl rfl) ?_
      refine d_val (i := 10) [] (ex_move rfl) ?_
      refine d_val (i := 11) [] (ex_move rfl) ?_
      refine d_skip (i := 12) ?_
      refine d_skip (i := 13) ?_
      refine d_skip (i := 14) ?_
      refine d_skip (i := 15) ?_
      refine d_skip (i := 16) ?_
      refine d_skip (i := 17) ?_
      refine d_skip (i := 18) ?_
      refine d_val (i := 19) [] (ex_pick rfl rfl) ?_
      refine d_rest ?_
      refine d_rest ?_
      refine d_nil ?_
      refine r_one 20 (rs_val rfl (ex_assign rfl) ?_) (by kernel_rfl)
      refine r_one 21 (rs_val rfl (ex_assign rfl) ?_) (by kernel_rfl)
      refine r_nil ?_ (by kernel_rfl)
      refine k_region ?_
      refine o_val (ex_move rfl) ?_
      refine o_val (ex_add64 rfl rfl (by unfold I64; omega)) ?_
      refine o_val (ex_assign rfl) (o_nil ?_)
      exact k_some (k + 1) ⟨show k + 1 ≤ 256 by omega, by omega⟩ (Sub.cons rfl (Sub.cons rfl (Sub.cons rfl (Sub.cons rfl (Sub.cons rfl (Sub.cons' rfl (by simp [stF, hsu]) (Sub.cons' rfl (by simp [stF, hpo]) (Sub.cons rfl (Sub.nil _))))))))) (.refl _)
  ·
    have hk : k = 256 := by have : ¬ (k : Int) < ((256 : Nat) : Int) := of_decide_eq_false h; omega
    subst hk
    refine k_exit rfl ?_
    refine k_seq (k_region ?_)
    refine o_val (ex_loadA Try.isAgg23 Try.sizeOf23 rfl) ?_
    refine o_val (ex_move rfl) ?_
    refine o_val (ex_move rfl) ?_
    refine o_store Try.sizeOf23 rfl rfl ?_
    refine o_val (ex_assign rfl) ?_
    refine o_val (ex_assign rfl) (o_nil ?_)
    refine k_ret ?_
    exact finC11 rfl Try.isAgg23 Try.sizeOf23 rfl rfl rfl rfl fun W hW => ⟨rfl, hW.ext⟩

end Go.Proofs.Yteecidddfcbabaa
