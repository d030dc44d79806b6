/- The walks of small functions: what each call hands back, and that nothing that was there has turned. Printed by a program of this session (wip/tools/gen.py). -/
import Derived.Test.YteecidddfcbabaaB4
namespace Go.Proofs.Yteecidddfcbabaa
open Go
attribute [local irreducible] ExV Ex
set_option synthInstance.maxSize 2000
set_option synthInstance.maxHeartbeats 200000
set_option maxRecDepth 20000

/-- The least torque for a force, by the reference. -/
def lst (arm force : Int) : Int := (force * arm + 999) / 1000
def can (b : Bo) (tl th fl fh p q : Int) : Bool := decide (max tl (lst (b.arm p q) fl) ≤ min th (lst (b.arm p q) (fh + 1) - 1))
/-- What the reference has found so far. -/
structure Ls where
  (ok : Bool) (xl xh yl yh : Int)
def Ls.add (s : Ls) (p q : Int) : Ls := if s.ok then ⟨true, min s.xl p, max s.xh p, min s.yl q, max s.yh q⟩ else ⟨true, p, p, q, q⟩
def Ls.set (s : Ls) (p q : Int) : Ls := if s.ok then s else ⟨true, p, p, q, q⟩
theorem Ls.add_set (s : Ls) (p q : Int) : s.add p q = ⟨(s.set p q).ok, min (s.set p q).xl p, max (s.set p q).xh p, min (s.set p q).yl q, max (s.set p q).yh q⟩ := by
  unfold Ls.add Ls.set
  split
  · rename_i h
    rw [h]
  · simp
def lsI (c : Int → Bool) (p h0 : Int) : Nat → Ls → Ls
  | 0, s => s
  | n + 1, s => if c (h0 + n) then (lsI c p h0 n s).add p (h0 + n) else lsI c p h0 n s
def nH (b : Bo) : Nat := (b.hh - b.hl + 1).toNat
def lsO (c : Int → Int → Bool) (b : Bo) : Nat → Ls
  | 0 => ⟨false, 0, 0, 0, 0⟩
  | n + 1 => lsI (c (b.tl + n)) (b.tl + n) b.hl (nH b) (lsO c b n)

-- == f76 acme/acmeref09.Least params [3, 3] results [3] in [('tmp', ['4'])] ntmps 10 nfree 0
theorem c76 (arm force : Int) {w : World} (ha : 0 ≤ arm ∧ arm ≤ 300000000) (hf : 0 ≤ force ∧ force ≤ 100000001) : Calls Try.prog 76 [.int .i64 arm, .int .i64 force].toArray w fun e w' => e = .returned (.int .i64 (lst arm force)) ∧ Ext [] w w' := by
  have m1 := mulB (a := force) (A := 100000001) (b := arm) (B := 300000000) hf.1 hf.2 ha.1 ha.2
  refine fn_start Try.func76 rfl (N := 10) rfl ?_
  refine k_seq (k_region ?_)
  refine o_val (ex_assign rfl) (o_nil ?_)
  refine k_seq (k_region ?_)
  refine o_val (ex_move rfl) ?_
  refine o_val (ex_move rfl) ?_
  refine o_val (ex_mul64 rfl rfl (by unfold I64; omega)) ?_
  refine o_val (ex_add64 rfl rfl (by unfold I64; omega)) ?_
  refine o_val (ex_quoE rfl rfl (by omega) (by omega) (by unfold I64; omega)) ?_
  refine o_val (ex_assign rfl) (o_nil ?_)
  refine k_ret ?_
  exact fin1 rfl rfl fun W hW => ⟨rfl, hW.ext⟩

-- == f57 acme/acmeref09.Can params [25, 26, 23, 23] results [4] in [('tmp', ['8'])] ntmps 30 nfree 0
theorem c57 (b : Bo) (p q tl th fl fh : Int) {w : World} (hb : b.Ok) (hp : 0 ≤ p ∧ p ≤ 1000) (hq : 0 ≤ q ∧ q ≤ 1000) (hf : 0 ≤ fl ∧ fl ≤ fh ∧ fh ≤ 100000000) : Calls Try.prog 57 [.agg [.int .i64 b.lead, .int .i64 b.thread, .int .i64 b.head, .int .i64 b.tl, .int .i64 b.th, .int .i64 b.hl, .int .i64 b.hh, .int .i64 b.sl, .int .i64 b.sh, .int .i64 b.pl, .int .i64 b.ph, .int .i64 b.yl, .int .i64 b.yh].toArray, .agg [.int .i64 p, .int .i64 q].toArray, .agg [.int .i64 tl, .int .i64 th].toArray, .agg [.int .i64 fl, .int .i64 fh].toArray].toArray w fun e w' => e = .returned (.bool (can b tl th fl fh p q)) ∧ Ext [] w w' := by
  have ha := hb.armB hp hq
  have m1 := mulB (a := fh + 1) (A := 100000001) (b := b.arm p q) (B := 300000000) (by omega) (by omega) (by omega) (by omega)
  have hl : 0 ≤ lst (b.arm p q) (fh + 1) ∧ lst (b.arm p q) (fh + 1) ≤ 100000000000000 := by unfold lst; omega
  refine fn_start Try.func57 rfl (N := 30) rfl ?_
  refine k_seq (k_region ?_)
  refine o_box rfl (fun b4 => ?_)
  refine o_box rfl (fun b5 => ?_)
  refine o_box rfl (fun b6 => ?_)
  refine o_box rfl (fun b7 => ?_)
  refine o_val (ex_assign rfl) (o_nil ?_)
  refine k_seq (k_region ?_)
  refine o_val (ex_loadA Try.isAgg25 Try.sizeOf25 rfl) ?_
  refine o_val (ex_loadA Try.isAgg26 Try.sizeOf26 rfl) ?_
  refine o_val (ex_call Try.call12 rfl (fun W hW => c12 b p q hb hp hq)) ?_
  refine o_val (ex_assign rfl) (o_nil ?_)
  refine k_seq (k_draw [true, true, true, true, true, true, true, true, true, true, true, true, true, true, true, true, true, false] 1 ?_ mixed (by kernel_rfl) rfl)
  refine d_val (i := 0) [] (ex_field (o := 0) 0 fa23_0 rfl rfl) ?_
  refine d_load (i := 1) Try.isAgg3 rfl rfl ?_
  refine d_val (i := 2) [] (ex_move rfl) ?_
  refine d_val (i := 3) [] (ex_field (o := 0) 0 fa23_0 rfl rfl) ?_
  refine d_load (i := 4) Try.isAgg3 rfl rfl ?_
  refine d_val (i := 5) [] (ex_call Try.call76 rfl (fun W hW => c76 (b.arm p q) fl (by omega) (by omega))) ?_
  refine d_val (i := 6) [] (ex_max rfl rfl) ?_
  refine d_val (i := 7) [] (ex_field (o := 0) 1 fa23_1 rfl rfl) ?_
  refine d_load (i := 8) Try.isAgg3 rfl rfl ?_
  refine d_val (i := 9) [] (ex_move rfl) ?_
  refine d_val (i := 10) [] (ex_field (o := 0) 1 fa23_1 rfl rfl) ?_
  refine d_load (i := 11) Try.isAgg3 rfl rfl ?_
  refine d_val (i := 12) [] (ex_add64 rfl rfl (by unfold I64; omega)) ?_
  refine d_val (i := 13) [] (ex_call Try.call76 rfl (fun W hW => c76 (b.arm p q) (fh + 1) (by omega) (by omega))) ?_
  refine d_val (i := 14) [] (ex_sub64 rfl rfl (by unfold I64; omega)) ?_
  refine d_val (i := 15) [] (ex_min rfl rfl) ?_
  refine d_val (i := 16) [] (ex_leq rfl rfl) ?_
  refine d_rest ?_
  refine d_nil ?_
  refine r_one 17 (rs_val rfl (ex_assign rfl) ?_) (by kernel_rfl)
  refine r_nil ?_ (by kernel_rfl)
  refine k_ret ?_
  exact fin1 rfl rfl fun W hW => ⟨rfl, hW.ext⟩

structure QI where
  (k : Nat) (s : Ls)

-- == f20 acme/acmeref09.Learn params [25, 23, 23] results [23, 23, 4] in [('cell', ['6', '23']), ('cell', ['7', '23']), ('tmp', ['8'])] ntmps 73 nfree 0
theorem c20 (b : Bo) (tl th fl fh : Int) {w : World} (hb : b.Ok) (hf : 0 ≤ fl ∧ fl ≤ fh ∧ fh ≤ 100000000) : Calls Try.prog 20 [.agg [.int .i64 b.lead, .int .i64 b.thread, .int .i64 b.head, .int .i64 b.tl, .int .i64 b.th, .int .i64 b.hl, .int .i64 b.hh, .int .i64 b.sl, .int .i64 b.sh, .int .i64 b.pl, .int .i64 b.ph, .int .i64 b.yl, .int .i64 b.yh].toArray, .agg [.int .i64 tl, .int .i64 th].toArray, .agg [.int .i64 fl, .int .i64 fh].toArray].toArray w fun e w' => e = .returned (.tuple #[.agg [.int .i64 ((lsO (can b tl th fl fh) b (nT b)).xl), .int .i64 ((lsO (can b tl th fl fh) b (nT b)).xh)].toArray, .agg [.int .i64 ((lsO (can b tl th fl fh) b (nT b)).yl), .int .i64 ((lsO (can b tl th fl fh) b (nT b)).yh)].toArray, .bool (lsO (can b tl th fl fh) b (nT b)).ok]) ∧ Ext [] w w' := by
  have tt := hb.tt
  have tl0 := hb.tl0
  have th1 := hb.th1
  have q1 := hb.hh
  have q2 := hb.hl0
  have q3 := hb.hh1
  have hnT : ((nT b : Nat) : Int) = b.th - b.tl + 1 := by unfold nT; omega
  have hnH : ((nH b : Nat) : Int) = b.hh - b.hl + 1 := by unfold nH; omega
  refine fn_start Try.func20 rfl (N := 73) rfl ?_
  refine k_seq (k_region ?_)
  refine o_box rfl (fun b3 => ?_)
  refine o_box rfl (fun b4 => ?_)
  refine o_box rfl (fun b5 => ?_)
  refine o_alloc Try.zeroValue23 (fun b6 => ?_)
  refine o_alloc Try.zeroValue23 (fun b7 => ?_)
  refine o_val (ex_assign rfl) (o_nil ?_)
  refine k_seq (k_region ?_)
  refine o_val (ex_build bf23 rfl) ?_
  refine o_val (ex_build bf23 rfl) ?_
  refine o_alloc Try.zeroValue23 (fun b9 => ?_)
  refine o_alloc Try.zeroValue23 (fun b10 => ?_)
  refine o_store Try.sizeOf23 rfl rfl ?_
  refine o_store Try.sizeOf23 rfl rfl ?_
  refine o_val (ex_assign rfl) (o_nil ?_)
  refine k_seq (k_seq (k_region ?_))
  refine o_val (ex_field (o := 0) 3 fa25_3 rfl rfl) ?_
  refine o_val (ex_field (o := 3) 3 fa23_0 rfl rfl) ?_
  refine o_val (ex_load Try.isAgg3 rfl rfl) ?_
  refine o_val (ex_assign rfl) (o_nil ?_)
  refine k_block ?_
  refine k_loop (ι := QI) (fun k => [(3, .pointer (some ⟨b3, 0, none⟩)), (4, .pointer (some ⟨b4, 0, none⟩)), (5, .pointer (some ⟨b5, 0, none⟩)), (6, .pointer (some ⟨b6, 0, none⟩)), (7, .pointer (some ⟨b7, 0, none⟩)), (9, .pointer (some ⟨b9, 0, none⟩)), (10, .pointer (some ⟨b10, 0, none⟩)), (11, .bool k.s.ok), (12, .int .i64 (b.tl + (k.k : Int)))]) (fun k => [⟨b10, 23, [.int .i64 k.s.yl, .int .i64 k.s.yh], true⟩, ⟨b9, 23, [.int .i64 k.s.xl, .int .i64 k.s.xh], true⟩, ⟨b7, 23, [.int .i64 0, .int .i64 0], true⟩, ⟨b6, 23, [.int .i64 0, .int .i64 0], true⟩, ⟨b5, 23, [.int .i64 fl, .int .i64 fh], true⟩, ⟨b4, 23, [.int .i64 tl, .int .i64 th], true⟩, ⟨b3, 25, [.int .i64 b.lead, .int .i64 b.thread, .int .i64 b.head, .int .i64 b.tl, .int .i64 b.th, .int .i64 b.hl, .int .i64 b.hh, .int .i64 b.sl, .int .i64 b.sh, .int .i64 b.pl, .int .i64 b.ph, .int .i64 b.yl, .int .i64 b.yh], true⟩]) (fun k => k.k ≤ nT b ∧ k.s = lsO (can b tl th fl fh) b k.k) (fun k => nT b - k.k) ⟨0, ⟨false, 0, 0, 0, 0⟩⟩ ⟨Nat.zero_le _, rfl⟩ ((Sub.cons rfl (Sub.cons rfl (Sub.cons rfl (Sub.cons rfl (Sub.cons rfl (Sub.cons rfl (Sub.cons rfl (Sub.cons rfl (Sub.cons' rfl (by simp) (Sub.nil _))))))))))) SubE.sub (fun k hk => ?_)
  obtain ⟨k, s⟩ := k
  dsimp only at hk ⊢
  obtain ⟨hk, hs⟩ := hk
  refine k_seq (k_seq (k_region ?_))
  refine o_val (ex_move rfl) ?_
  refine o_val (ex_field (o := 0) 3 fa25_3 rfl rfl) ?_
  refine o_val (ex_field (o := 3) 4 fa23_1 rfl rfl) ?_
  refine o_val (ex_load Try.isAgg3 rfl rfl) ?_
  refine o_val (ex_leq rfl rfl) (o_nil ?_)
  refine k_cond rfl (fun h => ?_) (fun h => ?_)
  ·
    have hlt : k < nT b := by have : b.tl + (k : Int) ≤ b.th := of_decide_eq_true h; omega
    refine k_skip ?_
    refine k_seq (k_block ?_)
    refine k_seq (k_region ?_)
    refine o_val (ex_field (o := 0) 5 fa25_4 rfl rfl) ?_
    refine o_val (ex_field (o := 5) 5 fa23_0 rfl rfl) ?_
    refine o_val (ex_load Try.isAgg3 rfl rfl) ?_
    refine o_val (ex_assign rfl) (o_nil ?_)
    refine k_block ?_
    refine k_loop (ι := QI) (fun k_1 => [(3, .pointer (some ⟨b3, 0, none⟩)), (4, .pointer (some ⟨b4, 0, none⟩)), (5, .pointer (some ⟨b5, 0, none⟩)), (6, .pointer (some ⟨b6, 0, none⟩)), (7, .pointer (some ⟨b7, 0, none⟩)), (9, .pointer (some ⟨b9, 0, none⟩)), (10, .pointer (some ⟨b10, 0, none⟩)), (11, .bool k_1.s.ok), (12, .int .i64 (b.tl + (k : Int))), (13, .int .i64 (b.hl + (k_1.k : Int)))]) (fun k_1 => [⟨b10, 23, [.int .i64 k_1.s.yl, .int .i64 k_1.s.yh], true⟩, ⟨b9, 23, [.int .i64 k_1.s.xl, .int .i64 k_1.s.xh], true⟩, ⟨b7, 23, [.int .i64 0, .int .i64 0], true⟩, ⟨b6, 23, [.int .i64 0, .int .i64 0], true⟩, ⟨b5, 23, [.int .i64 fl, .int .i64 fh], true⟩, ⟨b4, 23, [.int .i64 tl, .int .i64 th], true⟩, ⟨b3, 25, [.int .i64 b.lead, .int .i64 b.thread, .int .i64 b.head, .int .i64 b.tl, .int .i64 b.th, .int .i64 b.hl, .int .i64 b.hh, .int .i64 b.sl, .int .i64 b.sh, .int .i64 b.pl, .int .i64 b.ph, .int .i64 b.yl, .int .i64 b.yh], true⟩]) (fun k_1 => k_1.k ≤ nH b ∧ k_1.s = lsI (can b tl th fl fh (b.tl + (k : Int))) (b.tl + (k : Int)) b.hl k_1.k (lsO (can b tl th fl fh) b k)) (fun k_1 => nH b - k_1.k) ⟨0, s⟩ ⟨Nat.zero_le _, hs⟩ ((Sub.cons rfl (Sub.cons rfl (Sub.cons rfl (Sub.cons rfl (Sub.cons rfl (Sub.cons rfl (Sub.cons rfl (Sub.cons rfl (Sub.cons rfl (Sub.cons' rfl (by simp) (Sub.nil _)))))))))))) SubE.sub (fun k_1 hk => ?_)
    obtain ⟨j, u⟩ := k_1
    dsimp only at hk ⊢
    obtain ⟨hj, hu⟩ := hk
    refine k_seq (k_seq (k_region ?_))
    refine o_val (ex_move rfl) ?_
    refine o_val (ex_field (o := 0) 5 fa25_4 rfl rfl) ?_
    refine o_val (ex_field (o := 5) 6 fa23_1 rfl rfl) ?_
    refine o_val (ex_load Try.isAgg3 rfl rfl) ?_
    refine o_val (ex_leq rfl rfl) (o_nil ?_)
    refine k_cond rfl (fun h_1 => ?_) (fun h_1 => ?_)
    ·
      have hlt2 : j < nH b := by have : b.hl + (j : Int) ≤ b.hh := of_decide_eq_true h_1; omega
      refine k_skip ?_
      refine k_seq (k_block ?_)
      refine k_seq (k_seq (k_region ?_))
      refine o_val (ex_loadA Try.isAgg25 Try.sizeOf25 rfl) ?_
      refine o_val (ex_move rfl) ?_
      refine o_val (ex_move rfl) ?_
      refine o_val (ex_build bf26 rfl) ?_
      refine o_val (ex_loadA Try.isAgg23 Try.sizeOf23 rfl) ?_
      refine o_val (ex_loadA Try.isAgg23 Try.sizeOf23 rfl) ?_
      refine o_val (ex_call Try.call57 rfl (fun W hW => c57 b (b.tl + k) (b.hl + j) tl th fl fh hb (by omega) (by omega) hf)) ?_
      refine o_val (ex_not rfl) (o_nil ?_)
      refine k_cond rfl (fun h_2 => ?_) (fun h_2 => ?_)
      ·
        have hc : ¬ can b tl th fl fh (b.tl + (k : Int)) (b.hl + (j : Int)) = true := by simpa using h_2
        have es : u = lsI (can b tl th fl fh (b.tl + (k : Int))) (b.tl + (k : Int)) b.hl (j + 1) (lsO (can b tl th fl fh) b k) := by show _ = (if _ then _ else _); rw [if_neg hc]; exact hu
        refine k_exit rfl ?_
        refine k_region ?_
        refine o_val (ex_move rfl) ?_
        refine o_val (ex_add64 rfl rfl (by unfold I64; omega)) ?_
        refine o_val (ex_assign rfl) (o_nil ?_)
        exact k_some ⟨j + 1, u⟩ ⟨⟨hlt2, es⟩, (by show nH b - (j + 1) < nH b - j; omega)⟩ ((Sub.cons rfl (Sub.cons rfl (Sub.cons rfl (Sub.cons rfl (Sub.cons rfl (Sub.cons rfl (Sub.cons rfl (Sub.cons rfl (Sub.cons rfl (Sub.cons' rfl (by simp; omega) (Sub.nil _)))))))))))) SubE.sub
      ·
        have hc : can b tl th fl fh (b.tl + (k : Int)) (b.hl + (j : Int)) = true := by simpa using h_2
        have es : u.add (b.tl + (k : Int)) (b.hl + (j : Int)) = lsI (can b tl th fl fh (b.tl + (k : Int))) (b.tl + (k : Int)) b.hl (j + 1) (lsO (can b tl th fl fh) b k) := by show _ = (if _ then _ else _); rw [if_pos hc, ← hu]
        rw [Ls.add_set] at es
        refine k_skip ?_
        refine k_seq (k_seq (k_region ?_))
        refine o_val (ex_move rfl) ?_
        refine o_val (ex_not rfl) (o_nil ?_)
        refine k_cut (ι := Ls) (fun r => [(3, .pointer (some ⟨b3, 0, none⟩)), (4, .pointer (some ⟨b4, 0, none⟩)), (5, .pointer (some ⟨b5, 0, none⟩)), (6, .pointer (some ⟨b6, 0, none⟩)), (7, .pointer (some ⟨b7, 0, none⟩)), (9, .pointer (some ⟨b9, 0, none⟩)), (10, .pointer (some ⟨b10, 0, none⟩)), (11, .bool r.ok), (12, .int .i64 (b.tl + (k : Int))), (13, .int .i64 (b.hl + (j : Int)))]) (fun r => [⟨b10, 23, [.int .i64 r.yl, .int .i64 r.yh], true⟩, ⟨b9, 23, [.int .i64 r.xl, .int .i64 r.xh], true⟩, ⟨b7, 23, [.int .i64 0, .int .i64 0], true⟩, ⟨b6, 23, [.int .i64 0, .int .i64 0], true⟩, ⟨b5, 23, [.int .i64 fl, .int .i64 fh], true⟩, ⟨b4, 23, [.int .i64 tl, .int .i64 th], true⟩, ⟨b3, 25, [.int .i64 b.lead, .int .i64 b.thread, .int .i64 b.head, .int .i64 b.tl, .int .i64 b.th, .int .i64 b.hl, .int .i64 b.hh, .int .i64 b.sl, .int .i64 b.sh, .int .i64 b.pl, .int .i64 b.ph, .int .i64 b.yl, .int .i64 b.yh], true⟩]) (fun r => r = u.set (b.tl + (k : Int)) (b.hl + (j : Int))) ?_ (fun r hr => ?_)
        · refine k_cond rfl (fun h_3 => ?_) (fun h_3 => ?_)
          ·
            have ho : ¬ u.ok = true := by simpa using h_3
            refine k_region ?_
            refine o_val (ex_move rfl) ?_
            refine o_val (ex_move rfl) ?_
            refine o_val (ex_build bf23 rfl) ?_
            refine o_val (ex_move rfl) ?_
            refine o_val (ex_move rfl) ?_
            refine o_val (ex_build bf23 rfl) ?_
            refine o_store Try.sizeOf23 rfl rfl ?_
            refine o_store Try.sizeOf23 rfl rfl ?_
            refine o_val (ex_assign rfl) (o_nil ?_)
            exact k_some ⟨true, b.tl + (k : Int), b.tl + (k : Int), b.hl + (j : Int), b.hl + (j : Int)⟩ (by unfold Ls.set; rw [if_neg ho]) (Sub.cons rfl (Sub.cons rfl (Sub.cons rfl (Sub.cons rfl (Sub.cons rfl (Sub.cons rfl (Sub.cons rfl (Sub.cons rfl (Sub.cons rfl (Sub.cons rfl (Sub.nil _))))))))))) SubE.sub
          ·
            have ho : u.ok = true := by simpa using h_3
            refine k_skip ?_
            exact k_some u (by unfold Ls.set; rw [if_pos ho]) (Sub.cons rfl (Sub.cons rfl (Sub.cons rfl (Sub.cons rfl (Sub.cons rfl (Sub.cons rfl (Sub.cons rfl (Sub.cons rfl (Sub.cons rfl (Sub.cons rfl (Sub.nil _))))))))))) SubE.sub
        rw [← hr] at es
        refine k_draw [true, true, true, true, true, true, true, true, true, true, true, true, true, true, true, true, true, true, false, false] 2 ?_ mixed (by kernel_rfl) rfl
        refine d_val (i := 0) [] (ex_field (o := 0) 0 fa23_0 rfl rfl) ?_
        refine d_load (i := 1) Try.isAgg3 rfl rfl ?_
        refine d_val (i := 2) [] (ex_move rfl) ?_
        refine d_val (i := 3) [] (ex_min rfl rfl) ?_
        refine d_val (i := 4) [] (ex_field (o := 0) 1 fa23_1 rfl rfl) ?_
        refine d_load (i := 5) Try.isAgg3 rfl rfl ?_
        refine d_val (i := 6) [] (ex_move rfl) ?_
        refine d_val (i := 7) [] (ex_max rfl rfl) ?_
        refine d_val (i := 8) [] (ex_build bf23 rfl) ?_
        refine d_val (i := 9) [] (ex_field (o := 0) 0 fa23_0 rfl rfl) ?_
        refine d_load (i := 10) Try.isAgg3 rfl rfl ?_
        refine d_val (i := 11) [] (ex_move rfl) ?_
        refine d_val (i := 12) [] (ex_min rfl rfl) ?_
        refine d_val (i := 13) [] (ex_field (o := 0) 1 fa23_1 rfl rfl) ?_
        refine d_load (i := 14) Try.isAgg3 rfl rfl ?_
        refine d_val (i := 15) [] (ex_move rfl) ?_
        refine d_val (i := 16) [] (ex_max rfl rfl) ?_
        refine d_val (i := 17) [] (ex_build bf23 rfl) ?_
        refine d_rest ?_
        refine d_rest ?_
        refine d_nil ?_
        refine r_one 18 (rs_store [8, 0, 1, 2, 3, 4, 5, 6, 7, 8] rfl Try.sizeOf23 rfl rfl ?_) (by kernel_rfl)
        refine r_one 19 (rs_store [17, 18, 0, 1, 2, 3, 4, 5, 6, 7, 8, 9, 10, 11, 12, 13, 14, 15, 16, 17, 18] rfl Try.sizeOf23 rfl rfl ?_) (by kernel_rfl)
        refine r_nil ?_ (by kernel_rfl)
        refine k_region ?_
        refine o_val (ex_move rfl) ?_
        refine o_val (ex_add64 rfl rfl (by unfold I64; omega)) ?_
        refine o_val (ex_assign rfl) (o_nil ?_)
        exact k_some ⟨j + 1, ⟨r.ok, min r.xl (b.tl + (k : Int)), max r.xh (b.tl + (k : Int)), min r.yl (b.hl + (j : Int)), max r.yh (b.hl + (j : Int))⟩⟩ ⟨⟨hlt2, es⟩, (by show nH b - (j + 1) < nH b - j; omega)⟩ ((Sub.cons rfl (Sub.cons rfl (Sub.cons rfl (Sub.cons rfl (Sub.cons rfl (Sub.cons rfl (Sub.cons rfl (Sub.cons rfl (Sub.cons rfl (Sub.cons' rfl (by simp; omega) (Sub.nil _)))))))))))) SubE.sub
    ·
      have hje : j = nH b := by have : ¬ b.hl + (j : Int) ≤ b.hh := of_decide_eq_false h_1; omega
      have es : u = lsO (can b tl th fl fh) b (k + 1) := by rw [hje] at hu; exact hu
      refine k_exit rfl ?_
      refine k_region ?_
      refine o_val (ex_move rfl) ?_
      refine o_val (ex_add64 rfl rfl (by unfold I64; omega)) ?_
      refine o_val (ex_assign rfl) (o_nil ?_)
      exact k_some ⟨k + 1, u⟩ ⟨⟨hlt, es⟩, (by show nT b - (k + 1) < nT b - k; omega)⟩ ((Sub.cons rfl (Sub.cons rfl (Sub.cons rfl (Sub.cons rfl (Sub.cons rfl (Sub.cons rfl (Sub.cons rfl (Sub.cons rfl (Sub.cons' rfl (by simp; omega) (Sub.nil _))))))))))) SubE.sub
  ·
    have hke : k = nT b := by have : ¬ b.tl + (k : Int) ≤ b.th := of_decide_eq_false h; omega
    rw [hke] at hs
    rw [← hs]
    refine k_exit rfl ?_
    refine k_seq (k_draw [true, true, true, false, false, false] 3 ?_ mixed (by kernel_rfl) rfl)
    refine d_loadA (i := 0) Try.isAgg23 Try.sizeOf23 rfl ?_
    refine d_loadA (i := 1) Try.isAgg23 Try.sizeOf23 rfl ?_
    refine d_val (i := 2) [] (ex_move rfl) ?_
    refine d_rest ?_
    refine d_rest ?_
    refine d_rest ?_
    refine d_nil ?_
    refine r_one 3 (rs_store [0, 0] rfl Try.sizeOf23 rfl rfl ?_) (by kernel_rfl)
    refine r_one 4 (rs_store [1, 3, 0, 1, 3] rfl Try.sizeOf23 rfl rfl ?_) (by kernel_rfl)
    refine r_one 5 (rs_val rfl (ex_assign rfl) ?_) (by kernel_rfl)
    refine r_nil ?_ (by kernel_rfl)
    refine k_ret ?_
    exact finCC1 rfl Try.isAgg23 Try.sizeOf23 Try.isAgg23 Try.sizeOf23 rfl rfl rfl rfl rfl fun W hW => ⟨rfl, hW.ext⟩

end Go.Proofs.Yteecidddfcbabaa
