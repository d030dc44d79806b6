/- The walks of small functions: what each call hands back, and that nothing that was there has turned. Printed by a program of this session (wip/tools/gen.py). -/
import Derived.Test.YteecidddfcbabaaB1
namespace Go.Proofs.Yteecidddfcbabaa
open Go
attribute [local irreducible] ExV Ex
set_option synthInstance.maxSize 2000
set_option synthInstance.maxHeartbeats 200000

theorem rightE_two {b : Bo} (hb : b.Ok) {lo hi wl wh : Int} (h1 : isSp lo hi 0 100000000 = true) (h2 : isSp wl wh (-10000000000000) 10000000000000 = true) : b.rightE lo hi wl wh = 0 ∨ b.rightE lo hi wl wh = 9 := by
  have o1 : openE b [] = 0 := by simp [openE, b.chk_iff.2 hb]
  unfold Bo.rightE
  rw [if_pos o1, h1, h2]
  simp only [Bool.and_self, if_true]
  by_cases h : b.rHi hi wh < b.rLo lo wl
  · right; rw [if_pos h]
  · left; rw [if_neg h]

theorem c27ok (b : Bo) (y : Wa) {w : World} (h : openE b [y] = 0) : Calls Try.prog 27 [.agg [.int .i64 b.lead, .int .i64 b.thread, .int .i64 b.head, .int .i64 b.tl, .int .i64 b.th, .int .i64 b.hl, .int .i64 b.hh, .int .i64 b.sl, .int .i64 b.sh, .int .i64 b.pl, .int .i64 b.ph, .int .i64 b.yl, .int .i64 b.yh].toArray, .agg [.int .i64 y.kind, .int .i64 y.tl, .int .i64 y.th, .int .i64 y.al, .int .i64 y.ah, .int .i64 y.sl, .int .i64 y.sh].toArray].toArray w fun e w' => e = .returned (.tuple #[.agg [.int .i64 (b.fLo y), .int .i64 (b.fHi y)].toArray, .int .i64 0]) ∧ Ext [] w w' :=
  (c27 b y).mono fun e w' k => ⟨k.1.trans (by rw [h]; rfl), k.2⟩
theorem c8ok (b : Bo) (lo hi wl wh : Int) {w : World} (h : b.rightE lo hi wl wh = 0) : Calls Try.prog 8 [.agg [.int .i64 b.lead, .int .i64 b.thread, .int .i64 b.head, .int .i64 b.tl, .int .i64 b.th, .int .i64 b.hl, .int .i64 b.hh, .int .i64 b.sl, .int .i64 b.sh, .int .i64 b.pl, .int .i64 b.ph, .int .i64 b.yl, .int .i64 b.yh].toArray, .agg [.int .i64 lo, .int .i64 hi].toArray, .agg [.int .i64 wl, .int .i64 wh].toArray].toArray w fun e w' => e = .returned (.tuple #[.agg [.int .i64 (b.rLo lo wl), .int .i64 (b.rHi hi wh)].toArray, .int .i64 0]) ∧ Ext [] w w' :=
  (c8 b lo hi wl wh).mono fun e w' k => ⟨k.1.trans (by rw [h]; rfl), k.2⟩

-- == f6 acme/acmetop.TopBoltZone params [62, 64, 58] results [4] in [('tmp', ['6'])] ntmps 223 nfree 0
theorem c6 (s0 s1 s2 o0 o1 o2 o3 p0 p1 u0 u1 q0 q1 q2 : Int) {w : World} (hs0 : 0 ≤ s0 ∧ s0 ≤ 255) (hs1 : 0 ≤ s1 ∧ s1 ≤ 255) (hs2 : 0 ≤ s2 ∧ s2 ≤ 255) (ho0 : 0 ≤ o0 ∧ o0 ≤ 255) (ho1 : 0 ≤ o1 ∧ o1 ≤ 255) (ho2 : 0 ≤ o2 ∧ o2 ≤ 255) (ho3 : 0 ≤ o3 ∧ o3 ≤ 255) (hp0 : 0 ≤ p0 ∧ p0 ≤ 255) (hp1 : 0 ≤ p1 ∧ p1 ≤ 255) (hu0 : 0 ≤ u0 ∧ u0 ≤ 65535) (hu1 : 0 ≤ u1 ∧ u1 ≤ 65535) (hq0 : 0 ≤ q0 ∧ q0 ≤ 255) (hq1 : 0 ≤ q1 ∧ q1 ≤ 255) (hq2 : 0 ≤ q2 ∧ q2 ≤ 255) : Calls Try.prog 6 [.agg [.int .u8 s0, .int .u8 s1, .int .u8 s2, .int .u8 o0, .int .u8 o1, .int .u8 o2, .int .u8 o3, .int .u8 p0, .int .u8 p1].toArray, .agg [.int .u16 u0, .int .u16 u1].toArray, .agg [.int .u8 q0, .int .u8 q1, .int .u8 q2].toArray].toArray w fun e w' => e = .returned (.bool true) ∧ Ext [] w w' := by
  obtain ⟨b, hb⟩ : ∃ b : Bo, b = armB 300 s1 s2 o0 o1 o2 o3 p0 p1 := ⟨_, rfl⟩
  have ok : b.Ok := hb ▸ armB_ok (by omega) hs1 hs2 ho0 ho1 ho2 ho3 hp0 hp1
  have k21 : ∀ W : World, Calls Try.prog 21 [.agg [.int .u8 s0, .int .u8 s1, .int .u8 s2, .int .u8 o0, .int .u8 o1, .int .u8 o2, .int .u8 o3, .int .u8 p0, .int .u8 p1].toArray, .int .i64 300].toArray W (fun e w' => e = .returned (.agg [.int .i64 b.lead, .int .i64 b.thread, .int .i64 b.head, .int .i64 b.tl, .int .i64 b.th, .int .i64 b.hl, .int .i64 b.hh, .int .i64 b.sl, .int .i64 b.sh, .int .i64 b.pl, .int .i64 b.ph, .int .i64 b.yl, .int .i64 b.yh].toArray) ∧ Ext [] W w') := fun W => by subst hb; exact c21 300 s0 s1 s2 o0 o1 o2 o3 p0 p1 hs0 hs1 hs2 ho0 ho1 ho2 ho3 hp0 hp1
  clear hb
  have tt := ok.tt
  have tl0 := ok.tl0
  have th1 := ok.th1
  obtain ⟨hf, ehf⟩ : ∃ hf : Int, hf = b.tl + (b.th - b.tl) / 2 := ⟨_, rfl⟩
  have hfb : b.tl ≤ hf ∧ hf ≤ b.th := by omega
  obtain ⟨lo, elo⟩ : ∃ lo : Int, lo = u0 / 8 := ⟨_, rfl⟩
  obtain ⟨hi, ehi⟩ : ∃ hi : Int, hi = u0 / 8 + u1 / 4 := ⟨_, rfl⟩
  have lh : 0 ≤ lo ∧ lo ≤ hi ∧ hi ≤ 30000 := by omega
  obtain ⟨E, eE⟩ : ∃ E : Int, E = b.rightE lo hi (-20) 20 := ⟨_, rfl⟩
  obtain ⟨rl, erl⟩ : ∃ x : Int, x = if E = 0 then b.rLo lo (-20) else 0 := ⟨_, rfl⟩
  obtain ⟨rh, erh⟩ : ∃ x : Int, x = if E = 0 then b.rHi hi 20 else 0 := ⟨_, rfl⟩
  have k8 : ∀ W : World, Calls Try.prog 8 [.agg [.int .i64 b.lead, .int .i64 b.thread, .int .i64 b.head, .int .i64 b.tl, .int .i64 b.th, .int .i64 b.hl, .int .i64 b.hh, .int .i64 b.sl, .int .i64 b.sh, .int .i64 b.pl, .int .i64 b.ph, .int .i64 b.yl, .int .i64 b.yh].toArray, .agg [.int .i64 lo, .int .i64 hi].toArray, .agg [.int .i64 (-20), .int .i64 20].toArray].toArray W (fun e w' => e = .returned (.tuple #[.agg [.int .i64 rl, .int .i64 rh].toArray, .int .i64 E]) ∧ Ext [] W w') := fun W => by subst erl erh eE; exact c8 b lo hi (-20) 20
  have hE : E = 0 ∨ E = 9 := eE ▸ rightE_two ok (isSp_iff.2 (by omega)) (isSp_iff.2 (by omega))
  obtain ⟨bl, ebl⟩ : ∃ x : Int, x = befLo 90000 (q0 % 9) 7 2 := ⟨_, rfl⟩
  obtain ⟨bh, ebh⟩ : ∃ x : Int, x = befHi (90000 + q2) (q0 % 9 + q1 % 5) 7 2 := ⟨_, rfl⟩
  obtain ⟨F, eF⟩ : ∃ x : Int, x = if bh < bl then 9 else 0 := ⟨_, rfl⟩
  obtain ⟨cl, ecl⟩ : ∃ x : Int, x = if bh < bl then 0 else bl := ⟨_, rfl⟩
  obtain ⟨ch, ech⟩ : ∃ x : Int, x = if bh < bl then 0 else bh := ⟨_, rfl⟩
  have ct : isSp (q0 % 9) (q0 % 9 + q1 % 5) 0 10000 = true := isSp_iff.2 (by omega)
  have k23 : ∀ W : World, Calls Try.prog 23 [.agg [.int .i64 90000, .int .i64 (90000 + q2)].toArray, .bool false, .agg [.int .i64 (q0 % 9), .int .i64 (q0 % 9 + q1 % 5), .int .i64 7, .int .i64 2].toArray].toArray W (fun e w' => e = .returned (.tuple #[.agg [.int .i64 cl, .int .i64 ch].toArray, .int .i64 F]) ∧ Ext [] W w') := fun W => by subst ecl ech eF ebl ebh; exact c23 90000 (90000 + q2) (q0 % 9) (q0 % 9 + q1 % 5) 7 2 (isSp_iff.2 (by omega)) ct (by omega) (by omega)
  have hF : F = 0 ∨ F = 9 := by
    rw [eF]
    by_cases h : bh < bl
    · right; rw [if_pos h]
    · left; rw [if_neg h]
  have hbb : -20000000 ≤ bl ∧ bh ≤ 20000000 := by
    rw [ebl, ebh]; unfold befLo befHi upq; omega
  have aft := aft_bef (lo := 90000) (hi := 90000 + q2) (tl := q0 % 9) (th := q0 % 9 + q1 % 5) (num := 7) (den := 2)
  rw [← ebl, ← ebh] at aft
  have k24 : F = 0 → ∀ W : World, Calls Try.prog 24 [.agg [.int .i64 cl, .int .i64 ch].toArray, .bool false, .agg [.int .i64 (q0 % 9), .int .i64 (q0 % 9 + q1 % 5), .int .i64 7, .int .i64 2].toArray].toArray W (fun e w' => e = .returned (.tuple #[.agg [.int .i64 90000, .int .i64 (90000 + q2)].toArray, .int .i64 0]) ∧ Ext [] W w') := fun h0 W => by
    have hn : ¬ bh < bl := fun h => by rw [if_pos h] at eF; omega
    rw [if_neg hn] at ecl ech
    subst ecl ech
    have := c24 cl ch (q0 % 9) (q0 % 9 + q1 % 5) 7 2 (w := W) (isSp_iff.2 (by omega)) ct (by omega) (by omega)
    rw [aft.1, aft.2] at this
    exact this
  refine fn_start Try.func6 rfl (N := 223) rfl ?_
  refine k_seq (k_region ?_)
  refine o_box rfl (fun b3 => ?_)
  refine o_box rfl (fun b4 => ?_)
  refine o_box rfl (fun b5 => ?_)
  refine o_val (ex_assign rfl) (o_nil ?_)
  refine k_seq (k_region ?_)
  refine o_val (ex_loadA Try.isAgg62 Try.sizeOf62 rfl) ?_
  refine o_val (ex_call Try.call21 rfl (fun W hW => k21 W)) ?_
  refine o_alloc Try.zeroValue25 (fun b7 => ?_)
  refine o_store Try.sizeOf25 rfl rfl (o_nil ?_)
  refine k_seq (k_draw [true, true, false, false, false, false] 4 ?_ mixed (by kernel_rfl) rfl)
  refine d_loadA (i := 0) Try.isAgg25 Try.sizeOf25 rfl ?_
  refine d_loadA (i := 1) Try.isAgg25 Try.sizeOf25 rfl ?_
  refine d_rest ?_
  refine d_rest ?_
  refine d_rest ?_
  refine d_rest ?_
  refine d_nil ?_
  refine r_allocs (by kernel_rfl) (by kernel_rfl) (by kernel_rfl) rfl rfl (j := 2) (j' := 3) Try.zeroValue25 Try.zeroValue25 (fun b8 b9 => ?_)
  refine r_one 4 (rs_store [2, 0, 0, 2, 3] rfl Try.sizeOf25 rfl rfl ?_) (by kernel_rfl)
  refine r_one 5 (rs_store [3, 1, 4, 0, 1, 2, 3, 4] rfl Try.sizeOf25 rfl rfl ?_) (by kernel_rfl)
  refine r_nil ?_ (by kernel_rfl)
  refine k_seq (k_region ?_)
  refine o_val (ex_field (o := 0) 3 fa25_3 rfl rfl) ?_
  refine o_val (ex_field (o := 3) 3 fa23_0 rfl rfl) ?_
  refine o_val (ex_load Try.isAgg3 rfl rfl) ?_
  refine o_val (ex_field (o := 0) 3 fa25_3 rfl rfl) ?_
  refine o_val (ex_field (o := 3) 4 fa23_1 rfl rfl) ?_
  refine o_val (ex_load Try.isAgg3 rfl rfl) ?_
  refine o_val (ex_field (o := 0) 3 fa25_3 rfl rfl) ?_
  refine o_val (ex_field (o := 3) 3 fa23_0 rfl rfl) ?_
  refine o_val (ex_load Try.isAgg3 rfl rfl) ?_
  refine o_val (ex_sub64 rfl rfl (by unfold I64; omega)) ?_
  refine o_val (ex_quoE rfl rfl (by omega) (by omega) (by unfold I64; omega)) ?_
  refine o_val (exv_eq (show _ = Value.int .i64 hf by rw [ehf]) (ex_add64 rfl rfl (by unfold I64; omega))) ?_
  refine o_val (ex_assign rfl) (o_nil ?_)
  refine k_seq (k_draw [true, true, true, true, true, true, true, true, true, true, true, false, true, false] 2 ?_ mixed (by kernel_rfl) rfl)
  refine d_val (i := 0) [] (ex_field (o := 0) 3 fa25_3 rfl rfl) ?_
  refine d_val (i := 1) [] (ex_field (o := 3) 3 fa23_0 rfl rfl) ?_
  refine d_load (i := 2) Try.isAgg3 rfl rfl ?_
  refine d_val (i := 3) [] (ex_move rfl) ?_
  refine d_val (i := 4) [] (ex_call Try.call22 rfl (fun W hW => c22 b.tl hf)) ?_
  refine d_val (i := 5) [] (ex_move rfl) ?_
  refine d_val (i := 6) [] (ex_field (o := 0) 3 fa25_3 rfl rfl) ?_
  refine d_val (i := 7) [] (ex_field (o := 3) 4 fa23_1 rfl rfl) ?_
  refine d_load (i := 8) Try.isAgg3 rfl rfl ?_
  refine d_val (i := 9) [] (ex_call Try.call22 rfl (fun W hW => c22 hf b.th)) ?_
  refine d_val (i := 10) [] (ex_field (o := 0) 3 fa25_3 rfl rfl) ?_
  refine d_rest ?_
  refine d_val (i := 12) [] (ex_field (o := 0) 3 fa25_3 rfl rfl) ?_
  refine d_rest ?_
  refine d_nil ?_
  refine r_one 11 (rs_store [10, 4, 9, 0, 1, 2, 3, 4] rfl Try.sizeOf23 rfl rfl ?_) (by kernel_rfl)
  refine r_one 13 (rs_store [12, 9, 11, 0, 1, 2, 3, 4, 5, 6, 7, 8, 9, 10, 11] rfl Try.sizeOf23 rfl rfl ?_) (by kernel_rfl)
  refine r_nil ?_ (by kernel_rfl)
  refine k_seq (k_region ?_)
  refine o_val (ex_indexArr 0 Try.runUnderlying64 Try.sizeOf63 rfl rfl (by decide) (by decide) rfl) ?_
  refine o_val (ex_load Try.isAgg63 rfl rfl) ?_
  refine o_val (ex_conv64 Try.runUnderlying63 Try.runUnderlying3 rfl (by unfold I64; omega)) ?_
  refine o_val (exv_eq (show _ = Value.int .i64 lo by rw [elo]) (ex_quoE rfl rfl (by omega) (by omega) (by unfold I64; omega))) ?_
  refine o_val (ex_indexArr 0 Try.runUnderlying64 Try.sizeOf63 rfl rfl (by decide) (by decide) rfl) ?_
  refine o_val (ex_load Try.isAgg63 rfl rfl) ?_
  refine o_val (ex_conv64 Try.runUnderlying63 Try.runUnderlying3 rfl (by unfold I64; omega)) ?_
  refine o_val (ex_quoE rfl rfl (by omega) (by omega) (by unfold I64; omega)) ?_
  refine o_val (ex_indexArr 1 Try.runUnderlying64 Try.sizeOf63 rfl rfl (by decide) (by decide) rfl) ?_
  refine o_val (ex_load Try.isAgg63 rfl rfl) ?_
  refine o_val (ex_conv64 Try.runUnderlying63 Try.runUnderlying3 rfl (by unfold I64; omega)) ?_
  refine o_val (ex_quoE rfl rfl (by omega) (by omega) (by unfold I64; omega)) ?_
  refine o_val (exv_eq (show _ = Value.int .i64 hi by rw [ehi]) (ex_add64 rfl rfl (by unfold I64; omega))) ?_
  refine o_val (ex_call Try.call22 rfl (fun W hW => c22 lo hi)) ?_
  refine o_alloc Try.zeroValue23 (fun b11 => ?_)
  refine o_store Try.sizeOf23 rfl rfl (o_nil ?_)
  refine k_seq (k_draw [true, true, true, true, true, true, true, false, false, false] 3 ?_ mixed (by kernel_rfl) rfl)
  refine d_loadA (i := 0) Try.isAgg25 Try.sizeOf25 rfl ?_
  refine d_loadA (i := 1) Try.isAgg23 Try.sizeOf23 rfl ?_
  refine d_val (i := 2) [] (ex_call Try.call22 rfl (fun W hW => c22 (-20) 20)) ?_
  refine d_val (i := 3) [] (ex_call Try.call8 rfl (fun W hW => k8 W)) ?_
  refine d_val (i := 4) [] (ex_move rfl) ?_
  refine d_val (i := 5) [] (ex_extract rfl rfl) ?_
  refine d_val (i := 6) [] (ex_extract rfl rfl) ?_
  refine d_rest ?_
  refine d_rest ?_
  refine d_rest ?_
  refine d_nil ?_
  refine r_one 7 (rs_alloc rfl Try.zeroValue23 (fun b12 => ?_)) (by kernel_rfl)
  refine r_one 8 (rs_store [7, 5, 3, 0, 1, 2, 3, 4, 5, 7] rfl Try.sizeOf23 rfl rfl ?_) (by kernel_rfl)
  refine r_one 9 (rs_val rfl (ex_assign rfl) ?_) (by kernel_rfl)
  refine r_nil ?_ (by kernel_rfl)
  refine k_seq (k_region ?_)
  refine o_val (ex_indexArr 0 Try.runUnderlying58 Try.sizeOf5 rfl rfl (by decide) (by decide) rfl) ?_
  refine o_val (ex_load Try.isAgg5 rfl rfl) ?_
  refine o_val (ex_conv64 Try.runUnderlying5 Try.runUnderlying3 rfl (by unfold I64; omega)) ?_
  refine o_val (ex_remE rfl rfl (by omega) (by omega)) ?_
  refine o_val (ex_indexArr 0 Try.runUnderlying58 Try.sizeOf5 rfl rfl (by decide) (by decide) rfl) ?_
  refine o_val (ex_load Try.isAgg5 rfl rfl) ?_
  refine o_val (ex_conv64 Try.runUnderlying5 Try.runUnderlying3 rfl (by unfold I64; omega)) ?_
  refine o_val (ex_remE rfl rfl (by omega) (by omega)) ?_
  refine o_val (ex_indexArr 1 Try.runUnderlying58 Try.sizeOf5 rfl rfl (by decide) (by decide) rfl) ?_
  refine o_val (ex_load Try.isAgg5 rfl rfl) ?_
  refine o_val (ex_conv64 Try.runUnderlying5 Try.runUnderlying3 rfl (by unfold I64; omega)) ?_
  refine o_val (ex_remE rfl rfl (by omega) (by omega)) ?_
  refine o_val (ex_add64 rfl rfl (by unfold I64; omega)) ?_
  refine o_val (ex_call Try.call22 rfl (fun W hW => c22 (q0 % 9) (q0 % 9 + q1 % 5))) ?_
  refine o_val (ex_build bf68 rfl) ?_
  refine o_val (ex_build bf70 rfl) ?_
  refine o_alloc Try.zeroValue70 (fun b14 => ?_)
  refine o_store Try.sizeOf70 rfl rfl (o_nil ?_)
  refine k_seq (k_region ?_)
  refine o_val (ex_indexArr 2 Try.runUnderlying58 Try.sizeOf5 rfl rfl (by decide) (by decide) rfl) ?_
  refine o_val (ex_load Try.isAgg5 rfl rfl) ?_
  refine o_val (ex_conv64 Try.runUnderlying5 Try.runUnderlying3 rfl (by unfold I64; omega)) ?_
  refine o_val (ex_add64 rfl rfl (by unfold I64; omega)) ?_
  refine o_val (ex_call Try.call22 rfl (fun W hW => c22 90000 (90000 + q2))) ?_
  refine o_alloc Try.zeroValue23 (fun b15 => ?_)
  refine o_store Try.sizeOf23 rfl rfl (o_nil ?_)
  refine k_seq (k_region ?_)
  refine o_val (ex_loadA Try.isAgg23 Try.sizeOf23 rfl) ?_
  refine o_val (ex_loadA Try.isAgg70 Try.sizeOf70 rfl) ?_
  refine o_val (ex_call Try.call23 rfl (fun W hW => k23 W)) ?_
  refine o_val (ex_move rfl) ?_
  refine o_val (ex_extract rfl rfl) ?_
  refine o_val (ex_extract rfl rfl) ?_
  refine o_alloc Try.zeroValue23 (fun b16 => ?_)
  refine o_store Try.sizeOf23 rfl rfl ?_
  refine o_val (ex_assign rfl) (o_nil ?_)
  refine k_seq (k_seq (k_region ?_))
  refine o_val (ex_move rfl) ?_
  refine o_val (ex_neq rfl rfl) ?_
  refine o_val (ex_move rfl) ?_
  refine o_and 2 (c := !decide (E = 9)) (fun h => ?_) ?_
  · refine o_val_g (ex_move rfl) ?_
    exact o_val_g (ex_neq rfl rfl) (o_nil (got rfl (.refl _)))
  refine o_val (exv_eq (show _ = Value.bool false by rcases hE with e | e <;> simp [e]) (ex_move rfl)) ?_
  refine o_val_g (ex_move rfl) ?_
  refine o_val_g (ex_neq rfl rfl) ?_
  refine o_val_g (ex_move rfl) ?_
  refine o_and_g 2 (c := !decide (F = 9)) (fun h => ?_) ?_
  · refine o_val_g (ex_move rfl) ?_
    exact o_val_g (ex_neq rfl rfl) (o_nil (got rfl (.refl _)))
  refine o_val (ex_pick rfl rfl) (o_nil ?_)
  refine k_cond rfl (fun h => ?_) (fun h => ?_)
  ·
    rcases hF with e | e <;> simp [e] at h
  ·
    refine k_skip ?_
    refine k_seq (k_seq (k_region ?_))
    refine o_val (ex_move rfl) ?_
    refine o_val (ex_eql rfl rfl) (o_nil ?_)
    refine k_cut (ι := Unit) (fun _ => [(8, .pointer (some ⟨b8, 0, none⟩)), (9, .pointer (some ⟨b9, 0, none⟩)), (11, .pointer (some ⟨b11, 0, none⟩)), (12, .pointer (some ⟨b12, 0, none⟩)), (13, .int .i64 E)]) (fun _ => [⟨b12, 23, [.int .i64 rl, .int .i64 rh], true⟩, ⟨b11, 23, [.int .i64 lo, .int .i64 hi], true⟩, ⟨b9, 25, [.int .i64 b.lead, .int .i64 b.thread, .int .i64 b.head, .int .i64 hf, .int .i64 b.th, .int .i64 b.hl, .int .i64 b.hh, .int .i64 b.sl, .int .i64 b.sh, .int .i64 b.pl, .int .i64 b.ph, .int .i64 b.yl, .int .i64 b.yh], true⟩, ⟨b8, 25, [.int .i64 b.lead, .int .i64 b.thread, .int .i64 b.head, .int .i64 b.tl, .int .i64 hf, .int .i64 b.hl, .int .i64 b.hh, .int .i64 b.sl, .int .i64 b.sh, .int .i64 b.pl, .int .i64 b.ph, .int .i64 b.yl, .int .i64 b.yh], true⟩]) (fun _ => True) ?_ (fun _ _ => ?_)
    · refine k_cond rfl (fun h_1 => ?_) (fun h_1 => ?_)
      ·
        have e0 : F = 0 := of_decide_eq_true h_1
        refine k_seq (k_region ?_)
        refine o_val (ex_loadA Try.isAgg23 Try.sizeOf23 rfl) ?_
        refine o_val (ex_loadA Try.isAgg70 Try.sizeOf70 rfl) ?_
        refine o_val (ex_call Try.call24 rfl (fun W hW => k24 e0 W)) ?_
        refine o_val (ex_move rfl) ?_
        refine o_val (ex_extract rfl rfl) ?_
        refine o_val (ex_extract rfl rfl) ?_
        refine o_alloc Try.zeroValue23 (fun b18 => ?_)
        refine o_store Try.sizeOf23 rfl rfl ?_
        refine o_val (ex_assign rfl) (o_nil ?_)
        refine k_seq (k_region ?_)
        refine o_val (ex_move rfl) ?_
        refine o_val (ex_neq rfl rfl) ?_
        refine o_val (ex_move rfl) ?_
        refine o_or 5 (c := decide (90000 < 90000)) (fun h => ?_) ?_
        · refine o_val_g (ex_field (o := 0) 0 fa23_0 rfl rfl) ?_
          refine o_val_g (ex_load Try.isAgg3 rfl rfl) ?_
          refine o_val_g (ex_field (o := 0) 0 fa23_0 rfl rfl) ?_
          refine o_val_g (ex_load Try.isAgg3 rfl rfl) ?_
          exact o_val_g (ex_lss rfl rfl) (o_nil (got rfl (.refl _)))
        refine o_val (ex_move rfl) ?_
        refine o_or 5 (c := decide (90000 + q2 < 90000 + q2)) (fun h => ?_) (o_nil ?_)
        · refine o_val_g (ex_field (o := 0) 1 fa23_1 rfl rfl) ?_
          refine o_val_g (ex_load Try.isAgg3 rfl rfl) ?_
          refine o_val_g (ex_field (o := 0) 1 fa23_1 rfl rfl) ?_
          refine o_val_g (ex_load Try.isAgg3 rfl rfl) ?_
          exact o_val_g (ex_gtr rfl rfl) (o_nil (got rfl (.refl _)))
        refine k_cond rfl (fun h_2 => ?_) (fun h_2 => ?_)
        ·
          simp at h_2
        ·
          refine k_skip ?_
          exact k_some () trivial (Sub.cons rfl (Sub.cons rfl (Sub.cons rfl (Sub.cons rfl (Sub.cons rfl (Sub.nil _)))))) SubE.sub
      ·
        refine k_skip ?_
        exact k_some () trivial (Sub.cons rfl (Sub.cons rfl (Sub.cons rfl (Sub.cons rfl (Sub.cons rfl (Sub.nil _)))))) SubE.sub
    refine k_seq (k_seq (k_region ?_))
    refine o_val (ex_move rfl) ?_
    refine o_val (ex_neq rfl rfl) (o_nil ?_)
    refine k_cond rfl (fun h_1 => ?_) (fun h_1 => ?_)
    ·
      refine k_seq (k_region ?_)
      refine o_val (ex_call Try.call25 rfl (fun W hW => c25)) ?_
      refine o_val (ex_move rfl) ?_
      refine o_and 1 (c := true) (fun h => ?_) ?_
      · exact o_val_g (ex_call Try.call26 rfl (fun W hW => c26)) (o_nil (got rfl (.refl _)))
      refine o_val (ex_assign rfl) (o_nil ?_)
      refine k_ret ?_
      exact fin1 rfl rfl fun W hW => ⟨rfl, hW.ext⟩
    ·
      have e0 : E = 0 := by simpa using h_1
      rw [if_pos e0] at erl erh
      rw [e0] at eE
      refine k_skip ?_
      refine k_seq (k_seq (k_region ?_))
      refine o_val (ex_assign rfl) (o_nil ?_)
      refine k_block ?_
      refine k_loop (ι := Nat) (fun k => [(8, .pointer (some ⟨b8, 0, none⟩)), (9, .pointer (some ⟨b9, 0, none⟩)), (11, .pointer (some ⟨b11, 0, none⟩)), (12, .pointer (some ⟨b12, 0, none⟩)), (20, .int .i64 (k : Int))]) (fun k => [⟨b12, 23, [.int .i64 rl, .int .i64 rh], true⟩, ⟨b11, 23, [.int .i64 lo, .int .i64 hi], true⟩, ⟨b9, 25, [.int .i64 b.lead, .int .i64 b.thread, .int .i64 b.head, .int .i64 hf, .int .i64 b.th, .int .i64 b.hl, .int .i64 b.hh, .int .i64 b.sl, .int .i64 b.sh, .int .i64 b.pl, .int .i64 b.ph, .int .i64 b.yl, .int .i64 b.yh], true⟩, ⟨b8, 25, [.int .i64 b.lead, .int .i64 b.thread, .int .i64 b.head, .int .i64 b.tl, .int .i64 hf, .int .i64 b.hl, .int .i64 b.hh, .int .i64 b.sl, .int .i64 b.sh, .int .i64 b.pl, .int .i64 b.ph, .int .i64 b.yl, .int .i64 b.yh], true⟩]) (fun k => k ≤ 2) (fun k => 2 - k) 0 (by omega) (Sub.cons rfl (Sub.cons rfl (Sub.cons rfl (Sub.cons rfl (Sub.cons rfl (Sub.nil _)))))) SubE.sub (fun k hk => ?_)
      have hk : k ≤ 2 := hk
      refine k_seq (k_seq (k_region ?_))
      refine o_val (ex_move rfl) ?_
      refine o_val (ex_lss rfl rfl) (o_nil ?_)
      refine k_cond rfl (fun h_2 => ?_) (fun h_2 => ?_)
      ·
        have hk01 : k = 0 ∨ k = 1 := by simp at h_2; omega
        have hko := halves_ok ok hfb.1 hfb.2 k
        obtain ⟨L1, L2, L3, L4⟩ := plated_law ok hko.1 hko.2 lh.1 lh.2.1 lh.2.2 eE.symm
        rw [← erl] at L1 L3
        rw [← erh] at L1 L4
        refine k_skip ?_
        refine k_seq (k_block ?_)
        refine k_seq (k_region ?_)
        refine o_val (ex_loadA Try.isAgg25 Try.sizeOf25 rfl) ?_
        refine o_val (ex_loadA Try.isAgg25 Try.sizeOf25 rfl) ?_
        refine o_val (ex_build bf72 rfl) ?_
        refine o_val (ex_move rfl) ?_
        refine o_val (ex_indexValA Try.runUnderlying72 Try.sizeOf25 Try.isAgg25 rfl rfl (by omega) (by omega) (show _ = [.int .i64 ((halves b hf k).lead), .int .i64 ((halves b hf k).thread), .int .i64 ((halves b hf k).head), .int .i64 ((halves b hf k).tl), .int .i64 ((halves b hf k).th), .int .i64 ((halves b hf k).hl), .int .i64 ((halves b hf k).hh), .int .i64 ((halves b hf k).sl), .int .i64 ((halves b hf k).sh), .int .i64 ((halves b hf k).pl), .int .i64 ((halves b hf k).ph), .int .i64 ((halves b hf k).yl), .int .i64 ((halves b hf k).yh)] from by rcases hk01 with rfl | rfl <;> rfl)) ?_
        refine o_alloc Try.zeroValue25 (fun b21 => ?_)
        refine o_store Try.sizeOf25 rfl rfl (o_nil ?_)
        refine k_seq (k_seq (k_region ?_))
        refine o_val (ex_assign rfl) (o_nil ?_)
        refine k_block ?_
        refine k_loop (ι := Nat) (fun k_1 => [(8, .pointer (some ⟨b8, 0, none⟩)), (9, .pointer (some ⟨b9, 0, none⟩)), (11, .pointer (some ⟨b11, 0, none⟩)), (12, .pointer (some ⟨b12, 0, none⟩)), (20, .int .i64 (k : Int)), (21, .pointer (some ⟨b21, 0, none⟩)), (22, .int .i64 (k_1 : Int))]) (fun k_1 => [⟨b21, 25, [.int .i64 ((halves b hf k).lead), .int .i64 ((halves b hf k).thread), .int .i64 ((halves b hf k).head), .int .i64 ((halves b hf k).tl), .int .i64 ((halves b hf k).th), .int .i64 ((halves b hf k).hl), .int .i64 ((halves b hf k).hh), .int .i64 ((halves b hf k).sl), .int .i64 ((halves b hf k).sh), .int .i64 ((halves b hf k).pl), .int .i64 ((halves b hf k).ph), .int .i64 ((halves b hf k).yl), .int .i64 ((halves b hf k).yh)], true⟩, ⟨b12, 23, [.int .i64 rl, .int .i64 rh], true⟩, ⟨b11, 23, [.int .i64 lo, .int .i64 hi], true⟩, ⟨b9, 25, [.int .i64 b.lead, .int .i64 b.thread, .int .i64 b.head, .int .i64 hf, .int .i64 b.th, .int .i64 b.hl, .int .i64 b.hh, .int .i64 b.sl, .int .i64 b.sh, .int .i64 b.pl, .int .i64 b.ph, .int .i64 b.yl, .int .i64 b.yh], true⟩, ⟨b8, 25, [.int .i64 b.lead, .int .i64 b.thread, .int .i64 b.head, .int .i64 b.tl, .int .i64 hf, .int .i64 b.hl, .int .i64 b.hh, .int .i64 b.sl, .int .i64 b.sh, .int .i64 b.pl, .int .i64 b.ph, .int .i64 b.yl, .int .i64 b.yh], true⟩]) (fun k_1 => k_1 ≤ 2) (fun k_1 => 2 - k_1) 0 (by omega) (Sub.cons rfl (Sub.cons rfl (Sub.cons rfl (Sub.cons rfl (Sub.cons rfl (Sub.cons rfl (Sub.cons rfl (Sub.nil _)))))))) SubE.sub (fun k_1 hk => ?_)
        have hk_1 : k_1 ≤ 2 := hk
        refine k_seq (k_seq (k_region ?_))
        refine o_val (ex_move rfl) ?_
        refine o_val (ex_lss rfl rfl) (o_nil ?_)
        refine k_cond rfl (fun h_3 => ?_) (fun h_3 => ?_)
        ·
          have hk11 : k_1 = 0 ∨ k_1 = 1 := by simp at h_3; omega
          obtain ⟨tq, etq⟩ : ∃ x : Int, x = if k_1 = 0 then rl else rh := ⟨_, rfl⟩
          have hq := L1 tq (by rw [etq]; rcases hk11 with rfl | rfl <;> simp)
          refine k_skip ?_
          refine k_seq (k_block ?_)
          refine k_seq (k_region ?_)
          refine o_val (ex_field (o := 0) 0 fa23_0 rfl rfl) ?_
          refine o_val (ex_load Try.isAgg3 rfl rfl) ?_
          refine o_val (ex_field (o := 0) 1 fa23_1 rfl rfl) ?_
          refine o_val (ex_load Try.isAgg3 rfl rfl) ?_
          refine o_val (ex_build bf26 rfl) ?_
          refine o_val (ex_move rfl) ?_
          refine o_val (ex_indexVal Try.runUnderlying26 Try.sizeOf3 Try.isAgg3 rfl rfl (by omega) (by omega) (show _ = some (Value.int .i64 tq) from by rw [etq]; rcases hk11 with rfl | rfl <;> rfl)) ?_
          refine o_val (ex_assign rfl) (o_nil ?_)
          refine k_seq (k_draw [true, true, true, true, true, true, true, true, true, true, true, true, false, false, false] 3 ?_ mixed (by kernel_rfl) rfl)
          refine d_loadA (i := 0) Try.isAgg25 Try.sizeOf25 rfl ?_
          refine d_val (i := 1) [] (ex_move rfl) ?_
          refine d_val (i := 2) [] (ex_sub64 rfl rfl (by unfold I64; omega)) ?_
          refine d_val (i := 3) [] (ex_max rfl rfl) ?_
          refine d_val (i := 4) [] (ex_move rfl) ?_
          refine d_val (i := 5) [] (ex_add64 rfl rfl (by unfold I64; omega)) ?_
          refine d_val (i := 6) [] (ex_call Try.call22 rfl (fun W hW => c22 (max 0 (tq - 20)) (tq + 20))) ?_
          refine d_val (i := 7) [] (ex_build bf47 rfl) ?_
          refine d_val (i := 8) [] (ex_call Try.call27 rfl (fun W hW => c27ok (halves b hf k) (way20 tq) hq.1)) ?_
          refine d_val (i := 9) [] (ex_move rfl) ?_
          refine d_val (i := 10) [] (ex_extract rfl rfl) ?_
          refine d_val (i := 11) [] (ex_extract rfl rfl) ?_
          refine d_rest ?_
          refine d_rest ?_
          refine d_rest ?_
          refine d_nil ?_
          refine r_one 12 (rs_alloc rfl Try.zeroValue23 (fun b24 => ?_)) (by kernel_rfl)
          refine r_one 13 (rs_store [12, 10, 8, 0, 1, 2, 3, 4, 5, 6, 7, 8, 9, 10, 12] rfl Try.sizeOf23 rfl rfl ?_) (by kernel_rfl)
          refine r_one 14 (rs_val rfl (ex_assign rfl) ?_) (by kernel_rfl)
          refine r_nil ?_ (by kernel_rfl)
          refine k_seq (k_region ?_)
          refine o_val (ex_move rfl) ?_
          refine o_val (ex_neq rfl rfl) ?_
          refine o_val (ex_move rfl) ?_
          refine o_or 5 (c := decide ((halves b hf k).fLo (way20 tq) < lo)) (fun h => ?_) ?_
          · refine o_val_g (ex_field (o := 0) 0 fa23_0 rfl rfl) ?_
            refine o_val_g (ex_load Try.isAgg3 rfl rfl) ?_
            refine o_val_g (ex_field (o := 0) 0 fa23_0 rfl rfl) ?_
            refine o_val_g (ex_load Try.isAgg3 rfl rfl) ?_
            exact o_val_g (ex_lss rfl rfl) (o_nil (got rfl (.refl _)))
          refine o_val (ex_move rfl) ?_
          refine o_or 5 (c := decide (hi < (halves b hf k).fHi (way20 tq))) (fun h => ?_) (o_nil ?_)
          · refine o_val_g (ex_field (o := 0) 1 fa23_1 rfl rfl) ?_
            refine o_val_g (ex_load Try.isAgg3 rfl rfl) ?_
            refine o_val_g (ex_field (o := 0) 1 fa23_1 rfl rfl) ?_
            refine o_val_g (ex_load Try.isAgg3 rfl rfl) ?_
            exact o_val_g (ex_gtr rfl rfl) (o_nil (got rfl (.refl _)))
          refine k_cond rfl (fun h_4 => ?_) (fun h_4 => ?_)
          ·
            simp at h_4
            omega
          ·
            refine k_skip ?_
            refine k_region ?_
            refine o_val (ex_move rfl) ?_
            refine o_val (ex_add64 rfl rfl (by unfold I64; omega)) ?_
            refine o_val (ex_assign rfl) (o_nil ?_)
            exact k_some (k_1 + 1) ⟨show k_1 + 1 ≤ 2 by omega, by omega⟩ (Sub.cons rfl (Sub.cons rfl (Sub.cons rfl (Sub.cons rfl (Sub.cons rfl (Sub.cons rfl (Sub.cons rfl (Sub.nil _)))))))) SubE.sub
        ·
          refine k_exit rfl ?_
          refine k_seq (k_draw [true, true, true, true, true, true, true, false, false, false] 3 ?_ mixed (by kernel_rfl) rfl)
          refine d_loadA (i := 0) Try.isAgg25 Try.sizeOf25 rfl ?_
          refine d_loadA (i := 1) Try.isAgg23 Try.sizeOf23 rfl ?_
          refine d_val (i := 2) [] (ex_call Try.call22 rfl (fun W hW => c22 (-20) 20)) ?_
          refine d_val (i := 3) [] (ex_call Try.call8 rfl (fun W hW => c8ok (halves b hf k) lo hi (-20) 20 L2)) ?_
          refine d_val (i := 4) [] (ex_move rfl) ?_
          refine d_val (i := 5) [] (ex_extract rfl rfl) ?_
          refine d_val (i := 6) [] (ex_extract rfl rfl) ?_
          refine d_rest ?_
          refine d_rest ?_
          refine d_rest ?_
          refine d_nil ?_
          refine r_one 7 (rs_alloc rfl Try.zeroValue23 (fun b26 => ?_)) (by kernel_rfl)
          refine r_one 8 (rs_store [7, 5, 3, 0, 1, 2, 3, 4, 5, 7] rfl Try.sizeOf23 rfl rfl ?_) (by kernel_rfl)
          refine r_one 9 (rs_val rfl (ex_assign rfl) ?_) (by kernel_rfl)
          refine r_nil ?_ (by kernel_rfl)
          refine k_seq (k_region ?_)
          refine o_val (ex_move rfl) ?_
          refine o_val (ex_neq rfl rfl) ?_
          refine o_val (ex_move rfl) ?_
          refine o_or 5 (c := decide (rl < (halves b hf k).rLo lo (-20))) (fun h => ?_) ?_
          · refine o_val_g (ex_field (o := 0) 0 fa23_0 rfl rfl) ?_
            refine o_val_g (ex_load Try.isAgg3 rfl rfl) ?_
            refine o_val_g (ex_field (o := 0) 0 fa23_0 rfl rfl) ?_
            refine o_val_g (ex_load Try.isAgg3 rfl rfl) ?_
            exact o_val_g (ex_gtr rfl rfl) (o_nil (got rfl (.refl _)))
          refine o_val (ex_move rfl) ?_
          refine o_or 5 (c := decide ((halves b hf k).rHi hi 20 < rh)) (fun h => ?_) (o_nil ?_)
          · refine o_val_g (ex_field (o := 0) 1 fa23_1 rfl rfl) ?_
            refine o_val_g (ex_load Try.isAgg3 rfl rfl) ?_
            refine o_val_g (ex_field (o := 0) 1 fa23_1 rfl rfl) ?_
            refine o_val_g (ex_load Try.isAgg3 rfl rfl) ?_
            exact o_val_g (ex_lss rfl rfl) (o_nil (got rfl (.refl _)))
          refine k_cond rfl (fun h_4 => ?_) (fun h_4 => ?_)
          ·
            simp at h_4
            omega
          ·
            refine k_skip ?_
            refine k_region ?_
            refine o_val (ex_move rfl) ?_
            refine o_val (ex_add64 rfl rfl (by unfold I64; omega)) ?_
            refine o_val (ex_assign rfl) (o_nil ?_)
            exact k_some (k + 1) ⟨show k + 1 ≤ 2 by omega, by omega⟩ (Sub.cons rfl (Sub.cons rfl (Sub.cons rfl (Sub.cons rfl (Sub.cons rfl (Sub.nil _)))))) SubE.sub
      ·
        refine k_exit rfl ?_
        refine k_seq (k_region ?_)
        refine o_val (ex_call Try.call25 rfl (fun W hW => c25)) ?_
        refine o_val (ex_move rfl) ?_
        refine o_and 1 (c := true) (fun h => ?_) ?_
        · exact o_val_g (ex_call Try.call26 rfl (fun W hW => c26)) (o_nil (got rfl (.refl _)))
        refine o_val (ex_assign rfl) (o_nil ?_)
        refine k_ret ?_
        exact fin1 rfl rfl fun W hW => ⟨rfl, hW.ext⟩

end Go.Proofs.Yteecidddfcbabaa
