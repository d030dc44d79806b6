/- The walks of small functions: what each call hands back, and that nothing that was there has turned. Printed by a program of this session (wip/tools/gen.py). -/
import Derived.Test.YteecidddfcbabaaB9
namespace Go.Proofs.Yteecidddfcbabaa
open Go
attribute [local irreducible] ExV Ex
set_option synthInstance.maxSize 2000
set_option synthInstance.maxHeartbeats 200000
set_option maxRecDepth 20000

theorem own42 (l : List Int) : ∀ u, u ∈ l.map (Value.int .i64) → u.oneCell' = true := fun u hu => by
  obtain ⟨i, _, rfl⟩ := List.mem_map.1 hu
  rfl
theorem own_ways {l : List Wa} {v : Value} {x : Hp} (o : OwnsV 47 7 v l.length (l.flatMap Wa.cells) x) : ∃ A c, v = .slice A l.length c ∧ ∀ (w0 : World) (M : List Nat) (W : World), Sat w0 M x W → WaysAt W A l := by
  by_cases h : l = []
  · subst h
    rcases o.2 with ⟨rfl, _, _⟩ | ⟨g, cap, cs, rfl, _⟩
    · exact ⟨none, 0, rfl, fun _ _ _ _ k hk => by cases hk⟩
    · exact ⟨_, _, rfl, fun _ _ _ _ k hk => by cases hk⟩
  · have hp : 0 < l.length := List.length_pos_iff.2 h
    obtain ⟨g, cap, e, hc⟩ := own_at o hp
    refine ⟨_, _, e, fun w0 M W hW k hk => ⟨_, rfl, fun j u hu => ?_⟩⟩
    rw [add_lit, add_lit, Nat.zero_add]
    exact hc _ _ W hW _ u (flat_get l k hk j u hu)
theorem own42c (k : Int) (l : List Int) (m : Nat) : ∀ u, u ∈ [Value.int .i64 k] ++ (l.map (Value.int .i64)).drop m → u.oneCell' = true := fun u hu => by
  rcases List.mem_append.1 hu with hu | hu
  · rw [List.mem_singleton.1 hu]; rfl
  · exact own42 _ u (List.mem_of_mem_drop hu)
theorem rFin_len (b : Bo) (wl wh : Int) (l : List Wa) : (rFin b wl wh l).length ≤ l.length := by
  unfold rFin
  split
  · rw [rL_len]; exact (idxL_lt b wl wh l l.length).1
  · simp
structure WI where
  (k : Nat) (v : Value) (x : Hp)
structure WI.Inv (i : WI) (b : Bo) (wl wh : Int) (l : List Wa) : Prop where
  k : i.k ≤ l.length
  c : cod2 b wl wh l = 0 ∨ i.k = 0
  o : OwnsV 3 1 i.v (rL b wl wh l i.k).length ((rL b wl wh l i.k).map (Value.int .i64)) i.x
  s : (rL b wl wh l i.k).Pairwise (fun x y => wdt b l x ≤ wdt b l y)
theorem best15 (b : Bo) (wl wh : Int) (l : List Wa) {A : Option Addr} {c : Nat} {w : World} (hl : l.length < 4611686018427387904) (hrow : WaysAt w A l) : Calls Try.prog 15 [.agg [.int .i64 b.lead, .int .i64 b.thread, .int .i64 b.head, .int .i64 b.tl, .int .i64 b.th, .int .i64 b.hl, .int .i64 b.hh, .int .i64 b.sl, .int .i64 b.sh, .int .i64 b.pl, .int .i64 b.ph, .int .i64 b.yl, .int .i64 b.yh].toArray, .slice A l.length c, .agg [.int .i64 wl, .int .i64 wh].toArray].toArray w fun e w' => ∃ v, e = .returned (.tuple #[v, .int .i64 (bestE b wl wh l)]) ∧ FreshV 3 1 v (rFin b wl wh l).length ((rFin b wl wh l).map (Value.int .i64)) w w' ∧ Ext [] w w' := by
  have h := c15 b wl wh l (c := c) hl hrow
  rw [(cod2_best b wl wh l).2] at h
  exact h
theorem wdt_nat (b : Bo) (l : List Wa) (k : Nat) (h : k < l.length) : wdt b l k = b.fHi l[k] - b.fLo l[k] := by
  unfold wdt
  rw [Int.toNat_natCast]
  simp [List.getD, List.getElem?_eq_getElem h]

-- == f4 acme/acmelaw09.BoltBests params [25, 41, 23] results [4] in [('tmp', ['6'])] ntmps 176 nfree 0
theorem c4 (b : Bo) (wl wh : Int) (l : List Wa) {A : Option Addr} {c : Nat} {w : World} (hrow : WaysAt w A l) : Calls Try.prog 4 [.agg [.int .i64 b.lead, .int .i64 b.thread, .int .i64 b.head, .int .i64 b.tl, .int .i64 b.th, .int .i64 b.hl, .int .i64 b.hh, .int .i64 b.sl, .int .i64 b.sh, .int .i64 b.pl, .int .i64 b.ph, .int .i64 b.yl, .int .i64 b.yh].toArray, .slice A l.length c, .agg [.int .i64 wl, .int .i64 wh].toArray].toArray w fun e w' => e = .returned (.bool true) ∧ Ext [] w w' := by
  refine fn_start Try.func4 rfl (N := 176) rfl ?_
  refine k_seq (k_region ?_)
  refine o_box rfl (fun b3 => ?_)
  refine o_box rfl (fun b5 => ?_)
  refine o_val (ex_assign rfl) (o_nil ?_)
  refine k_seq (k_seq (k_region ?_))
  refine o_val (ex_move rfl) ?_
  refine o_val (ex_len Try.runUnderlying41 rfl) ?_
  refine o_val (ex_gtr rfl rfl) (o_nil ?_)
  refine k_cond rfl (fun h => ?_) (fun h => ?_)
  ·
    refine k_seq (k_region ?_)
    refine o_val (ex_call Try.call10 rfl (fun W hW => c10)) ?_
    refine o_val (ex_assign rfl) (o_nil ?_)
    refine k_ret ?_
    exact fin1 rfl rfl fun W hW => ⟨rfl, hW.ext⟩
  ·
    have h25 : l.length ≤ 25 := by have : ¬ (25 : Int) < (l.length : Int) := of_decide_eq_false h; omega
    refine k_skip ?_
    refine k_seq (k_region ?_)
    refine o_buildNil Try.runUnderlying41 Try.sizeOf47 (fun v26 x26 o26 => ?_)
    refine o_val (ex_move rfl) ?_
    refine o_appendW (bytes := 56) (news := l.flatMap Wa.cells) o26 Try.underlying41 (by kernel_rfl) (by omega) rfl rfl (fun W hW => ways_flat (ways_ext hrow hW.ext)) (by unfold maxLen; omega) (by omega) (flat_len l) (flat_one l) (fun v28 x28 o28 => ?_)
    have o28 : OwnsV 47 7 v28 l.length (l.flatMap Wa.cells) x28 := o28.cast (by omega) (by simp)
    obtain ⟨A7, c7, e7, hw7⟩ := own_ways o28
    subst e7
    refine o_val (ex_assign rfl) (o_nil ?_)
    refine k_seq (k_region ?_)
    refine o_val (ex_loadA Try.isAgg25 Try.sizeOf25 rfl) ?_
    refine o_val (ex_move rfl) ?_
    refine o_val (ex_loadA Try.isAgg23 Try.sizeOf23 rfl) ?_
    refine o_callT Try.call15 rfl (fun W hW => best15 b wl wh l (by omega) (hw7 _ _ W (hW.drop SubE.sub))) (fun v33 x33 o33 => ?_)
    refine o_val (ex_move rfl) ?_
    refine o_val (ex_extract rfl rfl) ?_
    refine o_val (ex_extract rfl rfl) ?_
    refine o_val (ex_assign rfl) ?_
    refine o_val (ex_assign rfl) (o_nil ?_)
    refine k_seq (k_region ?_)
    refine o_val (ex_assign rfl) (o_nil ?_)
    refine k_seq (k_seq (k_region ?_))
    refine o_val (ex_loadA Try.isAgg25 Try.sizeOf25 rfl) ?_
    refine o_val (ex_call Try.call9 rfl (fun W hW => c9 b)) ?_
    refine o_val (ex_not rfl) (o_nil ?_)
    refine k_cut (ι := Unit) (fun _ => [(1, .slice A l.length c), (3, .pointer (some ⟨b3, 0, none⟩)), (5, .pointer (some ⟨b5, 0, none⟩)), (7, .slice A7 l.length c7), (8, v33), (9, .int .i64 (bestE b wl wh l)), (10, .int .i64 (cod0 b l))]) (fun _ => x33 ++ (x28 ++ [⟨b5, 23, [.int .i64 wl, .int .i64 wh], true⟩, ⟨b3, 25, [.int .i64 b.lead, .int .i64 b.thread, .int .i64 b.head, .int .i64 b.tl, .int .i64 b.th, .int .i64 b.hl, .int .i64 b.hh, .int .i64 b.sl, .int .i64 b.sh, .int .i64 b.pl, .int .i64 b.ph, .int .i64 b.yl, .int .i64 b.yh], true⟩])) (fun _ => True) ?_ (fun _ _ => ?_)
    · refine k_cond rfl (fun h_1 => ?_) (fun h_1 => ?_)
      ·
        have e0 : cod0 b l = 2 := by unfold cod0; rw [if_neg (notT h_1)]
        refine k_region ?_
        refine o_val (ex_assign rfl) (o_nil ?_)
        exact k_some () trivial ((Sub.cons rfl (Sub.cons rfl (Sub.cons rfl (Sub.cons rfl (Sub.cons rfl (Sub.cons rfl (Sub.cons' rfl (by rw [e0]) (Sub.nil _))))))))) SubE.sub
      ·
        have hc : b.chk = true := by simpa using h_1
        refine k_seq (k_region ?_)
        refine o_val (ex_move rfl) ?_
        refine o_val (ex_len Try.runUnderlying41 rfl) ?_
        refine o_val (ex_gtr rfl rfl) (o_nil ?_)
        refine k_cut (ι := Unit) (fun _ => [(1, .slice A l.length c), (3, .pointer (some ⟨b3, 0, none⟩)), (5, .pointer (some ⟨b5, 0, none⟩)), (7, .slice A7 l.length c7), (8, v33), (9, .int .i64 (bestE b wl wh l)), (10, .int .i64 (cod0 b l))]) (fun _ => x33 ++ (x28 ++ [⟨b5, 23, [.int .i64 wl, .int .i64 wh], true⟩, ⟨b3, 25, [.int .i64 b.lead, .int .i64 b.thread, .int .i64 b.head, .int .i64 b.tl, .int .i64 b.th, .int .i64 b.hl, .int .i64 b.hh, .int .i64 b.sl, .int .i64 b.sh, .int .i64 b.pl, .int .i64 b.ph, .int .i64 b.yl, .int .i64 b.yh], true⟩])) (fun _ => True) ?_ (fun _ _ => ?_)
        · refine k_cond rfl (fun h_2 => ?_) (fun h_2 => ?_)
          ·
            have e0 : cod0 b l = 5 := by unfold cod0; rw [if_pos hc, if_pos (by have : (20 : Int) < (l.length : Int) := of_decide_eq_true h_2; omega)]
            refine k_region ?_
            refine o_val (ex_assign rfl) (o_nil ?_)
            exact k_some () trivial ((Sub.cons rfl (Sub.cons rfl (Sub.cons rfl (Sub.cons rfl (Sub.cons rfl (Sub.cons rfl (Sub.cons' rfl (by rw [e0]) (Sub.nil _))))))))) SubE.sub
          ·
            have e0 : cod0 b l = 0 := by unfold cod0; rw [if_pos hc, if_neg (by have : ¬ (20 : Int) < (l.length : Int) := of_decide_eq_false h_2; omega)]
            refine k_skip ?_
            exact k_some () trivial ((Sub.cons rfl (Sub.cons rfl (Sub.cons rfl (Sub.cons rfl (Sub.cons rfl (Sub.cons rfl (Sub.cons' rfl (by rw [e0]) (Sub.nil _))))))))) SubE.sub
        exact k_some () trivial (Sub.cons rfl (Sub.cons rfl (Sub.cons rfl (Sub.cons rfl (Sub.cons rfl (Sub.cons rfl (Sub.cons rfl (Sub.nil _)))))))) SubE.sub
    refine k_seq (k_region ?_)
    refine o_buildNil Try.runUnderlying42 Try.sizeOf3 (fun v42 x42 o42 => ?_)
    refine o_val (ex_assign rfl) (o_nil ?_)
    refine k_seq (k_seq (k_region ?_))
    refine o_val (ex_assign rfl) (o_nil ?_)
    refine k_block ?_
    refine k_loop (ι := Nat) (fun k => [(1, .slice A l.length c), (3, .pointer (some ⟨b3, 0, none⟩)), (5, .pointer (some ⟨b5, 0, none⟩)), (7, .slice A7 l.length c7), (8, v33), (9, .int .i64 (bestE b wl wh l)), (10, .int .i64 (codK b l k)), (11, v42), (12, .int .i64 (k : Int))]) (fun k => x42 ++ (x33 ++ (x28 ++ [⟨b5, 23, [.int .i64 wl, .int .i64 wh], true⟩, ⟨b3, 25, [.int .i64 b.lead, .int .i64 b.thread, .int .i64 b.head, .int .i64 b.tl, .int .i64 b.th, .int .i64 b.hl, .int .i64 b.hh, .int .i64 b.sl, .int .i64 b.sh, .int .i64 b.pl, .int .i64 b.ph, .int .i64 b.yl, .int .i64 b.yh], true⟩]))) (fun k => k ≤ l.length) (fun k => l.length - k) 0 (Nat.zero_le _) ((Sub.cons rfl (Sub.cons rfl (Sub.cons rfl (Sub.cons rfl (Sub.cons rfl (Sub.cons rfl (Sub.cons' rfl (by rw [codK_zero]) (Sub.cons rfl (Sub.cons rfl (Sub.nil _))))))))))) SubE.sub (fun k hk => ?_)
    refine k_seq (k_seq (k_region ?_))
    refine o_val (ex_move rfl) ?_
    refine o_val (ex_move rfl) ?_
    refine o_val (ex_len Try.runUnderlying41 rfl) ?_
    refine o_val (ex_lss rfl rfl) (o_nil ?_)
    refine k_cond rfl (fun h_1 => ?_) (fun h_1 => ?_)
    ·
      have hlt : k < l.length := by have : (k : Int) < (l.length : Int) := of_decide_eq_true h_1; omega
      obtain ⟨a, hA, hc⟩ := hrow k hlt
      subst hA
      obtain ⟨g7, cap7, e7, hc7⟩ := own_at o28 (by omega)
      injection e7 with e7 _ e7c
      subst e7 e7c
      refine k_skip ?_
      refine k_seq (k_block ?_)
      refine k_seq (k_seq (k_draw [true, true, true, true, true, true, true, true, true] 0 ?_ mixed (by kernel_rfl) rfl))
      refine d_val (i := 0) [] (ex_move rfl) ?_
      refine d_val (i := 1) [] (ex_move rfl) ?_
      refine d_val (i := 2) [] (ex_index (k * 7) Try.runUnderlying41 Try.sizeOf47 rfl rfl (by omega) (by omega) (by omega)) ?_
      refine d_val (i := 3) x28 (ex_loadA_at Try.isAgg47 Try.sizeOf47 rfl (vs := [Value.int .i64 l[k].kind, Value.int .i64 l[k].tl, Value.int .i64 l[k].th, Value.int .i64 l[k].al, Value.int .i64 l[k].ah, Value.int .i64 l[k].sl, Value.int .i64 l[k].sh]) rfl (fun W hW j u hu => by rw [add_lit]; exact hc7 _ _ W hW _ u (flat_get l k hlt j u hu))) ?_
      refine d_val (i := 4) [] (ex_move rfl) ?_
      refine d_val (i := 5) [] (ex_move rfl) ?_
      refine d_val (i := 6) [] (ex_index_old Try.runUnderlying41 Try.sizeOf47 rfl rfl (by omega) (by omega)) ?_
      refine d_val (i := 7) [] (ex_loadA_old Try.isAgg47 Try.sizeOf47 rfl rfl (vs := [Value.int .i64 l[k].kind, Value.int .i64 l[k].tl, Value.int .i64 l[k].th, Value.int .i64 l[k].al, Value.int .i64 l[k].ah, Value.int .i64 l[k].sl, Value.int .i64 l[k].sh]) hc (by simp)) ?_
      refine d_val (i := 8) [] (exv_eq (show _ = Value.bool false by simp) (ex_neq_47 rfl rfl)) ?_
      refine d_nil ?_
      refine r_nil ?_ (by kernel_rfl)
      refine k_cond rfl (fun h_2 => ?_) (fun h_2 => ?_)
      ·
        cases h_2
      ·
        refine k_skip ?_
        refine k_seq (k_region ?_)
        refine o_val (ex_move rfl) ?_
        refine o_val (ex_eql rfl rfl) ?_
        refine o_val (ex_move rfl) ?_
        refine o_and 6 (c := !l[k].chk) (fun h => ?_) (o_nil ?_)
        · refine o_val_g (ex_move rfl) ?_
          refine o_val_g (ex_move rfl) ?_
          refine o_val_g (ex_index_old Try.runUnderlying41 Try.sizeOf47 rfl rfl (by omega) (by omega)) ?_
          refine o_val_g (ex_loadA_old Try.isAgg47 Try.sizeOf47 rfl rfl (vs := [Value.int .i64 l[k].kind, Value.int .i64 l[k].tl, Value.int .i64 l[k].th, Value.int .i64 l[k].al, Value.int .i64 l[k].ah, Value.int .i64 l[k].sl, Value.int .i64 l[k].sh]) hc (by simp)) ?_
          refine o_val_g (ex_call Try.call16 rfl (fun W hW => c16 l[k])) ?_
          exact o_val_g (ex_not rfl) (o_nil (got rfl (.refl _)))
        refine k_cut (ι := Unit) (fun _ => [(1, .slice (some a) l.length c), (3, .pointer (some ⟨b3, 0, none⟩)), (5, .pointer (some ⟨b5, 0, none⟩)), (7, .slice (some ⟨g7, 0, none⟩) l.length c7), (8, v33), (9, .int .i64 (bestE b wl wh l)), (10, .int .i64 (codK b l (k + 1))), (11, v42), (12, .int .i64 (k : Int))]) (fun _ => x42 ++ (x33 ++ (x28 ++ [⟨b5, 23, [.int .i64 wl, .int .i64 wh], true⟩, ⟨b3, 25, [.int .i64 b.lead, .int .i64 b.thread, .int .i64 b.head, .int .i64 b.tl, .int .i64 b.th, .int .i64 b.hl, .int .i64 b.hh, .int .i64 b.sl, .int .i64 b.sh, .int .i64 b.pl, .int .i64 b.ph, .int .i64 b.yl, .int .i64 b.yh], true⟩]))) (fun _ => True) ?_ (fun _ _ => ?_)
        · refine k_cond rfl (fun h_3 => ?_) (fun h_3 => ?_)
          ·
            have e6 : codK b l (k + 1) = 2 := by rw [codK_succ hlt, if_pos (by simpa using h_3)]
            refine k_region ?_
            refine o_val (ex_assign rfl) (o_nil ?_)
            exact k_some () trivial ((Sub.cons rfl (Sub.cons rfl (Sub.cons rfl (Sub.cons rfl (Sub.cons rfl (Sub.cons rfl (Sub.cons' rfl (by rw [e6]) (Sub.cons rfl (Sub.cons rfl (Sub.nil _))))))))))) SubE.sub
          ·
            have e6 : codK b l (k + 1) = codK b l k := by rw [codK_succ hlt, if_neg (by intro hh; simp [hh.1, hh.2] at h_3)]
            refine k_skip ?_
            exact k_some () trivial ((Sub.cons rfl (Sub.cons rfl (Sub.cons rfl (Sub.cons rfl (Sub.cons rfl (Sub.cons rfl (Sub.cons' rfl (by rw [e6]) (Sub.cons rfl (Sub.cons rfl (Sub.nil _))))))))))) SubE.sub
        refine k_region ?_
        refine o_val (ex_move rfl) ?_
        refine o_val (ex_add64 rfl rfl (by unfold I64; omega)) ?_
        refine o_val (ex_assign rfl) (o_nil ?_)
        exact k_some (k + 1) ⟨hlt, (by show l.length - (k + 1) < l.length - k; omega)⟩ (Sub.cons rfl (Sub.cons rfl (Sub.cons rfl (Sub.cons rfl (Sub.cons rfl (Sub.cons rfl (Sub.cons rfl (Sub.cons rfl (Sub.cons rfl (Sub.nil _)))))))))) SubE.sub
    ·
      have hkn : k = l.length := by have : ¬ (k : Int) < (l.length : Int) := of_decide_eq_false h_1; have : k ≤ l.length := hk; omega
      subst hkn
      refine k_exit rfl ?_
      refine k_seq (k_seq (k_region ?_))
      refine o_val (ex_move rfl) ?_
      refine o_val (ex_eql rfl rfl) ?_
      refine o_val (ex_move rfl) ?_
      refine o_and 3 (c := !isSp wl wh 0 100000000) (fun h => ?_) (o_nil ?_)
      · refine o_val_g (ex_loadA Try.isAgg23 Try.sizeOf23 rfl) ?_
        refine o_val_g (ex_call Try.call13 rfl (fun W hW => c13 wl wh 0 100000000)) ?_
        exact o_val_g (ex_not rfl) (o_nil (got rfl (.refl _)))
      refine k_cut (ι := Unit) (fun _ => [(1, .slice A l.length c), (3, .pointer (some ⟨b3, 0, none⟩)), (5, .pointer (some ⟨b5, 0, none⟩)), (8, v33), (9, .int .i64 (bestE b wl wh l)), (10, .int .i64 (cod2 b wl wh l)), (11, v42)]) (fun _ => x42 ++ (x33 ++ (x28 ++ [⟨b5, 23, [.int .i64 wl, .int .i64 wh], true⟩, ⟨b3, 25, [.int .i64 b.lead, .int .i64 b.thread, .int .i64 b.head, .int .i64 b.tl, .int .i64 b.th, .int .i64 b.hl, .int .i64 b.hh, .int .i64 b.sl, .int .i64 b.sh, .int .i64 b.pl, .int .i64 b.ph, .int .i64 b.yl, .int .i64 b.yh], true⟩]))) (fun _ => True) ?_ (fun _ _ => ?_)
      · refine k_cond rfl (fun h_2 => ?_) (fun h_2 => ?_)
        ·
          have e7 : cod2 b wl wh l = 3 := by have hh : codK b l l.length = 0 ∧ isSp wl wh 0 100000000 = false := (by simpa using h_2); unfold cod2; rw [if_pos hh.1, hh.2]; rfl
          refine k_region ?_
          refine o_val (ex_assign rfl) (o_nil ?_)
          exact k_some () trivial ((Sub.cons rfl (Sub.cons rfl (Sub.cons rfl (Sub.cons rfl (Sub.cons rfl (Sub.cons' rfl (by rw [e7]) (Sub.cons rfl (Sub.nil _))))))))) SubE.sub
        ·
          have e7 : cod2 b wl wh l = codK b l l.length := by
            unfold cod2
            by_cases hh : codK b l l.length = 0
            · rw [if_pos hh, if_pos (by simpa [hh] using h_2), hh]
            · rw [if_neg hh]
          refine k_skip ?_
          exact k_some () trivial ((Sub.cons rfl (Sub.cons rfl (Sub.cons rfl (Sub.cons rfl (Sub.cons rfl (Sub.cons' rfl (by rw [e7]) (Sub.cons rfl (Sub.nil _))))))))) SubE.sub
      refine k_seq (k_seq (k_region ?_))
      refine o_val (ex_assign rfl) (o_nil ?_)
      refine k_block ?_
      refine k_loop (ι := WI) (fun k => [(1, .slice A l.length c), (3, .pointer (some ⟨b3, 0, none⟩)), (5, .pointer (some ⟨b5, 0, none⟩)), (8, v33), (9, .int .i64 (bestE b wl wh l)), (10, .int .i64 (cod2 b wl wh l)), (11, k.v), (13, .int .i64 (k.k : Int))]) (fun k => k.x ++ (x33 ++ (x28 ++ [⟨b5, 23, [.int .i64 wl, .int .i64 wh], true⟩, ⟨b3, 25, [.int .i64 b.lead, .int .i64 b.thread, .int .i64 b.head, .int .i64 b.tl, .int .i64 b.th, .int .i64 b.hl, .int .i64 b.hh, .int .i64 b.sl, .int .i64 b.sh, .int .i64 b.pl, .int .i64 b.ph, .int .i64 b.yl, .int .i64 b.yh], true⟩]))) (fun k => k.Inv b wl wh l) (fun k => l.length - k.k) ⟨0, v42, x42⟩ ⟨Nat.zero_le _, .inr rfl, o42, .nil⟩ (Sub.cons rfl (Sub.cons rfl (Sub.cons rfl (Sub.cons rfl (Sub.cons rfl (Sub.cons rfl (Sub.cons rfl (Sub.cons rfl (Sub.nil _))))))))) SubE.sub (fun k hk => ?_)
      obtain ⟨k, v, x⟩ := k
      obtain ⟨hk, hcd, ho, hs⟩ := hk
      dsimp only at hk hcd ho hs ⊢
      refine k_seq (k_seq (k_region ?_))
      refine o_val (ex_move rfl) ?_
      refine o_val (ex_move rfl) ?_
      refine o_val (ex_len Try.runUnderlying41 rfl) ?_
      refine o_val (ex_lss rfl rfl) ?_
      refine o_val (ex_move rfl) ?_
      refine o_and 2 (c := decide (cod2 b wl wh l = 0)) (fun h => ?_) (o_nil ?_)
      · refine o_val_g (ex_move rfl) ?_
        exact o_val_g (ex_eql rfl rfl) (o_nil (got rfl (.refl _)))
      refine k_cond rfl (fun h_2 => ?_) (fun h_2 => ?_)
      ·
        have h88 : k < l.length ∧ cod2 b wl wh l = 0 := by
          rw [Bool.and_eq_true] at h_2
          have h1 : (k : Int) < (l.length : Int) := of_decide_eq_true h_2.1
          exact ⟨by omega, of_decide_eq_true h_2.2⟩
        obtain ⟨hlt, h0⟩ := h88
        obtain ⟨hb, hl20, hcs, _⟩ := cod2_ok h0
        obtain ⟨a, hA0, hc⟩ := hrow k hlt
        subst hA0
        have hgd : l.getD k dW = l[k] := by simp [List.getD, List.getElem?_eq_getElem hlt]
        have hyo := Wa.chk_ok (hcs l[k] (List.getElem_mem hlt))
        refine k_skip ?_
        refine k_seq (k_block ?_)
        refine k_seq (k_seq (k_draw [true, true, true, true, true, true, true, true] 0 ?_ mixed (by kernel_rfl) rfl))
        refine d_loadA (i := 0) Try.isAgg25 Try.sizeOf25 rfl ?_
        refine d_val (i := 1) [] (ex_move rfl) ?_
        refine d_val (i := 2) [] (ex_move rfl) ?_
        refine d_val (i := 3) [] (ex_index_old Try.runUnderlying41 Try.sizeOf47 rfl rfl (by omega) (by omega)) ?_
        refine d_val (i := 4) [] (ex_loadA_old Try.isAgg47 Try.sizeOf47 rfl rfl (vs := [Value.int .i64 l[k].kind, Value.int .i64 l[k].tl, Value.int .i64 l[k].th, Value.int .i64 l[k].al, Value.int .i64 l[k].ah, Value.int .i64 l[k].sl, Value.int .i64 l[k].sh]) hc (by simp)) ?_
        refine d_loadA (i := 5) Try.isAgg23 Try.sizeOf23 rfl ?_
        refine d_val (i := 6) [] (ex_call Try.call17 rfl (fun W hW => c17 b l[k] wl wh hb hyo.toFit)) ?_
        refine d_val (i := 7) [] (ex_not rfl) ?_
        refine d_nil ?_
        refine r_nil ?_ (by kernel_rfl)
        refine k_cond rfl (fun h_3 => ?_) (fun h_3 => ?_)
        ·
          have hnf : ¬ fineB b wl wh (l.getD k dW) = true := by rw [hgd]; exact notT h_3
          refine k_exit rfl ?_
          refine k_region ?_
          refine o_val (ex_move rfl) ?_
          refine o_val (ex_add64 rfl rfl (by unfold I64; omega)) ?_
          refine o_val (ex_assign rfl) (o_nil ?_)
          exact k_some ⟨k + 1, v, x⟩ ⟨⟨hlt, .inl h0, by rw [rL_no hnf]; exact ho, by rw [rL_no hnf]; exact hs⟩, (by show l.length - (k + 1) < l.length - k; omega)⟩ (Sub.cons rfl (Sub.cons rfl (Sub.cons rfl (Sub.cons rfl (Sub.cons rfl (Sub.cons rfl (Sub.cons rfl (Sub.cons rfl (Sub.nil _))))))))) SubE.sub
        ·
          have hfi : fineB b wl wh (l.getD k dW) = true := by rw [hgd]; simpa using h_3
          refine k_skip ?_
          refine k_seq (k_draw [true, true, true, true, true, true, true, true, true, true, false, false, false, false] 4 ?_ mixed (by kernel_rfl) rfl)
          refine d_loadA (i := 0) Try.isAgg25 Try.sizeOf25 rfl ?_
          refine d_val (i := 1) [] (ex_move rfl) ?_
          refine d_val (i := 2) [] (ex_move rfl) ?_
          refine d_val (i := 3) [] (ex_index_old Try.runUnderlying41 Try.sizeOf47 rfl rfl (by omega) (by omega)) ?_
          refine d_val (i := 4) [] (ex_loadA_old Try.isAgg47 Try.sizeOf47 rfl rfl (vs := [Value.int .i64 l[k].kind, Value.int .i64 l[k].tl, Value.int .i64 l[k].th, Value.int .i64 l[k].al, Value.int .i64 l[k].ah, Value.int .i64 l[k].sl, Value.int .i64 l[k].sh]) hc (by simp)) ?_
          refine d_val (i := 5) [] (ex_call Try.call18 rfl (fun W hW => c18f b l[k] hb hyo.toFit)) ?_
          refine d_val (i := 6) [] (ex_move rfl) ?_
          refine d_val (i := 7) [] (ex_extract rfl rfl) ?_
          refine d_val (i := 8) [] (ex_extract rfl rfl) ?_
          refine d_val (i := 9) [] (ex_extract rfl rfl) ?_
          refine d_rest ?_
          refine d_rest ?_
          refine d_rest ?_
          refine d_rest ?_
          refine d_nil ?_
          refine r_one 10 (rs_alloc rfl Try.zeroValue23 (fun b14 => ?_)) (by kernel_rfl)
          refine r_one 11 (rs_store [10, 7, 5, 0, 1, 2, 3, 4, 5, 6, 7, 10] rfl Try.sizeOf23 rfl rfl ?_) (by kernel_rfl)
          refine r_one 12 (rs_val rfl (ex_assign rfl) ?_) (by kernel_rfl)
          refine r_one 13 (rs_val rfl (ex_assign rfl) ?_) (by kernel_rfl)
          refine r_nil ?_ (by kernel_rfl)
          refine k_seq (k_region ?_)
          refine o_val (ex_assign rfl) (o_nil ?_)
          refine k_seq (k_block ?_)
          refine k_loop (ι := Nat) (fun k_1 => [(1, .slice (some a) l.length c), (3, .pointer (some ⟨b3, 0, none⟩)), (5, .pointer (some ⟨b5, 0, none⟩)), (8, v33), (9, .int .i64 (bestE b wl wh l)), (10, .int .i64 (cod2 b wl wh l)), (11, v), (13, .int .i64 (k : Int)), (14, .pointer (some ⟨b14, 0, none⟩)), (17, .int .i64 (k_1 : Int))]) (fun k_1 => ⟨b14, 23, [.int .i64 (b.fLo l[k]), .int .i64 (b.fHi l[k])], true⟩ :: (x ++ (x33 ++ (x28 ++ [⟨b5, 23, [.int .i64 wl, .int .i64 wh], true⟩, ⟨b3, 25, [.int .i64 b.lead, .int .i64 b.thread, .int .i64 b.head, .int .i64 b.tl, .int .i64 b.th, .int .i64 b.hl, .int .i64 b.hh, .int .i64 b.sl, .int .i64 b.sh, .int .i64 b.pl, .int .i64 b.ph, .int .i64 b.yl, .int .i64 b.yh], true⟩])))) (fun k_1 => k_1 ≤ (rL b wl wh l k).length ∧ ∀ z, z ∈ (rL b wl wh l k).take k_1 → wdt b l z ≤ wdt b l k) (fun k_1 => (rL b wl wh l k).length - k_1) 0 ⟨Nat.zero_le _, fun z hz => by simp at hz⟩ (Sub.cons rfl (Sub.cons rfl (Sub.cons rfl (Sub.cons rfl (Sub.cons rfl (Sub.cons rfl (Sub.cons rfl (Sub.cons rfl (Sub.cons rfl (Sub.cons rfl (Sub.nil _))))))))))) SubE.sub (fun k_1 hk => ?_)
          obtain ⟨hm, hA⟩ := hk
          refine k_seq (k_seq (k_region ?_))
          refine o_val (ex_move rfl) ?_
          refine o_val (ex_move rfl) ?_
          refine o_val (ex_lenO ho Try.runUnderlying42 rfl) ?_
          refine o_val (ex_lss rfl rfl) (o_nil ?_)
          refine k_cond rfl (fun h_4 => ?_) (fun h_4 => ?_)
          ·
            have hr20 := rL_len b wl wh l k
            have hi20 := (idxL_lt b wl wh l k).1
            have hml : k_1 < (rL b wl wh l k).length := by have : (k_1 : Int) < ((rL b wl wh l k).length : Int) := of_decide_eq_true h_4; omega
            have hqm := rL_mem b wl wh l k ((rL b wl wh l k)[k_1]) (List.getElem_mem hml)
            have hcq0 := own_at ho (by omega)
            obtain ⟨g4, cap4, e4, hc4⟩ := hcq0
            subst e4
            have hq4 : ((rL b wl wh l k).map (Value.int .i64))[k_1]? = some (Value.int .i64 (rL b wl wh l k)[k_1]) := by simp [hml]
            generalize hqe : (rL b wl wh l k)[k_1] = q at hqm hq4
            obtain ⟨hq0, hqk⟩ := hqm
            have hql : q.toNat < l.length := by omega
            obtain ⟨a2, hA2, hc2⟩ := hrow q.toNat hql
            cases hA2
            have hqo := Wa.chk_ok (hcs l[q.toNat] (List.getElem_mem hql))
            have hwq : wdt b l q = b.fHi l[q.toNat] - b.fLo l[q.toNat] := by have := wdt_nat b l q.toNat hql; rwa [Int.toNat_of_nonneg hq0] at this
            have hwk := wdt_nat b l k hlt
            have fb1 := refF_bounds hb l[k].kind (truth_fit hb hyo.toFit 3)
            have fb2 := refF_bounds hb l[k].kind (truth_fit hb hyo.toFit 236)
            have fb3 := refF_bounds hb l[q.toNat].kind (truth_fit hb hqo.toFit 3)
            have fb4 := refF_bounds hb l[q.toNat].kind (truth_fit hb hqo.toFit 236)
            rw [refF_3 (.inl rfl)] at fb1 fb3
            rw [refF_236] at fb2 fb4
            refine k_skip ?_
            refine k_block ?_
            refine k_seq (k_draw [true, true, true, true, true, true, true, true, true, true, true, true, true, false, false, false, false] 4 ?_ mixed (by kernel_rfl) rfl)
            refine d_loadA (i := 0) Try.isAgg25 Try.sizeOf25 rfl ?_
            refine d_val (i := 1) [] (ex_move rfl) ?_
            refine d_val (i := 2) [] (ex_move rfl) ?_
            refine d_val (i := 3) [] (ex_move rfl) ?_
            refine d_val (i := 4) [] (ex_index k_1 Try.runUnderlying42 Try.sizeOf3 rfl rfl (by omega) (by omega) (by omega)) ?_
            refine d_val (i := 5) x (ex_load_at Try.isAgg3 rfl (fun W hW => hc4 _ _ W hW k_1 _ hq4)) ?_
            refine d_val (i := 6) [] (ex_index_old Try.runUnderlying41 Try.sizeOf47 rfl rfl (by omega) (by omega)) ?_
            refine d_val (i := 7) [] (ex_loadA_old Try.isAgg47 Try.sizeOf47 rfl rfl (vs := [Value.int .i64 l[q.toNat].kind, Value.int .i64 l[q.toNat].tl, Value.int .i64 l[q.toNat].th, Value.int .i64 l[q.toNat].al, Value.int .i64 l[q.toNat].ah, Value.int .i64 l[q.toNat].sl, Value.int .i64 l[q.toNat].sh]) hc2 (by simp)) ?_
            refine d_val (i := 8) [] (ex_call Try.call18 rfl (fun W hW => c18f b l[q.toNat] hb hqo.toFit)) ?_
            refine d_val (i := 9) [] (ex_move rfl) ?_
            refine d_val (i := 10) [] (ex_extract rfl rfl) ?_
            refine d_val (i := 11) [] (ex_extract rfl rfl) ?_
            refine d_val (i := 12) [] (ex_extract rfl rfl) ?_
            refine d_rest ?_
            refine d_rest ?_
            refine d_rest ?_
            refine d_rest ?_
            refine d_nil ?_
            refine r_one 13 (rs_alloc rfl Try.zeroValue23 (fun b18 => ?_)) (by kernel_rfl)
            refine r_one 14 (rs_store [13, 10, 8, 0, 1, 2, 3, 4, 5, 6, 7, 8, 9, 10, 13] rfl Try.sizeOf23 rfl rfl ?_) (by kernel_rfl)
            refine r_one 15 (rs_val rfl (ex_assign rfl) ?_) (by kernel_rfl)
            refine r_one 16 (rs_val rfl (ex_assign rfl) ?_) (by kernel_rfl)
            refine r_nil ?_ (by kernel_rfl)
            refine k_seq (k_seq (k_region ?_))
            refine o_val (ex_field (o := 0) 1 fa23_1 rfl rfl) ?_
            refine o_val (ex_load Try.isAgg3 rfl rfl) ?_
            refine o_val (ex_field (o := 0) 0 fa23_0 rfl rfl) ?_
            refine o_val (ex_load Try.isAgg3 rfl rfl) ?_
            refine o_val (ex_sub64 rfl rfl (by unfold I64; omega)) ?_
            refine o_val (ex_field (o := 0) 1 fa23_1 rfl rfl) ?_
            refine o_val (ex_load Try.isAgg3 rfl rfl) ?_
            refine o_val (ex_field (o := 0) 0 fa23_0 rfl rfl) ?_
            refine o_val (ex_load Try.isAgg3 rfl rfl) ?_
            refine o_val (ex_sub64 rfl rfl (by unfold I64; omega)) ?_
            refine o_val (ex_gtr rfl rfl) (o_nil ?_)
            refine k_cond rfl (fun h_5 => ?_) (fun h_5 => ?_)
            ·
              have hgt : b.fHi l[k] - b.fLo l[k] < b.fHi l[q.toNat] - b.fLo l[q.toNat] := of_decide_eq_true h_5
              have hB : ∀ z, (rL b wl wh l k)[k_1]? = some z → wdt b l k < wdt b l z := fun z hz => by
                rw [List.getElem?_eq_getElem hml, hqe] at hz
                cases hz
                omega
              obtain ⟨u5, ou5, hu5⟩ := own_head (t := 42) Try.sizeOf3 Try.underlying42 ho hm
              obtain ⟨A0, c0, ht0, hc0⟩ := own_tail (t := 42) Try.sizeOf3 Try.underlying42 ho hm
              obtain ⟨er, sr⟩ := rL_yes hfi hs hA hB
              have hr20 := rL_len b wl wh l k
              have hi20 := (idxL_lt b wl wh l k).1
              refine k_exit rfl ?_
              refine k_draw [true, true, true, true, false, true, true, true, false, false, false] 4 ?_ mixed (by kernel_rfl) rfl
              refine d_val (i := 0) [] (ex_move rfl) ?_
              refine d_val (i := 1) [] (ex_move rfl) ?_
              refine d_val (i := 2) [] (ex_slice (vl := none) (vh := some (.int .i64 (k_1 : Int))) rfl rfl rfl hu5) ?_
              refine d_val (i := 3) [] (ex_move rfl) ?_
              refine d_rest ?_
              refine d_val (i := 5) [] (ex_move rfl) ?_
              refine d_val (i := 6) [] (ex_move rfl) ?_
              refine d_val (i := 7) [] (ex_slice (vl := some (.int .i64 (k_1 : Int))) (vh := none) rfl rfl rfl ht0) ?_
              refine d_rest ?_
              refine d_rest ?_
              refine d_rest ?_
              refine d_nil ?_
              refine r_one 4 (rs_buildSlice [.int .i64 0] [(0, 1)] rfl Try.runUnderlying42 Try.sizeOf3 Try.zeroValue3 rfl (fun b137 => ?_)) (by kernel_rfl)
              refine r_one 8 (rs_appendW (bytes := 8) (news := ((rL b wl wh l k).map (Value.int .i64)).drop (k_1 * 1)) [4, 7] rfl (OwnsV.made (e := 3) (size := 1) (b := b137) (cs := [.int .i64 (k : Int)]) rfl (by unfold maxLen; omega)) Try.underlying42 (by kernel_rfl) (by omega) rfl rfl (fun W hW => hc0 _ _ _ _ W inferInstance hW) (by unfold maxLen; omega) (by omega) (by simp) (fun u hu => own42 _ u (List.mem_of_mem_drop hu)) (fun v141 x141 o141 => ?_)) (by kernel_rfl)
              obtain ⟨g2, cap2, e2, hc2'⟩ := own_at o141 (by omega)
              subst e2
              refine r_one 9 (rs_appendW (bytes := 8) (news := [Value.int .i64 (k : Int)] ++ ((rL b wl wh l k).map (Value.int .i64)).drop (k_1 * 1)) [2, 8, 8] rfl ou5 Try.underlying42 (by kernel_rfl) (by omega) rfl rfl (fun W hW j u hu => ⟨_, rfl, by rw [add_lit, Nat.zero_add]; exact hc2' _ _ W (hW.drop SubE.sub) j u hu⟩) (by unfold maxLen; omega) (by omega) (by simp; omega) (own42c _ _ _) (fun v142 x142 o142 => ?_)) (by kernel_rfl)
              refine r_one 10 (rs_val rfl (ex_assign rfl) ?_) (by kernel_rfl)
              refine r_nil ?_ (by kernel_rfl)
              refine k_region ?_
              refine o_val (ex_move rfl) ?_
              refine o_val (ex_add64 rfl rfl (by unfold I64; omega)) ?_
              refine o_val (ex_assign rfl) (o_nil ?_)
              exact k_some ⟨k + 1, v142, x142⟩ ⟨⟨hlt, .inl h0, o142.cast (by rw [er, List.length_append, List.length_cons, List.length_take, List.length_drop]; omega) (by rw [er]; simp), sr⟩, (by show l.length - (k + 1) < l.length - k; omega)⟩ (Sub.cons rfl (Sub.cons rfl (Sub.cons rfl (Sub.cons rfl (Sub.cons rfl (Sub.cons rfl (Sub.cons rfl (Sub.cons rfl (Sub.nil _))))))))) SubE.sub
            ·
              have hle : b.fHi l[q.toNat] - b.fLo l[q.toNat] ≤ b.fHi l[k] - b.fLo l[k] := by have : ¬ b.fHi l[k] - b.fLo l[k] < b.fHi l[q.toNat] - b.fLo l[q.toNat] := of_decide_eq_false h_5; omega
              refine k_skip ?_
              refine k_region ?_
              refine o_val (ex_move rfl) ?_
              refine o_val (ex_add64 rfl rfl (by unfold I64; omega)) ?_
              refine o_val (ex_assign rfl) (o_nil ?_)
              exact k_some (k_1 + 1) ⟨⟨hml, fun z hz => by
                rw [List.take_succ_eq_append_getElem hml, hqe] at hz
                rcases List.mem_append.1 hz with hz | hz
                · exact hA z hz
                · rw [List.mem_singleton.1 hz]; omega⟩, (by show (rL b wl wh l k).length - (k_1 + 1) < (rL b wl wh l k).length - k_1; omega)⟩ (Sub.cons rfl (Sub.cons rfl (Sub.cons rfl (Sub.cons rfl (Sub.cons rfl (Sub.cons rfl (Sub.cons rfl (Sub.cons rfl (Sub.cons rfl (Sub.cons rfl (Sub.nil _))))))))))) SubE.sub
          ·
            have hB : ∀ z, (rL b wl wh l k)[k_1]? = some z → wdt b l k < wdt b l z := fun z hz => by
              have : ¬ (k_1 : Int) < ((rL b wl wh l k).length : Int) := of_decide_eq_false h_4
              rw [List.getElem?_eq_none (by omega)] at hz
              cases hz
            obtain ⟨u5, ou5, hu5⟩ := own_head (t := 42) Try.sizeOf3 Try.underlying42 ho hm
            obtain ⟨A0, c0, ht0, hc0⟩ := own_tail (t := 42) Try.sizeOf3 Try.underlying42 ho hm
            obtain ⟨er, sr⟩ := rL_yes hfi hs hA hB
            have hr20 := rL_len b wl wh l k
            have hi20 := (idxL_lt b wl wh l k).1
            refine k_exit rfl ?_
            refine k_draw [true, true, true, true, false, true, true, true, false, false, false] 4 ?_ mixed (by kernel_rfl) rfl
            refine d_val (i := 0) [] (ex_move rfl) ?_
            refine d_val (i := 1) [] (ex_move rfl) ?_
            refine d_val (i := 2) [] (ex_slice (vl := none) (vh := some (.int .i64 (k_1 : Int))) rfl rfl rfl hu5) ?_
            refine d_val (i := 3) [] (ex_move rfl) ?_
            refine d_rest ?_
            refine d_val (i := 5) [] (ex_move rfl) ?_
            refine d_val (i := 6) [] (ex_move rfl) ?_
            refine d_val (i := 7) [] (ex_slice (vl := some (.int .i64 (k_1 : Int))) (vh := none) rfl rfl rfl ht0) ?_
            refine d_rest ?_
            refine d_rest ?_
            refine d_rest ?_
            refine d_nil ?_
            refine r_one 4 (rs_buildSlice [.int .i64 0] [(0, 1)] rfl Try.runUnderlying42 Try.sizeOf3 Try.zeroValue3 rfl (fun b137 => ?_)) (by kernel_rfl)
            refine r_one 8 (rs_appendW (bytes := 8) (news := ((rL b wl wh l k).map (Value.int .i64)).drop (k_1 * 1)) [4, 7] rfl (OwnsV.made (e := 3) (size := 1) (b := b137) (cs := [.int .i64 (k : Int)]) rfl (by unfold maxLen; omega)) Try.underlying42 (by kernel_rfl) (by omega) rfl rfl (fun W hW => hc0 _ _ _ _ W inferInstance hW) (by unfold maxLen; omega) (by omega) (by simp) (fun u hu => own42 _ u (List.mem_of_mem_drop hu)) (fun v141 x141 o141 => ?_)) (by kernel_rfl)
            obtain ⟨g2, cap2, e2, hc2'⟩ := own_at o141 (by omega)
            subst e2
            refine r_one 9 (rs_appendW (bytes := 8) (news := [Value.int .i64 (k : Int)] ++ ((rL b wl wh l k).map (Value.int .i64)).drop (k_1 * 1)) [2, 8, 8] rfl ou5 Try.underlying42 (by kernel_rfl) (by omega) rfl rfl (fun W hW j u hu => ⟨_, rfl, by rw [add_lit, Nat.zero_add]; exact hc2' _ _ W (hW.drop SubE.sub) j u hu⟩) (by unfold maxLen; omega) (by omega) (by simp; omega) (own42c _ _ _) (fun v142 x142 o142 => ?_)) (by kernel_rfl)
            refine r_one 10 (rs_val rfl (ex_assign rfl) ?_) (by kernel_rfl)
            refine r_nil ?_ (by kernel_rfl)
            refine k_region ?_
            refine o_val (ex_move rfl) ?_
            refine o_val (ex_add64 rfl rfl (by unfold I64; omega)) ?_
            refine o_val (ex_assign rfl) (o_nil ?_)
            exact k_some ⟨k + 1, v142, x142⟩ ⟨⟨hlt, .inl h0, o142.cast (by rw [er, List.length_append, List.length_cons, List.length_take, List.length_drop]; omega) (by rw [er]; simp), sr⟩, (by show l.length - (k + 1) < l.length - k; omega)⟩ (Sub.cons rfl (Sub.cons rfl (Sub.cons rfl (Sub.cons rfl (Sub.cons rfl (Sub.cons rfl (Sub.cons rfl (Sub.cons rfl (Sub.nil _))))))))) SubE.sub
      ·
        have hR : rL b wl wh l k = rFin b wl wh l := by
          unfold rFin
          by_cases h0 : cod2 b wl wh l = 0
          · rw [if_pos h0]
            have : k = l.length := by
              by_cases hh : (k : Int) < (l.length : Int)
              · simp [hh, h0] at h_2
              · omega
            rw [this]
          · rw [if_neg h0]
            rcases hcd with h1 | h1
            · exact absurd h1 h0
            · rw [h1]; rfl
        rw [hR] at ho
        have hbE := (cod2_best b wl wh l).1
        refine k_exit rfl ?_
        refine k_seq (k_seq (k_region ?_))
        refine o_val (ex_move rfl) ?_
        refine o_val (ex_eql rfl rfl) ?_
        refine o_val (ex_move rfl) ?_
        refine o_and 3 (c := decide (((rFin b wl wh l).length : Int) = 0)) (fun h => ?_) (o_nil ?_)
        · refine o_val_g (ex_move rfl) ?_
          refine o_val_g (ex_lenO ho Try.runUnderlying42 rfl) ?_
          exact o_val_g (ex_eql rfl rfl) (o_nil (got rfl (.refl _)))
        refine k_cut (ι := Unit) (fun _ => [(8, v33), (9, .int .i64 (bestE b wl wh l)), (10, .int .i64 (bestE b wl wh l)), (11, v)]) (fun _ => x ++ (x33 ++ (x28 ++ [⟨b5, 23, [.int .i64 wl, .int .i64 wh], true⟩, ⟨b3, 25, [.int .i64 b.lead, .int .i64 b.thread, .int .i64 b.head, .int .i64 b.tl, .int .i64 b.th, .int .i64 b.hl, .int .i64 b.hh, .int .i64 b.sl, .int .i64 b.sh, .int .i64 b.pl, .int .i64 b.ph, .int .i64 b.yl, .int .i64 b.yh], true⟩]))) (fun _ => True) ?_ (fun _ _ => ?_)
        · refine k_cond rfl (fun h_3 => ?_) (fun h_3 => ?_)
          ·
            have e9 : bestE b wl wh l = 7 := by
              rw [hbE, if_pos]
              have hh : cod2 b wl wh l = 0 ∧ ((rFin b wl wh l).length : Int) = 0 := by rw [Bool.and_eq_true, decide_eq_true_eq, decide_eq_true_eq] at h_3; exact h_3
              exact ⟨hh.1, by omega⟩
            refine k_region ?_
            refine o_val (ex_assign rfl) (o_nil ?_)
            exact k_some () trivial ((Sub.cons rfl (Sub.cons rfl (Sub.cons' rfl (by rw [e9]) (Sub.cons rfl (Sub.nil _)))))) SubE.sub
          ·
            have e9 : bestE b wl wh l = cod2 b wl wh l := by
              rw [hbE, if_neg]
              intro hh
              rw [hh.1, hh.2] at h_3
              cases h_3
            refine k_skip ?_
            exact k_some () trivial ((Sub.cons rfl (Sub.cons rfl (Sub.cons' rfl (by rw [e9]) (Sub.cons rfl (Sub.nil _)))))) SubE.sub
        refine k_seq (k_seq (k_region ?_))
        refine o_val (ex_move rfl) ?_
        refine o_val (ex_move rfl) ?_
        refine o_val (exv_eq (show _ = Value.bool false by simp) (ex_neq rfl rfl)) ?_
        refine o_val (ex_move rfl) ?_
        refine o_or 5 (c := !decide (((rFin b wl wh l).length : Int) = ((rFin b wl wh l).length : Int))) (fun h => ?_) (o_nil ?_)
        · refine o_val_g (ex_move rfl) ?_
          refine o_val_g (ex_lenO o33 Try.runUnderlying42 rfl) ?_
          refine o_val_g (ex_move rfl) ?_
          refine o_val_g (ex_lenO ho Try.runUnderlying42 rfl) ?_
          exact o_val_g (ex_neq rfl rfl) (o_nil (got rfl (.refl _)))
        refine k_cond rfl (fun h_3 => ?_) (fun h_3 => ?_)
        ·
          simp at h_3
        ·
          refine k_skip ?_
          refine k_seq (k_seq (k_region ?_))
          refine o_val (ex_assign rfl) (o_nil ?_)
          refine k_block ?_
          refine k_loop (ι := Nat) (fun k => [(8, v33), (11, v), (21, .int .i64 (k : Int))]) (fun k => x ++ (x33 ++ (x28 ++ [⟨b5, 23, [.int .i64 wl, .int .i64 wh], true⟩, ⟨b3, 25, [.int .i64 b.lead, .int .i64 b.thread, .int .i64 b.head, .int .i64 b.tl, .int .i64 b.th, .int .i64 b.hl, .int .i64 b.hh, .int .i64 b.sl, .int .i64 b.sh, .int .i64 b.pl, .int .i64 b.ph, .int .i64 b.yl, .int .i64 b.yh], true⟩]))) (fun k => k ≤ (rFin b wl wh l).length) (fun k => (rFin b wl wh l).length - k) 0 (Nat.zero_le _) (Sub.cons rfl (Sub.cons rfl (Sub.cons rfl (Sub.nil _)))) SubE.sub (fun k hk => ?_)
          refine k_seq (k_seq (k_region ?_))
          refine o_val (ex_move rfl) ?_
          refine o_val (ex_move rfl) ?_
          refine o_val (ex_lenO o33 Try.runUnderlying42 rfl) ?_
          refine o_val (ex_lss rfl rfl) (o_nil ?_)
          refine k_cond rfl (fun h_4 => ?_) (fun h_4 => ?_)
          ·
            have hlt : k < (rFin b wl wh l).length := by have : (k : Int) < ((rFin b wl wh l).length : Int) := of_decide_eq_true h_4; omega
            have hrf := rFin_len b wl wh l
            obtain ⟨g8, cap8, e8, hc8⟩ := own_at o33 (by omega)
            obtain ⟨g4, cap4, e4, hc4⟩ := own_at ho (by omega)
            subst e8 e4
            have hq4 : ((rFin b wl wh l).map (Value.int .i64))[k]? = some (Value.int .i64 (rFin b wl wh l)[k]) := by simp [hlt]
            refine k_skip ?_
            refine k_seq (k_block ?_)
            refine k_seq (k_draw [true, true, true, true, true, true, true, true, true] 0 ?_ mixed (by kernel_rfl) rfl)
            refine d_val (i := 0) [] (ex_move rfl) ?_
            refine d_val (i := 1) [] (ex_move rfl) ?_
            refine d_val (i := 2) [] (ex_index k Try.runUnderlying42 Try.sizeOf3 rfl rfl (by omega) (by omega) (by omega)) ?_
            refine d_val (i := 3) x33 (ex_load_at Try.isAgg3 rfl (fun W hW => hc8 _ _ W hW k _ hq4)) ?_
            refine d_val (i := 4) [] (ex_move rfl) ?_
            refine d_val (i := 5) [] (ex_move rfl) ?_
            refine d_val (i := 6) [] (ex_index k Try.runUnderlying42 Try.sizeOf3 rfl rfl (by omega) (by omega) (by omega)) ?_
            refine d_val (i := 7) x (ex_load_at Try.isAgg3 rfl (fun W hW => hc4 _ _ W hW k _ hq4)) ?_
            refine d_val (i := 8) [] (exv_eq (show _ = Value.bool false by simp) (ex_neq rfl rfl)) ?_
            refine d_nil ?_
            refine r_nil ?_ (by kernel_rfl)
            refine k_cond rfl (fun h_5 => ?_) (fun h_5 => ?_)
            ·
              cases h_5
            ·
              refine k_skip ?_
              refine k_region ?_
              refine o_val (ex_move rfl) ?_
              refine o_val (ex_add64 rfl rfl (by unfold I64; omega)) ?_
              refine o_val (ex_assign rfl) (o_nil ?_)
              exact k_some (k + 1) ⟨hlt, (by show (rFin b wl wh l).length - (k + 1) < (rFin b wl wh l).length - k; omega)⟩ (Sub.cons rfl (Sub.cons rfl (Sub.cons rfl (Sub.nil _)))) SubE.sub
          ·
            refine k_exit rfl ?_
            refine k_seq (k_region ?_)
            refine o_val (ex_call Try.call10 rfl (fun W hW => c10)) ?_
            refine o_val (ex_assign rfl) (o_nil ?_)
            refine k_ret ?_
            exact fin1 rfl rfl fun W hW => ⟨rfl, hW.ext⟩

end Go.Proofs.Yteecidddfcbabaa
