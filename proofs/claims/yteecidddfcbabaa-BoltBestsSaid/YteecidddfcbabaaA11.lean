/- The walks of small functions: what each call hands back, and that nothing that was there has turned. Printed by a program of this session (wip/tools/gen.py). -/
import Derived.Test.YteecidddfcbabaaA10
namespace Go.Proofs.Yteecidddfcbabaa
open Go
attribute [local irreducible] ExV Ex
set_option synthInstance.maxSize 2000
set_option synthInstance.maxHeartbeats 200000

def hLo (b : Bo) (aL aH t : Int) : Int := fitLo b.hl b.head (1000 * b.lead + b.thread * t) aL aH
def hHi (b : Bo) (aL aH t : Int) : Int := fitHi b.hh b.head (1000 * b.lead + b.thread * t) aL aH
/-- The frictions of the thread with which there is one of the head. -/
def tsL (b : Bo) (aL aH : Int) : Nat → List Int
  | 0 => []
  | n + 1 => if hLo b aL aH (b.tl + n) ≤ hHi b aL aH (b.tl + n) then tsL b aL aH n ++ [b.tl + n] else tsL b aL aH n
def nT (b : Bo) : Nat := (b.th - b.tl + 1).toNat
def lrnE (b : Bo) (tl th fl fh : Int) : Int :=
  if openE b [] = 0 then (if isSp tl th 0 10000000000000 && isSp fl fh 0 100000000 then (if kLo fh tl b.armLo ≤ kHi fl th b.armHi then (if (tsL b (kLo fh tl b.armLo) (kHi fl th b.armHi) (nT b)).length = 0 then 9 else 0) else 9) else 3) else openE b []
def lrnL (b : Bo) (tl th fl fh : Int) : List Int := if lrnE b tl th fl fh = 0 then tsL b (kLo fh tl b.armLo) (kHi fl th b.armHi) (nT b) else []

theorem tsL_len (b : Bo) (aL aH : Int) : ∀ n, (tsL b aL aH n).length ≤ n
  | 0 => by simp [tsL]
  | n + 1 => by
    have := tsL_len b aL aH n
    unfold tsL
    split
    · simp; omega
    · omega

/-- The state of the loop: so many rounds, and three slices. -/
structure LI where
  (k : Nat) (v1 : Value) (x1 : Hp) (v2 : Value) (x2 : Hp) (v3 : Value) (x3 : Hp)
structure LI.Inv (i : LI) (b : Bo) (aL aH : Int) (n : Nat) : Prop where
  o1 : OwnsV 3 1 i.v1 (tsL b aL aH n).length ((tsL b aL aH n).map (Value.int .i64)) i.x1
  o2 : OwnsV 3 1 i.v2 (tsL b aL aH n).length (((tsL b aL aH n).map (hLo b aL aH)).map (Value.int .i64)) i.x2
  o3 : OwnsV 3 1 i.v3 (tsL b aL aH n).length (((tsL b aL aH n).map (hHi b aL aH)).map (Value.int .i64)) i.x3

theorem LI.Inv.yes {i : LI} {b : Bo} {aL aH : Int} {k : Nat} (h : hLo b aL aH (b.tl + k) ≤ hHi b aL aH (b.tl + k)) (ho : OwnsV 3 1 i.v1 ((tsL b aL aH k).length + 1) ((tsL b aL aH k).map (Value.int .i64) ++ [Value.int .i64 (b.tl + k)]) i.x1)
    (ho2 : OwnsV 3 1 i.v2 ((tsL b aL aH k).length + 1) (((tsL b aL aH k).map (hLo b aL aH)).map (Value.int .i64) ++ [Value.int .i64 (hLo b aL aH (b.tl + k))]) i.x2)
    (ho3 : OwnsV 3 1 i.v3 ((tsL b aL aH k).length + 1) (((tsL b aL aH k).map (hHi b aL aH)).map (Value.int .i64) ++ [Value.int .i64 (hHi b aL aH (b.tl + k))]) i.x3) : i.Inv b aL aH (k + 1) := by
  have e : tsL b aL aH (k + 1) = tsL b aL aH k ++ [b.tl + k] := by
    show (if _ then _ else _) = _
    rw [if_pos h]
  constructor
  · rw [e, List.length_append, List.map_append]; exact ho
  · rw [e, List.length_append, List.map_append, List.map_append]; exact ho2
  · rw [e, List.length_append, List.map_append, List.map_append]; exact ho3
theorem LI.Inv.no {i : LI} {b : Bo} {aL aH : Int} {k : Nat} (h : ¬ hLo b aL aH (b.tl + k) ≤ hHi b aL aH (b.tl + k)) (hi : i.Inv b aL aH k) : i.Inv b aL aH (k + 1) := by
  have e : tsL b aL aH (k + 1) = tsL b aL aH k := by
    show (if _ then _ else _) = _
    rw [if_neg h]
  constructor
  · rw [e]; exact hi.o1
  · rw [e]; exact hi.o2
  · rw [e]; exact hi.o3

/-- The elements of a row of integers that is one's own. -/
theorem own_rows {w0 : World} {M : List Nat} {H : Hp} {W : World} (hW : Sat w0 M H W) {g : Nat} {e : TypeId} {cs : List Value} {own : Bool} {l : List Int} [he : HasE H g e cs own] (ht : cs.take (l.length * 1) = l.map (Value.int .i64)) : RowsAt W (some ⟨g, 0, none⟩) (l.map (Value.int .i64)) := fun j v hj => by
  refine row_ent hW (b := g) (cs := cs) j v ?_
  rw [← ht, List.getElem?_take] at hj
  split at hj
  · exact hj
  · cases hj
theorem own_cell {cs : List Value} {l : List Int} (ht : cs.take (l.length * 1) = l.map (Value.int .i64)) {j : Nat} (hj : j < l.length) : cs[j]? = some (Value.int .i64 (l[j]?.getD 0)) := by
  have e : (cs.take (l.length * 1))[j]? = some (Value.int .i64 l[j]) := by rw [ht]; simp [hj]
  rw [List.getElem?_take] at e
  split at e
  · rw [e]; simp [hj]
  · cases e

-- == f19 acme/bolt.Learn params [25, 23, 23] results [23, 23, 29] in [('cell', ['6', '23']), ('cell', ['7', '23']), ('tmp', ['8'])] ntmps 116 nfree 0
theorem c19 (b : Bo) (tl th fl fh : Int) {w : World} : Calls Try.prog 19 [.agg [.int .i64 b.lead, .int .i64 b.thread, .int .i64 b.head, .int .i64 b.tl, .int .i64 b.th, .int .i64 b.hl, .int .i64 b.hh, .int .i64 b.sl, .int .i64 b.sh, .int .i64 b.pl, .int .i64 b.ph, .int .i64 b.yl, .int .i64 b.yh].toArray, .agg [.int .i64 tl, .int .i64 th].toArray, .agg [.int .i64 fl, .int .i64 fh].toArray].toArray w fun e w' => e = .returned (.tuple #[.agg [.int .i64 ((lrnL b tl th fl fh)[0]?.getD 0), .int .i64 ((lrnL b tl th fl fh)[(lrnL b tl th fl fh).length - 1]?.getD 0)].toArray, .agg [.int .i64 (lmin ((lrnL b tl th fl fh).map (hLo b (kLo fh tl b.armLo) (kHi fl th b.armHi)))), .int .i64 (lmax ((lrnL b tl th fl fh).map (hHi b (kLo fh tl b.armLo) (kHi fl th b.armHi))))].toArray, .int .i64 (lrnE b tl th fl fh)]) ∧ Ext [] w w' := by
  refine fn_start Try.func19 rfl (N := 116) rfl ?_
  refine k_seq (k_region ?_)
  refine o_box rfl (fun b3 => ?_)
  refine o_box rfl (fun b4 => ?_)
  refine o_box rfl (fun b5 => ?_)
  refine o_alloc Try.zeroValue23 (fun b6 => ?_)
  refine o_alloc Try.zeroValue23 (fun b7 => ?_)
  refine o_val (ex_assign rfl) (o_nil ?_)
  refine k_seq (k_region ?_)
  refine o_val (ex_loadA Try.isAgg25 Try.sizeOf25 rfl) ?_
  refine o_val (ex_call Try.call28 rfl (fun W hW => (by exact c28 b [] (by simp) (ways_none _ _)))) ?_
  refine o_val (ex_move rfl) ?_
  refine o_val (ex_extract rfl rfl) ?_
  refine o_val (ex_extract rfl rfl) ?_
  refine o_alloc Try.zeroValue76 (fun b9 => ?_)
  refine o_store Try.sizeOf76 rfl rfl ?_
  refine o_val (ex_assign rfl) (o_nil ?_)
  refine k_seq (k_block ?_)
  refine k_seq (k_region ?_)
  refine o_val (ex_move rfl) ?_
  refine o_val (ex_neq rfl rfl) ?_
  refine o_val (ex_assign rfl) (o_nil ?_)
  refine k_cond rfl (fun h => ?_) (fun h => ?_)
  ·
    have he : ¬ openE b [] = 0 := by simpa using h
    have hr : lrnE b tl th fl fh = openE b [] := by unfold lrnE; rw [if_neg he]
    refine k_seq (k_draw [true, true, true, false, false, false] 3 ?_ mixed (by kernel_rfl) rfl)
    refine d_loadA (i := 0) Try.isAgg23 Try.sizeOf23 rfl ?_
    refine d_loadA (i := 1) Try.isAgg23 Try.sizeOf23 rfl ?_
    refine d_val (i := 2) [] (ex_move rfl) ?_
    refine d_rest ?_
    refine d_rest ?_
    refine d_rest ?_
    refine d_nil ?_
    refine r_one 3 (rs_store [0, 0] rfl Try.sizeOf23 rfl rfl ?_) (by kernel_rfl)
    refine r_one 4 (rs_store [1, 3, 0, 1, 3] rfl Try.sizeOf23 rfl rfl ?_) (by kernel_rfl)
    refine r_one 5 (rs_val rfl (ex_assign rfl) ?_) (by kernel_rfl)
    refine r_nil ?_ (by kernel_rfl)
    refine k_ret ?_
    exact finCC1 rfl Try.isAgg23 Try.sizeOf23 Try.isAgg23 Try.sizeOf23 rfl rfl rfl rfl rfl fun W hW => ⟨by have hl : lrnL b tl th fl fh = [] := (by unfold lrnL; rw [hr, if_neg he]); rw [hl, hr]; rfl, hW.ext⟩
  ·
    have he : openE b [] = 0 := by simpa using h
    have hb := (openE_ok he).1
    refine k_seq (k_seq (k_region ?_))
    refine o_val (ex_loadA Try.isAgg23 Try.sizeOf23 rfl) ?_
    refine o_val (ex_call Try.call52 rfl (fun W hW => c52 tl th)) ?_
    refine o_val (ex_not rfl) ?_
    refine o_val (ex_assign rfl) (o_nil ?_)
    refine k_cut (ι := Unit) (fun _ => [(4, .pointer (some ⟨b4, 0, none⟩)), (5, .pointer (some ⟨b5, 0, none⟩)), (6, .pointer (some ⟨b6, 0, none⟩)), (7, .pointer (some ⟨b7, 0, none⟩)), (9, .pointer (some ⟨b9, 0, none⟩)), (28, .bool (!(isSp tl th 0 10000000000000 && isSp fl fh 0 100000000)))]) (fun _ => [⟨b9, 76, [.int .i64 b.lead, .int .i64 b.thread, .int .i64 b.head, .int .i64 b.tl, .int .i64 b.th, .int .i64 b.hl, .int .i64 b.hh, .int .i64 b.sl, .int .i64 b.sh, .int .i64 b.pl, .int .i64 b.ph, .int .i64 b.yl, .int .i64 b.yh], true⟩, ⟨b7, 23, [.int .i64 0, .int .i64 0], true⟩, ⟨b6, 23, [.int .i64 0, .int .i64 0], true⟩, ⟨b5, 23, [.int .i64 fl, .int .i64 fh], true⟩, ⟨b4, 23, [.int .i64 tl, .int .i64 th], true⟩]) (fun _ => True) ?_ (fun _ _ => ?_)
    · refine k_cond rfl (fun h_1 => ?_) (fun h_1 => ?_)
      ·
        refine k_skip ?_
        exact k_some () trivial (Sub.cons rfl (Sub.cons rfl (Sub.cons rfl (Sub.cons rfl (Sub.cons rfl (Sub.cons' rfl (by simp_all) (Sub.nil _))))))) SubE.sub
      ·
        refine k_region ?_
        refine o_val (ex_loadA Try.isAgg23 Try.sizeOf23 rfl) ?_
        refine o_val (ex_call Try.call33 rfl (fun W hW => c33 fl fh)) ?_
        refine o_val (ex_not rfl) ?_
        refine o_val (ex_assign rfl) (o_nil ?_)
        exact k_some () trivial (Sub.cons rfl (Sub.cons rfl (Sub.cons rfl (Sub.cons rfl (Sub.cons rfl (Sub.cons' rfl (by simp_all) (Sub.nil _))))))) SubE.sub
    refine k_cond rfl (fun h_1 => ?_) (fun h_1 => ?_)
    ·
      have hr : lrnE b tl th fl fh = 3 := by unfold lrnE; rw [if_pos he, if_neg (notT h_1)]
      refine k_seq (k_draw [true, true, false, false, false] 3 ?_ mixed (by kernel_rfl) rfl)
      refine d_loadA (i := 0) Try.isAgg23 Try.sizeOf23 rfl ?_
      refine d_loadA (i := 1) Try.isAgg23 Try.sizeOf23 rfl ?_
      refine d_rest ?_
      refine d_rest ?_
      refine d_rest ?_
      refine d_nil ?_
      refine r_one 2 (rs_store [0, 0] rfl Try.sizeOf23 rfl rfl ?_) (by kernel_rfl)
      refine r_one 3 (rs_store [1, 2, 0, 1, 2] rfl Try.sizeOf23 rfl rfl ?_) (by kernel_rfl)
      refine r_one 4 (rs_val rfl (ex_assign rfl) ?_) (by kernel_rfl)
      refine r_nil ?_ (by kernel_rfl)
      refine k_ret ?_
      exact finCC1 rfl Try.isAgg23 Try.sizeOf23 Try.isAgg23 Try.sizeOf23 rfl rfl rfl rfl rfl fun W hW => ⟨by have hl : lrnL b tl th fl fh = [] := (by unfold lrnL; rw [hr]; rfl); rw [hl, hr]; rfl, hW.ext⟩
    ·
      have hsp : (isSp tl th 0 10000000000000 && isSp fl fh 0 100000000) = true := by simpa using h_1
      have hsp2 := hsp
      rw [Bool.and_eq_true] at hsp2
      have hs1 := isSp_iff.1 hsp2.1
      have hs2 := isSp_iff.1 hsp2.2
      have ha := hb.arm
      refine k_skip ?_
      refine k_seq (k_draw [true, true, true, true, true, true, true, true, false, false, false] 3 ?_ mixed (by kernel_rfl) rfl)
      refine d_loadA (i := 0) Try.isAgg23 Try.sizeOf23 rfl ?_
      refine d_loadA (i := 1) Try.isAgg23 Try.sizeOf23 rfl ?_
      refine d_loadA (i := 2) Try.isAgg76 Try.sizeOf76 rfl ?_
      refine d_val (i := 3) [] (ex_call Try.call36 rfl (fun W hW => c36 b hb)) ?_
      refine d_val (i := 4) [] (ex_call Try.call53 rfl (fun W hW => c53 tl th fl fh b.armLo b.armHi hsp2.1 hsp2.2)) ?_
      refine d_val (i := 5) [] (ex_move rfl) ?_
      refine d_val (i := 6) [] (ex_extract rfl rfl) ?_
      refine d_val (i := 7) [] (ex_extract rfl rfl) ?_
      refine d_rest ?_
      refine d_rest ?_
      refine d_rest ?_
      refine d_nil ?_
      refine r_one 8 (rs_alloc rfl Try.zeroValue23 (fun b10 => ?_)) (by kernel_rfl)
      refine r_one 9 (rs_store [8, 6, 4, 0, 1, 2, 3, 4, 5, 6, 8] rfl Try.sizeOf23 rfl rfl ?_) (by kernel_rfl)
      refine r_one 10 (rs_val rfl (ex_assign rfl) ?_) (by kernel_rfl)
      refine r_nil ?_ (by kernel_rfl)
      refine k_seq (k_seq (k_region ?_))
      refine o_val (ex_move rfl) ?_
      refine o_val (ex_not rfl) (o_nil ?_)
      refine k_cond rfl (fun h_2 => ?_) (fun h_2 => ?_)
      ·
        have hna : ¬ kLo fh tl b.armLo ≤ kHi fl th b.armHi := by simpa using h_2
        have hr : lrnE b tl th fl fh = 9 := by unfold lrnE; rw [if_pos he, if_pos hsp, if_neg hna]
        refine k_seq (k_draw [true, true, false, false, false] 3 ?_ mixed (by kernel_rfl) rfl)
        refine d_loadA (i := 0) Try.isAgg23 Try.sizeOf23 rfl ?_
        refine d_loadA (i := 1) Try.isAgg23 Try.sizeOf23 rfl ?_
        refine d_rest ?_
        refine d_rest ?_
        refine d_rest ?_
        refine d_nil ?_
        refine r_one 2 (rs_store [0, 0] rfl Try.sizeOf23 rfl rfl ?_) (by kernel_rfl)
        refine r_one 3 (rs_store [1, 2, 0, 1, 2] rfl Try.sizeOf23 rfl rfl ?_) (by kernel_rfl)
        refine r_one 4 (rs_val rfl (ex_assign rfl) ?_) (by kernel_rfl)
        refine r_nil ?_ (by kernel_rfl)
        refine k_ret ?_
        exact finCC1 rfl Try.isAgg23 Try.sizeOf23 Try.isAgg23 Try.sizeOf23 rfl rfl rfl rfl rfl fun W hW => ⟨by have hl : lrnL b tl th fl fh = [] := (by unfold lrnL; rw [hr]; rfl); rw [hl, hr]; rfl, hW.ext⟩
      ·
        have hna : kLo fh tl b.armLo ≤ kHi fl th b.armHi := by simpa using h_2
        have hk1 : 1000 ≤ kLo fh tl b.armLo := by unfold kLo; omega
        have hk2 : kHi fl th b.armHi ≤ 300000000 := by unfold kHi; split <;> omega
        have tt := hb.tt
        have tl0 := hb.tl0
        have th1 := hb.th1
        have l0 := hb.l0
        have l1 := hb.l1
        have hnT : ((nT b : Nat) : Int) = b.th - b.tl + 1 := by unfold nT; omega
        refine k_skip ?_
        refine k_seq (k_region ?_)
        refine o_val (ex_assign rfl) ?_
        refine o_val (ex_assign rfl) ?_
        refine o_val (ex_assign rfl) (o_nil ?_)
        refine k_seq (k_seq (k_region ?_))
        refine o_val (ex_field (o := 0) 0 fa76_0 rfl rfl) ?_
        refine o_val (ex_field (o := 0) 3 fa25_3 rfl rfl) ?_
        refine o_val (ex_field (o := 3) 3 fa23_0 rfl rfl) ?_
        refine o_val (ex_load Try.isAgg3 rfl rfl) ?_
        refine o_val (ex_assign rfl) (o_nil ?_)
        refine k_block ?_
        refine k_loop (ι := LI) (fun k => [(6, .pointer (some ⟨b6, 0, none⟩)), (7, .pointer (some ⟨b7, 0, none⟩)), (9, .pointer (some ⟨b9, 0, none⟩)), (10, .pointer (some ⟨b10, 0, none⟩)), (12, k.v1), (13, k.v2), (14, k.v3), (15, .int .i64 (b.tl + (k.k : Int)))]) (fun k => k.x1 ++ (k.x2 ++ (k.x3 ++ [⟨b10, 23, [.int .i64 (kLo fh tl b.armLo), .int .i64 (kHi fl th b.armHi)], true⟩, ⟨b9, 76, [.int .i64 b.lead, .int .i64 b.thread, .int .i64 b.head, .int .i64 b.tl, .int .i64 b.th, .int .i64 b.hl, .int .i64 b.hh, .int .i64 b.sl, .int .i64 b.sh, .int .i64 b.pl, .int .i64 b.ph, .int .i64 b.yl, .int .i64 b.yh], true⟩, ⟨b7, 23, [.int .i64 0, .int .i64 0], true⟩, ⟨b6, 23, [.int .i64 0, .int .i64 0], true⟩]))) (fun k => k.Inv b (kLo fh tl b.armLo) (kHi fl th b.armHi) k.k ∧ k.k ≤ nT b) (fun k => nT b - k.k) ⟨0, .slice none 0 0, [], .slice none 0 0, [], .slice none 0 0, []⟩ ⟨⟨OwnsV.nil 3 1, OwnsV.nil 3 1, OwnsV.nil 3 1⟩, Nat.zero_le _⟩ (Sub.cons rfl (Sub.cons rfl (Sub.cons rfl (Sub.cons rfl (Sub.cons rfl (Sub.cons rfl (Sub.cons rfl (Sub.cons' rfl (by simp) (Sub.nil _))))))))) SubE.sub (fun k hk => ?_)
        obtain ⟨k, v1, x1, v2, x2, v3, x3⟩ := k
        dsimp only at hk ⊢
        obtain ⟨hI, hk⟩ := hk
        have hlen := tsL_len b (kLo fh tl b.armLo) (kHi fl th b.armHi) k
        refine k_seq (k_seq (k_region ?_))
        refine o_val (ex_move rfl) ?_
        refine o_val (ex_field (o := 0) 0 fa76_0 rfl rfl) ?_
        refine o_val (ex_field (o := 0) 3 fa25_3 rfl rfl) ?_
        refine o_val (ex_field (o := 3) 4 fa23_1 rfl rfl) ?_
        refine o_val (ex_load Try.isAgg3 rfl rfl) ?_
        refine o_val (ex_leq rfl rfl) (o_nil ?_)
        refine k_cond rfl (fun h_3 => ?_) (fun h_3 => ?_)
        ·
          have hlt : k < nT b := by have : b.tl + (k : Int) ≤ b.th := of_decide_eq_true h_3; omega
          have m1 := mulB hb.t0 hb.t1 (show 0 ≤ b.tl + (k : Int) by omega) (show b.tl + (k : Int) ≤ 1000 by omega)
          refine k_skip ?_
          refine k_seq (k_block ?_)
          refine k_seq (k_draw [true, true, true, true, true, true, true, true, true, true, true, true, true, true, true, true, false, false] 2 ?_ mixed (by kernel_rfl) rfl)
          refine d_val (i := 0) [] (ex_field (o := 0) 0 fa76_0 rfl rfl) ?_
          refine d_val (i := 1) [] (ex_field (o := 0) 5 fa25_4 rfl rfl) ?_
          refine d_loadA (i := 2) Try.isAgg23 Try.sizeOf23 rfl ?_
          refine d_val (i := 3) [] (ex_field (o := 0) 0 fa76_0 rfl rfl) ?_
          refine d_val (i := 4) [] (ex_field (o := 0) 2 fa25_2 rfl rfl) ?_
          refine d_load (i := 5) Try.isAgg3 rfl rfl ?_
          refine d_loadA (i := 6) Try.isAgg76 Try.sizeOf76 rfl ?_
          refine d_val (i := 7) [] (ex_call Try.call31 rfl (fun W hW => c31 b (by omega) l1)) ?_
          refine d_val (i := 8) [] (ex_field (o := 0) 0 fa76_0 rfl rfl) ?_
          refine d_val (i := 9) [] (ex_field (o := 0) 1 fa25_1 rfl rfl) ?_
          refine d_load (i := 10) Try.isAgg3 rfl rfl ?_
          refine d_val (i := 11) [] (ex_move rfl) ?_
          refine d_val (i := 12) [] (ex_mul64 rfl rfl (by unfold I64; omega)) ?_
          refine d_val (i := 13) [] (ex_add64 rfl rfl (by unfold I64; omega)) ?_
          refine d_loadA (i := 14) Try.isAgg23 Try.sizeOf23 rfl ?_
          refine d_val (i := 15) [] (ex_call Try.call54 rfl (fun W hW => (by exact c54 b.hl b.hh b.head (1000 * b.lead + b.thread * (b.tl + (k : Int))) (kLo fh tl b.armLo) (kHi fl th b.armHi) hb.h0 (by omega) (by omega)))) ?_
          refine d_rest ?_
          refine d_rest ?_
          refine d_nil ?_
          refine r_one 16 (rs_alloc rfl Try.zeroValue23 (fun b16 => ?_)) (by kernel_rfl)
          refine r_one 17 (rs_store [16, 15, 15, 0, 1, 2, 3, 4, 5, 6, 7, 8, 9, 10, 11, 12, 13, 14, 15, 16] rfl Try.sizeOf23 rfl rfl ?_) (by kernel_rfl)
          refine r_nil ?_ (by kernel_rfl)
          refine k_seq (k_region ?_)
          refine o_val (ex_field (o := 0) 0 fa23_0 rfl rfl) ?_
          refine o_val (ex_load Try.isAgg3 rfl rfl) ?_
          refine o_val (ex_field (o := 0) 1 fa23_1 rfl rfl) ?_
          refine o_val (ex_load Try.isAgg3 rfl rfl) ?_
          refine o_val (ex_leq rfl rfl) (o_nil ?_)
          refine k_cut (ι := LI) (fun r => [(6, .pointer (some ⟨b6, 0, none⟩)), (7, .pointer (some ⟨b7, 0, none⟩)), (9, .pointer (some ⟨b9, 0, none⟩)), (10, .pointer (some ⟨b10, 0, none⟩)), (12, r.v1), (13, r.v2), (14, r.v3), (15, .int .i64 (b.tl + (r.k : Int)))]) (fun r => r.x1 ++ (r.x2 ++ (r.x3 ++ [⟨b10, 23, [.int .i64 (kLo fh tl b.armLo), .int .i64 (kHi fl th b.armHi)], true⟩, ⟨b9, 76, [.int .i64 b.lead, .int .i64 b.thread, .int .i64 b.head, .int .i64 b.tl, .int .i64 b.th, .int .i64 b.hl, .int .i64 b.hh, .int .i64 b.sl, .int .i64 b.sh, .int .i64 b.pl, .int .i64 b.ph, .int .i64 b.yl, .int .i64 b.yh], true⟩, ⟨b7, 23, [.int .i64 0, .int .i64 0], true⟩, ⟨b6, 23, [.int .i64 0, .int .i64 0], true⟩]))) (fun r => r.Inv b (kLo fh tl b.armLo) (kHi fl th b.armHi) (k + 1) ∧ r.k = k) ?_ (fun r hr => ?_)
          · refine k_cond rfl (fun h_4 => ?_) (fun h_4 => ?_)
            ·
              have hle : hLo b (kLo fh tl b.armLo) (kHi fl th b.armHi) (b.tl + k) ≤ hHi b (kLo fh tl b.armLo) (kHi fl th b.armHi) (b.tl + k) := of_decide_eq_true h_4
              refine k_draw [true, true, false, false, true, true, true, false, false, true, true, true, false, false, false, false, false] 9 ?_ mixed (by kernel_rfl) rfl
              refine d_val (i := 0) [] (ex_move rfl) ?_
              refine d_val (i := 1) [] (ex_move rfl) ?_
              refine d_rest ?_
              refine d_rest ?_
              refine d_val (i := 4) [] (ex_move rfl) ?_
              refine d_val (i := 5) [] (ex_field (o := 0) 0 fa23_0 rfl rfl) ?_
              refine d_load (i := 6) Try.isAgg3 rfl rfl ?_
              refine d_rest ?_
              refine d_rest ?_
              refine d_val (i := 9) [] (ex_move rfl) ?_
              refine d_val (i := 10) [] (ex_field (o := 0) 1 fa23_1 rfl rfl) ?_
              refine d_load (i := 11) Try.isAgg3 rfl rfl ?_
              refine d_rest ?_
              refine d_rest ?_
              refine d_rest ?_
              refine d_rest ?_
              refine d_rest ?_
              refine d_nil ?_
              refine r_three 2 7 12 ?_ ?_ ?_ (by kernel_rfl)
              · refine rs_buildSlice [.int .i64 0] [(0, 1)] rfl Try.runUnderlying42 Try.sizeOf3 Try.zeroValue3 rfl (fun b84 => ?_)
                refine r_three 3 7 12 ?_ ?_ ?_ (by kernel_rfl)
                · refine rs_append (bytes := 8) [0, 2] rfl hI.o1 Try.underlying42 (by kernel_rfl) rfl rfl (by unfold maxLen; omega) (by omega) (fun v85 x85 o85 => ?_)
                  refine r_two 7 12 ?_ ?_ (by kernel_rfl)
                  · refine rs_buildSlice [.int .i64 0] [(0, 1)] rfl Try.runUnderlying42 Try.sizeOf3 Try.zeroValue3 rfl (fun b89 => ?_)
                    refine r_two 8 12 ?_ ?_ (by kernel_rfl)
                    · refine rs_append (bytes := 8) [4, 7, 3] rfl hI.o2 Try.underlying42 (by kernel_rfl) rfl rfl (by unfold maxLen; omega) (by omega) (fun v90 x90 o90 => ?_)
                      refine r_one 12 (rs_buildSlice [.int .i64 0] [(0, 1)] rfl Try.runUnderlying42 Try.sizeOf3 Try.zeroValue3 rfl (fun b94 => ?_)) (by kernel_rfl)
                      refine r_one 13 (rs_append (bytes := 8) [9, 12, 8] rfl hI.o3 Try.underlying42 (by kernel_rfl) rfl rfl (by unfold maxLen; omega) (by omega) (fun v95 x95 o95 => ?_)) (by kernel_rfl)
                      refine r_one 14 (rs_val rfl (ex_assign rfl) ?_) (by kernel_rfl)
                      refine r_one 15 (rs_val rfl (ex_assign rfl) ?_) (by kernel_rfl)
                      refine r_one 16 (rs_val rfl (ex_assign rfl) ?_) (by kernel_rfl)
                      refine r_nil ?_ (by kernel_rfl)
                      exact k_some ⟨k, v85, x85, v90, x90, v95, x95⟩ ⟨LI.Inv.yes hle o85 o90 o95, rfl⟩ (Sub.cons rfl (Sub.cons rfl (Sub.cons rfl (Sub.cons rfl (Sub.cons rfl (Sub.cons rfl (Sub.cons rfl (Sub.cons rfl (Sub.nil _))))))))) SubE.sub
                    · refine rs_buildSlice [.int .i64 0] [(0, 1)] rfl Try.runUnderlying42 Try.sizeOf3 Try.zeroValue3 rfl (fun b94 => ?_)
                      refine r_one 8 (rs_append (bytes := 8) [4, 7, 3] rfl hI.o2 Try.underlying42 (by kernel_rfl) rfl rfl (by unfold maxLen; omega) (by omega) (fun v90 x90 o90 => ?_)) (by kernel_rfl)
                      refine r_one 13 (rs_append (bytes := 8) [9, 12, 8] rfl hI.o3 Try.underlying42 (by kernel_rfl) rfl rfl (by unfold maxLen; omega) (by omega) (fun v95 x95 o95 => ?_)) (by kernel_rfl)
                      refine r_one 14 (rs_val rfl (ex_assign rfl) ?_) (by kernel_rfl)
                      refine r_one 15 (rs_val rfl (ex_assign rfl) ?_) (by kernel_rfl)
                      refine r_one 16 (rs_val rfl (ex_assign rfl) ?_) (by kernel_rfl)
                      refine r_nil ?_ (by kernel_rfl)
                      exact k_some ⟨k, v85, x85, v90, x90, v95, x95⟩ ⟨LI.Inv.yes hle o85 o90 o95, rfl⟩ (Sub.cons rfl (Sub.cons rfl (Sub.cons rfl (Sub.cons rfl (Sub.cons rfl (Sub.cons rfl (Sub.cons rfl (Sub.cons rfl (Sub.nil _))))))))) SubE.sub
                  · refine rs_buildSlice [.int .i64 0] [(0, 1)] rfl Try.runUnderlying42 Try.sizeOf3 Try.zeroValue3 rfl (fun b94 => ?_)
                    refine r_one 7 (rs_buildSlice [.int .i64 0] [(0, 1)] rfl Try.runUnderlying42 Try.sizeOf3 Try.zeroValue3 rfl (fun b89 => ?_)) (by kernel_rfl)
                    refine r_one 8 (rs_append (bytes := 8) [4, 7, 3] rfl hI.o2 Try.underlying42 (by kernel_rfl) rfl rfl (by unfold maxLen; omega) (by omega) (fun v90 x90 o90 => ?_)) (by kernel_rfl)
                    refine r_one 13 (rs_append (bytes := 8) [9, 12, 8] rfl hI.o3 Try.underlying42 (by kernel_rfl) rfl rfl (by unfold maxLen; omega) (by omega) (fun v95 x95 o95 => ?_)) (by kernel_rfl)
                    refine r_one 14 (rs_val rfl (ex_assign rfl) ?_) (by kernel_rfl)
                    refine r_one 15 (rs_val rfl (ex_assign rfl) ?_) (by kernel_rfl)
                    refine r_one 16 (rs_val rfl (ex_assign rfl) ?_) (by kernel_rfl)
                    refine r_nil ?_ (by kernel_rfl)
                    exact k_some ⟨k, v85, x85, v90, x90, v95, x95⟩ ⟨LI.Inv.yes hle o85 o90 o95, rfl⟩ (Sub.cons rfl (Sub.cons rfl (Sub.cons rfl (Sub.cons rfl (Sub.cons rfl (Sub.cons rfl (Sub.cons rfl (Sub.cons rfl (Sub.nil _))))))))) SubE.sub
                · refine rs_buildSlice [.int .i64 0] [(0, 1)] rfl Try.runUnderlying42 Try.sizeOf3 Try.zeroValue3 rfl (fun b89 => ?_)
                  refine r_two 3 12 ?_ ?_ (by kernel_rfl)
                  · refine rs_append (bytes := 8) [0, 2] rfl hI.o1 Try.underlying42 (by kernel_rfl) rfl rfl (by unfold maxLen; omega) (by omega) (fun v85 x85 o85 => ?_)
                    refine r_two 8 12 ?_ ?_ (by kernel_rfl)
                    · refine rs_append (bytes := 8) [4, 7, 3] rfl hI.o2 Try.underlying42 (by kernel_rfl) rfl rfl (by unfold maxLen; omega) (by omega) (fun v90 x90 o90 => ?_)
                      refine r_one 12 (rs_buildSlice [.int .i64 0] [(0, 1)] rfl Try.runUnderlying42 Try.sizeOf3 Try.zeroValue3 rfl (fun b94 => ?_)) (by kernel_rfl)
                      refine r_one 13 (rs_append (bytes := 8) [9, 12, 8] rfl hI.o3 Try.underlying42 (by kernel_rfl) rfl rfl (by unfold maxLen; omega) (by omega) (fun v95 x95 o95 => ?_)) (by kernel_rfl)
                      refine r_one 14 (rs_val rfl (ex_assign rfl) ?_) (by kernel_rfl)
                      refine r_one 15 (rs_val rfl (ex_assign rfl) ?_) (by kernel_rfl)
                      refine r_one 16 (rs_val rfl (ex_assign rfl) ?_) (by kernel_rfl)
                      refine r_nil ?_ (by kernel_rfl)
                      exact k_some ⟨k, v85, x85, v90, x90, v95, x95⟩ ⟨LI.Inv.yes hle o85 o90 o95, rfl⟩ (Sub.cons rfl (Sub.cons rfl (Sub.cons rfl (Sub.cons rfl (Sub.cons rfl (Sub.cons rfl (Sub.cons rfl (Sub.cons rfl (Sub.nil _))))))))) SubE.sub
                    · refine rs_buildSlice [.int .i64 0] [(0, 1)] rfl Try.runUnderlying42 Try.sizeOf3 Try.zeroValue3 rfl (fun b94 => ?_)
                      refine r_one 8 (rs_append (bytes := 8) [4, 7, 3] rfl hI.o2 Try.underlying42 (by kernel_rfl) rfl rfl (by unfold maxLen; omega) (by omega) (fun v90 x90 o90 => ?_)) (by kernel_rfl)
                      refine r_one 13 (rs_append (bytes := 8) [9, 12, 8] rfl hI.o3 Try.underlying42 (by kernel_rfl) rfl rfl (by unfold maxLen; omega) (by omega) (fun v95 x95 o95 => ?_)) (by kernel_rfl)
                      refine r_one 14 (rs_val rfl (ex_assign rfl) ?_) (by kernel_rfl)
                      refine r_one 15 (rs_val rfl (ex_assign rfl) ?_) (by kernel_rfl)
                      refine r_one 16 (rs_val rfl (ex_assign rfl) ?_) (by kernel_rfl)
                      refine r_nil ?_ (by kernel_rfl)
                      exact k_some ⟨k, v85, x85, v90, x90, v95, x95⟩ ⟨LI.Inv.yes hle o85 o90 o95, rfl⟩ (Sub.cons rfl (Sub.cons rfl (Sub.cons rfl (Sub.cons rfl (Sub.cons rfl (Sub.cons rfl (Sub.cons rfl (Sub.cons rfl (Sub.nil _))))))))) SubE.sub
                  · refine rs_buildSlice [.int .i64 0] [(0, 1)] rfl Try.runUnderlying42 Try.sizeOf3 Try.zeroValue3 rfl (fun b94 => ?_)
                    refine r_one 3 (rs_append (bytes := 8) [0, 2] rfl hI.o1 Try.underlying42 (by kernel_rfl) rfl rfl (by unfold maxLen; omega) (by omega) (fun v85 x85 o85 => ?_)) (by kernel_rfl)
                    refine r_one 8 (rs_append (bytes := 8) [4, 7, 3] rfl hI.o2 Try.underlying42 (by kernel_rfl) rfl rfl (by unfold maxLen; omega) (by omega) (fun v90 x90 o90 => ?_)) (by kernel_rfl)
                    refine r_one 13 (rs_append (bytes := 8) [9, 12, 8] rfl hI.o3 Try.underlying42 (by kernel_rfl) rfl rfl (by unfold maxLen; omega) (by omega) (fun v95 x95 o95 => ?_)) (by kernel_rfl)
                    refine r_one 14 (rs_val rfl (ex_assign rfl) ?_) (by kernel_rfl)
                    refine r_one 15 (rs_val rfl (ex_assign rfl) ?_) (by kernel_rfl)
                    refine r_one 16 (rs_val rfl (ex_assign rfl) ?_) (by kernel_rfl)
                    refine r_nil ?_ (by kernel_rfl)
                    exact k_some ⟨k, v85, x85, v90, x90, v95, x95⟩ ⟨LI.Inv.yes hle o85 o90 o95, rfl⟩ (Sub.cons rfl (Sub.cons rfl (Sub.cons rfl (Sub.cons rfl (Sub.cons rfl (Sub.cons rfl (Sub.cons rfl (Sub.cons rfl (Sub.nil _))))))))) SubE.sub
                · refine rs_buildSlice [.int .i64 0] [(0, 1)] rfl Try.runUnderlying42 Try.sizeOf3 Try.zeroValue3 rfl (fun b94 => ?_)
                  refine r_two 3 7 ?_ ?_ (by kernel_rfl)
                  · refine rs_append (bytes := 8) [0, 2] rfl hI.o1 Try.underlying42 (by kernel_rfl) rfl rfl (by unfold maxLen; omega) (by omega) (fun v85 x85 o85 => ?_)
                    refine r_one 7 (rs_buildSlice [.int .i64 0] [(0, 1)] rfl Try.runUnderlying42 Try.sizeOf3 Try.zeroValue3 rfl (fun b89 => ?_)) (by kernel_rfl)
                    refine r_one 8 (rs_append (bytes := 8) [4, 7, 3] rfl hI.o2 Try.underlying42 (by kernel_rfl) rfl rfl (by unfold maxLen; omega) (by omega) (fun v90 x90 o90 => ?_)) (by kernel_rfl)
                    refine r_one 13 (rs_append (bytes := 8) [9, 12, 8] rfl hI.o3 Try.underlying42 (by kernel_rfl) rfl rfl (by unfold maxLen; omega) (by omega) (fun v95 x95 o95 => ?_)) (by kernel_rfl)
                    refine r_one 14 (rs_val rfl (ex_assign rfl) ?_) (by kernel_rfl)
                    refine r_one 15 (rs_val rfl (ex_assign rfl) ?_) (by kernel_rfl)
                    refine r_one 16 (rs_val rfl (ex_assign rfl) ?_) (by kernel_rfl)
                    refine r_nil ?_ (by kernel_rfl)
                    exact k_some ⟨k, v85, x85, v90, x90, v95, x95⟩ ⟨LI.Inv.yes hle o85 o90 o95, rfl⟩ (Sub.cons rfl (Sub.cons rfl (Sub.cons rfl (Sub.cons rfl (Sub.cons rfl (Sub.cons rfl (Sub.cons rfl (Sub.cons rfl (Sub.nil _))))))))) SubE.sub
                  · refine rs_buildSlice [.int .i64 0] [(0, 1)] rfl Try.runUnderlying42 Try.sizeOf3 Try.zeroValue3 rfl (fun b89 => ?_)
                    refine r_one 3 (rs_append (bytes := 8) [0, 2] rfl hI.o1 Try.underlying42 (by kernel_rfl) rfl rfl (by unfold maxLen; omega) (by omega) (fun v85 x85 o85 => ?_)) (by kernel_rfl)
                    refine r_one 8 (rs_append (bytes := 8) [4, 7, 3] rfl hI.o2 Try.underlying42 (by kernel_rfl) rfl rfl (by unfold maxLen; omega) (by omega) (fun v90 x90 o90 => ?_)) (by kernel_rfl)
                    refine r_one 13 (rs_append (bytes := 8) [9, 12, 8] rfl hI.o3 Try.underlying42 (by kernel_rfl) rfl rfl (by unfold maxLen; omega) (by omega) (fun v95 x95 o95 => ?_)) (by kernel_rfl)
                    refine r_one 14 (rs_val rfl (ex_assign rfl) ?_) (by kernel_rfl)
                    refine r_one 15 (rs_val rfl (ex_assign rfl) ?_) (by kernel_rfl)
                    refine r_one 16 (rs_val rfl (ex_assign rfl) ?_) (by kernel_rfl)
                    refine r_nil ?_ (by kernel_rfl)
                    exact k_some ⟨k, v85, x85, v90, x90, v95, x95⟩ ⟨LI.Inv.yes hle o85 o90 o95, rfl⟩ (Sub.cons rfl (Sub.cons rfl (Sub.cons rfl (Sub.cons rfl (Sub.cons rfl (Sub.cons rfl (Sub.cons rfl (Sub.cons rfl (Sub.nil _))))))))) SubE.sub
              · refine rs_buildSlice [.int .i64 0] [(0, 1)] rfl Try.runUnderlying42 Try.sizeOf3 Try.zeroValue3 rfl (fun b89 => ?_)
                refine r_two 2 12 ?_ ?_ (by kernel_rfl)
                · refine rs_buildSlice [.int .i64 0] [(0, 1)] rfl Try.runUnderlying42 Try.sizeOf3 Try.zeroValue3 rfl (fun b84 => ?_)
                  refine r_two 3 12 ?_ ?_ (by kernel_rfl)
                  · refine rs_append (bytes := 8) [0, 2] rfl hI.o1 Try.underlying42 (by kernel_rfl) rfl rfl (by unfold maxLen; omega) (by omega) (fun v85 x85 o85 => ?_)
                    refine r_two 8 12 ?_ ?_ (by kernel_rfl)
                    · refine rs_append (bytes := 8) [4, 7, 3] rfl hI.o2 Try.underlying42 (by kernel_rfl) rfl rfl (by unfold maxLen; omega) (by omega) (fun v90 x90 o90 => ?_)
                      refine r_one 12 (rs_buildSlice [.int .i64 0] [(0, 1)] rfl Try.runUnderlying42 Try.sizeOf3 Try.zeroValue3 rfl (fun b94 => ?_)) (by kernel_rfl)
                      refine r_one 13 (rs_append (bytes := 8) [9, 12, 8] rfl hI.o3 Try.underlying42 (by kernel_rfl) rfl rfl (by unfold maxLen; omega) (by omega) (fun v95 x95 o95 => ?_)) (by kernel_rfl)
                      refine r_one 14 (rs_val rfl (ex_assign rfl) ?_) (by kernel_rfl)
                      refine r_one 15 (rs_val rfl (ex_assign rfl) ?_) (by kernel_rfl)
                      refine r_one 16 (rs_val rfl (ex_assign rfl) ?_) (by kernel_rfl)
                      refine r_nil ?_ (by kernel_rfl)
                      exact k_some ⟨k, v85, x85, v90, x90, v95, x95⟩ ⟨LI.Inv.yes hle o85 o90 o95, rfl⟩ (Sub.cons rfl (Sub.cons rfl (Sub.cons rfl (Sub.cons rfl (Sub.cons rfl (Sub.cons rfl (Sub.cons rfl (Sub.cons rfl (Sub.nil _))))))))) SubE.sub
                    · refine rs_buildSlice [.int .i64 0] [(0, 1)] rfl Try.runUnderlying42 Try.sizeOf3 Try.zeroValue3 rfl (fun b94 => ?_)
                      refine r_one 8 (rs_append (bytes := 8) [4, 7, 3] rfl hI.o2 Try.underlying42 (by kernel_rfl) rfl rfl (by unfold maxLen; omega) (by omega) (fun v90 x90 o90 => ?_)) (by kernel_rfl)
                      refine r_one 13 (rs_append (bytes := 8) [9, 12, 8] rfl hI.o3 Try.underlying42 (by kernel_rfl) rfl rfl (by unfold maxLen; omega) (by omega) (fun v95 x95 o95 => ?_)) (by kernel_rfl)
                      refine r_one 14 (rs_val rfl (ex_assign rfl) ?_) (by kernel_rfl)
                      refine r_one 15 (rs_val rfl (ex_assign rfl) ?_) (by kernel_rfl)
                      refine r_one 16 (rs_val rfl (ex_assign rfl) ?_) (by kernel_rfl)
                      refine r_nil ?_ (by kernel_rfl)
                      exact k_some ⟨k, v85, x85, v90, x90, v95, x95⟩ ⟨LI.Inv.yes hle o85 o90 o95, rfl⟩ (Sub.cons rfl (Sub.cons rfl (Sub.cons rfl (Sub.cons rfl (Sub.cons rfl (Sub.cons rfl (Sub.cons rfl (Sub.cons rfl (Sub.nil _))))))))) SubE.sub
                  · refine rs_buildSlice [.int .i64 0] [(0, 1)] rfl Try.runUnderlying42 Try.sizeOf3 Try.zeroValue3 rfl (fun b94 => ?_)
                    refine r_one 3 (rs_append (bytes := 8) [0, 2] rfl hI.o1 Try.underlying42 (by kernel_rfl) rfl rfl (by unfold maxLen; omega) (by omega) (fun v85 x85 o85 => ?_)) (by kernel_rfl)
                    refine r_one 8 (rs_append (bytes := 8) [4, 7, 3] rfl hI.o2 Try.underlying42 (by kernel_rfl) rfl rfl (by unfold maxLen; omega) (by omega) (fun v90 x90 o90 => ?_)) (by kernel_rfl)
                    refine r_one 13 (rs_append (bytes := 8) [9, 12, 8] rfl hI.o3 Try.underlying42 (by kernel_rfl) rfl rfl (by unfold maxLen; omega) (by omega) (fun v95 x95 o95 => ?_)) (by kernel_rfl)
                    refine r_one 14 (rs_val rfl (ex_assign rfl) ?_) (by kernel_rfl)
                    refine r_one 15 (rs_val rfl (ex_assign rfl) ?_) (by kernel_rfl)
                    refine r_one 16 (rs_val rfl (ex_assign rfl) ?_) (by kernel_rfl)
                    refine r_nil ?_ (by kernel_rfl)
                    exact k_some ⟨k, v85, x85, v90, x90, v95, x95⟩ ⟨LI.Inv.yes hle o85 o90 o95, rfl⟩ (Sub.cons rfl (Sub.cons rfl (Sub.cons rfl (Sub.cons rfl (Sub.cons rfl (Sub.cons rfl (Sub.cons rfl (Sub.cons rfl (Sub.nil _))))))))) SubE.sub
                · refine rs_buildSlice [.int .i64 0] [(0, 1)] rfl Try.runUnderlying42 Try.sizeOf3 Try.zeroValue3 rfl (fun b94 => ?_)
                  refine r_one 2 (rs_buildSlice [.int .i64 0] [(0, 1)] rfl Try.runUnderlying42 Try.sizeOf3 Try.zeroValue3 rfl (fun b84 => ?_)) (by kernel_rfl)
                  refine r_one 3 (rs_append (bytes := 8) [0, 2] rfl hI.o1 Try.underlying42 (by kernel_rfl) rfl rfl (by unfold maxLen; omega) (by omega) (fun v85 x85 o85 => ?_)) (by kernel_rfl)
                  refine r_one 8 (rs_append (bytes := 8) [4, 7, 3] rfl hI.o2 Try.underlying42 (by kernel_rfl) rfl rfl (by unfold maxLen; omega) (by omega) (fun v90 x90 o90 => ?_)) (by kernel_rfl)
                  refine r_one 13 (rs_append (bytes := 8) [9, 12, 8] rfl hI.o3 Try.underlying42 (by kernel_rfl) rfl rfl (by unfold maxLen; omega) (by omega) (fun v95 x95 o95 => ?_)) (by kernel_rfl)
                  refine r_one 14 (rs_val rfl (ex_assign rfl) ?_) (by kernel_rfl)
                  refine r_one 15 (rs_val rfl (ex_assign rfl) ?_) (by kernel_rfl)
                  refine r_one 16 (rs_val rfl (ex_assign rfl) ?_) (by kernel_rfl)
                  refine r_nil ?_ (by kernel_rfl)
                  exact k_some ⟨k, v85, x85, v90, x90, v95, x95⟩ ⟨LI.Inv.yes hle o85 o90 o95, rfl⟩ (Sub.cons rfl (Sub.cons rfl (Sub.cons rfl (Sub.cons rfl (Sub.cons rfl (Sub.cons rfl (Sub.cons rfl (Sub.cons rfl (Sub.nil _))))))))) SubE.sub
              · refine rs_buildSlice [.int .i64 0] [(0, 1)] rfl Try.runUnderlying42 Try.sizeOf3 Try.zeroValue3 rfl (fun b94 => ?_)
                refine r_two 2 7 ?_ ?_ (by kernel_rfl)
                · refine rs_buildSlice [.int .i64 0] [(0, 1)] rfl Try.runUnderlying42 Try.sizeOf3 Try.zeroValue3 rfl (fun b84 => ?_)
                  refine r_two 3 7 ?_ ?_ (by kernel_rfl)
                  · refine rs_append (bytes := 8) [0, 2] rfl hI.o1 Try.underlying42 (by kernel_rfl) rfl rfl (by unfold maxLen; omega) (by omega) (fun v85 x85 o85 => ?_)
                    refine r_one 7 (rs_buildSlice [.int .i64 0] [(0, 1)] rfl Try.runUnderlying42 Try.sizeOf3 Try.zeroValue3 rfl (fun b89 => ?_)) (by kernel_rfl)
                    refine r_one 8 (rs_append (bytes := 8) [4, 7, 3] rfl hI.o2 Try.underlying42 (by kernel_rfl) rfl rfl (by unfold maxLen; omega) (by omega) (fun v90 x90 o90 => ?_)) (by kernel_rfl)
                    refine r_one 13 (rs_append (bytes := 8) [9, 12, 8] rfl hI.o3 Try.underlying42 (by kernel_rfl) rfl rfl (by unfold maxLen; omega) (by omega) (fun v95 x95 o95 => ?_)) (by kernel_rfl)
                    refine r_one 14 (rs_val rfl (ex_assign rfl) ?_) (by kernel_rfl)
                    refine r_one 15 (rs_val rfl (ex_assign rfl) ?_) (by kernel_rfl)
                    refine r_one 16 (rs_val rfl (ex_assign rfl) ?_) (by kernel_rfl)
                    refine r_nil ?_ (by kernel_rfl)
                    exact k_some ⟨k, v85, x85, v90, x90, v95, x95⟩ ⟨LI.Inv.yes hle o85 o90 o95, rfl⟩ (Sub.cons rfl (Sub.cons rfl (Sub.cons rfl (Sub.cons rfl (Sub.cons rfl (Sub.cons rfl (Sub.cons rfl (Sub.cons rfl (Sub.nil _))))))))) SubE.sub
                  · refine rs_buildSlice [.int .i64 0] [(0, 1)] rfl Try.runUnderlying42 Try.sizeOf3 Try.zeroValue3 rfl (fun b89 => ?_)
                    refine r_one 3 (rs_append (bytes := 8) [0, 2] rfl hI.o1 Try.underlying42 (by kernel_rfl) rfl rfl (by unfold maxLen; omega) (by omega) (fun v85 x85 o85 => ?_)) (by kernel_rfl)
                    refine r_one 8 (rs_append (bytes := 8) [4, 7, 3] rfl hI.o2 Try.underlying42 (by kernel_rfl) rfl rfl (by unfold maxLen; omega) (by omega) (fun v90 x90 o90 => ?_)) (by kernel_rfl)
                    refine r_one 13 (rs_append (bytes := 8) [9, 12, 8] rfl hI.o3 Try.underlying42 (by kernel_rfl) rfl rfl (by unfold maxLen; omega) (by omega) (fun v95 x95 o95 => ?_)) (by kernel_rfl)
                    refine r_one 14 (rs_val rfl (ex_assign rfl) ?_) (by kernel_rfl)
                    refine r_one 15 (rs_val rfl (ex_assign rfl) ?_) (by kernel_rfl)
                    refine r_one 16 (rs_val rfl (ex_assign rfl) ?_) (by kernel_rfl)
                    refine r_nil ?_ (by kernel_rfl)
                    exact k_some ⟨k, v85, x85, v90, x90, v95, x95⟩ ⟨LI.Inv.yes hle o85 o90 o95, rfl⟩ (Sub.cons rfl (Sub.cons rfl (Sub.cons rfl (Sub.cons rfl (Sub.cons rfl (Sub.cons rfl (Sub.cons rfl (Sub.cons rfl (Sub.nil _))))))))) SubE.sub
                · refine rs_buildSlice [.int .i64 0] [(0, 1)] rfl Try.runUnderlying42 Try.sizeOf3 Try.zeroValue3 rfl (fun b89 => ?_)
                  refine r_one 2 (rs_buildSlice [.int .i64 0] [(0, 1)] rfl Try.runUnderlying42 Try.sizeOf3 Try.zeroValue3 rfl (fun b84 => ?_)) (by kernel_rfl)
                  refine r_one 3 (rs_append (bytes := 8) [0, 2] rfl hI.o1 Try.underlying42 (by kernel_rfl) rfl rfl (by unfold maxLen; omega) (by omega) (fun v85 x85 o85 => ?_)) (by kernel_rfl)
                  refine r_one 8 (rs_append (bytes := 8) [4, 7, 3] rfl hI.o2 Try.underlying42 (by kernel_rfl) rfl rfl (by unfold maxLen; omega) (by omega) (fun v90 x90 o90 => ?_)) (by kernel_rfl)
                  refine r_one 13 (rs_append (bytes := 8) [9, 12, 8] rfl hI.o3 Try.underlying42 (by kernel_rfl) rfl rfl (by unfold maxLen; omega) (by omega) (fun v95 x95 o95 => ?_)) (by kernel_rfl)
                  refine r_one 14 (rs_val rfl (ex_assign rfl) ?_) (by kernel_rfl)
                  refine r_one 15 (rs_val rfl (ex_assign rfl) ?_) (by kernel_rfl)
                  refine r_one 16 (rs_val rfl (ex_assign rfl) ?_) (by kernel_rfl)
                  refine r_nil ?_ (by kernel_rfl)
                  exact k_some ⟨k, v85, x85, v90, x90, v95, x95⟩ ⟨LI.Inv.yes hle o85 o90 o95, rfl⟩ (Sub.cons rfl (Sub.cons rfl (Sub.cons rfl (Sub.cons rfl (Sub.cons rfl (Sub.cons rfl (Sub.cons rfl (Sub.cons rfl (Sub.nil _))))))))) SubE.sub
            ·
              have hle : ¬ hLo b (kLo fh tl b.armLo) (kHi fl th b.armHi) (b.tl + k) ≤ hHi b (kLo fh tl b.armLo) (kHi fl th b.armHi) (b.tl + k) := of_decide_eq_false h_4
              refine k_skip ?_
              exact k_some ⟨k, v1, x1, v2, x2, v3, x3⟩ ⟨LI.Inv.no hle hI, rfl⟩ (Sub.cons rfl (Sub.cons rfl (Sub.cons rfl (Sub.cons rfl (Sub.cons rfl (Sub.cons rfl (Sub.cons rfl (Sub.cons rfl (Sub.nil _))))))))) SubE.sub
          obtain ⟨k2, u1, z1, u2, z2, u3, z3⟩ := r
          dsimp only at hr ⊢
          obtain ⟨hJ, rfl⟩ := hr
          refine k_region ?_
          refine o_val (ex_move rfl) ?_
          refine o_val (ex_add64 rfl rfl (by unfold I64; omega)) ?_
          refine o_val (ex_assign rfl) (o_nil ?_)
          exact k_some ⟨k2 + 1, u1, z1, u2, z2, u3, z3⟩ ⟨⟨⟨hJ.o1, hJ.o2, hJ.o3⟩, hlt⟩, (by show nT b - (k2 + 1) < nT b - k2; omega)⟩ (Sub.cons rfl (Sub.cons rfl (Sub.cons rfl (Sub.cons rfl (Sub.cons rfl (Sub.cons rfl (Sub.cons rfl (Sub.cons' rfl (by simp; omega) (Sub.nil _))))))))) SubE.sub
        ·
          have hkn : k = nT b := by have : ¬ b.tl + (k : Int) ≤ b.th := of_decide_eq_false h_3; omega
          subst hkn
          refine k_exit rfl ?_
          refine k_seq (k_seq (k_region ?_))
          refine o_val (ex_move rfl) ?_
          refine o_val (ex_lenO hI.o1 Try.runUnderlying42 rfl) ?_
          refine o_val (ex_eql rfl rfl) (o_nil ?_)
          refine k_cond rfl (fun h_4 => ?_) (fun h_4 => ?_)
          ·
            have hz : (tsL b (kLo fh tl b.armLo) (kHi fl th b.armHi) (nT b)).length = 0 := by have : (((tsL b (kLo fh tl b.armLo) (kHi fl th b.armHi) (nT b)).length : Nat) : Int) = 0 := of_decide_eq_true h_4; omega
            have hr : lrnE b tl th fl fh = 9 := by unfold lrnE; rw [if_pos he, if_pos hsp, if_pos hna, if_pos hz]
            refine k_seq (k_draw [true, true, false, false, false] 3 ?_ mixed (by kernel_rfl) rfl)
            refine d_loadA (i := 0) Try.isAgg23 Try.sizeOf23 rfl ?_
            refine d_loadA (i := 1) Try.isAgg23 Try.sizeOf23 rfl ?_
            refine d_rest ?_
            refine d_rest ?_
            refine d_rest ?_
            refine d_nil ?_
            refine r_one 2 (rs_store [0, 0] rfl Try.sizeOf23 rfl rfl ?_) (by kernel_rfl)
            refine r_one 3 (rs_store [1, 2, 0, 1, 2] rfl Try.sizeOf23 rfl rfl ?_) (by kernel_rfl)
            refine r_one 4 (rs_val rfl (ex_assign rfl) ?_) (by kernel_rfl)
            refine r_nil ?_ (by kernel_rfl)
            refine k_ret ?_
            exact finCC1 rfl Try.isAgg23 Try.sizeOf23 Try.isAgg23 Try.sizeOf23 rfl rfl rfl rfl rfl fun W hW => ⟨by have hl : lrnL b tl th fl fh = [] := (by unfold lrnL; rw [hr]; rfl); rw [hl, hr]; rfl, hW.ext⟩
          ·
            have hz : ¬ (tsL b (kLo fh tl b.armLo) (kHi fl th b.armHi) (nT b)).length = 0 := by have : ¬ (((tsL b (kLo fh tl b.armLo) (kHi fl th b.armHi) (nT b)).length : Nat) : Int) = 0 := of_decide_eq_false h_4; omega
            have hr : lrnE b tl th fl fh = 0 := by unfold lrnE; rw [if_pos he, if_pos hsp, if_pos hna, if_neg hz]
            have hll : lrnL b tl th fl fh = tsL b (kLo fh tl b.armLo) (kHi fl th b.armHi) (nT b) := by unfold lrnL; rw [if_pos hr]
            rw [hll, hr]
            obtain ⟨o1, o2, o3⟩ := hI
            dsimp only at o1 o2 o3
            generalize hL : tsL b (kLo fh tl b.armLo) (kHi fl th b.armHi) (nT b) = L at o1 o2 o3 hz ⊢
            rcases o1.2 with ⟨_, h0, _⟩ | ⟨g1, cap1, cs1, rfl, rfl, _, _, _, t1⟩
            · exact absurd h0 hz
            rcases o2.2 with ⟨_, h0, _⟩ | ⟨g2, cap2, cs2, rfl, rfl, _, _, _, t2⟩
            · exact absurd h0 hz
            rcases o3.2 with ⟨_, h0, _⟩ | ⟨g3, cap3, cs3, rfl, rfl, _, _, _, t3⟩
            · exact absurd h0 hz
            simp only [List.cons_append, List.nil_append]
            have hLn : L.length ≤ 1001 := by rw [← hL]; omega
            refine k_skip ?_
            refine k_seq (k_draw [true, true, true, true, true, true, true, true, true, true, true, true, true, true, true, false, false, false] 3 ?_ mixed (by kernel_rfl) rfl)
            refine d_val (i := 0) [] (ex_move rfl) ?_
            refine d_val (i := 1) [] (ex_index 0 Try.runUnderlying42 Try.sizeOf3 rfl rfl (by omega) (by omega) (by omega)) ?_
            refine d_load (i := 2) Try.isAgg3 rfl (own_cell t1 (by omega)) ?_
            refine d_val (i := 3) [] (ex_move rfl) ?_
            refine d_val (i := 4) [] (ex_move rfl) ?_
            refine d_val (i := 5) [] (ex_len Try.runUnderlying42 rfl) ?_
            refine d_val (i := 6) [] (ex_sub64 rfl rfl (by unfold I64; omega)) ?_
            refine d_val (i := 7) [] (ex_index (L.length - 1) Try.runUnderlying42 Try.sizeOf3 rfl rfl (by omega) (by omega) (by omega)) ?_
            refine d_load (i := 8) Try.isAgg3 rfl (own_cell t1 (by omega)) ?_
            refine d_val (i := 9) [] (ex_build bf23 rfl) ?_
            refine d_val (i := 10) [] (ex_move rfl) ?_
            refine d_val (i := 11) [⟨g2, 3, cs2, true⟩] (ex_call Try.call55 rfl (fun W hW => (by have hc := c55 (L.map (hLo b (kLo fh tl b.armLo) (kHi fl th b.armHi))) (A := some ⟨g2, 0, none⟩) (c := cap2) (w := W) (by simp; omega) (by simp; omega) (own_rows hW (by simpa using t2)); rw [List.length_map] at hc; exact hc))) ?_
            refine d_val (i := 12) [] (ex_move rfl) ?_
            refine d_val (i := 13) [⟨g3, 3, cs3, true⟩] (ex_call Try.call56 rfl (fun W hW => (by have hc := c56 (L.map (hHi b (kLo fh tl b.armLo) (kHi fl th b.armHi))) (A := some ⟨g3, 0, none⟩) (c := cap3) (w := W) (by simp; omega) (by simp; omega) (own_rows hW (by simpa using t3)); rw [List.length_map] at hc; exact hc))) ?_
            refine d_val (i := 14) [] (ex_build bf23 rfl) ?_
            refine d_rest ?_
            refine d_rest ?_
            refine d_rest ?_
            refine d_nil ?_
            refine r_one 15 (rs_store [9, 13, 0, 1, 2, 3, 4, 5, 6, 7, 8, 9] rfl Try.sizeOf23 rfl rfl ?_) (by kernel_rfl)
            refine r_one 16 (rs_store [14, 15, 0, 1, 2, 3, 4, 5, 6, 7, 8, 9, 10, 11, 12, 13, 14, 15] rfl Try.sizeOf23 rfl rfl ?_) (by kernel_rfl)
            refine r_one 17 (rs_val rfl (ex_assign rfl) ?_) (by kernel_rfl)
            refine r_nil ?_ (by kernel_rfl)
            refine k_ret ?_
            exact finCC1 rfl Try.isAgg23 Try.sizeOf23 Try.isAgg23 Try.sizeOf23 rfl rfl rfl rfl rfl fun W hW => ⟨rfl, hW.ext⟩

end Go.Proofs.Yteecidddfcbabaa
