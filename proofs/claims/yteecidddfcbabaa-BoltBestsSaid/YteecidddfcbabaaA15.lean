/- The walks of small functions: what each call hands back, and that nothing that was there has turned. Printed by a program of this session (wip/tools/gen.py). -/
import Derived.Test.YteecidddfcbabaaA14
namespace Go.Proofs.Yteecidddfcbabaa
open Go
attribute [local irreducible] ExV Ex
set_option synthInstance.maxSize 2000
set_option synthInstance.maxHeartbeats 200000

-- == f47 (acme/bolt.kind).isIn params [76, 23, 23] results [4] in [('tmp', ['6'])] ntmps 21 nfree 0
theorem c47 (b : Bo) (fl fh wl wh : Int) {w : World} : Calls Try.prog 47 [.agg [.int .i64 b.lead, .int .i64 b.thread, .int .i64 b.head, .int .i64 b.tl, .int .i64 b.th, .int .i64 b.hl, .int .i64 b.hh, .int .i64 b.sl, .int .i64 b.sh, .int .i64 b.pl, .int .i64 b.ph, .int .i64 b.yl, .int .i64 b.yh].toArray, .agg [.int .i64 fl, .int .i64 fh].toArray, .agg [.int .i64 wl, .int .i64 wh].toArray].toArray w fun e w' => e = .returned (.bool (wi wl (min wh b.yl) [fl, fh])) ∧ Ext [] w w' := by
  refine fn_start Try.func47 rfl (N := 21) rfl ?_
  refine k_seq (k_region ?_)
  refine o_box rfl (fun b3 => ?_)
  refine o_box rfl (fun b4 => ?_)
  refine o_box rfl (fun b5 => ?_)
  refine o_val (ex_assign rfl) (o_nil ?_)
  refine k_seq (k_region ?_)
  refine o_val (ex_loadA Try.isAgg76 Try.sizeOf76 rfl) ?_
  refine o_val (ex_loadA Try.isAgg23 Try.sizeOf23 rfl) ?_
  refine o_val (ex_call Try.call35 rfl (fun W hW => c35 b wl wh)) ?_
  refine o_alloc Try.zeroValue23 (fun b7 => ?_)
  refine o_store Try.sizeOf23 rfl rfl (o_nil ?_)
  refine k_seq (k_region ?_)
  refine o_val (ex_field (o := 0) 0 fa23_0 rfl rfl) ?_
  refine o_val (ex_load Try.isAgg3 rfl rfl) ?_
  refine o_val (ex_field (o := 0) 1 fa23_1 rfl rfl) ?_
  refine o_val (ex_load Try.isAgg3 rfl rfl) ?_
  refine o_val (ex_field (o := 0) 0 fa23_0 rfl rfl) ?_
  refine o_val (ex_load Try.isAgg3 rfl rfl) ?_
  refine o_val (ex_field (o := 0) 1 fa23_1 rfl rfl) ?_
  refine o_val (ex_load Try.isAgg3 rfl rfl) ?_
  refine o_buildSlice [.int .i64 0, .int .i64 0] [(0, 1), (1, 1)] Try.runUnderlying42 Try.sizeOf3 Try.zeroValue3 rfl (fun b19 => ?_)
  refine o_val (ex_call Try.call29 rfl (fun W hW => (by exact c29 wl (min wh b.yl) [fl, fh] (by simp) (row_ints hW b19)))) ?_
  refine o_val (ex_assign rfl) (o_nil ?_)
  refine k_ret ?_
  exact fin1 rfl rfl fun W hW => ⟨rfl, hW.ext⟩

theorem o_mapPut {N : Nat} {w0 : World} {M : List Nat} {Γ : Gam} {H H' : Hp} {ops : Array Oper} {Q : Exit → Act → World → Prop} {next : AW} {rest : List Oper} {t kt et : TypeId} {ty : Nat} {pos : String} {aft : Array Edge} {x y v : Operand} {b : Nat} {kv : List (Int × Int)} {n c : Int}
    (hu : ∀ W, (underlying t).run Try.prog W = .ok (.map kt et) W) (hk : ∀ W, (underlying kt).run Try.prog W = .ok (.int .i64) W) (hx : ev Γ x = some (.map (some b))) (hy : ev Γ y = some (.int .i64 n)) (hv : ev Γ v = some (.int .i64 c)) (hn : ¬ n ∈ kv.map (·.1)) [hm : HasM H b (kv.map kvC)] [hs : SetM H b ((kv ++ [(n, c)]).map kvC) H']
    (k : OpsN Try.prog ops Q next N w0 M rest Γ H') : OpsN Try.prog ops Q next N w0 M (⟨none, .mapUpdate t x y v, ty, pos, aft, none⟩ :: rest) Γ H :=
  o_step_none (ex_mapPut hu hk hx hy hv hn) (by rintro _ _ rfl; exact k) rfl rfl

def dW : Wa := ⟨0, 0, 0, 0, 0, 0, 0⟩
def fineB (b : Bo) (wl wh : Int) (y : Wa) : Bool := wi wl (min wh b.yl) [b.fLo y, b.fHi y]
/-- The numbers of the ways that are fine, and how wide each is. -/
def idxL (b : Bo) (wl wh : Int) (l : List Wa) : Nat → List Int
  | 0 => []
  | k + 1 => if fineB b wl wh (l.getD k dW) then idxL b wl wh l k ++ [(k : Int)] else idxL b wl wh l k
def kvL (b : Bo) (wl wh : Int) (l : List Wa) : Nat → List (Int × Int)
  | 0 => []
  | k + 1 => if fineB b wl wh (l.getD k dW) then kvL b wl wh l k ++ [((k : Int), b.fHi (l.getD k dW) - b.fLo (l.getD k dW))] else kvL b wl wh l k
def kvCmp (kv : List (Int × Int)) (i j : Int) : Int := kvGet kv i - kvGet kv j
def bestE (b : Bo) (wl wh : Int) (l : List Wa) : Int :=
  if openE b [] = 0 then (if 20 < l.length then 5 else if openE b l = 0 then (if isSp wl wh 0 100000000 then (if (idxL b wl wh l l.length).length = 0 then 7 else 0) else 3) else openE b l) else openE b []
def bestL (b : Bo) (wl wh : Int) (l : List Wa) : List Int := if bestE b wl wh l = 0 then (sortR (fun x y => decide (kvCmp (kvL b wl wh l l.length) x y < 0)) (idxL b wl wh l l.length)).reverse else []

theorem kvL_fst (b : Bo) (wl wh : Int) (l : List Wa) : ∀ k, (kvL b wl wh l k).map (·.1) = idxL b wl wh l k
  | 0 => rfl
  | k + 1 => by
    unfold kvL idxL
    split
    · simp [kvL_fst b wl wh l k]
    · exact kvL_fst b wl wh l k
theorem idxL_lt (b : Bo) (wl wh : Int) (l : List Wa) : ∀ k, (idxL b wl wh l k).length ≤ k ∧ ∀ i, i ∈ idxL b wl wh l k → i < k
  | 0 => by simp [idxL]
  | k + 1 => by
    obtain ⟨h1, h2⟩ := idxL_lt b wl wh l k
    unfold idxL
    split
    · refine ⟨by simp; omega, fun i hi => ?_⟩
      rcases List.mem_append.1 hi with hi | hi
      · have := h2 i hi; omega
      · have : i = k := by simpa using hi
        omega
    · exact ⟨by omega, fun i hi => by have := h2 i hi; omega⟩
theorem kvL_bound {b : Bo} {l : List Wa} (wl wh : Int) (hB : ∀ y, y ∈ l → -100000000000000000 ≤ b.fHi y - b.fLo y ∧ b.fHi y - b.fLo y ≤ 100000000000000000) : ∀ k, k ≤ l.length → ∀ p, p ∈ kvL b wl wh l k → -100000000000000000 ≤ p.2 ∧ p.2 ≤ 100000000000000000
  | 0, _, p, hp => by simp [kvL] at hp
  | k + 1, hk, p, hp => by
    unfold kvL at hp
    split at hp
    · rcases List.mem_append.1 hp with hp | hp
      · exact kvL_bound wl wh hB k (by omega) p hp
      · have e : p = ((k : Int), b.fHi (l.getD k dW) - b.fLo (l.getD k dW)) := by simpa using hp
        have e2 : l.getD k dW = l[k] := by simp [List.getD, List.getElem?_eq_getElem (show k < l.length by omega)]
        subst e
        rw [e2]
        exact hB _ (List.getElem_mem _)
    · exact kvL_bound wl wh hB k (by omega) p hp
theorem kvGet_bound {kv : List (Int × Int)} (h : ∀ p, p ∈ kv → -100000000000000000 ≤ p.2 ∧ p.2 ≤ 100000000000000000) (x : Int) : -100000000000000000 ≤ kvGet kv x ∧ kvGet kv x ≤ 100000000000000000 := by
  induction kv with
  | nil => simp [kvGet]
  | cons p r ih =>
    obtain ⟨k, v⟩ := p
    unfold kvGet
    split
    · exact h (k, v) (List.mem_cons_self ..)
    · exact ih fun q hq => h q (List.mem_cons_of_mem _ hq)

structure BI where
  (k : Nat) (v : Value) (x : Hp) (kv : List (Int × Int))
structure BI.Inv (i : BI) (b : Bo) (wl wh : Int) (l : List Wa) (k : Nat) : Prop where
  o : OwnsV 3 1 i.v (idxL b wl wh l k).length ((idxL b wl wh l k).map (Value.int .i64)) i.x
  e : i.kv = kvL b wl wh l k
theorem BI.Inv.yes {i : BI} {b : Bo} {wl wh : Int} {l : List Wa} {k : Nat} (h : fineB b wl wh (l.getD k dW) = true) (ho : OwnsV 3 1 i.v ((idxL b wl wh l k).length + 1) ((idxL b wl wh l k).map (Value.int .i64) ++ [Value.int .i64 k]) i.x) (he : i.kv = kvL b wl wh l k ++ [((k : Int), b.fHi (l.getD k dW) - b.fLo (l.getD k dW))]) : i.Inv b wl wh l (k + 1) := by
  have e : idxL b wl wh l (k + 1) = idxL b wl wh l k ++ [(k : Int)] := by
    show (if _ then _ else _) = _
    rw [if_pos h]
  constructor
  · rw [e, List.length_append, List.map_append]; exact ho
  · rw [he]
    show _ = (if _ then _ else _)
    rw [if_pos h]
theorem BI.Inv.no {i : BI} {b : Bo} {wl wh : Int} {l : List Wa} {k : Nat} (h : ¬ fineB b wl wh (l.getD k dW) = true) (hi : i.Inv b wl wh l k) : i.Inv b wl wh l (k + 1) := by
  have e : idxL b wl wh l (k + 1) = idxL b wl wh l k := by
    show (if _ then _ else _) = _
    rw [if_neg h]
  constructor
  · rw [e]; exact hi.o
  · rw [hi.e]
    show _ = (if _ then _ else _)
    rw [if_neg h]
theorem freshNil {w w' : World} {l : List Int} (h : l = []) : FreshV 3 1 (.slice none 0 0) l.length (l.map (Value.int .i64)) w w' := by subst h; exact ⟨by simp, .inl ⟨rfl, rfl⟩⟩

-- == f49 acme/bolt.Best$1 params [3, 3] results [3] in [('tmp', ['5'])] ntmps 13 nfree 1
theorem c49 (kv : List (Int × Int)) (i j : Int) {p : Addr} {m : Nat} {w : World} (hp : w.cell? p = some (.map (some m))) (hm : w.heap[m]? = some (mapObj (kv.map kvC))) (hB : ∀ x, -100000000000000000 ≤ kvGet kv x ∧ kvGet kv x ≤ 100000000000000000) : Calls Try.prog 49 [.int .i64 i, .int .i64 j, .pointer (some p)].toArray w fun e w' => e = .returned (.int .i64 (kvCmp kv i j)) ∧ Ext [] w w' := by
  have hlt : m < w.heap.size := (Array.getElem?_eq_some_iff.1 hm).1
  have b1 := hB i
  have b2 := hB j
  refine fn_start Try.func49 rfl (N := 13) rfl ?_
  refine k_seq (k_region ?_)
  refine o_val (ex_assign rfl) (o_nil ?_)
  refine k_seq (k_region ?_)
  refine o_val (ex_load_old Try.isAgg93 rfl hp (by simp)) ?_
  refine o_val (ex_move rfl) ?_
  refine o_val (ex_mapGet (kv := kv) Try.runUnderlying93 Try.runUnderlying3 Try.zeroValue3 rfl rfl (fun W hW => by rw [hW.ext.block m hlt (by simp)]; exact hm)) ?_
  refine o_val (ex_load_old Try.isAgg93 rfl hp (by simp)) ?_
  refine o_val (ex_move rfl) ?_
  refine o_val (ex_mapGet (kv := kv) Try.runUnderlying93 Try.runUnderlying3 Try.zeroValue3 rfl rfl (fun W hW => by rw [hW.ext.block m hlt (by simp)]; exact hm)) ?_
  refine o_val (ex_sub64 rfl rfl (by unfold I64; omega)) ?_
  refine o_val (ex_assign rfl) (o_nil ?_)
  refine k_ret ?_
  exact fin1 rfl rfl fun W hW => ⟨rfl, hW.ext⟩

-- == f15 acme/bolt.Best params [25, 41, 23] results [42, 29] in [('tmp', ['6']), ('tmp', ['7'])] ntmps 74 nfree 0
theorem c15 (b : Bo) (wl wh : Int) (l : List Wa) {A : Option Addr} {c : Nat} {w : World} (hl : l.length < 4611686018427387904) (hrow : WaysAt w A l) : Calls Try.prog 15 [.agg [.int .i64 b.lead, .int .i64 b.thread, .int .i64 b.head, .int .i64 b.tl, .int .i64 b.th, .int .i64 b.hl, .int .i64 b.hh, .int .i64 b.sl, .int .i64 b.sh, .int .i64 b.pl, .int .i64 b.ph, .int .i64 b.yl, .int .i64 b.yh].toArray, .slice A l.length c, .agg [.int .i64 wl, .int .i64 wh].toArray].toArray w fun e w' => ∃ v, e = .returned (.tuple #[v, .int .i64 (bestE b wl wh l)]) ∧ FreshV 3 1 v (bestL b wl wh l).length ((bestL b wl wh l).map (Value.int .i64)) w w' ∧ Ext [] w w' := by
  refine fn_start Try.func15 rfl (N := 74) rfl ?_
  refine k_seq (k_region ?_)
  refine o_box rfl (fun b3 => ?_)
  refine o_box rfl (fun b5 => ?_)
  refine o_val (ex_assign rfl) ?_
  refine o_val (ex_assign rfl) (o_nil ?_)
  refine k_seq (k_region ?_)
  refine o_val (ex_loadA Try.isAgg25 Try.sizeOf25 rfl) ?_
  refine o_val (ex_call Try.call28 rfl (fun W hW => (by exact c28 b [] (by simp) (ways_none _ _)))) ?_
  refine o_val (ex_move rfl) ?_
  refine o_val (ex_extract rfl rfl) ?_
  refine o_val (ex_extract rfl rfl) ?_
  refine o_alloc Try.zeroValue76 (fun b8 => ?_)
  refine o_store Try.sizeOf76 rfl rfl ?_
  refine o_val (ex_assign rfl) (o_nil ?_)
  refine k_seq (k_block ?_)
  refine k_seq (k_region ?_)
  refine o_val (ex_move rfl) ?_
  refine o_val (ex_neq rfl rfl) ?_
  refine o_val (ex_assign rfl) (o_nil ?_)
  refine k_cond rfl (fun h => ?_) (fun h => ?_)
  ·
    have he : ¬ openE b [] = 0 := by simpa using h
    have hr : bestE b wl wh l = openE b [] := by unfold bestE; rw [if_neg he]
    rw [← hr]
    rw [← hr] at he
    refine k_seq (k_region ?_)
    refine o_val (ex_move rfl) ?_
    refine o_val (ex_assign rfl) ?_
    refine o_val (ex_assign rfl) (o_nil ?_)
    refine k_ret ?_
    exact fin2 rfl rfl rfl fun W hW => ⟨_, rfl, freshNil (by unfold bestL; rw [if_neg he]), hW.ext⟩
  ·
    have he : openE b [] = 0 := by simpa using h
    have hb := (openE_ok he).1
    refine k_seq (k_region ?_)
    refine o_val (ex_move rfl) ?_
    refine o_val (ex_len Try.runUnderlying41 rfl) ?_
    refine o_val (ex_gtr rfl rfl) ?_
    refine o_val (ex_assign rfl) (o_nil ?_)
    refine k_cond rfl (fun h_1 => ?_) (fun h_1 => ?_)
    ·
      have hgt : 20 < l.length := by have : (20 : Int) < (l.length : Int) := of_decide_eq_true h_1; omega
      have hr : bestE b wl wh l = 5 := by unfold bestE; rw [if_pos he, if_pos hgt]
      rw [hr]
      refine k_seq (k_region ?_)
      refine o_val (ex_assign rfl) ?_
      refine o_val (ex_assign rfl) (o_nil ?_)
      refine k_ret ?_
      exact fin2 rfl rfl rfl fun W hW => ⟨_, rfl, freshNil (by unfold bestL; rw [hr]; rfl), hW.ext⟩
    ·
      have hgt : ¬ 20 < l.length := by have : ¬ (20 : Int) < (l.length : Int) := of_decide_eq_false h_1; omega
      refine k_skip ?_
      refine k_seq (k_seq (k_region ?_))
      refine o_val (ex_loadA Try.isAgg25 Try.sizeOf25 rfl) ?_
      refine o_val (ex_move rfl) ?_
      refine o_val (ex_call Try.call28 rfl (fun W hW => (by exact c28 b l hl (ways_ext hrow hW.ext)))) ?_
      refine o_val (ex_move rfl) ?_
      refine o_val (ex_extract rfl rfl) ?_
      refine o_val (ex_extract rfl rfl) ?_
      refine o_alloc Try.zeroValue76 (fun b9 => ?_)
      refine o_store Try.sizeOf76 rfl rfl ?_
      refine o_val (ex_assign rfl) (o_nil ?_)
      refine k_seq (k_region ?_)
      refine o_val (ex_move rfl) ?_
      refine o_val (ex_neq rfl rfl) (o_nil ?_)
      refine k_cond rfl (fun h_2 => ?_) (fun h_2 => ?_)
      ·
        have hne : ¬ openE b l = 0 := by simpa using h_2
        have hr : bestE b wl wh l = openE b l := by unfold bestE; rw [if_pos he, if_neg hgt, if_neg hne]
        rw [← hr]
        rw [← hr] at hne
        refine k_seq (k_region ?_)
        refine o_val (ex_move rfl) ?_
        refine o_val (ex_assign rfl) ?_
        refine o_val (ex_assign rfl) (o_nil ?_)
        refine k_ret ?_
        exact fin2 rfl rfl rfl fun W hW => ⟨_, rfl, freshNil (by unfold bestL; rw [if_neg hne]), hW.ext⟩
      ·
        have hol : openE b l = 0 := by simpa using h_2
        have hcs := (openE_ok hol).2
        refine k_skip ?_
        refine k_seq (k_seq (k_region ?_))
        refine o_val (ex_loadA Try.isAgg23 Try.sizeOf23 rfl) ?_
        refine o_val (ex_call Try.call33 rfl (fun W hW => c33 wl wh)) ?_
        refine o_val (ex_not rfl) (o_nil ?_)
        refine k_cond rfl (fun h_3 => ?_) (fun h_3 => ?_)
        ·
          have hr : bestE b wl wh l = 3 := by unfold bestE; rw [if_pos he, if_neg hgt, if_pos hol, if_neg (notT h_3)]
          rw [hr]
          refine k_seq (k_region ?_)
          refine o_val (ex_assign rfl) ?_
          refine o_val (ex_assign rfl) (o_nil ?_)
          refine k_ret ?_
          exact fin2 rfl rfl rfl fun W hW => ⟨_, rfl, freshNil (by unfold bestL; rw [hr]; rfl), hW.ext⟩
        ·
          have hsp : isSp wl wh 0 100000000 = true := by simpa using h_3
          refine k_skip ?_
          refine k_seq (k_region ?_)
          refine o_makeMap (fun m40 => ?_)
          refine o_alloc Try.zeroValue93 (fun b11 => ?_)
          refine o_store Try.sizeOf93 rfl rfl (o_nil ?_)
          refine k_seq (k_seq (k_region ?_))
          refine o_val (ex_move rfl) ?_
          refine o_val (ex_len Try.runUnderlying41 rfl) ?_
          refine o_val (ex_move rfl) (o_nil ?_)
          refine k_block ?_
          refine k_loop (ι := BI) (fun k => [(5, .pointer (some ⟨b5, 0, none⟩)), (6, k.v), (8, .pointer (some ⟨b8, 0, none⟩)), (11, .pointer (some ⟨b11, 0, none⟩)), (41, .slice A l.length c), (42, .int .i64 (l.length : Int)), (43, .int .i64 (k.k : Int))]) (fun k => k.x ++ [⟨b11, 93, [.map (some m40)], true⟩, ⟨m40, 0, k.kv.map kvC, false⟩, ⟨b8, 76, [.int .i64 b.lead, .int .i64 b.thread, .int .i64 b.head, .int .i64 b.tl, .int .i64 b.th, .int .i64 b.hl, .int .i64 b.hh, .int .i64 b.sl, .int .i64 b.sh, .int .i64 b.pl, .int .i64 b.ph, .int .i64 b.yl, .int .i64 b.yh], true⟩, ⟨b5, 23, [.int .i64 wl, .int .i64 wh], true⟩]) (fun k => k.Inv b wl wh l k.k ∧ k.k ≤ l.length) (fun k => l.length - k.k) ⟨0, .slice none 0 0, [], []⟩ ⟨⟨OwnsV.nil 3 1, rfl⟩, Nat.zero_le _⟩ (Sub.cons rfl (Sub.cons rfl (Sub.cons rfl (Sub.cons rfl (Sub.cons rfl (Sub.cons rfl (Sub.cons rfl (Sub.nil _)))))))) (by show List.Sublist ([⟨b11, 93, [.map (some m40)], true⟩, ⟨m40, 0, [], false⟩, ⟨b8, 76, [.int .i64 b.lead, .int .i64 b.thread, .int .i64 b.head, .int .i64 b.tl, .int .i64 b.th, .int .i64 b.hl, .int .i64 b.hh, .int .i64 b.sl, .int .i64 b.sh, .int .i64 b.pl, .int .i64 b.ph, .int .i64 b.yl, .int .i64 b.yh], true⟩, ⟨b5, 23, [.int .i64 wl, .int .i64 wh], true⟩] : Hp) _; exact SubE.sub) (fun k hk => ?_)
          obtain ⟨k, v, x, kv⟩ := k
          dsimp only at hk ⊢
          obtain ⟨⟨ho, hkv⟩, hk⟩ := hk
          dsimp only at ho hkv
          have hil := idxL_lt b wl wh l k
          refine k_seq (k_region ?_)
          refine o_val (ex_lss rfl rfl) (o_nil ?_)
          refine k_seq (k_cond rfl (fun h_4 => ?_) (fun h_4 => ?_))
          ·
            have hlt : k < l.length := by have : (k : Int) < (l.length : Int) := of_decide_eq_true h_4; omega
            obtain ⟨a, hA, hc⟩ := hrow k hlt
            subst hA
            have hgd : l.getD k dW = l[k] := by simp [List.getD, List.getElem?_eq_getElem hlt]
            have hyo := Wa.chk_ok (hcs l[k] (List.getElem_mem hlt))
            have fb1 := refF_bounds hb l[k].kind (truth_fit hb hyo.toFit 3)
            have fb2 := refF_bounds hb l[k].kind (truth_fit hb hyo.toFit 236)
            rw [refF_3 (.inl rfl)] at fb1
            rw [refF_236] at fb2
            refine k_skip ?_
            refine k_seq (k_block ?_)
            refine k_seq (k_region ?_)
            refine o_val (ex_move rfl) ?_
            refine o_val (ex_index_old Try.runUnderlying41 Try.sizeOf47 rfl rfl (by omega) (by omega)) ?_
            refine o_val (ex_loadA_old Try.isAgg47 Try.sizeOf47 rfl rfl (vs := [.int .i64 l[k].kind, .int .i64 l[k].tl, .int .i64 l[k].th, .int .i64 l[k].al, .int .i64 l[k].ah, .int .i64 l[k].sl, .int .i64 l[k].sh]) hc (by simp)) ?_
            refine o_alloc Try.zeroValue47 (fun b13 => ?_)
            refine o_val (ex_assign rfl) ?_
            refine o_store Try.sizeOf47 rfl rfl (o_nil ?_)
            refine k_seq (k_region ?_)
            refine o_val (ex_loadA Try.isAgg76 Try.sizeOf76 rfl) ?_
            refine o_val (ex_loadA Try.isAgg47 Try.sizeOf47 rfl) ?_
            refine o_val (ex_call Try.call46 rfl (fun W hW => (by exact c46 b l[k] hb hyo))) ?_
            refine o_alloc Try.zeroValue23 (fun b14 => ?_)
            refine o_store Try.sizeOf23 rfl rfl (o_nil ?_)
            refine k_seq (k_region ?_)
            refine o_val (ex_loadA Try.isAgg76 Try.sizeOf76 rfl) ?_
            refine o_val (ex_loadA Try.isAgg23 Try.sizeOf23 rfl) ?_
            refine o_val (ex_loadA Try.isAgg23 Try.sizeOf23 rfl) ?_
            refine o_val (ex_call Try.call47 rfl (fun W hW => c47 b (b.fLo l[k]) (b.fHi l[k]) wl wh)) (o_nil ?_)
            refine k_cut (ι := BI) (fun r => [(5, .pointer (some ⟨b5, 0, none⟩)), (6, r.v), (8, .pointer (some ⟨b8, 0, none⟩)), (11, .pointer (some ⟨b11, 0, none⟩)), (41, .slice (some a) l.length c), (42, .int .i64 (l.length : Int)), (43, .int .i64 (r.k : Int))]) (fun r => r.x ++ [⟨b11, 93, [.map (some m40)], true⟩, ⟨m40, 0, r.kv.map kvC, false⟩, ⟨b8, 76, [.int .i64 b.lead, .int .i64 b.thread, .int .i64 b.head, .int .i64 b.tl, .int .i64 b.th, .int .i64 b.hl, .int .i64 b.hh, .int .i64 b.sl, .int .i64 b.sh, .int .i64 b.pl, .int .i64 b.ph, .int .i64 b.yl, .int .i64 b.yh], true⟩, ⟨b5, 23, [.int .i64 wl, .int .i64 wh], true⟩]) (fun r => r.Inv b wl wh l (k + 1) ∧ r.k = k) ?_ (fun r hr => ?_)
            · refine k_cond rfl (fun h_5 => ?_) (fun h_5 => ?_)
              ·
                have hfi : fineB b wl wh (l.getD k dW) = true := by rw [hgd]; exact h_5
                refine k_seq (k_region ?_)
                refine o_val (ex_move rfl) ?_
                refine o_val (ex_move rfl) ?_
                refine o_buildSlice [.int .i64 0] [(0, 1)] Try.runUnderlying42 Try.sizeOf3 Try.zeroValue3 rfl (fun b57 => ?_)
                refine o_append (bytes := 8) ho Try.underlying42 (by kernel_rfl) rfl rfl (by unfold maxLen; omega) (by omega) (fun v58 x58 o58 => ?_)
                refine o_val (ex_assign rfl) (o_nil ?_)
                refine k_region ?_
                refine o_val (ex_load Try.isAgg93 rfl rfl) ?_
                refine o_val (ex_move rfl) ?_
                refine o_val (ex_field (o := 0) 1 fa23_1 rfl rfl) ?_
                refine o_val (ex_load Try.isAgg3 rfl rfl) ?_
                refine o_val (ex_field (o := 0) 0 fa23_0 rfl rfl) ?_
                refine o_val (ex_load Try.isAgg3 rfl rfl) ?_
                refine o_val (ex_sub64 rfl rfl (by unfold I64; omega)) ?_
                refine o_mapPut (kv := kv) Try.runUnderlying93 Try.runUnderlying3 rfl rfl rfl (by rw [hkv, kvL_fst]; intro hm; have := hil.2 _ hm; omega) (o_nil ?_)
                exact k_some ⟨k, v58, x58, kv ++ [((k : Int), b.fHi l[k] - b.fLo l[k])]⟩ ⟨BI.Inv.yes hfi o58 (by rw [hgd, hkv]), rfl⟩ (Sub.cons rfl (Sub.cons rfl (Sub.cons rfl (Sub.cons rfl (Sub.cons rfl (Sub.cons rfl (Sub.cons rfl (Sub.nil _)))))))) SubE.sub
              ·
                have hfi : ¬ fineB b wl wh (l.getD k dW) = true := by rw [hgd]; unfold fineB; rw [h_5]; simp
                refine k_skip ?_
                exact k_some ⟨k, v, x, kv⟩ ⟨BI.Inv.no hfi ⟨ho, hkv⟩, rfl⟩ (Sub.cons rfl (Sub.cons rfl (Sub.cons rfl (Sub.cons rfl (Sub.cons rfl (Sub.cons rfl (Sub.cons rfl (Sub.nil _)))))))) SubE.sub
            obtain ⟨k2, u, z, kv2⟩ := r
            dsimp only at hr ⊢
            obtain ⟨hJ, rfl⟩ := hr
            refine k_region ?_
            refine o_val (ex_add64 rfl rfl (by unfold I64; omega)) ?_
            refine o_val (ex_move rfl) (o_nil ?_)
            exact k_some ⟨k2 + 1, u, z, kv2⟩ ⟨⟨⟨hJ.o, hJ.e⟩, hlt⟩, (by show l.length - (k2 + 1) < l.length - k2; omega)⟩ (Sub.cons rfl (Sub.cons rfl (Sub.cons rfl (Sub.cons rfl (Sub.cons rfl (Sub.cons rfl (Sub.cons rfl (Sub.nil _)))))))) SubE.sub
          ·
            have hkn : k = l.length := by have : ¬ (k : Int) < (l.length : Int) := of_decide_eq_false h_4; omega
            subst hkn
            have hbd : ∀ y, y ∈ l → -100000000000000000 ≤ b.fHi y - b.fLo y ∧ b.fHi y - b.fLo y ≤ 100000000000000000 := fun y hy => by
              have hyo := Wa.chk_ok (hcs y hy)
              have fb1 := refF_bounds hb y.kind (truth_fit hb hyo.toFit 3)
              have fb2 := refF_bounds hb y.kind (truth_fit hb hyo.toFit 236)
              rw [refF_3 (.inl rfl)] at fb1
              rw [refF_236] at fb2
              omega
            have hgb := kvGet_bound (kvL_bound wl wh hbd l.length (Nat.le_refl _))
            rw [← hkv] at hgb
            refine k_exit rfl ?_
            refine k_seq (k_region ?_)
            refine o_val (ex_move rfl) ?_
            refine o_val (ex_makeFunc rfl rfl) ?_
            refine o_sortO [⟨b11, 93, [.map (some m40)], true⟩, ⟨m40, 0, kv.map kvC, false⟩] (kvCmp kv) (idxL b wl wh l l.length) ho (by omega) rfl rfl Try.call49 (fun i j _ _ W hS => by exact c49 kv i j (cell_ent hS (b := b11) (o := 0) rfl) (map_at hS) hgb) (fun x69 o69 => o_nil ?_)
            refine k_seq (k_seq (k_region ?_))
            refine o_val (ex_move rfl) ?_
            refine o_val (ex_lenO o69 Try.runUnderlying42 rfl) ?_
            refine o_val (ex_eql rfl rfl) (o_nil ?_)
            refine k_cond rfl (fun h_5 => ?_) (fun h_5 => ?_)
            ·
              have hz : (idxL b wl wh l l.length).length = 0 := by have : (((idxL b wl wh l l.length).length : Nat) : Int) = 0 := of_decide_eq_true h_5; omega
              have hr : bestE b wl wh l = 7 := by unfold bestE; rw [if_pos he, if_neg hgt, if_pos hol, if_pos hsp, if_pos hz]
              rw [hr]
              refine k_seq (k_region ?_)
              refine o_val (ex_assign rfl) ?_
              refine o_val (ex_assign rfl) (o_nil ?_)
              refine k_ret ?_
              exact fin2 rfl rfl rfl fun W hW => ⟨_, rfl, freshNil (by unfold bestL; rw [hr]; rfl), hW.ext⟩
            ·
              have hz : ¬ (idxL b wl wh l l.length).length = 0 := by have : ¬ (((idxL b wl wh l l.length).length : Nat) : Int) = 0 := of_decide_eq_false h_5; omega
              have hr : bestE b wl wh l = 0 := by unfold bestE; rw [if_pos he, if_neg hgt, if_pos hol, if_pos hsp, if_neg hz]
              have hbl : bestL b wl wh l = (sortR (fun x y => decide (kvCmp kv x y < 0)) (idxL b wl wh l l.length)).reverse := by unfold bestL; rw [if_pos hr, hkv]
              have hlen : (bestL b wl wh l).length = (idxL b wl wh l l.length).length := by rw [hbl]; simp [sortR, sortR_len]
              rw [hr, hlen, hbl]
              refine k_skip ?_
              refine k_seq (k_region ?_)
              refine o_val (ex_move rfl) ?_
              refine o_val (ex_assign rfl) ?_
              refine o_val (ex_assign rfl) (o_nil ?_)
              refine k_ret ?_
              exact fin2 rfl rfl rfl fun W hW => ⟨_, rfl, o69.fresh hW, hW.ext⟩

end Go.Proofs.Yteecidddfcbabaa
