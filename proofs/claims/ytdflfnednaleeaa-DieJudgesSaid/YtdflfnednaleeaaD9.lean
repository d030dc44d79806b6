/- The walks of functions: what each call hands back, and that nothing that was there has turned. Printed by a program of this session (wip/tools/gen.py). -/
import Derived.Test.YtdflfnednaleeaaD8
namespace Go.Proofs.Ytdflfnednaleeaa
open Go
attribute [local irreducible] ExV Ex
set_option synthInstance.maxSize 2000
set_option synthInstance.maxHeartbeats 200000
set_option maxRecDepth 20000

def OpenB (t : To) (ws : List Sp) (os : List Od) (A : Option Addr) (c : Nat) (A2 : Option Addr) (v : Value) (x : Hp) : Prop :=
  ∃ v0 : Option Addr, v = .tuple #[.pointer v0, .int .i64 (chkE t ws os)] ∧ (chkE t ws os = 0 → ∃ b A3 c3 A4 c4, v0 = some ⟨b, 0, none⟩ ∧ ∀ W, (∀ e, e ∈ x → W.heap[e.b]? = some e.obj) → ElAt W A ws → ElAt W A2 os → ShopAt W b (openS t ws os) A A3 A4 c c3 c4)
theorem c63b (t : To) (ws : List Sp) {A : Option Addr} {c : Nat} (os : List Od) {A2 : Option Addr} {c2 : Nat} {w : World} (hws : ElAt w A ws) (hos : ElAt w A2 os) : Calls Try.prog 63 [.agg [.bool t.down, .int .i64 t.sl, .int .i64 t.sh, .int .i64 t.cl, .int .i64 t.ch, .slice A ws.length c].toArray, .slice A2 os.length c2].toArray w fun e w' => ∃ (v : Value) (x : Hp), e = .returned v ∧ OpenB t ws os A c A2 v x ∧ (∀ e, e ∈ x → w.heap.size ≤ e.b ∧ w'.heap[e.b]? = some e.obj) ∧ (x.map (·.b)).Nodup ∧ Ext [] w w' :=
  (c63 t ws os hws hos).mono fun e w' h => by
    obtain ⟨v, he, ho, hE⟩ := h
    rcases ho with ⟨hn, hv⟩ | ⟨h0, b, x, hv, hx, hnd, A3, c3, A4, c4, hop⟩
    · subst hv
      exact ⟨_, [], he, ⟨none, rfl, fun h => absurd h hn⟩, (fun e he => by cases he), List.Pairwise.nil, hE⟩
    · subst hv
      exact ⟨_, x, he, ⟨some ⟨b, 0, none⟩, rfl, fun _ => ⟨b, A3, c3, A4, c4, rfl, hop⟩⟩, hx, hnd, hE⟩
/-- What the program's functions answer. -/
def wearR (t : To) (ws : List Sp) (os : List Od) (f to : Int) : Sp × Int :=
  if ¬ chkE t ws os = 0 then (⟨0, 0⟩, chkE t ws os) else if (!wi 0 (allP (openS t ws os).os) [f, to] || decide (to < f)) = true then (⟨0, 0⟩, 3) else ((openS t ws os).wear f to, 0)
def targR (t : To) (ws : List Sp) (os : List Od) (f to : Int) : Sp × Int :=
  if ¬ chkE t ws os = 0 then (⟨0, 0⟩, chkE t ws os) else if (!wi 0 (allP (openS t ws os).os) [f, to] || decide (to ≤ f)) = true then (⟨0, 0⟩, 3) else if (openS t ws os).can f to = false then (⟨0, 0⟩, 9) else (turnS (openS t ws os).down ((openS t ws os).tg f to), 0)
def reachR (t : To) (ws : List Sp) (os : List Od) (f : Int) : Int × Int :=
  if ¬ chkE t ws os = 0 then (0, chkE t ws os) else if wi 0 (allP (openS t ws os).os - 1) [f] = false then (0, 3) else ((openS t ws os).reach f, 0)

-- == f18 acme/die.Wear params [26, 27, 3, 3] results [23, 33] in [('cell', ['8', '23']), ('tmp', ['9'])] ntmps 38 nfree 0
theorem c18 (t : To) (ws : List Sp) {A : Option Addr} {c : Nat} (os : List Od) {A2 : Option Addr} {c2 : Nat} (f to : Int) {w : World} (hws : ElAt w A ws) (hos : ElAt w A2 os) : Calls Try.prog 18 [.agg [.bool t.down, .int .i64 t.sl, .int .i64 t.sh, .int .i64 t.cl, .int .i64 t.ch, .slice A ws.length c].toArray, .slice A2 os.length c2, .int .i64 f, .int .i64 to].toArray w fun e w' => e = .returned (.tuple #[.agg [.int .i64 (wearR t ws os f to).1.lo, .int .i64 (wearR t ws os f to).1.hi].toArray, .int .i64 (wearR t ws os f to).2]) ∧ Ext [] w w' := by
  refine fn_start Try.func18 rfl (N := 38) rfl ?_
  refine k_seq (k_region ?_)
  refine o_box rfl (fun b4 => ?_)
  refine o_alloc Try.zeroValue23 (fun b8 => ?_)
  refine o_val (ex_assign rfl) (o_nil ?_)
  refine k_seq (k_region ?_)
  refine o_val (ex_loadA Try.isAgg26 Try.sizeOf26 rfl) ?_
  refine o_val (ex_move rfl) ?_
  refine o_callB Try.call63 rfl (fun W hW => c63b t ws os (c := c) (c2 := c2) (hws.ext hW.ext) (hos.ext hW.ext)) (fun v14 x14 o14 => ?_)
  obtain ⟨v0, e14, op14⟩ := o14
  subst e14
  refine o_val (ex_move rfl) ?_
  refine o_val (ex_extract rfl rfl) ?_
  refine o_val (ex_extract rfl rfl) ?_
  refine o_val (ex_assign rfl) ?_
  refine o_val (ex_assign rfl) (o_nil ?_)
  refine k_seq (k_block ?_)
  refine k_seq (k_region ?_)
  refine o_val (ex_move rfl) ?_
  refine o_val (ex_neq rfl rfl) ?_
  refine o_val (ex_assign rfl) (o_nil ?_)
  refine k_cond rfl (fun h => ?_) (fun h => ?_)
  ·
    have hn : ¬ chkE t ws os = 0 := fun e => by simp [e] at h
    refine k_seq (k_region ?_)
    refine o_val (ex_loadA Try.isAgg23 Try.sizeOf23 rfl) ?_
    refine o_val (ex_move rfl) ?_
    refine o_store Try.sizeOf23 rfl rfl ?_
    refine o_val (ex_assign rfl) (o_nil ?_)
    refine k_ret ?_
    exact finC1 rfl Try.isAgg23 Try.sizeOf23 rfl rfl rfl fun W hW => ⟨by rw [show wearR t ws os f to = (⟨0, 0⟩, chkE t ws os) from if_pos hn], hW.ext⟩
  ·
    have hok : chkE t ws os = 0 := by simpa using h
    have hS := openS_ok hok
    have hall := hS.all
    obtain ⟨b, A3, c3, A4, c4, rfl, hop⟩ := op14 hok
    have hsh : ∀ {W : World} {H' : Hp}, Sat w [] H' W → x14.Sublist H' → ShopAt W b (openS t ws os) A A3 A4 c c3 c4 := fun hW hs => hop _ (fun e he => hW.at_ e (hs.subset he)) (hws.ext hW.ext) (hos.ext hW.ext)
    refine k_seq (k_seq (k_region ?_))
    refine o_val (ex_move rfl) ?_
    refine o_val (ex_call Try.call64 rfl (fun W hW => all64 hS (hsh hW (List.sublist_append_left _ _)))) ?_
    refine o_val (ex_move rfl) ?_
    refine o_val (ex_move rfl) ?_
    refine o_buildSlice [.int .i64 0, .int .i64 0] [(0, 1), (1, 1)] Try.runUnderlying52 Try.sizeOf3 Try.zeroValue3 rfl (fun b27 => ?_)
    refine o_val (ex_call Try.call60 rfl (fun W hW => c60 0 (allP (openS t ws os).os) [f, to] (by simp) (el_ent hW b27 [f, to] rfl))) ?_
    refine o_val (ex_not rfl) ?_
    refine o_val (ex_assign rfl) (o_nil ?_)
    refine k_cut (ι := Unit) (fun _ => [(2, .int .i64 f), (3, .int .i64 to), (8, .pointer (some ⟨b8, 0, none⟩)), (10, .pointer (some ⟨b, 0, none⟩)), (22, .bool (!wi 0 (allP (openS t ws os).os) [f, to] || decide (to < f)))]) (fun _ => x14 ++ [⟨b8, 23, [.int .i64 0, .int .i64 0], true⟩]) (fun _ => True) ?_ (fun _ _ => ?_)
    · refine k_cond rfl (fun h_1 => ?_) (fun h_1 => ?_)
      ·
        refine k_skip ?_
        exact k_some () trivial (Sub.cons rfl (Sub.cons rfl (Sub.cons rfl (Sub.cons rfl (Sub.cons' rfl (by simp [h_1]) (Sub.nil _)))))) (by show List.Sublist (x14 ++ ([⟨b8, 23, [.int .i64 0, .int .i64 0], true⟩] : Hp)) _; exact SubE.sub)
      ·
        refine k_region ?_
        refine o_val (ex_move rfl) ?_
        refine o_val (ex_move rfl) ?_
        refine o_val (ex_gtr rfl rfl) ?_
        refine o_val (ex_assign rfl) (o_nil ?_)
        exact k_some () trivial (Sub.cons rfl (Sub.cons rfl (Sub.cons rfl (Sub.cons rfl (Sub.cons' rfl (by simp [h_1]) (Sub.nil _)))))) (by show List.Sublist (x14 ++ ([⟨b8, 23, [.int .i64 0, .int .i64 0], true⟩] : Hp)) _; exact SubE.sub)
    refine k_cond rfl (fun h_1 => ?_) (fun h_1 => ?_)
    ·
      refine k_seq (k_region ?_)
      refine o_val (ex_loadA Try.isAgg23 Try.sizeOf23 rfl) ?_
      refine o_store Try.sizeOf23 rfl rfl ?_
      refine o_val (ex_assign rfl) (o_nil ?_)
      refine k_ret ?_
      exact finC1 rfl Try.isAgg23 Try.sizeOf23 rfl rfl rfl fun W hW => ⟨by rw [show wearR t ws os f to = (⟨0, 0⟩, 3) from (if_neg (by simp [hok])).trans (if_pos h_1)], hW.ext⟩
    ·
      have hb : ¬ (!wi 0 (allP (openS t ws os).os) [f, to] || decide (to < f)) = true := by rw [h_1]; decide
      have hw2 : wi 0 (allP (openS t ws os).os) [f, to] = true := by simp at h_1; exact h_1.1
      rw [wi_two, decide_eq_true_eq] at hw2
      refine k_skip ?_
      refine k_seq (k_region ?_)
      refine o_val (ex_move rfl) ?_
      refine o_val (ex_move rfl) ?_
      refine o_val (ex_move rfl) ?_
      refine o_val (ex_call Try.call65 rfl (fun W hW => c65 (openS t ws os) f to hS (by omega) (by omega) (hsh hW (List.sublist_append_left _ _)))) ?_
      refine o_store Try.sizeOf23 rfl rfl ?_
      refine o_val (ex_assign rfl) (o_nil ?_)
      refine k_ret ?_
      exact finC1 rfl Try.isAgg23 Try.sizeOf23 rfl rfl rfl fun W hW => ⟨by rw [show wearR t ws os f to = _ from (if_neg (by simp [hok])).trans (if_neg hb)], hW.ext⟩

-- == f19 acme/die.Targets params [26, 27, 3, 3] results [23, 33] in [('cell', ['8', '23']), ('tmp', ['9'])] ntmps 47 nfree 0
theorem c19 (t : To) (ws : List Sp) {A : Option Addr} {c : Nat} (os : List Od) {A2 : Option Addr} {c2 : Nat} (f to : Int) {w : World} (hws : ElAt w A ws) (hos : ElAt w A2 os) : Calls Try.prog 19 [.agg [.bool t.down, .int .i64 t.sl, .int .i64 t.sh, .int .i64 t.cl, .int .i64 t.ch, .slice A ws.length c].toArray, .slice A2 os.length c2, .int .i64 f, .int .i64 to].toArray w fun e w' => e = .returned (.tuple #[.agg [.int .i64 (targR t ws os f to).1.lo, .int .i64 (targR t ws os f to).1.hi].toArray, .int .i64 (targR t ws os f to).2]) ∧ Ext [] w w' := by
  refine fn_start Try.func19 rfl (N := 47) rfl ?_
  refine k_seq (k_region ?_)
  refine o_box rfl (fun b4 => ?_)
  refine o_alloc Try.zeroValue23 (fun b8 => ?_)
  refine o_val (ex_assign rfl) (o_nil ?_)
  refine k_seq (k_region ?_)
  refine o_val (ex_loadA Try.isAgg26 Try.sizeOf26 rfl) ?_
  refine o_val (ex_move rfl) ?_
  refine o_callB Try.call63 rfl (fun W hW => c63b t ws os (c := c) (c2 := c2) (hws.ext hW.ext) (hos.ext hW.ext)) (fun v14 x14 o14 => ?_)
  obtain ⟨v0, e14, op14⟩ := o14
  subst e14
  refine o_val (ex_move rfl) ?_
  refine o_val (ex_extract rfl rfl) ?_
  refine o_val (ex_extract rfl rfl) ?_
  refine o_val (ex_assign rfl) ?_
  refine o_val (ex_assign rfl) (o_nil ?_)
  refine k_seq (k_block ?_)
  refine k_seq (k_region ?_)
  refine o_val (ex_move rfl) ?_
  refine o_val (ex_neq rfl rfl) ?_
  refine o_val (ex_assign rfl) (o_nil ?_)
  refine k_cond rfl (fun h => ?_) (fun h => ?_)
  ·
    have hn : ¬ chkE t ws os = 0 := fun e => by simp [e] at h
    refine k_seq (k_region ?_)
    refine o_val (ex_loadA Try.isAgg23 Try.sizeOf23 rfl) ?_
    refine o_val (ex_move rfl) ?_
    refine o_store Try.sizeOf23 rfl rfl ?_
    refine o_val (ex_assign rfl) (o_nil ?_)
    refine k_ret ?_
    exact finC1 rfl Try.isAgg23 Try.sizeOf23 rfl rfl rfl fun W hW => ⟨by rw [show targR t ws os f to = (⟨0, 0⟩, chkE t ws os) from if_pos hn], hW.ext⟩
  ·
    have hok : chkE t ws os = 0 := by simpa using h
    have hS := openS_ok hok
    have hall := hS.all
    obtain ⟨b, A3, c3, A4, c4, rfl, hop⟩ := op14 hok
    have hsh : ∀ {W : World} {H' : Hp}, Sat w [] H' W → x14.Sublist H' → ShopAt W b (openS t ws os) A A3 A4 c c3 c4 := fun hW hs => hop _ (fun e he => hW.at_ e (hs.subset he)) (hws.ext hW.ext) (hos.ext hW.ext)
    refine k_seq (k_seq (k_region ?_))
    refine o_val (ex_move rfl) ?_
    refine o_val (ex_call Try.call64 rfl (fun W hW => all64 hS (hsh hW (List.sublist_append_left _ _)))) ?_
    refine o_val (ex_move rfl) ?_
    refine o_val (ex_move rfl) ?_
    refine o_buildSlice [.int .i64 0, .int .i64 0] [(0, 1), (1, 1)] Try.runUnderlying52 Try.sizeOf3 Try.zeroValue3 rfl (fun b27 => ?_)
    refine o_val (ex_call Try.call60 rfl (fun W hW => c60 0 (allP (openS t ws os).os) [f, to] (by simp) (el_ent hW b27 [f, to] rfl))) ?_
    refine o_val (ex_not rfl) ?_
    refine o_val (ex_assign rfl) (o_nil ?_)
    refine k_cut (ι := Unit) (fun _ => [(2, .int .i64 f), (3, .int .i64 to), (8, .pointer (some ⟨b8, 0, none⟩)), (10, .pointer (some ⟨b, 0, none⟩)), (22, .bool (!wi 0 (allP (openS t ws os).os) [f, to] || decide (to ≤ f)))]) (fun _ => x14 ++ [⟨b8, 23, [.int .i64 0, .int .i64 0], true⟩]) (fun _ => True) ?_ (fun _ _ => ?_)
    · refine k_cond rfl (fun h_1 => ?_) (fun h_1 => ?_)
      ·
        refine k_skip ?_
        exact k_some () trivial (Sub.cons rfl (Sub.cons rfl (Sub.cons rfl (Sub.cons rfl (Sub.cons' rfl (by simp [h_1]) (Sub.nil _)))))) (by show List.Sublist (x14 ++ ([⟨b8, 23, [.int .i64 0, .int .i64 0], true⟩] : Hp)) _; exact SubE.sub)
      ·
        refine k_region ?_
        refine o_val (ex_move rfl) ?_
        refine o_val (ex_move rfl) ?_
        refine o_val (ex_geq rfl rfl) ?_
        refine o_val (ex_assign rfl) (o_nil ?_)
        exact k_some () trivial (Sub.cons rfl (Sub.cons rfl (Sub.cons rfl (Sub.cons rfl (Sub.cons' rfl (by simp [h_1]) (Sub.nil _)))))) (by show List.Sublist (x14 ++ ([⟨b8, 23, [.int .i64 0, .int .i64 0], true⟩] : Hp)) _; exact SubE.sub)
    refine k_cond rfl (fun h_1 => ?_) (fun h_1 => ?_)
    ·
      refine k_seq (k_region ?_)
      refine o_val (ex_loadA Try.isAgg23 Try.sizeOf23 rfl) ?_
      refine o_store Try.sizeOf23 rfl rfl ?_
      refine o_val (ex_assign rfl) (o_nil ?_)
      refine k_ret ?_
      exact finC1 rfl Try.isAgg23 Try.sizeOf23 rfl rfl rfl fun W hW => ⟨by rw [show targR t ws os f to = (⟨0, 0⟩, 3) from (if_neg (by simp [hok])).trans (if_pos h_1)], hW.ext⟩
    ·
      have hb : ¬ (!wi 0 (allP (openS t ws os).os) [f, to] || decide (to ≤ f)) = true := by rw [h_1]; decide
      have hw2 : wi 0 (allP (openS t ws os).os) [f, to] = true := by simp at h_1; exact h_1.1
      rw [wi_two, decide_eq_true_eq] at hw2
      have hft : f < to := by simp at h_1; omega
      refine k_seq (k_region ?_)
      refine o_val (ex_move rfl) ?_
      refine o_val (ex_move rfl) ?_
      refine o_val (ex_move rfl) ?_
      refine o_val (ex_call Try.call66 rfl (fun W hW => c66 (openS t ws os) f to hS (by omega) (by omega) (hsh hW (List.sublist_append_left _ _)))) ?_
      refine o_val (ex_not rfl) ?_
      refine o_val (ex_assign rfl) (o_nil ?_)
      refine k_cond rfl (fun h_2 => ?_) (fun h_2 => ?_)
      ·
        have hcn : (openS t ws os).can f to = false := by simpa using h_2
        refine k_seq (k_region ?_)
        refine o_val (ex_loadA Try.isAgg23 Try.sizeOf23 rfl) ?_
        refine o_store Try.sizeOf23 rfl rfl ?_
        refine o_val (ex_assign rfl) (o_nil ?_)
        refine k_ret ?_
        exact finC1 rfl Try.isAgg23 Try.sizeOf23 rfl rfl rfl fun W hW => ⟨by rw [show targR t ws os f to = (⟨0, 0⟩, 9) from (if_neg (by simp [hok])).trans ((if_neg hb).trans (if_pos hcn))], hW.ext⟩
      ·
        have hcn : ¬ (openS t ws os).can f to = false := by rw [show (openS t ws os).can f to = true by simpa using h_2]; decide
        have htb := tgS_bound hS f to (openS t ws os).os.length (Nat.le_refl _)
        refine k_skip ?_
        refine k_seq (k_region ?_)
        refine o_val (ex_move rfl) ?_
        refine o_val (ex_move rfl) ?_
        refine o_val (ex_move rfl) ?_
        refine o_val (ex_move rfl) ?_
        refine o_val (ex_call Try.call68 rfl (fun W hW => c68 (openS t ws os) f to hS (by omega) (by omega) (hsh hW (List.sublist_append_left _ _)))) ?_
        refine o_val (ex_call Try.call67 rfl (fun W hW => c67 (openS t ws os) _ _ (by unfold I64 Sh.tg; dsimp only; omega) (by unfold I64 Sh.tg; dsimp only; omega) (hsh hW (List.sublist_append_left _ _)))) ?_
        refine o_store Try.sizeOf23 rfl rfl ?_
        refine o_val (ex_assign rfl) (o_nil ?_)
        refine k_ret ?_
        exact finC1 rfl Try.isAgg23 Try.sizeOf23 rfl rfl rfl fun W hW => ⟨by rw [show targR t ws os f to = _ from (if_neg (by simp [hok])).trans ((if_neg hb).trans (if_neg hcn))], hW.ext⟩

-- == f25 acme/die.Reach params [26, 27, 3] results [3, 33] in [('tmp', ['6']), ('tmp', ['7'])] ntmps 30 nfree 0
theorem c25 (t : To) (ws : List Sp) {A : Option Addr} {c : Nat} (os : List Od) {A2 : Option Addr} {c2 : Nat} (f : Int) {w : World} (hws : ElAt w A ws) (hos : ElAt w A2 os) : Calls Try.prog 25 [.agg [.bool t.down, .int .i64 t.sl, .int .i64 t.sh, .int .i64 t.cl, .int .i64 t.ch, .slice A ws.length c].toArray, .slice A2 os.length c2, .int .i64 f].toArray w fun e w' => e = .returned (.tuple #[.int .i64 (reachR t ws os f).1, .int .i64 (reachR t ws os f).2]) ∧ Ext [] w w' := by
  refine fn_start Try.func25 rfl (N := 30) rfl ?_
  refine k_seq (k_region ?_)
  refine o_box rfl (fun b3 => ?_)
  refine o_val (ex_assign rfl) ?_
  refine o_val (ex_assign rfl) (o_nil ?_)
  refine k_seq (k_region ?_)
  refine o_val (ex_loadA Try.isAgg26 Try.sizeOf26 rfl) ?_
  refine o_val (ex_move rfl) ?_
  refine o_callB Try.call63 rfl (fun W hW => c63b t ws os (c := c) (c2 := c2) (hws.ext hW.ext) (hos.ext hW.ext)) (fun v12 x12 o12 => ?_)
  obtain ⟨v0, e12, op12⟩ := o12
  subst e12
  refine o_val (ex_move rfl) ?_
  refine o_val (ex_extract rfl rfl) ?_
  refine o_val (ex_extract rfl rfl) ?_
  refine o_val (ex_assign rfl) ?_
  refine o_val (ex_assign rfl) (o_nil ?_)
  refine k_seq (k_block ?_)
  refine k_seq (k_region ?_)
  refine o_val (ex_move rfl) ?_
  refine o_val (ex_neq rfl rfl) ?_
  refine o_val (ex_assign rfl) (o_nil ?_)
  refine k_cond rfl (fun h => ?_) (fun h => ?_)
  ·
    have hn : ¬ chkE t ws os = 0 := fun e => by simp [e] at h
    refine k_seq (k_region ?_)
    refine o_val (ex_move rfl) ?_
    refine o_val (ex_assign rfl) ?_
    refine o_val (ex_assign rfl) (o_nil ?_)
    refine k_ret ?_
    exact fin2 rfl rfl rfl fun W hW => ⟨by rw [show reachR t ws os f = (0, chkE t ws os) from if_pos hn], hW.ext⟩
  ·
    have hok : chkE t ws os = 0 := by simpa using h
    have hS := openS_ok hok
    have hall := hS.all
    obtain ⟨b, A3, c3, A4, c4, rfl, hop⟩ := op12 hok
    have hsh : ∀ {W : World} {H' : Hp}, Sat w [] H' W → x12.Sublist H' → ShopAt W b (openS t ws os) A A3 A4 c c3 c4 := fun hW hs => hop _ (fun e he => hW.at_ e (hs.subset he)) (hws.ext hW.ext) (hos.ext hW.ext)
    refine k_seq (k_region ?_)
    refine o_val (ex_move rfl) ?_
    refine o_val (ex_call Try.call64 rfl (fun W hW => all64 hS (hsh hW (List.sublist_append_left _ _)))) ?_
    refine o_val (ex_sub64 rfl rfl (by unfold I64; omega)) ?_
    refine o_val (ex_move rfl) ?_
    refine o_buildSlice [.int .i64 0] [(0, 1)] Try.runUnderlying52 Try.sizeOf3 Try.zeroValue3 rfl (fun b24 => ?_)
    refine o_val (ex_call Try.call60 rfl (fun W hW => c60 0 ((allP (openS t ws os).os) - 1) [f] (by simp) (el_ent hW b24 [f] rfl))) ?_
    refine o_val (ex_not rfl) ?_
    refine o_val (ex_assign rfl) (o_nil ?_)
    refine k_cond rfl (fun h_1 => ?_) (fun h_1 => ?_)
    ·
      refine k_seq (k_region ?_)
      refine o_val (ex_assign rfl) ?_
      refine o_val (ex_assign rfl) (o_nil ?_)
      refine k_ret ?_
      exact fin2 rfl rfl rfl fun W hW => ⟨by rw [show reachR t ws os f = (0, 3) from (if_neg (by simp [hok])).trans (if_pos (by simpa using h_1))], hW.ext⟩
    ·
      have hw1 : wi 0 ((allP (openS t ws os).os) - 1) [f] = true := by simpa using h_1
      have hb : ¬ wi 0 ((allP (openS t ws os).os) - 1) [f] = false := by rw [hw1]; decide
      rw [wi_one, decide_eq_true_eq] at hw1
      refine k_skip ?_
      refine k_seq (k_region ?_)
      refine o_val (ex_move rfl) ?_
      refine o_val (ex_move rfl) ?_
      refine o_val (ex_call Try.call71 rfl (fun W hW => c71 (openS t ws os) f hS (by omega) (hsh hW (List.Sublist.cons _ (List.sublist_append_left _ _))))) ?_
      refine o_val (ex_assign rfl) ?_
      refine o_val (ex_assign rfl) (o_nil ?_)
      refine k_ret ?_
      exact fin2 rfl rfl rfl fun W hW => ⟨by rw [show reachR t ws os f = _ from (if_neg (by simp [hok])).trans (if_neg hb)], hW.ext⟩

end Go.Proofs.Ytdflfnednaleeaa
