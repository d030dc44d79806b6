/- The walks of functions: what each call hands back, and that nothing that was there has turned. Printed by a program of this session (wip/tools/gen.py). -/
import Derived.Test.YtdflfnednaleeaaD2
namespace Go.Proofs.Ytdflfnednaleeaa
open Go
attribute [local irreducible] ExV Ex
set_option synthInstance.maxSize 2000
set_option synthInstance.maxHeartbeats 200000
set_option maxRecDepth 20000

/-- A tool, but for what wears it. -/
structure To where
  (down : Bool) (sl sh cl ch : Int)
def toolE (t : To) (ws : List Sp) : Int :=
  if 8 < ws.length then 5 else if decide (ws.length = 0) || !isSp t.sl t.sh (-1000000) 1000000 || !isSp t.cl t.ch (-1000000) 1000000 || ws.any (fun s => !isSp s.lo s.hi 0 100000) then 2 else 0
/-- The error of one order, of a tool of n steels. -/
def odE (n : Nat) (o : Od) : Int := if !wi 1 10000 [o.pc] || !isSp o.zl o.zh 0 10000000000 then 2 else if wi 0 ((n : Int) - 1) [o.st] then 0 else 7
/-- The first that is not 0, or 0. -/
def firstE {α : Type} (f : α → Int) : List α → Int
  | [] => 0
  | x :: r => if f x = 0 then firstE f r else f x
theorem firstE_at {α : Type} (f : α → Int) : ∀ (l : List α) (k : Nat) (h : k < l.length), (∀ x, x ∈ l.take k → f x = 0) → ¬ f l[k] = 0 → firstE f l = f l[k]
  | x :: r, 0, _, _, h => by simp only [List.getElem_cons_zero] at h ⊢; simp only [firstE, if_neg h]
  | x :: r, k + 1, hk, h, hn => by
    have h0 := h x (by simp)
    simp only [firstE, if_pos h0]
    exact firstE_at f r k (by simpa using hk) (fun y hy => h y (by simp [hy])) (by simpa using hn)
theorem firstE_zero {α : Type} (f : α → Int) : ∀ l : List α, firstE f l = 0 ↔ ∀ x, x ∈ l → f x = 0
  | [] => by simp [firstE]
  | x :: r => by
    unfold firstE
    by_cases h : f x = 0
    · rw [if_pos h, firstE_zero f r]; simp [h]
    · rw [if_neg h]; simp [h]
def chkE (t : To) (ws : List Sp) (os : List Od) : Int :=
  if toolE t ws = 5 then 5 else if 40 < os.length then 5 else if toolE t ws = 0 then (if firstE (odE ws.length) os = 0 then (if os.length = 0 then 2 else 0) else firstE (odE ws.length) os) else toolE t ws
theorem take_all {α : Type} {p : α → Prop} {l : List α} {k : Nat} (hk : k < l.length) (h : ∀ x, x ∈ l.take k → p x) (h1 : p l[k]) : ∀ x, x ∈ l.take (k + 1) → p x := fun x hx => by
  rw [List.take_succ_eq_append_getElem hk] at hx
  rcases List.mem_append.1 hx with hx | hx
  · exact h x hx
  · rw [List.mem_singleton.1 hx]; exact h1

-- == f62 acme/die.hasSteel params [26, 3] results [33] in [('tmp', ['4'])] ntmps 13 nfree 0
theorem c62 (t : To) (ws : List Sp) {A : Option Addr} {c : Nat} (st : Int) {w : World} (hlw : ws.length < 4611686018427387904) : Calls Try.prog 62 [.agg [.bool t.down, .int .i64 t.sl, .int .i64 t.sh, .int .i64 t.cl, .int .i64 t.ch, .slice A ws.length c].toArray, .int .i64 st].toArray w fun e w' => e = .returned (.int .i64 (if wi 0 ((ws.length : Int) - 1) [st] then 0 else 7)) ∧ Ext [] w w' := by
  refine fn_start Try.func62 rfl (N := 13) rfl ?_
  refine k_seq (k_region ?_)
  refine o_box rfl (fun b2 => ?_)
  refine o_val (ex_assign rfl) (o_nil ?_)
  refine k_seq (k_seq (k_region ?_))
  refine o_val (ex_field (o := 0) 5 fa26_3 rfl rfl) ?_
  refine o_val (ex_load Try.isAgg24 rfl rfl) ?_
  refine o_val (ex_len Try.runUnderlying24 rfl) ?_
  refine o_val (ex_sub64 rfl rfl (by unfold I64; omega)) ?_
  refine o_val (ex_move rfl) ?_
  refine o_buildSlice [.int .i64 0] [(0, 1)] Try.runUnderlying52 Try.sizeOf3 Try.zeroValue3 rfl (fun b10 => ?_)
  refine o_val (ex_call Try.call60 rfl (fun W hW => (by exact c60 0 ((ws.length : Int) - 1) [st] (by simp) (el_ent hW b10 [st] rfl)))) ?_
  refine o_val (ex_not rfl) (o_nil ?_)
  refine k_cond rfl (fun h => ?_) (fun h => ?_)
  ·
    refine k_seq (k_region ?_)
    refine o_val (ex_assign rfl) (o_nil ?_)
    refine k_ret ?_
    exact fin1 rfl rfl fun W hW => ⟨by rw [if_neg (notT h)], hW.ext⟩
  ·
    refine k_skip ?_
    refine k_seq (k_region ?_)
    refine o_val (ex_assign rfl) (o_nil ?_)
    refine k_ret ?_
    exact fin1 rfl rfl fun W hW => ⟨by rw [if_pos (by simpa using h)], hW.ext⟩

-- == f59 acme/die.checkTool params [26] results [33] in [('tmp', ['2'])] ntmps 31 nfree 0
theorem c59 (t : To) (ws : List Sp) {A : Option Addr} {c : Nat} {w : World} (hws : ElAt w A ws) : Calls Try.prog 59 [.agg [.bool t.down, .int .i64 t.sl, .int .i64 t.sh, .int .i64 t.cl, .int .i64 t.ch, .slice A ws.length c].toArray].toArray w fun e w' => e = .returned (.int .i64 (toolE t ws)) ∧ Ext [] w w' := by
  refine fn_start Try.func59 rfl (N := 31) rfl ?_
  refine k_seq (k_region ?_)
  refine o_box rfl (fun b1 => ?_)
  refine o_val (ex_assign rfl) (o_nil ?_)
  refine k_seq (k_seq (k_region ?_))
  refine o_val (ex_field (o := 0) 5 fa26_3 rfl rfl) ?_
  refine o_val (ex_load Try.isAgg24 rfl rfl) ?_
  refine o_val (ex_len Try.runUnderlying24 rfl) ?_
  refine o_val (ex_gtr rfl rfl) (o_nil ?_)
  refine k_cond rfl (fun h => ?_) (fun h => ?_)
  ·
    refine k_seq (k_region ?_)
    refine o_val (ex_assign rfl) (o_nil ?_)
    refine k_ret ?_
    exact fin1 rfl rfl fun W hW => ⟨by unfold toolE; rw [if_pos (by have : (8 : Int) < (ws.length : Int) := of_decide_eq_true h; omega)], hW.ext⟩
  ·
    have h8 : ¬ 8 < ws.length := by have : ¬ (8 : Int) < (ws.length : Int) := of_decide_eq_false h; omega
    refine k_skip ?_
    refine k_seq (k_region ?_)
    refine o_val (ex_assign rfl) (o_nil ?_)
    refine k_seq (k_seq (k_region ?_))
    refine o_val (ex_field (o := 0) 5 fa26_3 rfl rfl) ?_
    refine o_val (ex_load Try.isAgg24 rfl rfl) ?_
    refine o_val (ex_len Try.runUnderlying24 rfl) ?_
    refine o_val (ex_eql rfl rfl) ?_
    refine o_val (ex_move rfl) ?_
    refine o_or 5 (c := !isSp t.sl t.sh (-1000000) 1000000) (fun h => ?_) ?_
    · refine o_val_g (ex_move rfl) ?_
      refine o_val_g (ex_field (o := 0) 1 fa26_1 rfl rfl) ?_
      refine o_val_g (ex_loadA Try.isAgg23 Try.sizeOf23 rfl) ?_
      refine o_val_g (ex_callV Try.call87 rfl rfl (fun W hW => c87 t.sl t.sh)) ?_
      exact o_val_g (ex_not rfl) (o_nil (got rfl (.refl _)))
    refine o_val (ex_move rfl) ?_
    refine o_or 5 (c := !isSp t.cl t.ch (-1000000) 1000000) (fun h => ?_) ?_
    · refine o_val_g (ex_move rfl) ?_
      refine o_val_g (ex_field (o := 0) 3 fa26_2 rfl rfl) ?_
      refine o_val_g (ex_loadA Try.isAgg23 Try.sizeOf23 rfl) ?_
      refine o_val_g (ex_callV Try.call87 rfl rfl (fun W hW => c87 t.cl t.ch)) ?_
      exact o_val_g (ex_not rfl) (o_nil (got rfl (.refl _)))
    refine o_val (ex_move rfl) ?_
    refine o_or 3 (c := ws.any (fun s => !isSp s.lo s.hi 0 100000)) (fun h => ?_) (o_nil ?_)
    · refine o_val_g (ex_field (o := 0) 5 fa26_3 rfl rfl) ?_
      refine o_val_g (ex_load Try.isAgg24 rfl rfl) ?_
      exact o_val_g (ex_call Try.call88 rfl (fun W hW => (by exact c88 (g := 89) (cap := []) (fun s => !isSp s.lo s.hi 0 100000) ws (by omega) Try.call89 (hws.ext hW.ext) (fun s _ W1 _ => c89 s.lo s.hi)))) (o_nil (got rfl (.refl _)))
    refine k_cond rfl (fun h_1 => ?_) (fun h_1 => ?_)
    ·
      refine k_seq (k_region ?_)
      refine o_val (ex_assign rfl) (o_nil ?_)
      refine k_ret ?_
      exact fin1 rfl rfl fun W hW => ⟨by unfold toolE; rw [if_neg h8, if_pos (by rw [← h_1]; congr 3; rw [Bool.eq_iff_iff, decide_eq_true_eq, decide_eq_true_eq]; omega)], hW.ext⟩
    ·
      refine k_skip ?_
      refine k_seq (k_region ?_)
      refine o_val (ex_assign rfl) (o_nil ?_)
      refine k_ret ?_
      exact fin1 rfl rfl fun W hW => ⟨by unfold toolE; rw [if_neg h8, if_neg (by rw [Bool.not_eq_true, ← h_1]; congr 3; rw [Bool.eq_iff_iff, decide_eq_true_eq, decide_eq_true_eq]; omega)], hW.ext⟩

/-- What a valid tool is. -/
structure ToOk (t : To) (ws : List Sp) : Prop where
  (n1 : 1 ≤ ws.length) (n8 : ws.length ≤ 8) (s : t.sl ≤ t.sh ∧ -1000000 ≤ t.sl ∧ t.sh ≤ 1000000) (c : t.cl ≤ t.ch ∧ -1000000 ≤ t.cl ∧ t.ch ≤ 1000000) (w : ∀ s, s ∈ ws → s.lo ≤ s.hi ∧ 0 ≤ s.lo ∧ s.hi ≤ 100000)
theorem toolE_ok {t : To} {ws : List Sp} : toolE t ws = 0 ↔ ToOk t ws := by
  unfold toolE
  constructor
  · intro h
    split at h
    · cases h
    · split at h
      · cases h
      · rename_i h8 h2
        simp only [Bool.or_eq_true, not_or, Bool.not_eq_true', decide_eq_true_eq, Bool.not_eq_false, List.any_eq_true, not_exists, not_and] at h2
        obtain ⟨⟨⟨h3, h4⟩, h5⟩, h6⟩ := h2
        exact ⟨by omega, by omega, isSp_iff.1 h4, isSp_iff.1 h5, fun s hs => isSp_iff.1 (by simpa using h6 s hs)⟩
  · intro h
    rw [if_neg (by have := h.n8; omega), if_neg]
    simp only [Bool.or_eq_true, not_or, Bool.not_eq_true', decide_eq_true_eq, Bool.not_eq_false, List.any_eq_true, not_exists, not_and]
    exact ⟨⟨⟨by have := h.n1; omega, isSp_iff.2 h.s⟩, isSp_iff.2 h.c⟩, fun s hs => by simpa using isSp_iff.2 (h.w s hs)⟩
theorem toolE_val (t : To) (ws : List Sp) : toolE t ws = 0 ∨ toolE t ws = 2 ∨ toolE t ws = 5 := by
  unfold toolE
  split
  · exact .inr (.inr rfl)
  · split
    · exact .inr (.inl rfl)
    · exact .inl rfl
theorem chk_first {t : To} {ws : List Sp} {os : List Od} (h5 : ¬ toolE t ws = 5) (h40 : ¬ 40 < os.length) (h0 : toolE t ws = 0) {k : Nat} (hk : k < os.length) (h : ∀ o, o ∈ os.take k → odE ws.length o = 0) (hn : ¬ odE ws.length os[k] = 0) : chkE t ws os = odE ws.length os[k] := by
  have e := firstE_at (odE ws.length) os k hk h hn
  unfold chkE
  rw [if_neg h5, if_neg h40, if_pos h0, e, if_neg hn]
theorem chk_end {t : To} {ws : List Sp} {os : List Od} (h5 : ¬ toolE t ws = 5) (h40 : ¬ 40 < os.length) (h0 : toolE t ws = 0) (h : ∀ o, o ∈ os → odE ws.length o = 0) : chkE t ws os = if os.length = 0 then 2 else 0 := by
  have e := (firstE_zero (odE ws.length) os).2 h
  unfold chkE
  rw [if_neg h5, if_neg h40, if_pos h0, if_pos e]

-- == f17 acme/die.Check params [26, 27] results [33] in [('tmp', ['4'])] ntmps 49 nfree 0
theorem c17 (t : To) (ws : List Sp) {A : Option Addr} {c : Nat} (os : List Od) {A2 : Option Addr} {c2 : Nat} {w : World} (hws : ElAt w A ws) (hos : ElAt w A2 os) : Calls Try.prog 17 [.agg [.bool t.down, .int .i64 t.sl, .int .i64 t.sh, .int .i64 t.cl, .int .i64 t.ch, .slice A ws.length c].toArray, .slice A2 os.length c2].toArray w fun e w' => e = .returned (.int .i64 (chkE t ws os)) ∧ Ext [] w w' := by
  refine fn_start Try.func17 rfl (N := 49) rfl ?_
  refine k_seq (k_region ?_)
  refine o_box rfl (fun b2 => ?_)
  refine o_val (ex_assign rfl) (o_nil ?_)
  refine k_seq (k_region ?_)
  refine o_val (ex_loadA Try.isAgg26 Try.sizeOf26 rfl) ?_
  refine o_val (ex_call Try.call59 rfl (fun W hW => c59 t ws (hws.ext hW.ext))) ?_
  refine o_val (ex_assign rfl) (o_nil ?_)
  refine k_seq (k_block ?_)
  refine k_seq (k_seq (k_region ?_))
  refine o_val (ex_move rfl) ?_
  refine o_val (ex_eql rfl rfl) ?_
  refine o_val (ex_assign rfl) (o_nil ?_)
  refine k_cut (ι := Unit) (fun _ => [(1, .slice A2 os.length c2), (2, .pointer (some ⟨b2, 0, none⟩)), (5, .int .i64 (toolE t ws)), (11, .bool (decide (toolE t ws = 5) || decide ((40 : Int) < (os.length : Int))))]) (fun _ => [⟨b2, 26, [.bool t.down, .int .i64 t.sl, .int .i64 t.sh, .int .i64 t.cl, .int .i64 t.ch, .slice A ws.length c], true⟩]) (fun _ => True) ?_ (fun _ _ => ?_)
  · refine k_cond rfl (fun h => ?_) (fun h => ?_)
    ·
      refine k_skip ?_
      exact k_some () trivial (Sub.cons rfl (Sub.cons rfl (Sub.cons rfl (Sub.cons' rfl (by rw [h]; rfl) (Sub.nil _))))) SubE.sub
    ·
      refine k_region ?_
      refine o_val (ex_move rfl) ?_
      refine o_val (ex_len Try.runUnderlying27 rfl) ?_
      refine o_val (ex_gtr rfl rfl) ?_
      refine o_val (ex_assign rfl) (o_nil ?_)
      exact k_some () trivial (Sub.cons rfl (Sub.cons rfl (Sub.cons rfl (Sub.cons' rfl (by rw [h]; rfl) (Sub.nil _))))) SubE.sub
  refine k_cond rfl (fun h => ?_) (fun h => ?_)
  ·
    have e : chkE t ws os = 5 := by
      unfold chkE
      by_cases h5 : toolE t ws = 5
      · rw [if_pos h5]
      · rw [if_neg h5, if_pos (by simp [h5] at h; omega)]
    refine k_seq (k_region ?_)
    refine o_val (ex_assign rfl) (o_nil ?_)
    refine k_ret ?_
    exact fin1 rfl rfl fun W hW => ⟨by rw [e], hW.ext⟩
  ·
    have h5 : ¬ toolE t ws = 5 := fun e => by simp [e] at h
    have h40 : ¬ 40 < os.length := fun e => by have : (40 : Int) < (os.length : Int) := (by omega); simp [this] at h
    refine k_seq (k_region ?_)
    refine o_val (ex_move rfl) ?_
    refine o_val (ex_neq rfl rfl) ?_
    refine o_val (ex_assign rfl) (o_nil ?_)
    refine k_cond rfl (fun h_1 => ?_) (fun h_1 => ?_)
    ·
      have hn : ¬ toolE t ws = 0 := fun e => by simp [e] at h_1
      refine k_seq (k_region ?_)
      refine o_val (ex_move rfl) ?_
      refine o_val (ex_assign rfl) (o_nil ?_)
      refine k_ret ?_
      exact fin1 rfl rfl fun W hW => ⟨by unfold chkE; rw [if_neg h5, if_neg h40, if_neg hn], hW.ext⟩
    ·
      have h0 : toolE t ws = 0 := by simpa using h_1
      have ok := toolE_ok.1 h0
      have n8 := ok.n8
      refine k_skip ?_
      refine k_seq (k_seq (k_region ?_))
      refine o_val (ex_move rfl) ?_
      refine o_val (ex_len Try.runUnderlying27 rfl) ?_
      refine o_val (ex_move rfl) (o_nil ?_)
      refine k_block ?_
      refine k_loop (ι := Nat) (fun k => [(1, .slice A2 os.length c2), (2, .pointer (some ⟨b2, 0, none⟩)), (21, .slice A2 os.length c2), (22, .int .i64 (os.length : Int)), (23, .int .i64 (k : Int))]) (fun k => [⟨b2, 26, [.bool t.down, .int .i64 t.sl, .int .i64 t.sh, .int .i64 t.cl, .int .i64 t.ch, .slice A ws.length c], true⟩]) (fun k => k ≤ os.length ∧ ∀ o, o ∈ os.take k → odE ws.length o = 0) (fun k => os.length - k) 0 ⟨Nat.zero_le _, (fun x hx => by simp at hx)⟩ (Sub.cons rfl (Sub.cons rfl (Sub.cons rfl (Sub.cons rfl (Sub.cons rfl (Sub.nil _)))))) SubE.sub (fun k hk => ?_)
      obtain ⟨hk, hI⟩ := hk
      refine k_seq (k_region ?_)
      refine o_val (ex_lss rfl rfl) (o_nil ?_)
      refine k_seq (k_cond rfl (fun h_2 => ?_) (fun h_2 => ?_))
      ·
        have hlt : k < os.length := by have : (k : Int) < (os.length : Int) := of_decide_eq_true h_2; omega
        obtain ⟨a, hA, hc⟩ := hos k hlt
        subst hA
        refine k_skip ?_
        refine k_seq (k_block ?_)
        refine k_seq (k_region ?_)
        refine o_val (ex_index_old Try.runUnderlying27 Try.sizeOf88 rfl rfl (by omega) (by omega)) ?_
        refine o_val (ex_loadA_old Try.isAgg88 Try.sizeOf88 rfl rfl (vs := [.int .i64 os[k].pc, .int .i64 os[k].st, .int .i64 os[k].zl, .int .i64 os[k].zh]) hc (by simp)) ?_
        refine o_alloc Try.zeroValue88 (fun b7 => ?_)
        refine o_store Try.sizeOf88 rfl rfl (o_nil ?_)
        refine k_seq (k_seq (k_region ?_))
        refine o_val (ex_field (o := 0) 0 fa88_0 rfl rfl) ?_
        refine o_val (ex_load Try.isAgg3 rfl rfl) ?_
        refine o_buildSlice [.int .i64 0] [(0, 1)] Try.runUnderlying52 Try.sizeOf3 Try.zeroValue3 rfl (fun b29 => ?_)
        refine o_val (ex_call Try.call60 rfl (fun W hW => (by exact c60 1 10000 [os[k].pc] (by simp) (el_ent hW b29 [os[k].pc] rfl)))) ?_
        refine o_val (ex_not rfl) ?_
        refine o_val (ex_move rfl) ?_
        refine o_or 4 (c := !isSp os[k].zl os[k].zh 0 10000000000) (fun h => ?_) (o_nil ?_)
        · refine o_val_g (ex_field (o := 0) 2 fa88_2 rfl rfl) ?_
          refine o_val_g (ex_loadA Try.isAgg23 Try.sizeOf23 rfl) ?_
          refine o_val_g (ex_call Try.call61 rfl (fun W hW => c61 os[k].zl os[k].zh)) ?_
          exact o_val_g (ex_not rfl) (o_nil (got rfl (.refl _)))
        refine k_cond rfl (fun h_3 => ?_) (fun h_3 => ?_)
        ·
          have e : odE ws.length os[k] = 2 := by unfold odE; rw [if_pos h_3]
          refine k_seq (k_region ?_)
          refine o_val (ex_assign rfl) (o_nil ?_)
          refine k_ret ?_
          exact fin1 rfl rfl fun W hW => ⟨by rw [chk_first h5 h40 h0 hlt hI (by rw [e]; decide), e], hW.ext⟩
        ·
          have e : odE ws.length os[k] = (if wi 0 ((ws.length : Int) - 1) [os[k].st] then 0 else 7) := by unfold odE; rw [if_neg (by rw [h_3]; decide)]
          refine k_skip ?_
          refine k_seq (k_region ?_)
          refine o_val (ex_loadA Try.isAgg26 Try.sizeOf26 rfl) ?_
          refine o_val (ex_field (o := 0) 1 fa88_1 rfl rfl) ?_
          refine o_val (ex_load Try.isAgg3 rfl rfl) ?_
          refine o_val (ex_call Try.call62 rfl (fun W hW => c62 t ws os[k].st (by omega))) ?_
          refine o_val (ex_assign rfl) (o_nil ?_)
          refine k_seq (k_region ?_)
          refine o_val (ex_move rfl) ?_
          refine o_val (ex_neq rfl rfl) (o_nil ?_)
          refine k_cond rfl (fun h_4 => ?_) (fun h_4 => ?_)
          ·
            rw [← e] at h_4 ⊢
            refine k_seq (k_region ?_)
            refine o_val (ex_move rfl) ?_
            refine o_val (ex_assign rfl) (o_nil ?_)
            refine k_ret ?_
            exact fin1 rfl rfl fun W hW => ⟨by rw [chk_first h5 h40 h0 hlt hI (fun e0 => by simp [e0] at h_4)], hW.ext⟩
          ·
            rw [← e] at h_4
            have e0 : odE ws.length os[k] = 0 := by simpa using h_4
            refine k_skip ?_
            refine k_region ?_
            refine o_val (ex_add64 rfl rfl (by unfold I64; omega)) ?_
            refine o_val (ex_move rfl) (o_nil ?_)
            exact k_some (k + 1) ⟨⟨hlt, take_all hlt hI e0⟩, by omega⟩ (Sub.cons rfl (Sub.cons rfl (Sub.cons rfl (Sub.cons rfl (Sub.cons rfl (Sub.nil _)))))) SubE.sub
      ·
        have hge : k = os.length := by have : ¬ (k : Int) < (os.length : Int) := of_decide_eq_false h_2; omega
        rw [hge, List.take_length] at hI
        refine k_exit rfl ?_
        refine k_seq (k_seq (k_region ?_))
        refine o_val (ex_move rfl) ?_
        refine o_val (ex_len Try.runUnderlying27 rfl) ?_
        refine o_val (ex_eql rfl rfl) (o_nil ?_)
        refine k_cond rfl (fun h_3 => ?_) (fun h_3 => ?_)
        ·
          refine k_seq (k_region ?_)
          refine o_val (ex_assign rfl) (o_nil ?_)
          refine k_ret ?_
          exact fin1 rfl rfl fun W hW => ⟨by rw [chk_end h5 h40 h0 hI, if_pos (by have : (os.length : Int) = 0 := of_decide_eq_true h_3; omega)], hW.ext⟩
        ·
          refine k_skip ?_
          refine k_seq (k_region ?_)
          refine o_val (ex_assign rfl) (o_nil ?_)
          refine k_ret ?_
          exact fin1 rfl rfl fun W hW => ⟨by rw [chk_end h5 h40 h0 hI, if_neg (by have : ¬ (os.length : Int) = 0 := of_decide_eq_false h_3; omega)], hW.ext⟩

theorem toolE_bad {t : To} {ws : List Sp} (h8 : ¬ 8 < ws.length) (h : decide (ws.length = 0) || !isSp t.sl t.sh (-1000000) 1000000 || !isSp t.cl t.ch (-1000000) 1000000 || ws.any (fun s => !isSp s.lo s.hi 0 100000)) : toolE t ws = 2 := by
  unfold toolE
  rw [if_neg h8, if_pos h]

-- == f42 acme/acmeref07.Tool params [26] results [33] in [('tmp', ['2'])] ntmps 38 nfree 0
theorem c42 (t : To) (ws : List Sp) {A : Option Addr} {c : Nat} {w : World} (hws : ElAt w A ws) : Calls Try.prog 42 [.agg [.bool t.down, .int .i64 t.sl, .int .i64 t.sh, .int .i64 t.cl, .int .i64 t.ch, .slice A ws.length c].toArray].toArray w fun e w' => e = .returned (.int .i64 (toolE t ws)) ∧ Ext [] w w' := by
  refine fn_start Try.func42 rfl (N := 38) rfl ?_
  refine k_seq (k_region ?_)
  refine o_box rfl (fun b1 => ?_)
  refine o_val (ex_assign rfl) (o_nil ?_)
  refine k_seq (k_seq (k_region ?_))
  refine o_val (ex_field (o := 0) 5 fa26_3 rfl rfl) ?_
  refine o_val (ex_load Try.isAgg24 rfl rfl) ?_
  refine o_val (ex_len Try.runUnderlying24 rfl) ?_
  refine o_val (ex_gtr rfl rfl) (o_nil ?_)
  refine k_cond rfl (fun h => ?_) (fun h => ?_)
  ·
    refine k_seq (k_region ?_)
    refine o_val (ex_assign rfl) (o_nil ?_)
    refine k_ret ?_
    exact fin1 rfl rfl fun W hW => ⟨by unfold toolE; rw [if_pos (by have : (8 : Int) < (ws.length : Int) := of_decide_eq_true h; omega)], hW.ext⟩
  ·
    have h8 : ¬ 8 < ws.length := by have : ¬ (8 : Int) < (ws.length : Int) := of_decide_eq_false h; omega
    refine k_skip ?_
    refine k_seq (k_seq (k_region ?_))
    refine o_val (ex_assign rfl) (o_nil ?_)
    refine k_block ?_
    refine k_loop (ι := Nat) (fun k => [(1, .pointer (some ⟨b1, 0, none⟩)), (3, .int .i64 (k : Int))]) (fun k => [⟨b1, 26, [.bool t.down, .int .i64 t.sl, .int .i64 t.sh, .int .i64 t.cl, .int .i64 t.ch, .slice A ws.length c], true⟩]) (fun k => k ≤ ws.length ∧ ∀ s, s ∈ ws.take k → isSp s.lo s.hi 0 100000 = true) (fun k => ws.length - k) 0 ⟨Nat.zero_le _, (fun x hx => by simp at hx)⟩ (Sub.cons rfl (Sub.cons rfl (Sub.nil _))) SubE.sub (fun k hk => ?_)
    obtain ⟨hk, hI⟩ := hk
    refine k_seq (k_seq (k_region ?_))
    refine o_val (ex_move rfl) ?_
    refine o_val (ex_field (o := 0) 5 fa26_3 rfl rfl) ?_
    refine o_val (ex_load Try.isAgg24 rfl rfl) ?_
    refine o_val (ex_len Try.runUnderlying24 rfl) ?_
    refine o_val (ex_lss rfl rfl) (o_nil ?_)
    refine k_cond rfl (fun h_1 => ?_) (fun h_1 => ?_)
    ·
      have hlt : k < ws.length := by have : (k : Int) < (ws.length : Int) := of_decide_eq_true h_1; omega
      obtain ⟨a, hA, hc⟩ := hws k hlt
      subst hA
      refine k_skip ?_
      refine k_seq (k_block ?_)
      refine k_seq (k_region ?_)
      refine o_val (ex_field (o := 0) 5 fa26_3 rfl rfl) ?_
      refine o_val (ex_load Try.isAgg24 rfl rfl) ?_
      refine o_val (ex_move rfl) ?_
      refine o_val (ex_index_old Try.runUnderlying24 Try.sizeOf23 rfl rfl (by omega) (by omega)) ?_
      refine o_val (ex_loadA_old Try.isAgg23 Try.sizeOf23 rfl rfl (vs := [.int .i64 ws[k].lo, .int .i64 ws[k].hi]) hc (by simp)) ?_
      refine o_val (ex_call Try.call45 rfl (fun W hW => c45 ws[k].lo ws[k].hi 0 100000)) ?_
      refine o_val (ex_not rfl) (o_nil ?_)
      refine k_cond rfl (fun h_2 => ?_) (fun h_2 => ?_)
      ·
        have e : toolE t ws = 2 := toolE_bad h8 (by simp only [Bool.or_eq_true]; exact .inr (List.any_eq_true.2 ⟨ws[k], List.getElem_mem hlt, h_2⟩))
        refine k_seq (k_region ?_)
        refine o_val (ex_assign rfl) (o_nil ?_)
        refine k_ret ?_
        exact fin1 rfl rfl fun W hW => ⟨by rw [e], hW.ext⟩
      ·
        refine k_skip ?_
        refine k_region ?_
        refine o_val (ex_move rfl) ?_
        refine o_val (ex_add64 rfl rfl (by unfold I64; omega)) ?_
        refine o_val (ex_assign rfl) (o_nil ?_)
        exact k_some (k + 1) ⟨⟨hlt, take_all hlt hI (by simpa using h_2)⟩, by omega⟩ (Sub.cons rfl (Sub.cons rfl (Sub.nil _))) SubE.sub
    ·
      have hge : k = ws.length := by have : ¬ (k : Int) < (ws.length : Int) := of_decide_eq_false h_1; omega
      rw [hge, List.take_length] at hI
      have hany : ws.any (fun s => !isSp s.lo s.hi 0 100000) = false := List.any_eq_false.2 (fun s hs => by rw [hI s hs]; decide)
      have hl0 : decide ((ws.length : Int) = 0) = decide (ws.length = 0) := by rw [Bool.eq_iff_iff, decide_eq_true_eq, decide_eq_true_eq]; omega
      refine k_exit rfl ?_
      refine k_seq (k_seq (k_region ?_))
      refine o_val (ex_field (o := 0) 5 fa26_3 rfl rfl) ?_
      refine o_val (ex_load Try.isAgg24 rfl rfl) ?_
      refine o_val (ex_len Try.runUnderlying24 rfl) ?_
      refine o_val (ex_eql rfl rfl) ?_
      refine o_val (ex_move rfl) ?_
      refine o_or 4 (c := !isSp t.sl t.sh (-1000000) 1000000) (fun h => ?_) ?_
      · refine o_val_g (ex_field (o := 0) 1 fa26_1 rfl rfl) ?_
        refine o_val_g (ex_loadA Try.isAgg23 Try.sizeOf23 rfl) ?_
        refine o_val_g (ex_call Try.call45 rfl (fun W hW => c45 t.sl t.sh (-1000000) 1000000)) ?_
        exact o_val_g (ex_not rfl) (o_nil (got rfl (.refl _)))
      refine o_val (ex_move rfl) ?_
      refine o_or 4 (c := !isSp t.cl t.ch (-1000000) 1000000) (fun h => ?_) (o_nil ?_)
      · refine o_val_g (ex_field (o := 0) 3 fa26_2 rfl rfl) ?_
        refine o_val_g (ex_loadA Try.isAgg23 Try.sizeOf23 rfl) ?_
        refine o_val_g (ex_call Try.call45 rfl (fun W hW => c45 t.cl t.ch (-1000000) 1000000)) ?_
        exact o_val_g (ex_not rfl) (o_nil (got rfl (.refl _)))
      refine k_cond rfl (fun h_2 => ?_) (fun h_2 => ?_)
      ·
        have e : toolE t ws = 2 := toolE_bad h8 (by rw [hl0] at h_2; rw [h_2]; rfl)
        refine k_seq (k_region ?_)
        refine o_val (ex_assign rfl) (o_nil ?_)
        refine k_ret ?_
        exact fin1 rfl rfl fun W hW => ⟨by rw [e], hW.ext⟩
      ·
        have e : toolE t ws = 0 := by unfold toolE; rw [if_neg h8, if_neg (by rw [← hl0, h_2, hany]; decide)]
        refine k_skip ?_
        refine k_seq (k_region ?_)
        refine o_val (ex_assign rfl) (o_nil ?_)
        refine k_ret ?_
        exact fin1 rfl rfl fun W hW => ⟨by rw [e], hW.ext⟩

theorem od_zone {o : Od} {j : Nat} {v : Value} (h : [Value.int .i64 o.zl, Value.int .i64 o.zh][j]? = some v) : (odElt.cells o)[2 + j]? = some v := by
  rw [Nat.add_comm]
  exact h
theorem odE_bad {n : Nat} {o : Od} (h : (!(decide (1 ≤ o.pc) && decide (o.pc ≤ 10000)) || !isSp o.zl o.zh 0 10000000000) = true) : odE n o = 2 := by
  unfold odE
  rw [if_pos]
  rw [wi_one, ← h]
  congr 2
  rw [Bool.eq_iff_iff]; simp
theorem odE_st {n : Nat} {o : Od} (h : (!(decide (1 ≤ o.pc) && decide (o.pc ≤ 10000)) || !isSp o.zl o.zh 0 10000000000) = false) : odE n o = if (decide (0 ≤ o.st) && decide (o.st ≤ (n : Int) - 1)) = true then 0 else 7 := by
  unfold odE
  rw [if_neg, wi_one]
  · congr 1
    rw [Bool.and_eq_true, decide_eq_true_eq, decide_eq_true_eq, decide_eq_true_eq]
  · rw [Bool.not_eq_true, wi_one, ← h]
    congr 2
    rw [Bool.eq_iff_iff]; simp

-- == f21 acme/acmeref07.Check params [26, 27] results [33] in [('tmp', ['4'])] ntmps 57 nfree 0
theorem c21 (t : To) (ws : List Sp) {A : Option Addr} {c : Nat} (os : List Od) {A2 : Option Addr} {c2 : Nat} {w : World} (hws : ElAt w A ws) (hos : ElAt w A2 os) : Calls Try.prog 21 [.agg [.bool t.down, .int .i64 t.sl, .int .i64 t.sh, .int .i64 t.cl, .int .i64 t.ch, .slice A ws.length c].toArray, .slice A2 os.length c2].toArray w fun e w' => e = .returned (.int .i64 (chkE t ws os)) ∧ Ext [] w w' := by
  refine fn_start Try.func21 rfl (N := 57) rfl ?_
  refine k_seq (k_region ?_)
  refine o_box rfl (fun b2 => ?_)
  refine o_val (ex_assign rfl) (o_nil ?_)
  refine k_seq (k_seq (k_region ?_))
  refine o_val (ex_field (o := 0) 5 fa26_3 rfl rfl) ?_
  refine o_val (ex_load Try.isAgg24 rfl rfl) ?_
  refine o_val (ex_len Try.runUnderlying24 rfl) ?_
  refine o_val (ex_gtr rfl rfl) ?_
  refine o_val (ex_move rfl) ?_
  refine o_or 3 (c := decide ((40 : Int) < (os.length : Int))) (fun h => ?_) (o_nil ?_)
  · refine o_val_g (ex_move rfl) ?_
    refine o_val_g (ex_len Try.runUnderlying27 rfl) ?_
    exact o_val_g (ex_gtr rfl rfl) (o_nil (got rfl (.refl _)))
  refine k_cond rfl (fun h => ?_) (fun h => ?_)
  ·
    have e : chkE t ws os = 5 := by
      unfold chkE
      by_cases h5 : toolE t ws = 5
      · rw [if_pos h5]
      · have h8 : ¬ (8 : Int) < (ws.length : Int) := fun e => h5 (by unfold toolE; rw [if_pos (by omega)])
        rw [if_neg h5, if_pos (by simp [h8] at h; omega)]
    refine k_seq (k_region ?_)
    refine o_val (ex_assign rfl) (o_nil ?_)
    refine k_ret ?_
    exact fin1 rfl rfl fun W hW => ⟨by rw [e], hW.ext⟩
  ·
    have h8 : ¬ 8 < ws.length := fun e => by have : (8 : Int) < (ws.length : Int) := (by omega); simp [this] at h
    have h40 : ¬ 40 < os.length := fun e => by have : (40 : Int) < (os.length : Int) := (by omega); simp [this] at h
    have h5 : ¬ toolE t ws = 5 := by
      unfold toolE
      rw [if_neg h8]
      split <;> decide
    refine k_skip ?_
    refine k_seq (k_seq (k_region ?_))
    refine o_val (ex_loadA Try.isAgg26 Try.sizeOf26 rfl) ?_
    refine o_val (ex_call Try.call42 rfl (fun W hW => c42 t ws (hws.ext hW.ext))) ?_
    refine o_val (ex_assign rfl) (o_nil ?_)
    refine k_seq (k_region ?_)
    refine o_val (ex_move rfl) ?_
    refine o_val (ex_neq rfl rfl) (o_nil ?_)
    refine k_cond rfl (fun h_1 => ?_) (fun h_1 => ?_)
    ·
      have hn : ¬ toolE t ws = 0 := fun e => by simp [e] at h_1
      refine k_seq (k_region ?_)
      refine o_val (ex_move rfl) ?_
      refine o_val (ex_assign rfl) (o_nil ?_)
      refine k_ret ?_
      exact fin1 rfl rfl fun W hW => ⟨by unfold chkE; rw [if_neg h5, if_neg h40, if_neg hn], hW.ext⟩
    ·
      have h0 : toolE t ws = 0 := by simpa using h_1
      have ok := toolE_ok.1 h0
      have n8 := ok.n8
      refine k_skip ?_
      refine k_seq (k_seq (k_region ?_))
      refine o_val (ex_assign rfl) (o_nil ?_)
      refine k_block ?_
      refine k_loop (ι := Nat) (fun k => [(1, .slice A2 os.length c2), (2, .pointer (some ⟨b2, 0, none⟩)), (6, .int .i64 (k : Int))]) (fun k => [⟨b2, 26, [.bool t.down, .int .i64 t.sl, .int .i64 t.sh, .int .i64 t.cl, .int .i64 t.ch, .slice A ws.length c], true⟩]) (fun k => k ≤ os.length ∧ ∀ o, o ∈ os.take k → odE ws.length o = 0) (fun k => os.length - k) 0 ⟨Nat.zero_le _, (fun x hx => by simp at hx)⟩ (Sub.cons rfl (Sub.cons rfl (Sub.cons rfl (Sub.nil _)))) SubE.sub (fun k hk => ?_)
      obtain ⟨hk, hI⟩ := hk
      refine k_seq (k_seq (k_region ?_))
      refine o_val (ex_move rfl) ?_
      refine o_val (ex_move rfl) ?_
      refine o_val (ex_len Try.runUnderlying27 rfl) ?_
      refine o_val (ex_lss rfl rfl) (o_nil ?_)
      refine k_cond rfl (fun h_2 => ?_) (fun h_2 => ?_)
      ·
        have hlt : k < os.length := by have : (k : Int) < (os.length : Int) := of_decide_eq_true h_2; omega
        obtain ⟨a, hA, hc⟩ := hos k hlt
        subst hA
        have c0 := hc 0 _ rfl
        have c1 := hc 1 _ rfl
        rw [Addr.add_zero'] at c0
        refine k_skip ?_
        refine k_seq (k_block ?_)
        refine k_seq (k_seq (k_region ?_))
        refine o_val (ex_move rfl) ?_
        refine o_val (ex_move rfl) ?_
        refine o_val (ex_index_old Try.runUnderlying27 Try.sizeOf88 rfl rfl (by omega) (by omega)) ?_
        refine o_val (ex_field_old fa88_0 rfl) ?_
        refine o_val (ex_load_old Try.isAgg3 rfl c0 (by simp)) ?_
        refine o_val (ex_call Try.call27 rfl (fun W hW => c27 os[k].pc 1 10000)) ?_
        refine o_val (ex_not rfl) ?_
        refine o_val (ex_move rfl) ?_
        refine o_or 7 (c := !isSp os[k].zl os[k].zh 0 10000000000) (fun h => ?_) (o_nil ?_)
        · refine o_val_g (ex_move rfl) ?_
          refine o_val_g (ex_move rfl) ?_
          refine o_val_g (ex_index_old Try.runUnderlying27 Try.sizeOf88 rfl rfl (by omega) (by omega)) ?_
          refine o_val_g (ex_field_old fa88_2 rfl) ?_
          refine o_val_g (ex_loadA_old Try.isAgg23 Try.sizeOf23 rfl rfl (vs := [.int .i64 os[k].zl, .int .i64 os[k].zh]) (fun j v hj => by rw [Addr.add_add]; exact hc (2 + j) v (od_zone hj)) (by simp)) ?_
          refine o_val_g (ex_call Try.call46 rfl (fun W hW => c46 os[k].zl os[k].zh)) ?_
          exact o_val_g (ex_not rfl) (o_nil (got rfl (.refl _)))
        refine k_cond rfl (fun h_3 => ?_) (fun h_3 => ?_)
        ·
          have e : odE ws.length os[k] = 2 := odE_bad h_3
          refine k_seq (k_region ?_)
          refine o_val (ex_assign rfl) (o_nil ?_)
          refine k_ret ?_
          exact fin1 rfl rfl fun W hW => ⟨by rw [chk_first h5 h40 h0 hlt hI (by rw [e]; decide), e], hW.ext⟩
        ·
          have e := odE_st (n := ws.length) h_3
          refine k_skip ?_
          refine k_seq (k_draw [true, true, true, true, true, true, true, true, true, true, true] 0 ?_ mixed (by kernel_rfl) rfl)
          refine d_val (i := 0) [] (ex_move rfl) ?_
          refine d_val (i := 1) [] (ex_move rfl) ?_
          refine d_val (i := 2) [] (ex_index_old Try.runUnderlying27 Try.sizeOf88 rfl rfl (by omega) (by omega)) ?_
          refine d_val (i := 3) [] (ex_field_old fa88_1 rfl) ?_
          refine d_val (i := 4) [] (ex_load_old Try.isAgg3 rfl c1 (by simp)) ?_
          refine d_val (i := 5) [] (ex_field (o := 0) 5 fa26_3 rfl rfl) ?_
          refine d_load (i := 6) Try.isAgg24 rfl rfl ?_
          refine d_val (i := 7) [] (ex_len Try.runUnderlying24 rfl) ?_
          refine d_val (i := 8) [] (ex_sub64 rfl rfl (by unfold I64; omega)) ?_
          refine d_val (i := 9) [] (ex_call Try.call27 rfl (fun W hW => c27 os[k].st 0 ((ws.length : Int) - 1))) ?_
          refine d_val (i := 10) [] (ex_not rfl) ?_
          refine d_nil ?_
          refine r_nil ?_ (by kernel_rfl)
          refine k_cond rfl (fun h_4 => ?_) (fun h_4 => ?_)
          ·
            rw [if_neg (notT h_4)] at e
            refine k_seq (k_region ?_)
            refine o_val (ex_assign rfl) (o_nil ?_)
            refine k_ret ?_
            exact fin1 rfl rfl fun W hW => ⟨by rw [chk_first h5 h40 h0 hlt hI (by rw [e]; decide), e], hW.ext⟩
          ·
            rw [if_pos (by simpa using h_4)] at e
            refine k_skip ?_
            refine k_region ?_
            refine o_val (ex_move rfl) ?_
            refine o_val (ex_add64 rfl rfl (by unfold I64; omega)) ?_
            refine o_val (ex_assign rfl) (o_nil ?_)
            exact k_some (k + 1) ⟨⟨hlt, take_all hlt hI e⟩, by omega⟩ (Sub.cons rfl (Sub.cons rfl (Sub.cons rfl (Sub.nil _)))) SubE.sub
      ·
        have hge : k = os.length := by have : ¬ (k : Int) < (os.length : Int) := of_decide_eq_false h_2; omega
        rw [hge, List.take_length] at hI
        refine k_exit rfl ?_
        refine k_seq (k_seq (k_region ?_))
        refine o_val (ex_move rfl) ?_
        refine o_val (ex_len Try.runUnderlying27 rfl) ?_
        refine o_val (ex_eql rfl rfl) (o_nil ?_)
        refine k_cond rfl (fun h_3 => ?_) (fun h_3 => ?_)
        ·
          refine k_seq (k_region ?_)
          refine o_val (ex_assign rfl) (o_nil ?_)
          refine k_ret ?_
          exact fin1 rfl rfl fun W hW => ⟨by rw [chk_end h5 h40 h0 hI, if_pos (by have : (os.length : Int) = 0 := of_decide_eq_true h_3; omega)], hW.ext⟩
        ·
          refine k_skip ?_
          refine k_seq (k_region ?_)
          refine o_val (ex_assign rfl) (o_nil ?_)
          refine k_ret ?_
          exact fin1 rfl rfl fun W hW => ⟨by rw [chk_end h5 h40 h0 hI, if_neg (by have : ¬ (os.length : Int) = 0 := of_decide_eq_false h_3; omega)], hW.ext⟩

end Go.Proofs.Ytdflfnednaleeaa
