/- The walks of small functions: what each call hands back, and that nothing that was there has turned. Printed by a program of this session (wip/tools/gen.py). -/
import Derived.Test.YteecidddfcbabaaA13
namespace Go.Proofs.Yteecidddfcbabaa
open Go
attribute [local irreducible] ExV Ex
set_option synthInstance.maxSize 2000
set_option synthInstance.maxHeartbeats 200000

-- == f82 slices.insertionSortCmpFunc[int] params [42, 3, 3, 80] results [] in [] ntmps 53 nfree 0
theorem n82 {f : Nat} {cap : List Value} {w : World} : Calls Try.prog 82 [.slice none 0 0, .int .i64 0, .int .i64 0, .func (.func f) [].toArray cap.toArray].toArray w fun e w' => e = .returned (.tuple #[]) ∧ Ext [] w w' := by
  refine fn_start Try.func82 rfl (N := 53) rfl ?_
  refine k_seq (k_region ?_)
  refine o_val (ex_move rfl) ?_
  refine o_val (ex_add64 rfl rfl (by unfold I64; omega)) ?_
  refine o_val (ex_assign rfl) (o_nil ?_)
  refine k_block ?_
  refine k_loop (ι := Unit) (fun k => [(0, .slice none 0 0), (1, .int .i64 0), (2, .int .i64 0), (3, .func (.func f) [].toArray cap.toArray), (8, .int .i64 ((0 : Int) + 1))]) (fun k => []) (fun k => True) (fun k => 0) () trivial (Sub.cons rfl (Sub.cons rfl (Sub.cons rfl (Sub.cons rfl (Sub.cons rfl (Sub.nil _)))))) SubE.sub (fun k hk => ?_)
  refine k_seq (k_seq (k_region ?_))
  refine o_val (ex_move rfl) ?_
  refine o_val (ex_move rfl) ?_
  refine o_val (ex_lss rfl rfl) (o_nil ?_)
  refine k_cond rfl (fun h => ?_) (fun h => ?_)
  ·
    have : (0 : Int) + 1 < 0 := of_decide_eq_true h
    omega
  ·
    refine k_exit rfl ?_
    try simp only [xlook, Nat.beq_refl, cond_true]
    exact fin0 rfl fun W hW => ⟨rfl, hW.ext⟩

-- == f74 slices.stableCmpFunc[int] params [42, 3, 80] results [] in [] ntmps 63 nfree 0
theorem n74 {f : Nat} {cap : List Value} {w : World} : Calls Try.prog 74 [.slice none 0 0, .int .i64 0, .func (.func f) [].toArray cap.toArray].toArray w fun e w' => e = .returned (.tuple #[]) ∧ Ext [] w w' := by
  refine fn_start Try.func74 rfl (N := 63) rfl ?_
  refine k_seq (k_region ?_)
  refine o_val (ex_assign rfl) (o_nil ?_)
  refine k_seq (k_region ?_)
  refine o_val (ex_move rfl) ?_
  refine o_val (ex_assign rfl) ?_
  refine o_val (ex_assign rfl) (o_nil ?_)
  refine k_seq (k_block ?_)
  refine k_loop (ι := Unit) (fun k => [(0, .slice none 0 0), (1, .int .i64 0), (2, .func (.func f) [].toArray cap.toArray), (6, .int .i64 20), (7, .int .i64 0), (8, .int .i64 20)]) (fun k => []) (fun k => True) (fun k => 0) () trivial (Sub.cons rfl (Sub.cons rfl (Sub.cons rfl (Sub.cons rfl (Sub.cons rfl (Sub.cons rfl (Sub.nil _))))))) SubE.sub (fun k hk => ?_)
  refine k_seq (k_seq (k_region ?_))
  refine o_val (ex_move rfl) ?_
  refine o_val (ex_move rfl) ?_
  refine o_val (ex_leq rfl rfl) (o_nil ?_)
  refine k_cond rfl (fun h => ?_) (fun h => ?_)
  ·
    have : (20 : Int) ≤ 0 := of_decide_eq_true h
    omega
  ·
    refine k_exit rfl ?_
    refine k_seq (k_region ?_)
    refine o_val (ex_move rfl) ?_
    refine o_val (ex_move rfl) ?_
    refine o_val (ex_move rfl) ?_
    refine o_val (ex_move rfl) ?_
    refine o_val (ex_call Try.call82 rfl (fun W hW => n82)) (o_nil ?_)
    refine k_block ?_
    refine k_loop (ι := Unit) (fun k => [(0, .slice none 0 0), (1, .int .i64 0), (2, .func (.func f) [].toArray cap.toArray), (6, .int .i64 20)]) (fun k => []) (fun k => True) (fun k => 0) () trivial (Sub.cons rfl (Sub.cons rfl (Sub.cons rfl (Sub.cons rfl (Sub.nil _))))) SubE.sub (fun k hk => ?_)
    refine k_seq (k_seq (k_region ?_))
    refine o_val (ex_move rfl) ?_
    refine o_val (ex_move rfl) ?_
    refine o_val (ex_lss rfl rfl) (o_nil ?_)
    refine k_cond rfl (fun h_1 => ?_) (fun h_1 => ?_)
    ·
      have : (20 : Int) < 0 := of_decide_eq_true h_1
      omega
    ·
      refine k_exit rfl ?_
      try simp only [xlook, Nat.beq_refl, cond_true]
      exact fin0 rfl fun W hW => ⟨rfl, hW.ext⟩

-- == f48 slices.SortStableFunc[[]int,int] params [42, 80] results [] in [] ntmps 9 nfree 0
theorem n48 {f : Nat} {cap : List Value} {w : World} : Calls Try.prog 48 [.slice none 0 0, .func (.func f) [].toArray cap.toArray].toArray w fun e w' => e = .returned (.tuple #[]) ∧ Ext [] w w' := by
  refine fn_start Try.func48 rfl (N := 9) rfl ?_
  refine k_region ?_
  refine o_val (ex_move rfl) ?_
  refine o_val (ex_move rfl) ?_
  refine o_val (ex_len Try.runUnderlying42 rfl) ?_
  refine o_val (ex_move rfl) ?_
  refine o_val (ex_call Try.call74 rfl (fun W hW => n74)) (o_nil ?_)
  try simp only [xlook, Nat.beq_refl, cond_true]
  exact fin0 rfl fun W hW => ⟨rfl, hW.ext⟩

theorem Sat.others {w0 : World} {M : List Nat} {H Hx : Hp} {C : Hp → Hp} {W W' : World} {g : Nat} (hseg : SegE H Hx C) (hW : Sat w0 M H W) (hg : ∃ t cs, Hx = [⟨g, t, cs, true⟩]) (k : Ext [g] W W') : Sat w0 M (C []) W' := by
  obtain ⟨l, r, h1, h2⟩ := hseg.seg
  obtain ⟨t, cs, rfl⟩ := hg
  rw [h2, List.nil_append]
  subst h1
  have hmem : (⟨g, t, cs, true⟩ : Ent) ∈ l ++ ([⟨g, t, cs, true⟩] ++ r) := by simp
  have hn := hW.nodup
  simp only [List.map_append, List.map_cons, List.map_nil, List.singleton_append] at hn
  obtain ⟨hnl, hnr⟩ := nodup_mid hn
  have old : ∀ e, e ∈ l ++ r → e ∈ l ++ ([⟨g, t, cs, true⟩] ++ r) ∧ e.b ≠ g := fun e hx => by
    rcases List.mem_append.1 hx with hx | hx
    · exact ⟨by simp [hx], fun heq => hnl (List.mem_map.2 ⟨e, hx, heq⟩)⟩
    · exact ⟨by simp [hx], fun heq => hnr (List.mem_map.2 ⟨e, hx, heq⟩)⟩
  refine ⟨hW.ext.trans k (fun z hz hzl => ?_), fun e he => ?_, fun e he => hW.new e (old e he).1, ?_⟩
  · simp only [List.mem_singleton] at hz
    subst hz
    rcases hW.new _ hmem with h | h
    · simp only at h; omega
    · exact h
  · rw [k.block e.b (hW.lt (old e he).1) (by simpa using (old e he).2)]
    exact hW.at_ e (old e he).1
  · exact hW.nodup.sublist ((List.Sublist.append (.refl _) (List.sublist_append_right _ _)).map _)

section
variable {N : Nat} {w0 : World} {M : List Nat} {Γ : Gam} {H : Hp} {ops : Array Oper} {Q : Exit → Act → World → Prop} {next : AW} {rest : List Oper} {d f : Nat} {ats : Array TypeId} {ty : Nat} {pos : String} {aft : Array Edge}
/-- slices.SortStableFunc over a slice of one's own of at most 20. -/
theorem o_sortO {x y : Operand} {v : Value} {n : Nat} {Hx : Hp} {C : Hp → Hp} {cap : List Value} (Hc : Hp) (cmp : Int → Int → Int) (l : List Int) (ho : OwnsV 3 1 v n (l.map (Value.int .i64)) Hx) (hn : n ≤ 20) (hx : ev Γ x = some v) (hy : ev Γ y = some (.func (.func f) [].toArray cap.toArray))
    (hcall : ∀ vs W, (callFunc f vs).run Try.prog W = .ok (.enter f vs) W) [hseg : SegE H Hx C] [hsub : SubE Hc (C [])]
    (hf : ∀ x y, x ∈ l → y ∈ l → ∀ W, Sat w0 M Hc W → Calls Try.prog f ([Value.int .i64 x, Value.int .i64 y] ++ cap).toArray W (fun e W' => e = .returned (.int .i64 (cmp x y)) ∧ Ext [] W W'))
    (k : ∀ Hx', OwnsV 3 1 v n (((sortR (fun x y => decide (cmp x y < 0)) l).reverse).map (Value.int .i64)) Hx' → OpsN Try.prog ops Q next N w0 M rest ((d, .tuple #[]) :: Γ) (C Hx')) (hdN : d < N := by decide) :
    OpsN Try.prog ops Q next N w0 M (⟨some d, .call ⟨.value (.func 48), #[x, y], ats⟩, ty, pos, aft, none⟩ :: rest) Γ H := by
  have hln : l.length = n := by have := ho.1; simpa using this
  have hargs : evs Γ [x, y] = some [v, .func (.func f) [].toArray cap.toArray] := by simp [evs, hx, hy]
  rcases ho.2 with ⟨hv, h0, hX⟩ | ⟨g, cap1, cs, hv, hX, h1, h2, h3, h4⟩
  · have hl0 : l = [] := List.length_eq_zero_iff.1 (by omega)
    refine o_step (ex_call Try.call48 hargs (fun W hW => by subst hv; exact n48)).ex (by rintro _ _ ⟨rfl, rfl⟩; have := k Hx (by rw [hl0] at ho ⊢; exact ho); obtain ⟨l1, r1, e1, e2⟩ := hseg.seg; rw [e2, ← e1] at this; exact this) rfl rfl hdN
  · refine o_step (ex_callF (bs := [g]) (φ := fun u K => u = .tuple #[] ∧ K = C [⟨g, 3, ((sortR (fun x y => decide (cmp x y < 0)) l).reverse).map (Value.int .i64) ++ cs.drop n, true⟩]) Try.call48 hargs fun W hW => ?_) ?_ rfl rfl hdN
    · obtain ⟨l1, r1, e1, e2⟩ := hseg.seg
      have hcs : cs = l.map (Value.int .i64) ++ cs.drop n := by rw [← h4]; simp
      have hmem : (⟨g, 3, cs, true⟩ : Ent) ∈ H := by rw [e1, hX]; simp
      haveI hE1 : HasE H g 3 cs true := ⟨hmem, rfl⟩
      haveI hE2 : SetE H g (((sortR (fun x y => decide (cmp x y < 0)) l).reverse).map (Value.int .i64) ++ cs.drop n) (C [⟨g, 3, ((sortR (fun x y => decide (cmp x y < 0)) l).reverse).map (Value.int .i64) ++ cs.drop n, true⟩]) := ⟨l1, r1, 3, cs, by rw [e1, hX]; rfl, by rw [e2]; rfl⟩
      have hb := hW.cells hE1
      rw [hcs] at hb
      have hc := c48 (f := f) (cap := cap) (c := cap1) cmp l (cs.drop n) (by omega) hb hcall (fun x y hx hy W2 h2 => hf x y hx hy W2 ((hW.others hseg ⟨3, cs, hX⟩ h2).drop hsub.sub))
      rw [hln, ← hv] at hc
      exact hc.mono fun e W' hq => ⟨.tuple #[], _, hq.1, ⟨rfl, rfl⟩, hW.put (cs' := ((sortR (fun x y => decide (cmp x y < 0)) l).reverse).map (Value.int .i64) ++ cs.drop n) hq.2.2 hq.2.1, hq.2.2⟩
    · rintro _ _ ⟨rfl, rfl⟩
      have hsl : ((sortR (fun x y => decide (cmp x y < 0)) l).reverse).length = l.length := by simp [sortR, sortR_len]
      refine k _ ⟨by simp [sortR, sortR_len]; omega, .inr ⟨g, cap1, _, hv, rfl, h1, h2, by simp [sortR, sortR_len]; omega, ?_⟩⟩
      rw [List.take_append_of_le_length (by simp [sortR, sortR_len]; omega), List.take_of_length_le (by simp [sortR, sortR_len]; omega)]
end

end Go.Proofs.Yteecidddfcbabaa
