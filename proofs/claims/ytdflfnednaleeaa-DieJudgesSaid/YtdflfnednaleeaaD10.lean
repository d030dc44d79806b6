/- The walks of functions: what each call hands back, and that nothing that was there has turned. Printed by a program of this session (wip/tools/gen.py). -/
import Derived.Test.YtdflfnednaleeaaD9
namespace Go.Proofs.Ytdflfnednaleeaa
open Go
attribute [local irreducible] ExV Ex
set_option synthInstance.maxSize 2000
set_option synthInstance.maxHeartbeats 200000
set_option maxRecDepth 20000

theorem it72 {S : Sh} (hS : S.Ok) {b : Nat} {Wb : World} {M : List Nat} {A1 A2 A3 : Option Addr} {c1 c2 c3 : Nat} (hshop : ∀ W, Ext M Wb W → ShopAt W b S A1 A2 A3 c1 c2 c3) :
    Iter Try.prog 72 [.pointer (some ⟨b, 0, none⟩)] [] (encS S) (fun _ => true) S.cnt M Wb := by
  intro l J Jx W hJE hJ hJx hskip hY hJ0
  refine fn_startW (w0 := W) (M := []) (H := []) Try.func72 rfl (N := 24) rfl (by simp) (Sat.start W []) ?_
  refine k_seq (k_region ?_)
  refine o_val (ex_assign rfl) (o_nil ?_)
  refine k_block ?_
  refine k_loopJ (ι := Nat) (fun i => [(0, .pointer (some ⟨b, 0, none⟩)), (1, .func (.yield l) #[] #[]), (4, .int .i64 (S.at i))])
    (fun i X => i ≤ S.sure ∧ J i X) (fun i => S.sure - i) 0 (fun X hX => ⟨Nat.zero_le _, hJ 0 W X hJ0 hX.ext⟩) (Sub.cons rfl (Sub.cons rfl (Sub.cons rfl (Sub.nil _)))) (fun i W1 hi => ?_)
  obtain ⟨hi, hJi⟩ := hi
  have hsh := hshop W1 (hJE i W1 hJi)
  have hab := at_bound hS i
  refine k_seq (k_seq (k_region ?_))
  refine o_val (ex_move rfl) ?_
  refine o_val (ex_move rfl) ?_
  refine o_val (ex_call Try.call64 rfl (fun W hW => all64 hS (hsh.ext hW.ext))) ?_
  refine o_val (ex_lss rfl rfl) (o_nil ?_)
  refine k_cond rfl (fun h => ?_) (fun h => ?_)
  · have hlt : S.at i < allP S.os := of_decide_eq_true h
    have hic : i < S.cnt := by
      unfold Sh.cnt
      split
      · omega
      · rename_i hn
        have : i ≠ S.sure := fun e => hn (e ▸ hlt)
        omega
    refine k_skip ?_
    refine k_block ?_
    refine k_seq (k_region ?_)
    refine o_val (ex_move rfl) ?_
    refine o_val (ex_move rfl) ?_
    refine o_val (ex_call (v := .int .i64 (S.at (i + 1))) Try.call71 rfl (fun W hW => c71 S (S.at i) hS hab (hsh.ext hW.ext))) ?_
    refine o_val (ex_assign rfl) (o_nil ?_)
    refine k_seq (k_seq (k_regionY ?_))
    refine y_ops (ι := Unit) 3 (fun _ => [(0, .pointer (some ⟨b, 0, none⟩)), (1, .func (.yield l) #[] #[]), (4, .int .i64 (S.at i)), (5, .int .i64 (S.at (i + 1))), (13, .func (.yield l) #[] #[]), (14, .int .i64 (S.at i)), (15, .int .i64 (S.at (i + 1)))]) (fun _ => []) (fun _ => True) ?_ (fun _ _ => ?_)
    · refine o_val (ex_move rfl) ?_
      refine o_val (ex_move rfl) ?_
      refine o_val (ex_move rfl) (o_nil ?_)
      exact k_some () trivial (Sub.cons rfl (Sub.cons rfl (Sub.cons rfl (Sub.cons rfl (Sub.cons rfl (Sub.cons rfl (Sub.cons rfl (Sub.nil _)))))))) SubE.sub
    · refine y_yield (l := l) (vs := encS S i) (R' := fun v W' => (v = .bool true ∧ J (i + 1) W') ∨ (v = .bool false ∧ Jx W')) rfl rfl rfl (fun W2 hW2 => ?_) (fun v W2 hv => ?_) (.inl rfl)
      · obtain ⟨fn, tmps, assign, body, hy, hR⟩ := hY i W2 hic rfl (hJ i W1 W2 hJi hW2.ext)
        refine ⟨fn, tmps, assign, body, hy, hR.mono fun e W' he => ?_⟩
        rcases he with ⟨rfl, he⟩ | ⟨rfl, he⟩
        · exact ⟨_, rfl, .inl ⟨rfl, he⟩⟩
        · exact ⟨_, rfl, .inr ⟨rfl, he⟩⟩
      · rcases hv with ⟨rfl, hJ1⟩ | ⟨rfl, hX⟩
        · refine y_end ?_
          refine o_val (ex_not rfl) ?_
          refine o_val (ex_move rfl) ?_
          refine o_or 3 (c := decide (S.at (i + 1) = S.at i)) (fun h => ?_) (o_nil ?_)
          · refine o_val_g (ex_move rfl) ?_
            refine o_val_g (ex_move rfl) ?_
            exact o_val_g (ex_eql rfl rfl) (o_nil (got rfl (.refl _)))
          refine k_cond rfl (fun h_1 => ?_) (fun h_1 => ?_)
          · have he : S.at (i + 1) = S.at i := by simpa using h_1
            have hs : i = S.sure := by
              by_cases hl : i < S.sure
              · have := (good_lt hl).2; omega
              · omega
            have hc : S.cnt = i + 1 := by unfold Sh.cnt; rw [← hs, if_pos hlt]
            refine k_ret ?_
            exact fin0 rfl fun X hS1 => ⟨⟨_, rfl⟩, .inl (by rw [hc]; exact hJ _ _ _ hJ1 hS1.ext)⟩
          · have he : ¬ S.at (i + 1) = S.at i := by simpa using h_1
            have hs : i < S.sure := by
              by_cases hl : i < S.sure
              · exact hl
              · have e : i = S.sure := by omega
                rw [e] at he hlt
                exact absurd (sure_end hS hlt) he
            refine k_skip ?_
            refine k_region ?_
            refine o_val (ex_move rfl) ?_
            refine o_val (ex_assign rfl) (o_nil ?_)
            exact k_someJ (i + 1) (by omega) (Sub.cons rfl (Sub.cons rfl (Sub.cons rfl (Sub.nil _)))) (fun X hX => ⟨hs, hJ _ _ _ hJ1 hX.ext⟩)
        · refine y_end ?_
          refine o_val (ex_not rfl) ?_
          refine o_val (ex_move rfl) ?_
          refine o_or (b := true) 3 (c := true) (fun h => by cases h) (o_nil ?_)
          refine k_cond rfl (fun h_1 => ?_) (fun h_1 => by cases h_1)
          refine k_ret ?_
          exact fin0 rfl fun X hS1 => ⟨⟨_, rfl⟩, .inr (hJx _ _ hX hS1.ext)⟩
  · have hge : ¬ S.at i < allP S.os := of_decide_eq_false h
    have hs : i = S.sure := by
      by_cases hl : i < S.sure
      · exact absurd (good_lt hl).1 hge
      · omega
    have hc : S.cnt = i := by unfold Sh.cnt; rw [← hs, if_neg hge]
    refine k_exit rfl ?_
    try simp only [xlook, Nat.beq_refl, cond_true]
    exact fin0 rfl fun X hX => ⟨⟨_, rfl⟩, .inl (by rw [hc]; exact hJ _ _ _ hJi hX.ext)⟩

end Go.Proofs.Ytdflfnednaleeaa
