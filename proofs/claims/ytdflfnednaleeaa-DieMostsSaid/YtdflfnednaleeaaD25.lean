/- The walks of functions: what each call hands back, and that nothing that was there has turned. Printed by a program of this session (wip/tools/gen.py). -/
import Derived.Test.YtdflfnednaleeaaD21
import Derived.Test.YtdflfnednaleeaaD24
namespace Go.Proofs.Ytdflfnednaleeaa
open Go
attribute [local irreducible] ExV Ex
set_option synthInstance.maxSize 2000
set_option synthInstance.maxHeartbeats 200000
set_option maxRecDepth 20000

-- == f5 acme/acmelaw07.DieMosts params [26, 27, 3] results [4] in [('tmp', ['6'])] ntmps 49 nfree 0
theorem c5 (t : To) (ws : List Sp) {A : Option Addr} {c : Nat} (os : List Od) {A2 : Option Addr} {c2 : Nat} (n : Int) {w : World} (hws : ElAt w A ws) (hos : ElAt w A2 os) : Calls Try.prog 5 [.agg [.bool t.down, .int .i64 t.sl, .int .i64 t.sh, .int .i64 t.cl, .int .i64 t.ch, .slice A ws.length c].toArray, .slice A2 os.length c2, .int .i64 n].toArray w fun e w' => e = .returned (.bool true) ∧ Ext [] w w' := by
  refine fn_start Try.func5 rfl (N := 49) rfl ?_
  refine k_seq (k_region ?_)
  refine o_box rfl (fun b3 => ?_)
  refine o_val (ex_assign rfl) (o_nil ?_)
  refine k_seq (k_seq (k_region ?_))
  refine o_val (ex_loadA Try.isAgg26 Try.sizeOf26 rfl) ?_
  refine o_val (ex_move rfl) ?_
  refine o_val (ex_call Try.call13 rfl (fun W hW => c13 t ws os 60 (hws.ext hW.ext) (hos.ext hW.ext))) (o_nil ?_)
  refine k_cond rfl (fun h => ?_) (fun h => ?_)
  ·
    refine k_seq (k_region ?_)
    refine o_val (ex_call Try.call14 rfl (fun W hW => c14)) ?_
    refine o_val (ex_assign rfl) (o_nil ?_)
    refine k_ret ?_
    exact fin1 rfl rfl fun W hW => ⟨rfl, hW.ext⟩
  ·
    have hl15 : ws.length ≤ 15 := by
      by_cases e : (15 : Int) < (ws.length : Int)
      · rw [decide_eq_true e] at h; cases h
      · omega
    have hl45 : os.length ≤ 45 := by
      by_cases e : (45 : Int) < (os.length : Int)
      · rw [decide_eq_true e] at h; simp at h
      · omega
    refine k_skip ?_
    refine k_seq (k_region ?_)
    refine o_val (ex_loadA Try.isAgg26 Try.sizeOf26 rfl) ?_
    refine o_callB Try.call15 rfl (fun W hW => c15 t ws (c := c) hl15 (hws.ext hW.ext)) (fun v17 x17 o17 => ?_)
    obtain ⟨A5, c5, e17, h22⟩ := o17
    subst e17
    refine o_val (ex_move rfl) ?_
    refine o_callB Try.call16 rfl (fun W hW => c16 os (c := c2) (by omega) (hos.ext hW.ext)) (fun v19 x19 o19 => ?_)
    obtain ⟨A6, c6, e19, h24⟩ := o19
    subst e19
    refine o_val (ex_move rfl) ?_
    refine o_val (ex_call Try.call30 rfl (fun W hW => c30 t ws (A := A5) (c := c5) os (A2 := A6) (c2 := c6) n (copy_at h22 hW (by repeat (first | exact List.sublist_append_left _ _ | exact List.Sublist.refl _ | exact (List.sublist_append_left _ _).trans (List.sublist_append_right _ _) | apply List.Sublist.cons))) (copy_at h24 hW (by repeat (first | exact List.sublist_append_left _ _ | exact List.Sublist.refl _ | exact (List.sublist_append_left _ _).trans (List.sublist_append_right _ _) | apply List.Sublist.cons))))) ?_
    refine o_val (ex_move rfl) ?_
    refine o_val (ex_extract rfl rfl) ?_
    refine o_val (ex_extract rfl rfl) ?_
    refine o_val (ex_assign rfl) ?_
    refine o_val (ex_assign rfl) (o_nil ?_)
    refine k_seq (k_region ?_)
    refine o_val (ex_loadA Try.isAgg26 Try.sizeOf26 rfl) ?_
    refine o_val (ex_move rfl) ?_
    refine o_val (ex_call Try.call21 rfl (fun W hW => c21 t ws os (hws.ext hW.ext) (hos.ext hW.ext))) ?_
    refine o_val (ex_assign rfl) ?_
    refine o_val (ex_assign rfl) (o_nil ?_)
    refine k_seq (k_block ?_)
    refine k_seq (k_region ?_)
    refine o_val (ex_move rfl) ?_
    refine o_val (ex_neq rfl rfl) ?_
    refine o_val (ex_assign rfl) (o_nil ?_)
    refine k_cut (ι := Unit) (fun _ => [(7, .int .i64 (mostR t ws os n).1), (8, .int .i64 (mostR t ws os n).2), (9, .int .i64 (mostR t ws os n).2), (10, .int .i64 (mostR t ws os n).1)]) (fun _ => [⟨b3, 26, [.bool t.down, .int .i64 t.sl, .int .i64 t.sh, .int .i64 t.cl, .int .i64 t.ch, .slice A ws.length c], true⟩]) (fun _ => True) ?_ (fun _ _ => ?_)
    · refine k_cond rfl (fun h_1 => ?_) (fun h_1 => ?_)
      ·
        have hn : ¬ chkE t ws os = 0 := fun e => by simp [e] at h_1
        have hm : mostR t ws os n = (0, chkE t ws os) := if_pos hn
        refine k_skip ?_
        exact k_some () trivial (Sub.cons rfl (Sub.cons rfl (Sub.cons' rfl (by first | rfl | rw [hm]) (Sub.cons' rfl (by first | rfl | rw [hm]) (Sub.nil _))))) SubE.sub
      ·
        have hok : chkE t ws os = 0 := by simpa using h_1
        refine k_seq (k_region ?_)
        refine o_val (ex_move rfl) ?_
        refine o_val (ex_call Try.call27 rfl (fun W hW => c27 n 0 1000)) ?_
        refine o_val (ex_not rfl) ?_
        refine o_val (ex_assign rfl) (o_nil ?_)
        refine k_cut (ι := Unit) (fun _ => [(7, .int .i64 (mostR t ws os n).1), (8, .int .i64 (mostR t ws os n).2), (9, .int .i64 (mostR t ws os n).2), (10, .int .i64 (mostR t ws os n).1)]) (fun _ => [⟨b3, 26, [.bool t.down, .int .i64 t.sl, .int .i64 t.sh, .int .i64 t.cl, .int .i64 t.ch, .slice A ws.length c], true⟩]) (fun _ => True) ?_ (fun _ _ => ?_)
        · refine k_cond rfl (fun h_2 => ?_) (fun h_2 => ?_)
          ·
            have hr : ¬ (0 ≤ n ∧ n ≤ 1000) := fun hh => by rw [decide_eq_true hh.1, decide_eq_true hh.2] at h_2; exact absurd h_2 (by decide)
            have hm : mostR t ws os n = (0, 3) := (if_neg (by simp [hok])).trans (if_pos (by rw [wi_one, decide_eq_false hr]))
            refine k_region ?_
            refine o_val (ex_assign rfl) (o_nil ?_)
            exact k_some () trivial (Sub.cons rfl (Sub.cons rfl (Sub.cons' rfl (by first | rfl | rw [hm]) (Sub.cons' rfl (by first | rfl | rw [hm]) (Sub.nil _))))) SubE.sub
          ·
            have hr : 0 ≤ n ∧ n ≤ 1000 := by simpa using h_2
            have hm : mostR t ws os n = ((openS t ws os).at n.toNat, chkE t ws os) := by
              rw [hok, ← at_min (openS_ok hok)]
              exact (if_neg (by simp [hok])).trans (if_neg (by rw [wi_one, decide_eq_true hr]; decide))
            refine k_region ?_
            refine o_val (ex_loadA Try.isAgg26 Try.sizeOf26 rfl) ?_
            refine o_val (ex_move rfl) ?_
            refine o_val (ex_move rfl) ?_
            refine o_val (ex_call Try.call31 rfl (fun W hW => c31 t ws os n hok hr.1 hr.2 (hws.ext hW.ext) (hos.ext hW.ext))) ?_
            refine o_val (ex_assign rfl) (o_nil ?_)
            exact k_some () trivial (Sub.cons rfl (Sub.cons rfl (Sub.cons' rfl (by first | rfl | rw [hm]) (Sub.cons' rfl (by first | rfl | rw [hm]) (Sub.nil _))))) SubE.sub
        exact k_some () trivial (Sub.cons rfl (Sub.cons rfl (Sub.cons' rfl (by first | rfl | rw [hm]) (Sub.cons' rfl (by first | rfl | rw [hm]) (Sub.nil _))))) SubE.sub
    refine k_seq (k_region ?_)
    refine o_val (ex_move rfl) ?_
    refine o_val (ex_move rfl) ?_
    refine o_val (ex_eql rfl rfl) ?_
    refine o_val (ex_move rfl) ?_
    refine o_and 3 (c := decide ((mostR t ws os n).1 = (mostR t ws os n).1)) (fun h => ?_) ?_
    · refine o_val_g (ex_move rfl) ?_
      refine o_val_g (ex_move rfl) ?_
      exact o_val_g (ex_eql rfl rfl) (o_nil (got rfl (.refl _)))
    refine o_val (ex_move rfl) ?_
    refine o_and 1 (c := true) (fun h => ?_) ?_
    · exact o_val_g (ex_call Try.call14 rfl (fun W hW => c14)) (o_nil (got rfl (.refl _)))
    refine o_val (ex_assign rfl) (o_nil ?_)
    refine k_ret ?_
    exact fin1 rfl rfl fun W hW => ⟨by simp, hW.ext⟩

end Go.Proofs.Ytdflfnednaleeaa
