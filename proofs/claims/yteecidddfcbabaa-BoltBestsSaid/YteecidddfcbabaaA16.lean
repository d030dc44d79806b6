/- The walks of small functions: what each call hands back, and that nothing that was there has turned. Printed by a program of this session (wip/tools/gen.py). -/
import Derived.Test.YteecidddfcbabaaA15
namespace Go.Proofs.Yteecidddfcbabaa
open Go
attribute [local irreducible] ExV Ex
set_option synthInstance.maxSize 2000
set_option synthInstance.maxHeartbeats 200000
set_option maxRecDepth 20000

-- == f40 acme/acmelaw09.span params [3, 3] results [23] in [('cell', ['4', '23'])] ntmps 8 nfree 0
theorem c40 (lo hi : Int) {w : World} : Calls Try.prog 40 [.int .i64 lo, .int .i64 hi].toArray w fun e w' => e = .returned (.agg [.int .i64 lo, .int .i64 hi].toArray) ∧ Ext [] w w' := by
  refine fn_start Try.func40 rfl (N := 8) rfl ?_
  refine k_seq (k_region ?_)
  refine o_alloc Try.zeroValue23 (fun b4 => o_nil ?_)
  refine k_seq (k_region ?_)
  refine o_val (ex_move rfl) ?_
  refine o_val (ex_move rfl) ?_
  refine o_val (ex_build bf23 rfl) ?_
  refine o_store Try.sizeOf23 rfl rfl (o_nil ?_)
  refine k_ret ?_
  exact finC rfl Try.isAgg23 Try.sizeOf23 rfl rfl fun W hW => ⟨rfl, hW.ext⟩

-- == f37 acme/acmelaw09.one params [] results [25] in [('cell', ['0', '25'])] ntmps 7 nfree 0
theorem c37 {w : World} : Calls Try.prog 37 [].toArray w fun e w' => e = .returned (.agg [.int .i64 2000, .int .i64 5000, .int .i64 7000, .int .i64 100, .int .i64 160, .int .i64 120, .int .i64 150, .int .i64 50000, .int .i64 60000, .int .i64 90, .int .i64 110, .int .i64 30000, .int .i64 33000].toArray) ∧ Ext [] w w' := by
  refine fn_start Try.func37 rfl (N := 7) rfl ?_
  refine k_seq (k_region ?_)
  refine o_alloc Try.zeroValue25 (fun b0 => o_nil ?_)
  refine k_seq (k_region ?_)
  refine o_val (ex_call Try.call40 rfl (fun W hW => c40 100 160)) ?_
  refine o_val (ex_call Try.call40 rfl (fun W hW => c40 120 150)) ?_
  refine o_val (ex_call Try.call40 rfl (fun W hW => c40 50000 60000)) ?_
  refine o_val (ex_call Try.call40 rfl (fun W hW => c40 90 110)) ?_
  refine o_val (ex_call Try.call40 rfl (fun W hW => c40 30000 33000)) ?_
  refine o_val (ex_build bf25 rfl) ?_
  refine o_store Try.sizeOf25 rfl rfl (o_nil ?_)
  refine k_ret ?_
  exact finC rfl Try.isAgg25 Try.sizeOf25 rfl rfl fun W hW => ⟨rfl, hW.ext⟩

-- == f38 acme/acmelaw09.torque params [3, 3] results [47] in [('cell', ['4', '47'])] ntmps 9 nfree 0
theorem c38 (lo hi : Int) {w : World} : Calls Try.prog 38 [.int .i64 lo, .int .i64 hi].toArray w fun e w' => e = .returned (.agg [.int .i64 1, .int .i64 lo, .int .i64 hi, .int .i64 0, .int .i64 0, .int .i64 0, .int .i64 0].toArray) ∧ Ext [] w w' := by
  refine fn_start Try.func38 rfl (N := 9) rfl ?_
  refine k_seq (k_region ?_)
  refine o_alloc Try.zeroValue47 (fun b4 => o_nil ?_)
  refine k_seq (k_region ?_)
  refine o_val (ex_move rfl) ?_
  refine o_val (ex_move rfl) ?_
  refine o_val (ex_call Try.call40 rfl (fun W hW => c40 lo hi)) ?_
  refine o_val (ex_build bf47 rfl) ?_
  refine o_store Try.sizeOf47 rfl rfl (o_nil ?_)
  refine k_ret ?_
  exact finC rfl Try.isAgg47 Try.sizeOf47 rfl rfl fun W hW => ⟨rfl, hW.ext⟩

-- == f39 acme/acmelaw09.angle params [23, 23] results [47] in [('cell', ['4', '47'])] ntmps 8 nfree 0
theorem c39 (tl th al ah : Int) {w : World} : Calls Try.prog 39 [.agg [.int .i64 tl, .int .i64 th].toArray, .agg [.int .i64 al, .int .i64 ah].toArray].toArray w fun e w' => e = .returned (.agg [.int .i64 2, .int .i64 tl, .int .i64 th, .int .i64 al, .int .i64 ah, .int .i64 0, .int .i64 0].toArray) ∧ Ext [] w w' := by
  refine fn_start Try.func39 rfl (N := 8) rfl ?_
  refine k_seq (k_region ?_)
  refine o_box rfl (fun b2 => ?_)
  refine o_box rfl (fun b3 => ?_)
  refine o_alloc Try.zeroValue47 (fun b4 => o_nil ?_)
  refine k_seq (k_region ?_)
  refine o_val (ex_loadA Try.isAgg23 Try.sizeOf23 rfl) ?_
  refine o_val (ex_loadA Try.isAgg23 Try.sizeOf23 rfl) ?_
  refine o_val (ex_build bf47 rfl) ?_
  refine o_store Try.sizeOf47 rfl rfl (o_nil ?_)
  refine k_ret ?_
  exact finC rfl Try.isAgg47 Try.sizeOf47 rfl rfl fun W hW => ⟨rfl, hW.ext⟩

-- == f44 acme/acmelaw09.stretch params [3, 3] results [47] in [('cell', ['4', '47'])] ntmps 9 nfree 0
theorem c44 (lo hi : Int) {w : World} : Calls Try.prog 44 [.int .i64 lo, .int .i64 hi].toArray w fun e w' => e = .returned (.agg [.int .i64 3, .int .i64 0, .int .i64 0, .int .i64 0, .int .i64 0, .int .i64 lo, .int .i64 hi].toArray) ∧ Ext [] w w' := by
  refine fn_start Try.func44 rfl (N := 9) rfl ?_
  refine k_seq (k_region ?_)
  refine o_alloc Try.zeroValue47 (fun b4 => o_nil ?_)
  refine k_seq (k_region ?_)
  refine o_val (ex_move rfl) ?_
  refine o_val (ex_move rfl) ?_
  refine o_val (ex_call Try.call40 rfl (fun W hW => c40 lo hi)) ?_
  refine o_val (ex_build bf47 rfl) ?_
  refine o_store Try.sizeOf47 rfl rfl (o_nil ?_)
  refine k_ret ?_
  exact finC rfl Try.isAgg47 Try.sizeOf47 rfl rfl fun W hW => ⟨rfl, hW.ext⟩

theorem k7 {w : World} : Calls Try.prog 7 [.agg [.int .i64 2000, .int .i64 5000, .int .i64 7000, .int .i64 100, .int .i64 160, .int .i64 120, .int .i64 150, .int .i64 50000, .int .i64 60000, .int .i64 90, .int .i64 110, .int .i64 30000, .int .i64 33000].toArray, .int .i64 20000, .agg [.int .i64 100, .int .i64 120].toArray].toArray w fun e w' => e = .returned (.tuple #[.int .i64 66800000, .int .i64 0]) ∧ Ext [] w w' :=
  (c7 oneB 20000 100 120).mono fun e w' h => ⟨h.1.trans (by kernel_rfl), h.2⟩
theorem k27 {w : World} : Calls Try.prog 27 [.agg [.int .i64 2000, .int .i64 5000, .int .i64 7000, .int .i64 100, .int .i64 160, .int .i64 120, .int .i64 150, .int .i64 50000, .int .i64 60000, .int .i64 90, .int .i64 110, .int .i64 30000, .int .i64 33000].toArray, .agg [.int .i64 2, .int .i64 10000000, .int .i64 10500000, .int .i64 300, .int .i64 310, .int .i64 0, .int .i64 0].toArray].toArray w fun e w' => e = .returned (.tuple #[.agg [.int .i64 17597, .int .i64 21743].toArray, .int .i64 0]) ∧ Ext [] w w' :=
  (c27 oneB ⟨2, 10000000, 10500000, 300, 310, 0, 0⟩).mono fun e w' h => ⟨h.1.trans (by kernel_rfl), h.2⟩
theorem k41 {w : World} : Calls Try.prog 41 [.agg [.int .i64 2000, .int .i64 5000, .int .i64 7000, .int .i64 100, .int .i64 160, .int .i64 120, .int .i64 150, .int .i64 50000, .int .i64 60000, .int .i64 90, .int .i64 110, .int .i64 30000, .int .i64 33000].toArray, .agg [.int .i64 1, .int .i64 66800000, .int .i64 66800000, .int .i64 0, .int .i64 0, .int .i64 0, .int .i64 0].toArray, .agg [.int .i64 500, .int .i64 1000].toArray].toArray w fun e w' => e = .returned (.tuple #[.agg [.int .i64 16350, .int .i64 19500].toArray, .int .i64 0]) ∧ Ext [] w w' :=
  (c41 oneB ⟨1, 66800000, 66800000, 0, 0, 0, 0⟩ 500 1000 (by kernel_rfl) (by kernel_rfl)).mono fun e w' h => ⟨h.1.trans (by kernel_rfl), h.2⟩
theorem k42 {w : World} : Calls Try.prog 42 [.agg [.int .i64 2000, .int .i64 5000, .int .i64 7000, .int .i64 100, .int .i64 160, .int .i64 120, .int .i64 150, .int .i64 50000, .int .i64 60000, .int .i64 90, .int .i64 110, .int .i64 30000, .int .i64 33000].toArray, .agg [.int .i64 1, .int .i64 105000000, .int .i64 105000000, .int .i64 0, .int .i64 0, .int .i64 0, .int .i64 0].toArray].toArray w fun e w' => e = .returned (.tuple #[.bool false, .bool true, .int .i64 0]) ∧ Ext [] w w' :=
  (c42 oneB ⟨1, 105000000, 105000000, 0, 0, 0, 0⟩ (by kernel_rfl)).mono fun e w' h => ⟨h.1.trans (by kernel_rfl), h.2⟩
theorem k8 {w : World} : Calls Try.prog 8 [.agg [.int .i64 2000, .int .i64 5000, .int .i64 7000, .int .i64 100, .int .i64 160, .int .i64 120, .int .i64 150, .int .i64 50000, .int .i64 60000, .int .i64 90, .int .i64 110, .int .i64 30000, .int .i64 33000].toArray, .agg [.int .i64 17000, .int .i64 19000].toArray, .agg [.int .i64 (-500000), .int .i64 500000].toArray].toArray w fun e w' => e = .returned (.tuple #[.agg [.int .i64 0, .int .i64 0].toArray, .int .i64 9]) ∧ Ext [] w w' :=
  (c8 oneB 17000 19000 (-500000) 500000).mono fun e w' h => ⟨h.1.trans (by kernel_rfl), h.2⟩
theorem k43 {w : World} : Calls Try.prog 43 [.agg [.int .i64 1500, .int .i64 5000, .int .i64 7000, .int .i64 100, .int .i64 160, .int .i64 120, .int .i64 150, .int .i64 50000, .int .i64 60000, .int .i64 90, .int .i64 110, .int .i64 30000, .int .i64 33000].toArray, .agg [.int .i64 10000, .int .i64 20000].toArray].toArray w fun e w' => e = .returned (.tuple #[.agg [.int .i64 0, .int .i64 7000000].toArray, .int .i64 0]) ∧ Ext [] w w' :=
  (c43 { oneB with lead := 1500 } 10000 20000 (by kernel_rfl) (by kernel_rfl)).mono fun e w' h => ⟨h.1.trans (by kernel_rfl), h.2⟩
theorem k19 {w : World} : Calls Try.prog 19 [.agg [.int .i64 2000, .int .i64 5000, .int .i64 7000, .int .i64 100, .int .i64 160, .int .i64 120, .int .i64 150, .int .i64 50000, .int .i64 60000, .int .i64 90, .int .i64 110, .int .i64 30000, .int .i64 33000].toArray, .agg [.int .i64 66800000, .int .i64 66800000].toArray, .agg [.int .i64 19000, .int .i64 19500].toArray].toArray w fun e w' => e = .returned (.tuple #[.agg [.int .i64 100, .int .i64 135].toArray, .agg [.int .i64 120, .int .i64 145].toArray, .int .i64 0]) ∧ Ext [] w w' :=
  (c19 oneB 66800000 66800000 19000 19500).mono fun e w' h => ⟨h.1.trans (by kernel_rfl), h.2⟩

def ways3 : List Wa := [⟨1, 66800000, 66800000, 0, 0, 0, 0⟩, ⟨2, 10000000, 10500000, 300, 310, 0, 0⟩, ⟨3, 0, 0, 0, 0, 190, 200⟩]
theorem flat_get : ∀ (l : List Wa) (k : Nat) (h : k < l.length) (j : Nat) (v : Value), (l[k].cells)[j]? = some v → (l.flatMap Wa.cells)[k * 7 + j]? = some v
  | y :: r, 0, _, j, v, hj => by
    simp only [List.getElem_cons_zero] at hj
    simp only [List.flatMap_cons, Nat.zero_mul, Nat.zero_add]
    rw [List.getElem?_append_left (List.getElem?_eq_some_iff.1 hj).1]
    exact hj
  | y :: r, k + 1, h, j, v, hj => by
    simp only [List.getElem_cons_succ] at hj
    have := flat_get r k (by simpa using h) j v hj
    have e7 : y.cells.length = 7 := rfl
    simp only [List.flatMap_cons]
    rw [List.getElem?_append_right (by omega), show (k + 1) * 7 + j - y.cells.length = k * 7 + j from by omega]
    exact this
theorem ways_row {w0 : World} {M : List Nat} {H : Hp} {W : World} (hW : Sat w0 M H W) (b : Nat) {t : TypeId} {cs : List Value} {own : Bool} (l : List Wa) [he : HasE H b t cs own] (h : cs = l.flatMap Wa.cells) : WaysAt W (some ⟨b, 0, none⟩) l := fun k hk => by
  refine ⟨_, rfl, fun j v hj => ?_⟩
  rw [add_lit, add_lit, cell_of (hW.cells he), h]
  have := flat_get l k hk j v hj
  simpa using this

theorem k15 {A : Option Addr} {c : Nat} {w : World} (hrow : WaysAt w A ways3) : Calls Try.prog 15 [.agg [.int .i64 2000, .int .i64 5000, .int .i64 7000, .int .i64 100, .int .i64 160, .int .i64 120, .int .i64 150, .int .i64 50000, .int .i64 60000, .int .i64 90, .int .i64 110, .int .i64 30000, .int .i64 33000].toArray, .slice A 3 c, .agg [.int .i64 17000, .int .i64 22000].toArray].toArray w fun x w' => ∃ v, x = .returned (.tuple #[v, .int .i64 0]) ∧ FreshV 3 1 v 3 (([0, 1, 2] : List Int).map (Value.int .i64)) w w' ∧ Ext [] w w' :=
  (c15 oneB 17000 22000 ways3 (c := c) (by decide) hrow).mono fun e w' ⟨v, h1, h2, h3⟩ => by
    have e1 : bestE oneB 17000 22000 ways3 = 0 := by kernel_rfl
    have e2 : bestL oneB 17000 22000 ways3 = [0, 1, 2] := by kernel_rfl
    rw [e1] at h1
    rw [e2] at h2
    exact ⟨v, h1, h2, h3⟩

section
variable {P : Program} {N : Nat} {w0 : World} {M : List Nat} {Γ : Gam} {H : Hp} {ops : Array Oper} {Q : Exit → Act → World → Prop} {next : AW} {rest : List Oper} {d : Nat} {e : TypeId} {ty : Nat} {pos : String} {aft : Array Edge}
/-- A call that hands back a slice of its own, and more. -/
theorem o_callT {f size cnt : Nat} {args : List Operand} {vs : List Value} {ats : Array TypeId} {es : List Value} {u : Value} (hcall : ∀ l W, (callFunc f l).run P W = .ok (.enter f l) W) (hargs : evs Γ args = some vs)
    (hc : ∀ W, Sat w0 M H W → Calls P f vs.toArray W (fun x W' => ∃ v, x = .returned (.tuple #[v, u]) ∧ FreshV e size v cnt es W W' ∧ Ext [] W W'))
    (k : ∀ v Hx, OwnsV e size v cnt es Hx → OpsN P ops Q next N w0 M rest ((d, .tuple #[v, u]) :: Γ) (Hx ++ H)) (hdN : d < N := by decide) : OpsN P ops Q next N w0 M (⟨some d, .call ⟨.value (.func f), args.toArray, ats⟩, ty, pos, aft, none⟩ :: rest) Γ H :=
  o_step (ex_callF (bs := []) (φ := fun x H' => ∃ v Hx, x = .tuple #[v, u] ∧ OwnsV e size v cnt es Hx ∧ H' = Hx ++ H) hcall hargs fun W hW => (hc W hW).mono fun x W' ⟨v, hx, hF, hE⟩ => by
    obtain ⟨Hx, h1, h2⟩ := hF.take hW hE
    exact ⟨_, Hx ++ H, hx, ⟨v, Hx, rfl, h1, rfl⟩, h2, hE⟩) (by rintro _ _ ⟨v, Hx, rfl, h, rfl⟩; exact k v Hx h) rfl rfl hdN
end

-- == f10 acme/acmelaw09.known params [] results [4] in [('tmp', ['0'])] ntmps 205 nfree 0
theorem c10 {w : World} : Calls Try.prog 10 [].toArray w fun e w' => e = .returned (.bool true) ∧ Ext [] w w' := by
  refine fn_start Try.func10 rfl (N := 205) rfl ?_
  refine k_seq (k_region ?_)
  refine o_val (ex_assign rfl) (o_nil ?_)
  refine k_seq (k_region ?_)
  refine o_val (ex_call Try.call37 rfl (fun W hW => c37)) ?_
  refine o_val (ex_build bf26 rfl) ?_
  refine o_val (ex_call Try.call7 rfl (fun W hW => k7)) ?_
  refine o_val (ex_move rfl) ?_
  refine o_val (ex_extract rfl rfl) ?_
  refine o_val (ex_extract rfl rfl) ?_
  refine o_val (ex_assign rfl) ?_
  refine o_val (ex_assign rfl) (o_nil ?_)
  refine k_seq (k_region ?_)
  refine o_val (ex_call Try.call37 rfl (fun W hW => c37)) ?_
  refine o_val (ex_call Try.call38 rfl (fun W hW => c38 66800000 66800000)) ?_
  refine o_val (ex_call Try.call27 rfl (fun W hW => one27)) ?_
  refine o_val (ex_move rfl) ?_
  refine o_val (ex_extract rfl rfl) ?_
  refine o_val (ex_extract rfl rfl) ?_
  refine o_alloc Try.zeroValue23 (fun b3 => ?_)
  refine o_store Try.sizeOf23 rfl rfl ?_
  refine o_val (ex_assign rfl) (o_nil ?_)
  refine k_seq (k_region ?_)
  refine o_val (ex_call Try.call37 rfl (fun W hW => c37)) ?_
  refine o_val (ex_call Try.call40 rfl (fun W hW => c40 10000000 10500000)) ?_
  refine o_val (ex_call Try.call40 rfl (fun W hW => c40 300 310)) ?_
  refine o_val (ex_call Try.call39 rfl (fun W hW => c39 10000000 10500000 300 310)) ?_
  refine o_val (ex_call Try.call27 rfl (fun W hW => k27)) ?_
  refine o_val (ex_move rfl) ?_
  refine o_val (ex_extract rfl rfl) ?_
  refine o_val (ex_extract rfl rfl) ?_
  refine o_alloc Try.zeroValue23 (fun b5 => ?_)
  refine o_store Try.sizeOf23 rfl rfl ?_
  refine o_val (ex_assign rfl) (o_nil ?_)
  refine k_seq (k_region ?_)
  refine o_val (ex_call Try.call37 rfl (fun W hW => c37)) ?_
  refine o_val (ex_call Try.call38 rfl (fun W hW => c38 66800000 66800000)) ?_
  refine o_val (ex_call Try.call40 rfl (fun W hW => c40 500 1000)) ?_
  refine o_val (ex_call Try.call41 rfl (fun W hW => k41)) ?_
  refine o_val (ex_move rfl) ?_
  refine o_val (ex_extract rfl rfl) ?_
  refine o_val (ex_extract rfl rfl) ?_
  refine o_alloc Try.zeroValue23 (fun b7 => ?_)
  refine o_store Try.sizeOf23 rfl rfl ?_
  refine o_val (ex_assign rfl) (o_nil ?_)
  refine k_seq (k_region ?_)
  refine o_val (ex_call Try.call37 rfl (fun W hW => c37)) ?_
  refine o_val (ex_call Try.call38 rfl (fun W hW => c38 105000000 105000000)) ?_
  refine o_val (ex_call Try.call42 rfl (fun W hW => k42)) ?_
  refine o_val (ex_move rfl) ?_
  refine o_val (ex_extract rfl rfl) ?_
  refine o_val (ex_extract rfl rfl) ?_
  refine o_val (ex_extract rfl rfl) ?_
  refine o_val (ex_assign rfl) ?_
  refine o_val (ex_assign rfl) ?_
  refine o_val (ex_assign rfl) (o_nil ?_)
  refine k_seq (k_region ?_)
  refine o_val (ex_call Try.call37 rfl (fun W hW => c37)) ?_
  refine o_val (ex_call Try.call40 rfl (fun W hW => c40 17000 21000)) ?_
  refine o_val (ex_call Try.call40 rfl (fun W hW => c40 (-500000) 500000)) ?_
  refine o_val (ex_call Try.call8 rfl (fun W hW => one8)) ?_
  refine o_val (ex_move rfl) ?_
  refine o_val (ex_extract rfl rfl) ?_
  refine o_val (ex_extract rfl rfl) ?_
  refine o_alloc Try.zeroValue23 (fun b12 => ?_)
  refine o_store Try.sizeOf23 rfl rfl ?_
  refine o_val (ex_assign rfl) (o_nil ?_)
  refine k_seq (k_region ?_)
  refine o_val (ex_call Try.call37 rfl (fun W hW => c37)) ?_
  refine o_val (ex_call Try.call40 rfl (fun W hW => c40 17000 19000)) ?_
  refine o_val (ex_call Try.call40 rfl (fun W hW => c40 (-500000) 500000)) ?_
  refine o_val (ex_call Try.call8 rfl (fun W hW => k8)) ?_
  refine o_val (ex_move rfl) ?_
  refine o_val (ex_extract rfl rfl) ?_
  refine o_val (ex_extract rfl rfl) ?_
  refine o_alloc Try.zeroValue23 (fun b14 => ?_)
  refine o_store Try.sizeOf23 rfl rfl ?_
  refine o_val (ex_assign rfl) (o_nil ?_)
  refine k_seq (k_region ?_)
  refine o_val (ex_call Try.call37 rfl (fun W hW => c37)) ?_
  refine o_alloc Try.zeroValue25 (fun b16 => ?_)
  refine o_store Try.sizeOf25 rfl rfl (o_nil ?_)
  refine k_seq (k_region ?_)
  refine o_val (ex_field (o := 0) 0 fa25_0 rfl rfl) ?_
  refine o_store Try.sizeOf3 rfl rfl (o_nil ?_)
  refine k_seq (k_draw [true, true, true, true, true, true, false, false, false] 3 ?_ mixed (by kernel_rfl) rfl)
  refine d_loadA (i := 0) Try.isAgg25 Try.sizeOf25 rfl ?_
  refine d_val (i := 1) [] (ex_call Try.call40 rfl (fun W hW => c40 10000 20000)) ?_
  refine d_val (i := 2) [] (ex_call Try.call43 rfl (fun W hW => k43)) ?_
  refine d_val (i := 3) [] (ex_move rfl) ?_
  refine d_val (i := 4) [] (ex_extract rfl rfl) ?_
  refine d_val (i := 5) [] (ex_extract rfl rfl) ?_
  refine d_rest ?_
  refine d_rest ?_
  refine d_rest ?_
  refine d_nil ?_
  refine r_one 6 (rs_alloc rfl Try.zeroValue23 (fun b17 => ?_)) (by kernel_rfl)
  refine r_one 7 (rs_store [6, 4, 2, 0, 1, 2, 3, 4, 6] rfl Try.sizeOf23 rfl rfl ?_) (by kernel_rfl)
  refine r_one 8 (rs_val rfl (ex_assign rfl) ?_) (by kernel_rfl)
  refine r_nil ?_ (by kernel_rfl)
  refine k_seq (k_region ?_)
  refine o_val (ex_call Try.call37 rfl (fun W hW => c37)) ?_
  refine o_val (ex_call Try.call40 rfl (fun W hW => c40 66800000 66800000)) ?_
  refine o_val (ex_call Try.call40 rfl (fun W hW => c40 19000 19500)) ?_
  refine o_val (ex_call Try.call19 rfl (fun W hW => k19)) ?_
  refine o_val (ex_move rfl) ?_
  refine o_val (ex_extract rfl rfl) ?_
  refine o_val (ex_extract rfl rfl) ?_
  refine o_val (ex_extract rfl rfl) ?_
  refine o_alloc Try.zeroValue23 (fun b19 => ?_)
  refine o_alloc Try.zeroValue23 (fun b20 => ?_)
  refine o_store Try.sizeOf23 rfl rfl ?_
  refine o_store Try.sizeOf23 rfl rfl ?_
  refine o_val (ex_assign rfl) (o_nil ?_)
  refine k_seq (k_region ?_)
  refine o_val (ex_call Try.call37 rfl (fun W hW => c37)) ?_
  refine o_val (ex_call Try.call38 rfl (fun W hW => c38 66800000 66800000)) ?_
  refine o_val (ex_call Try.call40 rfl (fun W hW => c40 10000000 10500000)) ?_
  refine o_val (ex_call Try.call40 rfl (fun W hW => c40 300 310)) ?_
  refine o_val (ex_call Try.call39 rfl (fun W hW => c39 10000000 10500000 300 310)) ?_
  refine o_val (ex_call Try.call44 rfl (fun W hW => c44 190 200)) ?_
  refine o_buildSlice [.int .i64 0, .int .i64 0, .int .i64 0, .int .i64 0, .int .i64 0, .int .i64 0, .int .i64 0, .int .i64 0, .int .i64 0, .int .i64 0, .int .i64 0, .int .i64 0, .int .i64 0, .int .i64 0, .int .i64 0, .int .i64 0, .int .i64 0, .int .i64 0, .int .i64 0, .int .i64 0, .int .i64 0] [(0, 7), (7, 7), (14, 7)] Try.runUnderlying41 Try.sizeOf47 Try.zeroValue47 rfl (fun b95 => ?_)
  refine o_val (ex_call Try.call40 rfl (fun W hW => c40 17000 22000)) ?_
  refine o_callT Try.call15 rfl (fun W hW => (by exact k15 (ways_row hW b95 ways3 rfl))) (fun v97 x97 o97 => ?_)
  rcases o97.2 with ⟨_, h0, _⟩ | ⟨g, cap, cs, rfl, rfl, hcap, hmax, hcs, htake⟩
  · exact absurd h0 (by decide)
  simp only [List.cons_append, List.nil_append]
  have q0 : cs[0]? = some (Value.int .i64 0) := own_cell (l := [0, 1, 2]) htake (by decide)
  have q1 : cs[1]? = some (Value.int .i64 1) := own_cell (l := [0, 1, 2]) htake (by decide)
  have q2 : cs[2]? = some (Value.int .i64 2) := own_cell (l := [0, 1, 2]) htake (by decide)
  refine o_val (ex_move rfl) ?_
  refine o_val (ex_extract rfl rfl) ?_
  refine o_val (ex_extract rfl rfl) ?_
  refine o_val (ex_assign rfl) ?_
  refine o_val (ex_assign rfl) (o_nil ?_)
  refine k_seq (k_seq (k_region ?_))
  refine o_val (ex_move rfl) ?_
  refine o_val (ex_neq rfl rfl) ?_
  refine o_val (ex_move rfl) ?_
  refine o_or 2 (c := false) (fun h => ?_) ?_
  · refine o_val_g (ex_move rfl) ?_
    exact o_val_g (ex_neq rfl rfl) (o_nil (got rfl (.refl _)))
  refine o_val (ex_move rfl) ?_
  refine o_or 2 (c := false) (fun h => ?_) ?_
  · refine o_val_g (ex_move rfl) ?_
    exact o_val_g (ex_neq rfl rfl) (o_nil (got rfl (.refl _)))
  refine o_val (ex_move rfl) ?_
  refine o_or 2 (c := false) (fun h => ?_) ?_
  · refine o_val_g (ex_move rfl) ?_
    exact o_val_g (ex_neq rfl rfl) (o_nil (got rfl (.refl _)))
  refine o_val (ex_move rfl) ?_
  refine o_or 2 (c := false) (fun h => ?_) ?_
  · refine o_val_g (ex_move rfl) ?_
    exact o_val_g (ex_neq rfl rfl) (o_nil (got rfl (.refl _)))
  refine o_val (ex_move rfl) ?_
  refine o_or 2 (c := false) (fun h => ?_) ?_
  · refine o_val_g (ex_move rfl) ?_
    exact o_val_g (ex_neq rfl rfl) (o_nil (got rfl (.refl _)))
  refine o_val (ex_move rfl) ?_
  refine o_or 2 (c := false) (fun h => ?_) ?_
  · refine o_val_g (ex_move rfl) ?_
    exact o_val_g (ex_neq rfl rfl) (o_nil (got rfl (.refl _)))
  refine o_val (ex_move rfl) ?_
  refine o_or 2 (c := false) (fun h => ?_) ?_
  · refine o_val_g (ex_move rfl) ?_
    exact o_val_g (ex_neq rfl rfl) (o_nil (got rfl (.refl _)))
  refine o_val (ex_move rfl) ?_
  refine o_or 2 (c := false) (fun h => ?_) ?_
  · refine o_val_g (ex_move rfl) ?_
    exact o_val_g (ex_neq rfl rfl) (o_nil (got rfl (.refl _)))
  refine o_val (ex_move rfl) ?_
  refine o_or 2 (c := false) (fun h => ?_) ?_
  · refine o_val_g (ex_move rfl) ?_
    exact o_val_g (ex_neq rfl rfl) (o_nil (got rfl (.refl _)))
  refine o_val (ex_move rfl) ?_
  refine o_or 3 (c := false) (fun h => ?_) (o_nil ?_)
  · refine o_val_g (ex_move rfl) ?_
    refine o_val_g (ex_len Try.runUnderlying42 rfl) ?_
    exact o_val_g (ex_neq rfl rfl) (o_nil (got rfl (.refl _)))
  refine k_cond rfl (fun h => ?_) (fun h => ?_)
  ·
    cases h
  ·
    refine k_skip ?_
    refine k_seq (k_draw [true, true, true, true, true, true, true, true, true, true, true, true, true, true, true, true, true, true, true, true, true, true, true, true, true, true, true, true, true, true, true, true, true, true, true, true, true, true, true, true, true, true, true, true, true, true, true, true, true, true, true, true, true, true, true, true, true, true, true, true, true, true, false] 1 ?_ mixed (by kernel_rfl) rfl)
    refine d_val (i := 0) [] (ex_move rfl) ?_
    refine d_val (i := 1) [] (ex_eql rfl rfl) ?_
    refine d_val (i := 2) [] (ex_move rfl) ?_
    refine d_loadA_g (i := 3) Try.isAgg23 Try.sizeOf23 rfl ?_
    refine d_val_g (i := 4) [] (ex_call Try.call40 rfl (fun W hW => c40 17350 20000)) ?_
    refine d_val_g (i := 5) [] (ex_eql_23 rfl rfl) ?_
    refine d_val (i := 6) [] (ex_pick rfl rfl) ?_
    refine d_val (i := 7) [] (ex_move rfl) ?_
    refine d_loadA_g (i := 8) Try.isAgg23 Try.sizeOf23 rfl ?_
    refine d_val_g (i := 9) [] (ex_call Try.call40 rfl (fun W hW => c40 17597 21743)) ?_
    refine d_val_g (i := 10) [] (ex_eql_23 rfl rfl) ?_
    refine d_val (i := 11) [] (ex_pick rfl rfl) ?_
    refine d_val (i := 12) [] (ex_move rfl) ?_
    refine d_loadA_g (i := 13) Try.isAgg23 Try.sizeOf23 rfl ?_
    refine d_val_g (i := 14) [] (ex_call Try.call40 rfl (fun W hW => c40 16350 19500)) ?_
    refine d_val_g (i := 15) [] (ex_eql_23 rfl rfl) ?_
    refine d_val (i := 16) [] (ex_pick rfl rfl) ?_
    refine d_val (i := 17) [] (ex_move rfl) ?_
    refine d_val_g (i := 18) [] (ex_move rfl) ?_
    refine d_val_g (i := 19) [] (ex_not rfl) ?_
    refine d_val (i := 20) [] (ex_pick rfl rfl) ?_
    refine d_val (i := 21) [] (ex_move rfl) ?_
    refine d_val_g (i := 22) [] (ex_move rfl) ?_
    refine d_val (i := 23) [] (ex_pick rfl rfl) ?_
    refine d_val (i := 24) [] (ex_move rfl) ?_
    refine d_loadA_g (i := 25) Try.isAgg23 Try.sizeOf23 rfl ?_
    refine d_val_g (i := 26) [] (ex_call Try.call40 rfl (fun W hW => c40 65950000 69643339)) ?_
    refine d_val_g (i := 27) [] (ex_eql_23 rfl rfl) ?_
    refine d_val (i := 28) [] (ex_pick rfl rfl) ?_
    refine d_val (i := 29) [] (ex_move rfl) ?_
    refine d_loadA_g (i := 30) Try.isAgg23 Try.sizeOf23 rfl ?_
    refine d_val_g (i := 31) [] (ex_call Try.call40 rfl (fun W hW => c40 0 7000000)) ?_
    refine d_val_g (i := 32) [] (ex_eql_23 rfl rfl) ?_
    refine d_val (i := 33) [] (ex_pick rfl rfl) ?_
    refine d_val (i := 34) [] (ex_move rfl) ?_
    refine d_loadA_g (i := 35) Try.isAgg23 Try.sizeOf23 rfl ?_
    refine d_val_g (i := 36) [] (ex_call Try.call40 rfl (fun W hW => c40 100 135)) ?_
    refine d_val_g (i := 37) [] (ex_eql_23 rfl rfl) ?_
    refine d_val (i := 38) [] (ex_pick rfl rfl) ?_
    refine d_val (i := 39) [] (ex_move rfl) ?_
    refine d_loadA_g (i := 40) Try.isAgg23 Try.sizeOf23 rfl ?_
    refine d_val_g (i := 41) [] (ex_call Try.call40 rfl (fun W hW => c40 120 145)) ?_
    refine d_val_g (i := 42) [] (ex_eql_23 rfl rfl) ?_
    refine d_val (i := 43) [] (ex_pick rfl rfl) ?_
    refine d_val (i := 44) [] (ex_move rfl) ?_
    refine d_val_g (i := 45) [] (ex_move rfl) ?_
    refine d_val_g (i := 46) [] (ex_index 0 Try.runUnderlying42 Try.sizeOf3 rfl rfl (by decide) (by decide) (by decide)) ?_
    refine d_load_g (i := 47) Try.isAgg3 rfl q0 ?_
    refine d_val_g (i := 48) [] (ex_eql rfl rfl) ?_
    refine d_val (i := 49) [] (ex_pick rfl rfl) ?_
    refine d_val (i := 50) [] (ex_move rfl) ?_
    refine d_val_g (i := 51) [] (ex_move rfl) ?_
    refine d_val_g (i := 52) [] (ex_index 1 Try.runUnderlying42 Try.sizeOf3 rfl rfl (by decide) (by decide) (by decide)) ?_
    refine d_load_g (i := 53) Try.isAgg3 rfl q1 ?_
    refine d_val_g (i := 54) [] (ex_eql rfl rfl) ?_
    refine d_val (i := 55) [] (ex_pick rfl rfl) ?_
    refine d_val (i := 56) [] (ex_move rfl) ?_
    refine d_val_g (i := 57) [] (ex_move rfl) ?_
    refine d_val_g (i := 58) [] (ex_index 2 Try.runUnderlying42 Try.sizeOf3 rfl rfl (by decide) (by decide) (by decide)) ?_
    refine d_load_g (i := 59) Try.isAgg3 rfl q2 ?_
    refine d_val_g (i := 60) [] (ex_eql rfl rfl) ?_
    refine d_val (i := 61) [] (ex_pick rfl rfl) ?_
    refine d_rest ?_
    refine d_nil ?_
    refine r_one 62 (rs_val rfl (ex_assign rfl) ?_) (by kernel_rfl)
    refine r_nil ?_ (by kernel_rfl)
    refine k_ret ?_
    exact fin1 rfl rfl fun W hW => ⟨rfl, hW.ext⟩

end Go.Proofs.Yteecidddfcbabaa
