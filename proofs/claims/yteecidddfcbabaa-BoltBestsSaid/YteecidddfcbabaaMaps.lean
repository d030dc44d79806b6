/- Own layer: maps from integers to integers, made by the call itself. -/
import Derived.Test.YteecidddfcbabaaOwn2
import Derived.Maps.Keyed
namespace Go.Proofs.Yteecidddfcbabaa
open Go

/-- A map's entry, as it is known. -/
def kvC (p : Int × Int) : Value := .tuple #[.int .i64 p.1, .int .i64 p.2]

/-- The value at a key; 0 if it is not there. -/
def kvGet : List (Int × Int) → Int → Int
  | [], _ => 0
  | (k, v) :: r, x => if x = k then v else kvGet r x

theorem findNow_kv (x : Int) : ∀ (l : List (Int × Int)) (f : Nat → Value → MapEntry) (hf : ∀ i p, (f i (kvC p)).key = .int .i64 p.1 ∧ (f i (kvC p)).val = .int .i64 p.2) (i : Nat),
    (¬ x ∈ l.map (·.1) → Instr.findNow (.int .i64) (.int .i64 x) ((l.map kvC).mapIdx f) i = some none) ∧ (x ∈ l.map (·.1) → ∃ j, Instr.findNow (.int .i64) (.int .i64 x) ((l.map kvC).mapIdx f) i = some (some (j, .int .i64 (kvGet l x))))
  | [], f, hf, i => ⟨fun _ => by simp [Instr.findNow], fun h => by simp at h⟩
  | (k, v) :: r, f, hf, i => by
    have ih := findNow_kv x r (fun j => f (j + 1)) (fun j p => hf (j + 1) p) (i + 1)
    have h0 := hf 0 (k, v)
    simp only [List.map_cons, List.mapIdx_cons, Instr.findNow, h0.1, Instr.sameNow, if_true, h0.2]
    by_cases hx : x = k
    · subst hx
      simp [kvGet]
    · have e : (x == k) = false := by simpa using hx
      simp only [e, List.mem_cons, hx, false_or, kvGet, if_false]
      exact ih

class HasM (H : Hp) (b : Nat) (cs : outParam (List Value)) : Prop where
  mem : (⟨b, 0, cs, false⟩ : Ent) ∈ H
instance HasM.here {H : Hp} {b : Nat} {cs : List Value} : HasM (⟨b, 0, cs, false⟩ :: H) b cs := ⟨List.mem_cons_self ..⟩
instance HasM.there {e : Ent} {H : Hp} {b : Nat} {cs : List Value} [h : HasM H b cs] : HasM (e :: H) b cs := ⟨List.mem_cons_of_mem _ h.mem⟩
instance (priority := low) HasM.app {Hy H : Hp} {b : Nat} {cs : List Value} [h : HasM H b cs] : HasM (Hy ++ H) b cs := ⟨List.mem_append_right _ h.mem⟩

/-- The knowledge behind a write into a map. -/
class SetM (H : Hp) (b : Nat) (cs' : List Value) (H' : outParam Hp) : Prop where
  set : ∃ l r cs, H = l ++ ⟨b, 0, cs, false⟩ :: r ∧ H' = l ++ ⟨b, 0, cs', false⟩ :: r
instance SetM.here {H : Hp} {b : Nat} {cs cs' : List Value} : SetM (⟨b, 0, cs, false⟩ :: H) b cs' (⟨b, 0, cs', false⟩ :: H) := ⟨[], H, cs, rfl, rfl⟩
instance SetM.there {e : Ent} {H H' : Hp} {b : Nat} {cs' : List Value} [h : SetM H b cs' H'] : SetM (e :: H) b cs' (e :: H') :=
  ⟨let ⟨l, r, cs, h1, h2⟩ := h.set; ⟨e :: l, r, cs, by rw [h1]; rfl, by rw [h2]; rfl⟩⟩
instance (priority := low) SetM.app {Hy H H' : Hp} {b : Nat} {cs' : List Value} [h : SetM H b cs' H'] : SetM (Hy ++ H) b cs' (Hy ++ H') :=
  ⟨let ⟨l, r, cs, h1, h2⟩ := h.set; ⟨Hy ++ l, r, cs, by rw [h1]; simp, by rw [h2]; simp⟩⟩

theorem checkKey_int {P : Program} {kt : TypeId} (hk : ∀ W, (underlying kt).run P W = .ok (.int .i64) W) (e : Bool) (n : Int) (W : World) : (Instr.checkKey e 10000 kt (.int .i64 n)).run P W = .ok () W := by
  show (Instr.checkKey e (9999 + 1) kt (.int .i64 n)).run P W = .ok () W
  unfold Instr.checkKey
  simp [hk W]
theorem findKey_int {P : Program} {kt : TypeId} (hk : ∀ W, (underlying kt).run P W = .ok (.int .i64) W) {n : Int} {es : List MapEntry} {r : Option (Nat × Value)} (h : Instr.findNow (.int .i64) (.int .i64 n) es 0 = some r) (W : World) : (Instr.findKey kt (.int .i64 n) es).run P W = .ok r W := by
  unfold Instr.findKey
  simp [hk W, h]

section
variable {P : Program} {N : Nat} {w0 : World} {M : List Nat} {Γ : Gam} {H : Hp} {ty : Nat} {pos : String} {aft : Array Edge} {grd : Option (Nat × Bool)} {dst : Option Nat} {t kt et : TypeId}

theorem map_at {W : World} (hW : Sat w0 M H W) {b : Nat} {cs : List Value} [hm : HasM H b cs] : W.heap[b]? = some (mapObj cs) := hW.at_ _ hm.mem

/-- A new map. -/
theorem o_makeMap {ops : Array Oper} {Q : Exit → Act → World → Prop} {next : AW} {rest : List Oper} {d : Nat}
    (k : ∀ b, OpsN P ops Q next N w0 M rest ((d, .map (some b)) :: Γ) (⟨b, 0, [], false⟩ :: H)) (hdN : d < N := by decide) : OpsN P ops Q next N w0 M (⟨some d, .makeMap t none, ty, pos, aft, none⟩ :: rest) Γ H := by
  refine o_step (φ := fun v H' => ∃ b, v = .map (some b) ∧ H' = ⟨b, 0, [], false⟩ :: H) (bs := []) ?_ (by rintro _ _ ⟨b, rfl, rfl⟩; exact k b) rfl rfl hdN
  intro A W nx Q ha hW hn
  have e1 : (execOp A.eval ⟨some d, .makeMap t none, ty, pos, aft, none⟩).run P W = .ok (.value (.map (some W.heap.size))) (W.alloc (.map #[] 0)) := by
    simp [execOp, Instr.makeMap]
  unfold Oper.wp
  rw [e1]
  refine hn _ _ _ ⟨W.heap.size, rfl, rfl⟩ ?_ (Ext.alloc _ _)
  exact hW.take (Ext.alloc _ _) ⟨W.heap.size, 0, [], false⟩ (Nat.le_refl _) (heap_alloc_new W _)

/-- m[x], an integer at an integer. -/
theorem ex_mapGet {x y : Operand} {b : Nat} {kv : List (Int × Int)} {n : Int} (hu : ∀ W, (underlying t).run P W = .ok (.map kt et) W) (hk : ∀ W, (underlying kt).run P W = .ok (.int .i64) W) (hz : ∀ W, (zeroValue et).run P W = .ok (.int .i64 0) W)
    (hx : ev Γ x = some (.map (some b))) (hy : ev Γ y = some (.int .i64 n)) (hm : ∀ W, Sat w0 M H W → W.heap[b]? = some (mapObj (kv.map kvC))) : ExV P N w0 M Γ H ⟨dst, .lookup t x y false, ty, pos, aft, grd⟩ (.int .i64 (kvGet kv n)) :=
  exv_run fun A W ha hW => by
    have hb := hm W hW
    have hf := findNow_kv n kv entOf (fun i p => by simp [kvC, entOf]) 0
    have h0 : ¬ n ∈ kv.map (·.1) → kvGet kv n = 0 := by
      intro h
      clear hf hb hm
      induction kv with
      | nil => rfl
      | cons p r ih =>
        obtain ⟨k, v⟩ := p
        simp only [List.map_cons, List.mem_cons, not_or] at h
        simp [kvGet, h.1, ih h.2]
    by_cases hin : n ∈ kv.map (·.1)
    · obtain ⟨j, hj⟩ := hf.2 hin
      simp [execOp, ha.eval hx, ha.eval hy, Instr.lookup, hu W, MapKept.run_getObj_map hb, checkKey_int hk, findKey_int hk hj]
    · have hj := hf.1 hin
      simp [execOp, ha.eval hx, ha.eval hy, Instr.lookup, hu W, MapKept.run_getObj_map hb, checkKey_int hk, findKey_int hk hj, hz W, h0 hin]
/-- m[x] = y, at a key that is not there. -/
theorem ex_mapPut {x y v : Operand} {b : Nat} {kv : List (Int × Int)} {n c : Int} {H' : Hp} (hu : ∀ W, (underlying t).run P W = .ok (.map kt et) W) (hk : ∀ W, (underlying kt).run P W = .ok (.int .i64) W)
    (hx : ev Γ x = some (.map (some b))) (hy : ev Γ y = some (.int .i64 n)) (hv : ev Γ v = some (.int .i64 c)) (hn : ¬ n ∈ kv.map (·.1)) [hm : HasM H b (kv.map kvC)] [hs : SetM H b ((kv ++ [(n, c)]).map kvC) H'] :
    Ex P N w0 M [b] Γ H ⟨none, .mapUpdate t x y v, ty, pos, aft, grd⟩ (fun _ H2 => H2 = H') :=
  fun A W next Q ha hW hnx => by
    have hb : W.heap[b]? = some (.map ((kv.map kvC).mapIdx entOf).toArray (kv.map kvC).length) := map_at hW
    have hj := (findNow_kv n kv entOf (fun i p => by simp [kvC, entOf]) 0).1 hn
    have hlt : b < W.heap.size := hW.lt hm.mem
    obtain ⟨W', hW'⟩ : ∃ W' : World, W' = { W with heap := W.heap.setIfInBounds b (mapObj ((kv ++ [(n, c)]).map kvC)) } := ⟨_, rfl⟩
    have e0 : mapObj ((kv ++ [(n, c)]).map kvC) = .map (((kv.map kvC).mapIdx entOf).toArray.push { key := .int .i64 n, val := .int .i64 c, born := (kv.map kvC).length }) ((kv.map kvC).length + 1) := by
      unfold mapObj
      simp [List.mapIdx_append, kvC, entOf]
    have e1 : (execOp A.eval ⟨none, .mapUpdate t x y v, ty, pos, aft, grd⟩).run P W = .ok .skip W' := by
      rw [hW', e0]
      simp [execOp, ha.eval hx, ha.eval hy, ha.eval hv, Instr.mapUpdate, hu W, MapKept.run_getObj_map hb, checkKey_int hk, findKey_int hk hj, MapKept.run_setObj_map _ hb]
    unfold Oper.wp
    rw [e1]
    have hother : ∀ k, k ≠ b → W'.heap[k]? = W.heap[k]? := fun k hkb => by rw [hW']; simp [Array.getElem?_setIfInBounds, Ne.symm hkb]
    have hself : W'.heap[b]? = some (mapObj ((kv ++ [(n, c)]).map kvC)) := by rw [hW']; simp [Array.getElem?_setIfInBounds, hlt]
    have hE : Ext [b] W W' := ⟨by rw [hW'], by rw [hW'], by rw [hW'], by rw [hW']; simp, fun k _ hkb => hother k (by simpa using hkb)⟩
    refine hnx undef _ W' rfl ?_ hE
    obtain ⟨l, r, cs0, h1, h2⟩ := hs.set
    have hmem : (⟨b, 0, cs0, false⟩ : Ent) ∈ H := by rw [h1]; simp
    have hnd := hW.nodup
    rw [h1] at hnd
    simp only [List.map_append, List.map_cons] at hnd
    obtain ⟨hnl, hnr⟩ := nodup_mid hnd
    have old : ∀ e, e ∈ l ∨ e ∈ r → e ∈ H ∧ e.b ≠ b := fun e hx => by
      refine ⟨by rw [h1]; rcases hx with hx | hx <;> simp [hx], fun heq => ?_⟩
      rcases hx with hx | hx
      · exact hnl (List.mem_map.2 ⟨e, hx, heq⟩)
      · exact hnr (List.mem_map.2 ⟨e, hx, heq⟩)
    refine ⟨hW.ext.trans hE (fun z hz hzl => ?_), fun e he => ?_, fun e he => ?_, ?_⟩
    · simp only [List.mem_singleton] at hz
      subst hz
      rcases hW.new _ hmem with h | h
      · simp only at h; omega
      · exact h
    · rw [h2] at he
      rcases List.mem_append.1 he with hx | hx
      · rw [hother e.b (old e (.inl hx)).2]; exact hW.at_ e (old e (.inl hx)).1
      · rcases List.mem_cons.1 hx with rfl | hx
        · exact hself
        · rw [hother e.b (old e (.inr hx)).2]; exact hW.at_ e (old e (.inr hx)).1
    · rw [h2] at he
      rcases List.mem_append.1 he with hx | hx
      · exact hW.new e (old e (.inl hx)).1
      · rcases List.mem_cons.1 hx with rfl | hx
        · exact hW.new ⟨b, 0, cs0, false⟩ hmem
        · exact hW.new e (old e (.inr hx)).1
    · rw [h2]; simpa [h1] using hW.nodup
end
end Go.Proofs.Yteecidddfcbabaa
