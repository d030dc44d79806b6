/- Own layer: slices that the call made itself, and append. -/
import Derived.Test.YtdflfnednaleeaaDraw2
import Derived.Laws.AppendOwn
namespace Go.Proofs.Ytdflfnednaleeaa
open Go

/-- A slice of one's own: its value, its length, the cells of its elements, its block (or none). -/
def OwnsV (e : TypeId) (size : Nat) (v : Value) (n : Nat) (xs : List Value) (Hx : Hp) : Prop :=
  xs.length = n * size ∧ ((v = .slice none 0 0 ∧ n = 0 ∧ Hx = []) ∨ ∃ g cap cs, v = .slice (some ⟨g, 0, none⟩) n cap ∧ Hx = [⟨g, e, cs, true⟩] ∧ n ≤ cap ∧ cap ≤ maxLen ∧ cs.length = cap * size ∧ cs.take (n * size) = xs)

theorem OwnsV.nil (e : TypeId) (size : Nat) : OwnsV e size (.slice none 0 0) 0 [] [] := ⟨by simp, .inl ⟨rfl, rfl, rfl⟩⟩

/-- A part of the knowledge of memory, and how the whole reads with another in its place. -/
class SegE (H Hx : Hp) (C : outParam (Hp → Hp)) : Prop where
  seg : ∃ l r, H = l ++ (Hx ++ r) ∧ ∀ Y, C Y = l ++ (Y ++ r)
instance SegE.here {Hx r : Hp} : SegE (Hx ++ r) Hx (fun Y => Y ++ r) := ⟨[], r, rfl, fun _ => rfl⟩
instance (priority := low) SegE.cons {e : Ent} {H Hx : Hp} {C : Hp → Hp} [h : SegE H Hx C] : SegE (e :: H) Hx (fun Y => e :: C Y) :=
  ⟨let ⟨l, r, h1, h2⟩ := h.seg; ⟨e :: l, r, by rw [h1]; rfl, fun Y => by rw [h2]; rfl⟩⟩
instance (priority := low) SegE.app {Hy H Hx : Hp} {C : Hp → Hp} [h : SegE H Hx C] : SegE (Hy ++ H) Hx (fun Y => Hy ++ C Y) :=
  ⟨let ⟨l, r, h1, h2⟩ := h.seg; ⟨Hy ++ l, r, by rw [h1]; simp, fun Y => by rw [h2]; simp⟩⟩

instance (priority := low) HasE.app {Hy H : Hp} {b : Nat} {ty : TypeId} {cs : List Value} {own : Bool} [h : HasE H b ty cs own] : HasE (Hy ++ H) b ty cs own := ⟨List.mem_append_right _ h.mem, h.tr⟩
instance (priority := low) HasE.appl {Hy H : Hp} {b : Nat} {ty : TypeId} {cs : List Value} {own : Bool} [h : HasE Hy b ty cs own] : HasE (Hy ++ H) b ty cs own := ⟨List.mem_append_left _ h.mem, h.tr⟩
instance (priority := low) SubE.app {Hy A B : Hp} [h : SubE A B] : SubE (Hy ++ A) (Hy ++ B) := ⟨List.Sublist.append (.refl _) h.sub⟩
instance (priority := low) SubE.appskip {Hy A B : Hp} [h : SubE A B] : SubE A (Hy ++ B) := ⟨h.sub.trans (List.sublist_append_right _ _)⟩
instance (priority := low) SubE.nilapp {A B : Hp} [h : SubE A B] : SubE ([] ++ A) B := ⟨h.sub⟩
instance (priority := low) NeE.app {Hy H : Hp} {b b' : Nat} [h : NeE H b b'] : NeE (Hy ++ H) b b' := ⟨fun w0 M W hW => h.ne w0 M W (hW.drop (List.sublist_append_right _ _))⟩
instance (priority := low) SetE.app {Hy H H' : Hp} {b : Nat} {cs' : List Value} [h : SetE H b cs' H'] : SetE (Hy ++ H) b cs' (Hy ++ H') :=
  ⟨let ⟨l, r, ty, cs, h1, h2⟩ := h.set; ⟨Hy ++ l, r, ty, cs, by rw [h1]; simp, by rw [h2]; simp⟩⟩

/-- An element's type: its cells and its bytes. -/
def eltB (P : Program) (e : TypeId) (size bytes : Nat) : Bool :=
  match P.info? e with
  | some i => match i.zero with
    | some z => i.size == size && i.bytes == bytes && z.cells.size == size
    | none => false
  | none => false

section
variable {P : Program} {N : Nat} {w0 : World} {M : List Nat} {Γ : Gam} {H : Hp}

theorem eltB_out {e : TypeId} {size bytes : Nat} (h : eltB P e size bytes = true) : ∃ i z, P.info? e = some i ∧ i.zero = some z ∧ i.size = size ∧ i.bytes = bytes ∧ z.cells.size = size := by
  unfold eltB at h
  split at h
  · rename_i i hi
    split at h
    · rename_i z hz
      simp only [Bool.and_eq_true, beq_iff_eq] at h
      exact ⟨i, z, hi, hz, h.1.1, h.1.2, h.2⟩
    · cases h
  · cases h

theorem Sat.perm {H' : Hp} {W : World} (h : Sat w0 M H W) (p : H.Perm H') : Sat w0 M H' W :=
  ⟨h.ext, fun e he => h.at_ e (p.mem_iff.2 he), fun e he => h.new e (p.mem_iff.2 he), (p.map _).nodup_iff.1 h.nodup⟩

theorem Ext.mono {M M' : List Nat} {a b : World} (h : Ext M a b) (hs : ∀ x, x ∈ M → x ∈ M') : Ext M' a b := ⟨h.os, h.tape, h.output, h.size, fun k hk hm => h.block k hk (fun hx => hm (hs k hx))⟩

/-- What an append hands on. -/
def Appended (e : TypeId) (size n : Nat) (xs : List Value) (C : Hp → Hp) (v : Value) (H' : Hp) : Prop := ∃ Hx, OwnsV e size v n xs Hx ∧ H' = C Hx

theorem run_append_ext {W : World} {t ty e : TypeId} {i : TypeInfo} {z : Value} {size bytes : Nat} (ht : P.underlying t = some (.slice e)) (hi : P.info? e = some i) (hz : i.zero = some z) (hsize : i.size = size) (hby : i.bytes = bytes) (hzs : z.cells.size = size)
    {v : Value} {n : Nat} {xs : List Value} {Hx : Hp} {C : Hp → Hp} (ho : OwnsV e size v n xs Hx) [hseg : SegE H Hx C] (hW : Sat w0 M H W) (a : Addr) (m c : Nat) (news : List Value) (hl : news.length = m * size) (hnews : ∀ j u, news[j]? = some u → W.cell? (a.add j) = some u)
    (h1 : ∀ u ∈ news, u.oneCell' = true) (hm : 0 < m) (h63 : n + m ≤ maxLen) (hbytes : (n + m) * bytes ≤ 140737488355328) :
    ∃ v' W' Hx', (Builtin.append_ #[t, t] ty #[v, .slice (some a) m c]).run P W = .ok v' W' ∧ OwnsV e size v' (n + m) (xs ++ news) Hx' ∧ Sat w0 M (C Hx') W' ∧ Ext v.ownBlock.toList W W' := by
  subst hsize
  subst hby
  obtain ⟨l, r, hH, hC⟩ := hseg.seg
  obtain ⟨hxl, hcase⟩ := ho
  have hsmall : n + m ≤ 9223372036854775807 := by simp only [maxLen] at h63; omega
  have hlen : (xs ++ news).length = (n + m) * i.size := by rw [List.length_append, hxl, hl, Nat.add_mul]
  have grown : ∀ old, old < n + m → ∀ Hr : Hp, Sat w0 M (l ++ r) W →
      OwnsV e i.size (.slice (some ⟨W.heap.size, 0, none⟩) (n + m) (grownCap W (n + m) old e)) (n + m) (xs ++ news) [⟨W.heap.size, e, (xs.toArray ++ news.toArray ++ Builtin.zeroCells z.cells (grownCap W (n + m) old e - (n + m))).toList, true⟩] ∧
      Sat w0 M (C [⟨W.heap.size, e, (xs.toArray ++ news.toArray ++ Builtin.zeroCells z.cells (grownCap W (n + m) old e - (n + m))).toList, true⟩]) (W.drew.alloc (.cells (xs.toArray ++ news.toArray ++ Builtin.zeroCells z.cells (grownCap W (n + m) old e - (n + m))) e)) ∧
      Ext v.ownBlock.toList W (W.drew.alloc (.cells (xs.toArray ++ news.toArray ++ Builtin.zeroCells z.cells (grownCap W (n + m) old e - (n + m))) e)) := by
    intro old hold _ hS
    have hge := grownCap_ge W (n + m) old e
    have hcm := grownCap_le_maxLen W (n + m) old e h63
    refine ⟨⟨hlen, .inr ⟨_, _, _, rfl, rfl, hge, hcm, ?_, ?_⟩⟩, ?_, ?_⟩
    · simp only [Array.length_toList, Array.size_append, List.size_toArray, size_zeroCells, hzs, hxl, hl, ← Nat.add_mul]
      congr 1; omega
    · simp only [Array.toList_append, List.append_assoc]
      rw [← List.append_assoc, ← hlen]
      exact List.take_left
    · have h2 := (hS.ext0 (Ext.drew W)).alloc (xs.toArray ++ news.toArray ++ Builtin.zeroCells z.cells (grownCap W (n + m) old e - (n + m))).toList e
      rw [Array.toArray_toList] at h2
      rw [hC]
      exact h2.perm (List.perm_middle.symm)
    · exact ((Ext.drew W).trans0 (Ext.alloc W.drew _)).mono (by simp)
  rcases hcase with ⟨rfl, rfl, rfl⟩ | ⟨g, cap, cs, rfl, rfl, hnc, hcm, hcs, htake⟩
  · have hx : xs = [] := List.eq_nil_of_length_eq_zero (by simpa using hxl)
    subst hx
    have hr := run_append_nil (P := P) W t ty e i z ht hi hz a m c news hl hnews hm (by omega) (by have hb := hbytes; simp only [Nat.zero_add] at hb; omega)
    have hgr := grown 0 (by omega) [] (hW.drop (by rw [hH]; simp))
    simp only [Nat.zero_add, List.nil_append, Array.empty_append] at hgr ⊢
    exact ⟨_, _, _, hr, hgr.1, hgr.2.1, hgr.2.2⟩
  · have hmem : (⟨g, e, cs, true⟩ : Ent) ∈ H := by rw [hH]; simp
    have hg : W.heap[g]? = some (.cells cs.toArray e (0, 0)) := hW.at_ _ hmem
    by_cases hroom : n + m ≤ cap
    · have hfit : n * i.size + news.length ≤ cs.toArray.size := by rw [List.size_toArray, hl, hcs, ← Nat.add_mul]; exact Nat.mul_le_mul_right _ hroom
      have hr := run_append_room (P := P) W t ty e i ht hi g n cap cs.toArray hg a m c news hl hnews h1 hroom hfit
      have hfit' : n * i.size + news.length ≤ cs.length := by simpa using hfit
      refine ⟨_, _, [⟨g, e, cs.take (n * i.size) ++ news ++ cs.drop (n * i.size + news.length), true⟩], hr, ⟨hlen, .inr ⟨g, cap, _, rfl, rfl, hroom, hcm, ?_, ?_⟩⟩, ?_, ?_⟩
      · simp only [List.length_append, List.length_take, List.length_drop]; omega
      · rw [htake, ← hlen]; exact List.take_left
      · haveI : SetE H g (cs.take (n * i.size) ++ news ++ cs.drop (n * i.size + news.length)) (C [⟨g, e, cs.take (n * i.size) ++ news ++ cs.drop (n * i.size + news.length), true⟩]) := ⟨l, r, e, cs, by rw [hH]; rfl, by rw [hC]; rfl⟩
        haveI : HasE H g e cs true := ⟨hmem, rfl⟩
        exact hW.set rfl rfl rfl (by simp) (fun k hk => setRow_other W g k _ hk) (setRow_heap W g cs.toArray _ e _ hg)
      · exact ⟨rfl, rfl, rfl, by simp, fun k _ hk => setRow_other W g k _ (fun e => hk (by simp [Value.ownBlock, e]))⟩
    · have holds : ∀ j u, xs[j]? = some u → W.cell? ((⟨g, 0, none⟩ : Addr).add j) = some u := fun j u hj => by
        rw [add_lit, cell_of hg]
        rw [← htake, List.getElem?_take] at hj
        split at hj
        · simpa using hj
        · cases hj
      have hr := run_append_grow (P := P) W t ty e i z ht hi hz ⟨g, 0, none⟩ n cap xs hxl holds a m c news hl hnews (by omega) (by omega) (growslice_fits (by omega) hbytes)
      have hgr := grown cap (by omega) [] (hW.drop (by rw [hH]; simp))
      exact ⟨_, _, _, hr, hgr.1, hgr.2.1, hgr.2.2⟩
variable {ty : Nat} {pos : String} {aft : Array Edge} {grd : Option (Nat × Bool)} {dst : Option Nat} {x y : Operand} {t e : TypeId} {v : Value} {n m c size bytes b : Nat} {xs news : List Value} {Hx : Hp} {C : Hp → Hp}
/-- append(x, y..), y a row that is known. -/
theorem ex_append {tb : TypeId} {own : Bool} (ho : OwnsV e size v n xs Hx) (ht : P.underlying t = some (.slice e)) (hB : eltB P e size bytes = true)
    (hx : ev Γ x = some v) (hy : ev Γ y = some (.slice (some ⟨b, 0, none⟩) m c)) [hseg : SegE H Hx C] [he : HasE H b tb news own] (h63 : n + m ≤ maxLen) (hbytes : (n + m) * bytes ≤ 140737488355328) (hl : news.length = m * size) (h1 : news.all (·.oneCell') = true) (hm : Nat.ble 1 m = true) :
    Ex P N w0 M v.ownBlock.toList Γ H ⟨dst, .call ⟨.builtin .append, #[x, y], #[t, t]⟩, ty, pos, aft, grd⟩ (Appended e size (n + m) (xs ++ news) C) :=
  fun A W next Q ha hW hn => by
    obtain ⟨i, z, hi, hz, hsize, hby, hzs⟩ := eltB_out hB
    obtain ⟨v', W', Hx', hr, h2, h3, h4⟩ := run_append_ext (ty := ty) ht hi hz hsize hby hzs ho hW ⟨b, 0, none⟩ m c news hl (fun j u hj => by rw [add_lit, cell_of (hW.cells he)]; simpa using hj) (fun u hu => List.all_eq_true.1 h1 u hu) (Nat.le_of_ble_eq_true hm) h63 hbytes
    have e1 : (execOp A.eval ⟨dst, .call ⟨.builtin .append, #[x, y], #[t, t]⟩, ty, pos, aft, grd⟩).run P W = .ok (.value v') W' := by
      simp only [execOp, resolve, invoke, builtin, Sem.run_bind, Sem.run_pure, Result.andThen_ok, List.map_toArray, List.map_cons, List.map_nil, ha.eval hx, ha.eval hy, hr]
    unfold Oper.wp
    rw [e1]
    exact hn v' _ W' ⟨Hx', h2, rfl⟩ h3 h4

theorem o_append {ops : Array Oper} {Q : Exit → Act → World → Prop} {next : AW} {rest : List Oper} {d : Nat} {tb : TypeId} {own : Bool} (ho : OwnsV e size v n xs Hx) (ht : P.underlying t = some (.slice e)) (hB : eltB P e size bytes = true)
    (hx : ev Γ x = some v) (hy : ev Γ y = some (.slice (some ⟨b, 0, none⟩) m c)) [hseg : SegE H Hx C] [he : HasE H b tb news own] (h63 : n + m ≤ maxLen) (hbytes : (n + m) * bytes ≤ 140737488355328)
    (k : ∀ v' Hx', OwnsV e size v' (n + m) (xs ++ news) Hx' → OpsN P ops Q next N w0 M rest ((d, v') :: Γ) (C Hx')) (hl : news.length = m * size := by rfl) (h1 : news.all (·.oneCell') = true := by rfl) (hm : Nat.ble 1 m = true := by rfl) (hdN : d < N := by decide) :
    OpsN P ops Q next N w0 M (⟨some d, .call ⟨.builtin .append, #[x, y], #[t, t]⟩, ty, pos, aft, none⟩ :: rest) Γ H :=
  o_step (ex_append ho ht hB hx hy h63 hbytes hl h1 hm) (by rintro v' _ ⟨Hx', h2, rfl⟩; exact k v' Hx' h2) rfl rfl hdN

/-- len of a slice of one's own. -/
theorem ex_lenO {s : Operand} (ho : OwnsV e size v n xs Hx) (ht : ∀ W, (underlying t).run P W = .ok (.slice e) W) (hx : ev Γ s = some v) : ExV P N w0 M Γ H ⟨dst, .call ⟨.builtin .len, #[s], #[t]⟩, ty, pos, aft, grd⟩ (.int .i64 n) := by
  rcases ho.2 with ⟨rfl, rfl, _⟩ | ⟨g, cap, cs, rfl, _⟩
  · exact ex_len ht hx
  · exact ex_len ht hx
end
end Go.Proofs.Ytdflfnednaleeaa
