/- What the die's functions compute, in plain Lean. -/
import Derived.Test.YtdflfnednaleeaaD3
namespace Go.Proofs.Ytdflfnednaleeaa
open Go

/-- How many pieces the first k orders have. -/
def pre (os : List Od) (k : Nat) : Int := (os.take k).foldl (fun s o => s + o.pc) 0
theorem pre_zero (os : List Od) : pre os 0 = 0 := rfl
theorem pre_succ {os : List Od} {k : Nat} (h : k < os.length) : pre os (k + 1) = pre os k + os[k].pc := by
  unfold pre
  rw [List.take_succ_eq_append_getElem h, List.foldl_append]
  rfl
def allP (os : List Od) : Int := pre os os.length

/-- An order turned round. -/
def turnO (o : Od) : Od := ⟨o.pc, o.st, -o.zh, -o.zl⟩

/-- A shop: a tool that goes up, and its orders. -/
structure Sh where
  (sl sh cl ch : Int) (ws : List Sp) (os : List Od) (down : Bool)
structure Sh.Ok (S : Sh) : Prop where
  (n1 : 1 ≤ S.os.length) (n40 : S.os.length ≤ 40) (w8 : S.ws.length ≤ 8) (s : S.sl ≤ S.sh ∧ -1000000 ≤ S.sl ∧ S.sh ≤ 1000000) (c : S.cl ≤ S.ch ∧ -1000000 ≤ S.cl ∧ S.ch ≤ 1000000)
  (w : ∀ s, s ∈ S.ws → s.lo ≤ s.hi ∧ 0 ≤ s.lo ∧ s.hi ≤ 100000)
  (o : ∀ o, o ∈ S.os → 1 ≤ o.pc ∧ o.pc ≤ 10000 ∧ 0 ≤ o.st ∧ o.st < S.ws.length ∧ o.zl ≤ o.zh ∧ -10000000000 ≤ o.zl ∧ o.zh ≤ 10000000000)
def openS (t : To) (ws : List Sp) (os : List Od) : Sh := if t.down then ⟨-t.sh, -t.sl, -t.ch, -t.cl, ws, os.map turnO, true⟩ else ⟨t.sl, t.sh, t.cl, t.ch, ws, os, false⟩

theorem odE_ok {n : Nat} {o : Od} : odE n o = 0 ↔ 1 ≤ o.pc ∧ o.pc ≤ 10000 ∧ 0 ≤ o.st ∧ o.st < n ∧ o.zl ≤ o.zh ∧ 0 ≤ o.zl ∧ o.zh ≤ 10000000000 := by
  unfold odE
  rw [wi_one, wi_one]
  by_cases h1 : 1 ≤ o.pc ∧ o.pc ≤ 10000
  · by_cases h2 : isSp o.zl o.zh 0 10000000000 = true
    · rw [if_neg (by rw [decide_eq_true h1, h2]; decide)]
      have h3 := isSp_iff.1 h2
      by_cases h4 : 0 ≤ o.st ∧ o.st ≤ (n : Int) - 1
      · rw [if_pos (decide_eq_true h4)]
        exact ⟨fun _ => ⟨h1.1, h1.2, h4.1, by omega, h3⟩, fun _ => rfl⟩
      · rw [if_neg (by rw [decide_eq_true_eq]; exact h4)]
        exact ⟨(fun h => by cases h), fun h => absurd ⟨h.2.2.1, by omega⟩ h4⟩
    · rw [if_pos (by rw [Bool.not_eq_true] at h2; rw [h2]; simp)]
      exact ⟨(fun h => by cases h), fun h => absurd (isSp_iff.2 h.2.2.2.2) h2⟩
  · rw [if_pos (by rw [decide_eq_false h1]; rfl)]
    exact ⟨(fun h => by cases h), fun h => absurd ⟨h.1, h.2.1⟩ h1⟩

theorem chkE_ok {t : To} {ws : List Sp} {os : List Od} : chkE t ws os = 0 ↔ ToOk t ws ∧ 1 ≤ os.length ∧ os.length ≤ 40 ∧ ∀ o, o ∈ os → odE ws.length o = 0 := by
  unfold chkE
  by_cases h5 : toolE t ws = 5
  · rw [if_pos h5]
    exact ⟨(fun h => by cases h), fun h => by rw [toolE_ok.2 h.1] at h5; cases h5⟩
  · rw [if_neg h5]
    by_cases h40 : 40 < os.length
    · rw [if_pos h40]; exact ⟨(fun h => by cases h), fun h => by omega⟩
    · rw [if_neg h40]
      by_cases h0 : toolE t ws = 0
      · rw [if_pos h0]
        by_cases hf : firstE (odE ws.length) os = 0
        · rw [if_pos hf]
          have hf' := (firstE_zero _ _).1 hf
          by_cases hl : os.length = 0
          · rw [if_pos hl]; exact ⟨(fun h => by cases h), fun h => by omega⟩
          · rw [if_neg hl]; exact ⟨fun _ => ⟨toolE_ok.1 h0, by omega, by omega, hf'⟩, fun _ => rfl⟩
        · rw [if_neg hf]; exact ⟨fun h => absurd h hf, fun h => absurd ((firstE_zero _ _).2 h.2.2.2) hf⟩
      · rw [if_neg h0]; exact ⟨fun h => absurd h h0, fun h => absurd (toolE_ok.2 h.1) h0⟩

theorem openS_ok {t : To} {ws : List Sp} {os : List Od} (h : chkE t ws os = 0) : (openS t ws os).Ok := by
  obtain ⟨ht, h1, h40, ho⟩ := chkE_ok.1 h
  have hs := ht.s
  have hc := ht.c
  unfold openS
  cases hd : t.down
  · simp only [Bool.false_eq_true, if_false]
    exact ⟨h1, h40, ht.n8, hs, hc, ht.w, fun o hm => by have := odE_ok.1 (ho o hm); simp only; omega⟩
  · simp only [if_true]
    refine ⟨by simpa using h1, by simpa using h40, ht.n8, by simp only; omega, by simp only; omega, ht.w, fun o hm => ?_⟩
    obtain ⟨o', hm', rfl⟩ := List.mem_map.1 hm
    have := odE_ok.1 (ho o' hm')
    simp only [turnO]; omega
theorem openS_len (t : To) (ws : List Sp) (os : List Od) : (openS t ws os).os.length = os.length ∧ (openS t ws os).ws = ws ∧ (openS t ws os).down = t.down := by
  unfold openS
  cases t.down <;> simp
theorem pre_turn (os : List Od) (k : Nat) : pre (os.map turnO) k = pre os k := by
  unfold pre
  rw [← List.map_take, List.foldl_map]
  rfl
theorem openS_pre (t : To) (ws : List Sp) (os : List Od) (k : Nat) : pre (openS t ws os).os k = pre os k := by
  unfold openS
  cases t.down
  · rfl
  · exact pre_turn os k

/-- Where each order begins, and where the last one ends. -/
def firstL (os : List Od) : List Int := (List.range (os.length + 1)).map (pre os)
theorem firstL_len (os : List Od) : (firstL os).length = os.length + 1 := by simp [firstL]
theorem firstL_get {os : List Od} {k : Nat} (h : k ≤ os.length) : (firstL os)[k]'(by rw [firstL_len]; omega) = pre os k := by simp [firstL]

theorem pre_bound {os : List Od} (h : ∀ o, o ∈ os → 1 ≤ o.pc ∧ o.pc ≤ 10000) : ∀ k, k ≤ os.length → (k : Int) ≤ pre os k ∧ pre os k ≤ 10000 * k
  | 0, _ => by rw [pre_zero]; omega
  | k + 1, hk => by
    have ih := pre_bound h k (by omega)
    have ho := h os[k] (List.getElem_mem (by omega))
    rw [pre_succ (by omega)]
    omega
theorem pre_mono {os : List Od} (h : ∀ o, o ∈ os → 1 ≤ o.pc ∧ o.pc ≤ 10000) {i j : Nat} (hij : i ≤ j) (hj : j ≤ os.length) : pre os i ≤ pre os j := by
  induction j with
  | zero => have : i = 0 := by omega
            subst this; exact Int.le_refl _
  | succ j ih =>
    by_cases he : i = j + 1
    · subst he; exact Int.le_refl _
    · have := ih (by omega) (by omega)
      have ho := h os[j] (List.getElem_mem (by omega))
      rw [pre_succ (by omega)]
      omega
theorem Sh.Ok.pc {S : Sh} (h : S.Ok) : ∀ o, o ∈ S.os → 1 ≤ o.pc ∧ o.pc ≤ 10000 := fun o ho => by have := h.o o ho; omega
theorem Sh.Ok.all {S : Sh} (h : S.Ok) : 1 ≤ allP S.os ∧ allP S.os ≤ 400000 := by
  have := pre_bound h.pc S.os.length (Nat.le_refl _)
  have := h.n1
  have := h.n40
  unfold allP
  omega

/-- A shop in memory. -/
def Sh.cells (S : Sh) (A1 A2 A3 : Option Addr) (c1 c2 c3 : Nat) : List Value :=
  [.bool false, .int .i64 S.sl, .int .i64 S.sh, .int .i64 S.cl, .int .i64 S.ch, .slice A1 S.ws.length c1, .slice A2 S.os.length c2, .slice A3 (S.os.length + 1) c3, .bool S.down]
structure ShopAt (W : World) (b : Nat) (S : Sh) (A1 A2 A3 : Option Addr) (c1 c2 c3 : Nat) : Prop where
  c : ∀ j v, (S.cells A1 A2 A3 c1 c2 c3)[j]? = some v → W.cell? ⟨b, j, none⟩ = some v
  w : ElAt W A1 S.ws
  o : ElAt W A2 S.os
  f : ElAt W A3 (firstL S.os)
theorem ShopAt.ext {w W : World} {b : Nat} {S : Sh} {A1 A2 A3 : Option Addr} {c1 c2 c3 : Nat} (h : ShopAt w b S A1 A2 A3 c1 c2 c3) (k : Ext [] w W) : ShopAt W b S A1 A2 A3 c1 c2 c3 :=
  ⟨fun j v hj => by
    have h2 := h.c j v hj
    rw [World.cell?_of_block (w := w) (k.block _ (World.block_lt_of_cell? w _ h2) (by simp))]
    exact h2, h.w.ext k, h.o.ext k, h.f.ext k⟩

/-- How many pieces of order i lie from one number to another one. -/
def cntP (os : List Od) (f t : Int) (i : Nat) : Int := min t (pre os (i + 1)) - max f (pre os i)
def stp (ws : List Sp) (o : Od) : Sp := ws.getD o.st.toNat ⟨0, 0⟩
def dO : Od := ⟨0, 0, 0, 0⟩
def wearS (S : Sh) (f t : Int) : Nat → Sp
  | 0 => ⟨0, 0⟩
  | i + 1 => if 0 < cntP S.os f t i then ⟨(wearS S f t i).lo + (stp S.ws (S.os.getD i dO)).lo * cntP S.os f t i, (wearS S f t i).hi + (stp S.ws (S.os.getD i dO)).hi * cntP S.os f t i⟩ else wearS S f t i
def Sh.wear (S : Sh) (f t : Int) : Sp := wearS S f t S.os.length
/-- Targets so far: whether one was seen, the targets, the wear. -/
structure Tg where
  (b : Bool) (ol oh wl wh : Int)
def Tg.step (s : Tg) (S : Sh) (o : Od) (n : Int) : Tg :=
  let xl := o.zl - (S.sl + S.cl) - s.wl
  let xh := o.zh - (S.sh + S.ch) - s.wh - (stp S.ws o).hi * (n - 1)
  ⟨true, max (if s.b then s.ol else xl) xl, min (if s.b then s.oh else xh) xh, s.wl + (stp S.ws o).lo * n, s.wh + (stp S.ws o).hi * n⟩
def tgS (S : Sh) (f t : Int) : Nat → Tg
  | 0 => ⟨false, 0, 0, 0, 0⟩
  | i + 1 => if 0 < cntP S.os f t i then (tgS S f t i).step S (S.os.getD i dO) (cntP S.os f t i) else tgS S f t i
def Sh.tg (S : Sh) (f t : Int) : Sp := ⟨(tgS S f t S.os.length).ol, (tgS S f t S.os.length).oh⟩
def Sh.can (S : Sh) (f t : Int) : Bool := decide ((S.tg f t).lo ≤ (S.tg f t).hi)
def turnS (d : Bool) (s : Sp) : Sp := if d then ⟨-s.hi, -s.lo⟩ else s

theorem cntP_bound {S : Sh} (h : S.Ok) (f t : Int) {i : Nat} (hi : i < S.os.length) : cntP S.os f t i ≤ 10000 := by
  have := h.pc S.os[i] (List.getElem_mem hi)
  unfold cntP
  rw [pre_succ hi]
  omega
theorem stp_bound {S : Sh} (h : S.Ok) (o : Od) : 0 ≤ (stp S.ws o).lo ∧ (stp S.ws o).lo ≤ (stp S.ws o).hi ∧ (stp S.ws o).hi ≤ 100000 := by
  unfold stp
  rw [List.getD_eq_getElem?_getD]
  cases hg : S.ws[o.st.toNat]? with
  | none => simp
  | some s =>
    have := h.w s (List.mem_of_getElem? hg)
    simp only [Option.getD_some]
    omega
theorem prodB {a b A B : Int} (h0 : 0 ≤ a) (h1 : a ≤ A) (k0 : 0 ≤ b) (k1 : b ≤ B) : 0 ≤ a * b ∧ a * b ≤ A * B :=
  ⟨Int.mul_nonneg h0 k0, Int.mul_le_mul h1 k1 k0 (by omega)⟩
theorem wearS_bound {S : Sh} (h : S.Ok) (f t : Int) : ∀ i, i ≤ S.os.length → 0 ≤ (wearS S f t i).lo ∧ (wearS S f t i).lo ≤ 1000000000 * i ∧ 0 ≤ (wearS S f t i).hi ∧ (wearS S f t i).hi ≤ 1000000000 * i
  | 0, _ => by simp [wearS]
  | i + 1, hi => by
    have ih := wearS_bound h f t i (by omega)
    unfold wearS
    split
    · rename_i hc
      have hb := stp_bound h (S.os.getD i dO)
      have hn := cntP_bound h f t (i := i) (by omega)
      have m1 := prodB (a := (stp S.ws (S.os.getD i dO)).lo) (A := 100000) (b := cntP S.os f t i) (B := 10000) (by omega) (by omega) (by omega) hn
      have m2 := prodB (a := (stp S.ws (S.os.getD i dO)).hi) (A := 100000) (b := cntP S.os f t i) (B := 10000) (by omega) (by omega) (by omega) hn
      simp only
      omega
    · omega
theorem wear_yes {S : Sh} {f t : Int} {k : Nat} (h : 0 < cntP S.os f t k) : wearS S f t (k + 1) = ⟨(wearS S f t k).lo + (stp S.ws (S.os.getD k dO)).lo * cntP S.os f t k, (wearS S f t k).hi + (stp S.ws (S.os.getD k dO)).hi * cntP S.os f t k⟩ := if_pos h
theorem wear_no {S : Sh} {f t : Int} {k : Nat} (h : ¬ 0 < cntP S.os f t k) : wearS S f t (k + 1) = wearS S f t k := if_neg h
theorem tg_yes {S : Sh} {f t : Int} {k : Nat} (h : 0 < cntP S.os f t k) : tgS S f t (k + 1) = (tgS S f t k).step S (S.os.getD k dO) (cntP S.os f t k) := if_pos h
theorem tg_no {S : Sh} {f t : Int} {k : Nat} (h : ¬ 0 < cntP S.os f t k) : tgS S f t (k + 1) = tgS S f t k := if_neg h
theorem tgS_wear (S : Sh) (f t : Int) : ∀ i, (tgS S f t i).wl = (wearS S f t i).lo ∧ (tgS S f t i).wh = (wearS S f t i).hi
  | 0 => ⟨rfl, rfl⟩
  | i + 1 => by
    have ih := tgS_wear S f t i
    unfold tgS wearS
    split
    · simp only [Tg.step]
      rw [ih.1, ih.2]
      exact ⟨rfl, rfl⟩
    · exact ih
theorem od_get {S : Sh} (_ : S.Ok) {i : Nat} (hi : i < S.os.length) : S.os.getD i dO = S.os[i] := by simp [List.getD, List.getElem?_eq_getElem hi]
theorem tgS_bound {S : Sh} (h : S.Ok) (f t : Int) : ∀ i, i ≤ S.os.length → -100000000000 ≤ (tgS S f t i).ol ∧ (tgS S f t i).ol ≤ 100000000000 ∧ -100000000000 ≤ (tgS S f t i).oh ∧ (tgS S f t i).oh ≤ 100000000000
  | 0, _ => by simp [tgS]
  | i + 1, hi => by
    have ih := tgS_bound h f t i (by omega)
    have hw := wearS_bound h f t i (by omega)
    have hwt := tgS_wear S f t i
    have n40 := h.n40
    unfold tgS
    split
    · rename_i hc
      have hb := stp_bound h (S.os.getD i dO)
      have hn := cntP_bound h f t (i := i) (by omega)
      have ho := h.o S.os[i] (List.getElem_mem (by omega))
      rw [od_get h (by omega)] at hb ⊢
      have m2 := prodB (a := (stp S.ws S.os[i]).hi) (A := 100000) (b := cntP S.os f t i - 1) (B := 10000) (by omega) (by omega) (by omega) (by omega)
      have hs := h.s
      have hcc := h.c
      simp only [Tg.step]
      generalize (stp S.ws S.os[i]).hi * (cntP S.os f t i - 1) = z at *
      split <;> omega
    · exact ih
end Go.Proofs.Ytdflfnednaleeaa
