/- Order by order is piece by piece: plain law, no program in sight. -/
import Derived.Test.YtdflfnednaleeaaMod7
namespace Go.Proofs.Ytdflfnednaleeaa
open Go

/-- The place of a piece's order. -/
def ordAt : List Od → Int → Nat
  | [], _ => 0
  | o :: r, p => if p < o.pc then 0 else ordAt r (p - o.pc) + 1
def po (os : List Od) (p : Int) : Od := os.getD (ordAt os p) dO

theorem pre_cons (o : Od) (os : List Od) (k : Nat) : pre (o :: os) (k + 1) = o.pc + pre os k := by
  unfold pre
  rw [List.take_succ_cons, List.foldl_cons]
  have : ∀ (l : List Od) (a : Int), l.foldl (fun s o => s + o.pc) a = a + l.foldl (fun s o => s + o.pc) 0 := by
    intro l
    induction l with
    | nil => intro a; simp
    | cons x r ih => intro a; rw [List.foldl_cons, List.foldl_cons, ih (a + x.pc), ih (0 + x.pc)]; omega
  rw [this]; omega
theorem ordAt_spec : ∀ (os : List Od) (p : Int), (∀ o, o ∈ os → 1 ≤ o.pc) → 0 ≤ p → p < allP os → ordAt os p < os.length ∧ pre os (ordAt os p) ≤ p ∧ p < pre os (ordAt os p + 1)
  | [], p, _, h0, h => by simp [allP, pre] at h; omega
  | o :: r, p, ho, h0, h => by
    unfold ordAt
    by_cases hp : p < o.pc
    · rw [if_pos hp]
      refine ⟨by simp, by rw [pre_zero]; exact h0, ?_⟩
      rw [pre_cons, pre_zero]; omega
    · rw [if_neg hp]
      have hall : allP (o :: r) = o.pc + allP r := pre_cons o r r.length
      have ih := ordAt_spec r (p - o.pc) (fun x hx => ho x (List.mem_cons_of_mem _ hx)) (by omega) (by omega)
      rw [pre_cons, pre_cons]
      exact ⟨by simp; omega, by omega, by omega⟩

/-- Wear and targets, piece by piece. -/
def pw (S : Sh) (f : Int) : Nat → Sp
  | 0 => ⟨0, 0⟩
  | n + 1 => ⟨(pw S f n).lo + (stp S.ws (po S.os (f + n))).lo, (pw S f n).hi + (stp S.ws (po S.os (f + n))).hi⟩
def pxl (S : Sh) (f : Int) (n : Nat) : Int := (po S.os (f + n)).zl - (S.sl + S.cl) - (pw S f n).lo
def pxh (S : Sh) (f : Int) (n : Nat) : Int := (po S.os (f + n)).zh - (S.sh + S.ch) - (pw S f n).hi
def ptg (S : Sh) (f : Int) : Nat → Sp
  | 0 => ⟨-1152921504606846976, 1152921504606846976⟩
  | n + 1 => ⟨max (ptg S f n).lo (pxl S f n), min (ptg S f n).hi (pxh S f n)⟩

section
variable {S : Sh} (hS : S.Ok) {f t : Int} {i : Nat} (hi : i < S.os.length) (h1 : pre S.os i ≤ t) (h2 : t < pre S.os (i + 1)) (hf : f ≤ t)
include hS hi h1 h2 hf
omit h2 hf in
theorem cnt_lt {j : Nat} (hj : j < i) : cntP S.os f (t + 1) j = cntP S.os f t j := by
  have := pre_mono hS.pc (i := j + 1) (j := i) (by omega) (by omega)
  unfold cntP; omega
omit hi h1 in
theorem cnt_gt {j : Nat} (hj : i < j) (hl : j < S.os.length) : ¬ 0 < cntP S.os f (t + 1) j ∧ ¬ 0 < cntP S.os f t j := by
  have := pre_mono hS.pc (i := i + 1) (j := j) (by omega) (by omega)
  unfold cntP; omega
omit hS hi in
theorem cnt_at : cntP S.os f (t + 1) i = cntP S.os f t i + 1 ∧ 0 ≤ cntP S.os f t i := by
  unfold cntP; omega
omit h2 hf in
theorem tg_lt : ∀ j, j ≤ i → tgS S f (t + 1) j = tgS S f t j
  | 0, _ => rfl
  | j + 1, h => by
    have ih := tg_lt j (by omega)
    unfold tgS
    rw [cnt_lt hS hi h1 (by omega), ih]
/-- Targets, and one more piece. -/
def Tg.add (T : Tg) (x y l h : Int) : Tg := ⟨true, max (if T.b then T.ol else x) x, min (if T.b then T.oh else y) y, T.wl + l, T.wh + h⟩
omit hS hi h1 h2 hf in
theorem max_in {a b c : Int} (h : c ≤ b) : max (max a b) c = max a b := by omega
omit hS hi h1 h2 hf in
theorem min_in {a b c : Int} (h : c ≤ b) : min (min a b) c = min a c := by omega
theorem tg_at : tgS S f (t + 1) (i + 1) = (tgS S f t (i + 1)).add ((S.os.getD i dO).zl - (S.sl + S.cl) - (tgS S f t (i + 1)).wl) ((S.os.getD i dO).zh - (S.sh + S.ch) - (tgS S f t (i + 1)).wh) (stp S.ws (S.os.getD i dO)).lo (stp S.ws (S.os.getD i dO)).hi := by
  obtain ⟨hc, hn⟩ := cnt_at h1 h2 hf
  have hl := tg_lt (f := f) hS hi h1 i (Nat.le_refl _)
  have hb := stp_bound hS (S.os.getD i dO)
  rw [tg_yes (k := i) (t := t + 1) (by omega), hc, hl]
  by_cases h0 : 0 < cntP S.os f t i
  · rw [tg_yes (k := i) (t := t) h0]
    have hlo : 0 ≤ (stp S.ws (S.os.getD i dO)).lo * cntP S.os f t i := Int.mul_nonneg hb.1 (by omega)
    unfold Tg.step Tg.add
    simp only [Tg.mk.injEq, if_true, true_and]
    generalize cntP S.os f t i = n at *
    generalize stp S.ws (S.os.getD i dO) = z at *
    generalize tgS S f t i = T at *
    have e1 : z.hi * (n + 1 - 1) = z.hi * n := by congr 1; omega
    have e2 : z.hi * (n - 1) = z.hi * n - z.hi := by rw [Int.mul_sub]; omega
    have e3 : z.lo * (n + 1) = z.lo * n + z.lo := by rw [Int.mul_add]; omega
    have e4 : z.hi * (n + 1) = z.hi * n + z.hi := by rw [Int.mul_add]; omega
    rw [e1, e2, e3, e4]
    generalize z.hi * n = mh at *
    generalize z.lo * n = ml at *
    refine ⟨?_, ?_, by omega, by omega⟩
    · split <;> omega
    · split <;> omega
  · have hz : cntP S.os f t i = 0 := by omega
    rw [tg_no (k := i) (t := t) h0, hz]
    unfold Tg.step Tg.add
    simp only [Tg.mk.injEq, true_and]
    simp
theorem tg_ge : ∀ j, i + 1 ≤ j → j ≤ S.os.length → tgS S f (t + 1) j = tgS S f (t + 1) (i + 1) ∧ tgS S f t j = tgS S f t (i + 1)
  | 0, h, _ => by omega
  | j + 1, h, hl => by
    by_cases hj : j = i
    · subst hj; exact ⟨rfl, rfl⟩
    · have ih := tg_ge j (by omega) (by omega)
      have hc := cnt_gt hS h2 hf (j := j) (by omega) (by omega)
      rw [tg_no hc.1, tg_no hc.2]; exact ih
theorem tg_next : tgS S f (t + 1) S.os.length = (tgS S f t S.os.length).add ((S.os.getD i dO).zl - (S.sl + S.cl) - (tgS S f t S.os.length).wl) ((S.os.getD i dO).zh - (S.sh + S.ch) - (tgS S f t S.os.length).wh) (stp S.ws (S.os.getD i dO)).lo (stp S.ws (S.os.getD i dO)).hi := by
  obtain ⟨e1, e2⟩ := tg_ge hS hi h1 h2 hf S.os.length (by omega) (Nat.le_refl _)
  rw [e1, e2]
  exact tg_at hS hi h1 h2 hf
end
theorem tg_zero (S : Sh) (f : Int) : ∀ j, tgS S f f j = ⟨false, 0, 0, 0, 0⟩
  | 0 => rfl
  | j + 1 => by rw [tg_no (by unfold cntP; omega)]; exact tg_zero S f j
theorem po_eq {S : Sh} (hS : S.Ok) {p : Int} (h0 : 0 ≤ p) (h : p < allP S.os) : ∃ i, i < S.os.length ∧ pre S.os i ≤ p ∧ p < pre S.os (i + 1) ∧ po S.os p = S.os.getD i dO :=
  ⟨ordAt S.os p, (ordAt_spec S.os p (fun o ho => (hS.pc o ho).1) h0 h).1, (ordAt_spec S.os p (fun o ho => (hS.pc o ho).1) h0 h).2.1, (ordAt_spec S.os p (fun o ho => (hS.pc o ho).1) h0 h).2.2, rfl⟩
theorem po_bound {S : Sh} (hS : S.Ok) {p : Int} (h0 : 0 ≤ p) (h : p < allP S.os) : po S.os p ∈ S.os := by
  obtain ⟨i, hi, _, _, e⟩ := po_eq hS h0 h
  rw [e, od_get hS hi]
  exact List.getElem_mem hi
/-- The targets of n pieces from one on, piece by piece. -/
theorem tg_pieces {S : Sh} (hS : S.Ok) {f : Int} (hf : 0 ≤ f) : ∀ n : Nat, f + n ≤ allP S.os →
    (tgS S f (f + n) S.os.length).wl = (pw S f n).lo ∧ (tgS S f (f + n) S.os.length).wh = (pw S f n).hi ∧ ((tgS S f (f + n) S.os.length).b = decide (0 < n)) ∧ (0 < n → (tgS S f (f + n) S.os.length).ol = (ptg S f n).lo ∧ (tgS S f (f + n) S.os.length).oh = (ptg S f n).hi)
  | 0, _ => by
    rw [show f + ((0 : Nat) : Int) = f by omega, tg_zero]
    exact ⟨rfl, rfl, rfl, fun h => by omega⟩
  | n + 1, h => by
    obtain ⟨a1, a2, a3, a4⟩ := tg_pieces hS hf n (by omega)
    obtain ⟨i, hi, p1, p2, e⟩ := po_eq hS (p := f + n) (by omega) (by omega)
    have hn := tg_next hS hi p1 p2 (f := f) (by omega)
    rw [show f + ((n + 1 : Nat) : Int) = f + n + 1 by omega, hn, ← e, a1, a2]
    unfold Tg.add
    refine ⟨?_, ?_, ?_, fun _ => ?_⟩
    · simp only [a1]; rfl
    · simp only [a2]; rfl
    · simp
    · simp only [a3, decide_eq_true_eq]
      by_cases h0 : 0 < n
      · obtain ⟨b1, b2⟩ := a4 h0
        rw [if_pos h0, if_pos h0, b1, b2]
        exact ⟨rfl, rfl⟩
      · obtain rfl : n = 0 := by omega
        have ho := hS.o _ (po_bound hS (p := f) (by omega) (by omega))
        have hs := hS.s
        have hc := hS.c
        simp only [Nat.lt_irrefl, if_false, ptg, pxl, pxh, pw]
        rw [show f + ((0 : Nat) : Int) = f by omega]
        omega
theorem wear_pieces {S : Sh} (hS : S.Ok) {f : Int} (hf : 0 ≤ f) {n : Nat} (h : f + n ≤ allP S.os) : S.wear f (f + n) = pw S f n := by
  obtain ⟨a1, a2, _⟩ := tg_pieces hS hf n h
  have := tgS_wear S f (f + n) S.os.length
  show wearS S f (f + n) S.os.length = _
  rw [this.1] at a1
  rw [this.2] at a2
  cases hw : wearS S f (f + n) S.os.length
  rw [hw] at a1 a2
  cases hp : pw S f n
  rw [hp] at a1 a2
  simp only at a1 a2
  rw [a1, a2]
theorem targets_pieces {S : Sh} (hS : S.Ok) {f : Int} (hf : 0 ≤ f) {n : Nat} (h0 : 0 < n) (h : f + n ≤ allP S.os) : S.tg f (f + n) = ptg S f n := by
  obtain ⟨_, _, _, a⟩ := tg_pieces hS hf n h
  obtain ⟨a1, a2⟩ := a h0
  show (⟨_, _⟩ : Sp) = _
  rw [a1, a2]
/-- What can be done with more pieces can be done with fewer. -/
theorem ptg_mono (S : Sh) (f : Int) {m n : Nat} (h : m ≤ n) : (ptg S f m).lo ≤ (ptg S f n).lo ∧ (ptg S f n).hi ≤ (ptg S f m).hi := by
  induction n with
  | zero => have : m = 0 := by omega
            subst this; exact ⟨Int.le_refl _, Int.le_refl _⟩
  | succ n ih =>
    by_cases he : m = n + 1
    · subst he; exact ⟨Int.le_refl _, Int.le_refl _⟩
    · have := ih (by omega)
      simp only [ptg]
      omega
theorem can_mono {S : Sh} (hS : S.Ok) {f : Int} (hf : 0 ≤ f) {m n : Nat} (h0 : 0 < m) (hmn : m ≤ n) (h : f + n ≤ allP S.os) (hc : S.can f (f + n) = true) : S.can f (f + m) = true := by
  have := ptg_mono S f hmn
  unfold Sh.can at *
  rw [targets_pieces hS hf (by omega) h, decide_eq_true_eq] at hc
  rw [targets_pieces hS hf h0 (by omega), decide_eq_true_eq]
  omega
/-- How many of the first n hold, from 0 on, before the first that does not. -/
def lead (p : Nat → Bool) : Nat → Nat
  | 0 => 0
  | n + 1 => if p 0 = true then lead (fun i => p (i + 1)) n + 1 else 0
theorem lead_is (p : Nat → Bool) (n r : Nat) (hr : r ≤ n) (h : ∀ i, i < r → p i = true) (h1 : r < n → p r = false) : lead p n = r := by
  induction n generalizing p r with
  | zero => unfold lead; omega
  | succ n ih =>
    unfold lead
    cases r with
    | zero => rw [if_neg (by rw [h1 (by omega)]; decide)]
    | succ r => rw [if_pos (h 0 (by omega)), ih (fun i => p (i + 1)) r (by omega) (fun i hi => h (i + 1) (by omega)) (fun hi => h1 (by omega))]
theorem lead_ok (p : Nat → Bool) (n : Nat) : lead p n ≤ n ∧ (∀ i, i < lead p n → p i = true) ∧ (lead p n < n → p (lead p n) = false) := by
  induction n generalizing p with
  | zero => unfold lead; exact ⟨Nat.le_refl _, fun i hi => by omega, fun h => by omega⟩
  | succ n ih =>
    unfold lead
    by_cases h : p 0 = true
    · rw [if_pos h]
      obtain ⟨a, b, c⟩ := ih (fun i => p (i + 1))
      refine ⟨by omega, fun i hi => ?_, fun hi => c (by omega)⟩
      cases i with
      | zero => exact h
      | succ i => exact b i (by omega)
    · rw [if_neg h]
      exact ⟨Nat.zero_le _, fun i hi => by omega, fun _ => by simpa using h⟩
/-- How far one setting can go from a piece: how many pieces. -/
def Sh.far (S : Sh) (f : Int) : Nat := lead (fun i => S.can f (f + ((i + 1 : Nat) : Int))) (allP S.os - f).toNat
def Sh.reach (S : Sh) (f : Int) : Int := f + S.far f
theorem reach_bound (S : Sh) {f : Int} (h : f ≤ allP S.os) : f ≤ S.reach f ∧ S.reach f ≤ allP S.os := by
  have := (lead_ok (fun i => S.can f (f + ((i + 1 : Nat) : Int))) (allP S.os - f).toNat).1
  unfold Sh.reach Sh.far
  omega
theorem can_anti {S : Sh} (hS : S.Ok) {f : Int} (hf : 0 ≤ f) {i j : Nat} (hij : i ≤ j) (h : j < (allP S.os - f).toNat) (hc : (!S.can f (f + ((i + 1 : Nat) : Int))) = true) : (!S.can f (f + ((j + 1 : Nat) : Int))) = true := by
  cases hj : S.can f (f + ((j + 1 : Nat) : Int)) with
  | false => rfl
  | true => rw [can_mono hS hf (m := i + 1) (n := j + 1) (by omega) (by omega) (by omega) hj] at hc; cases hc
/-- Where each setting begins that goes as far as it can. -/
def Sh.at (S : Sh) : Nat → Int
  | 0 => 0
  | k + 1 => S.reach (S.at k)
theorem at_bound {S : Sh} (hS : S.Ok) : ∀ k, 0 ≤ S.at k ∧ S.at k ≤ allP S.os
  | 0 => by have := hS.all; exact ⟨Int.le_refl _, by show (0 : Int) ≤ _; omega⟩
  | k + 1 => by
    have ih := at_bound hS k
    have := reach_bound S ih.2
    show 0 ≤ S.reach (S.at k) ∧ S.reach (S.at k) ≤ _
    omega
theorem at_le {S : Sh} (hS : S.Ok) (k : Nat) : S.at k ≤ S.at (k + 1) := (reach_bound S (at_bound hS k).2).1
def Sh.good (S : Sh) (k : Nat) : Bool := decide (S.at k < allP S.os) && decide (S.at k < S.at (k + 1))
/-- How many settings go on. -/
def Sh.sure (S : Sh) : Nat := lead S.good (allP S.os).toNat
def Sh.cnt (S : Sh) : Nat := if S.at S.sure < allP S.os then S.sure + 1 else S.sure
theorem good_lt {S : Sh} {i : Nat} (h : i < S.sure) : S.at i < allP S.os ∧ S.at i < S.at (i + 1) := by
  have := (lead_ok S.good (allP S.os).toNat).2.1 i h
  unfold Sh.good at this
  simpa using this
theorem at_ge {S : Sh} : ∀ k, k ≤ S.sure → (k : Int) ≤ S.at k
  | 0, _ => Int.le_refl _
  | k + 1, h => by
    have ih := at_ge (S := S) k (by omega)
    have := (good_lt (S := S) (i := k) (by omega)).2
    omega
theorem sure_end {S : Sh} (hS : S.Ok) (h : S.at S.sure < allP S.os) : S.at (S.sure + 1) = S.at S.sure := by
  have hb := at_le hS S.sure
  have hg := at_ge (S := S) S.sure (Nat.le_refl _)
  have ok := lead_ok S.good (allP S.os).toNat
  have hN : S.sure < (allP S.os).toNat := by omega
  have := ok.2.2 hN
  have h2 : S.good S.sure = false := this
  unfold Sh.good at h2
  rw [decide_eq_true h, Bool.true_and, decide_eq_false_iff_not] at h2
  omega
theorem sure_le (S : Sh) : S.sure ≤ (allP S.os).toNat := (lead_ok S.good (allP S.os).toNat).1
/-- What the steps hand out: where one begins, and where it ends. -/
def encS (S : Sh) (k : Nat) : List Value := [.int .i64 (S.at k), .int .i64 (S.at (k + 1))]
theorem most_end {S : Sh} (hS : S.Ok) {n : Nat} (h : S.cnt ≤ n) : S.at S.cnt = S.at (min n S.sure) := by
  unfold Sh.cnt at *
  split at h
  · rename_i hl
    rw [if_pos hl, sure_end hS hl, Nat.min_eq_right (by omega)]
  · rename_i hl
    rw [if_neg hl, Nat.min_eq_right h]
theorem most_exit {S : Sh} {n : Nat} (h : n < S.cnt) : S.at n = S.at (min n S.sure) := by
  have : n ≤ S.sure := by unfold Sh.cnt at h; split at h <;> omega
  rw [Nat.min_eq_left this]
/-- The settings of a plan. -/
def planL (S : Sh) (k : Nat) : List Stg := (List.range k).map fun j => ⟨S.at j, (turnS S.down (S.tg (S.at j) (S.at (j + 1)))).lo⟩
theorem planL_len (S : Sh) (k : Nat) : (planL S k).length = k := by simp [planL]
theorem planL_succ (S : Sh) (k : Nat) : planL S (k + 1) = planL S k ++ [⟨S.at k, (turnS S.down (S.tg (S.at k) (S.at (k + 1)))).lo⟩] := by
  unfold planL
  rw [List.range_succ, List.map_append]
  rfl
theorem cnt_stuck {S : Sh} {k : Nat} (hk : k < S.cnt) (h : k ≤ S.sure) (e : S.at k = S.at (k + 1)) : S.at S.sure < allP S.os := by
  have hs : k = S.sure := by
    by_cases hl : k < S.sure
    · have := (good_lt hl).2; omega
    · omega
  unfold Sh.cnt at hk
  split at hk
  · assumption
  · omega
theorem cnt_on {S : Sh} (hS : S.Ok) {k : Nat} (hk : k < S.cnt) (h : k ≤ S.sure) (e : ¬ S.at k = S.at (k + 1)) : k < S.sure := by
  by_cases hl : k < S.sure
  · exact hl
  · have hs : k = S.sure := by omega
    unfold Sh.cnt at hk
    split at hk
    · rename_i ha
      rw [hs] at e
      exact absurd (sure_end hS ha).symm e
    · omega
theorem cnt_done {S : Sh} (h : S.cnt ≤ S.sure) : ¬ S.at S.sure < allP S.os ∧ S.cnt = S.sure := by
  unfold Sh.cnt at *
  split at h
  · omega
  · rename_i hn
    exact ⟨hn, by rw [if_neg hn]⟩
end Go.Proofs.Ytdflfnednaleeaa
