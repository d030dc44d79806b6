/- The order of the ways: the program's stable sort is the reference's insertion. -/
import Derived.Test.YteecidddfcbabaaA16
import Derived.Test.YteecidddfcbabaaSlc
namespace Go.Proofs.Yteecidddfcbabaa
open Go

/-- How wide the forces of way i are. -/
def wdt (b : Bo) (l : List Wa) (i : Int) : Int := b.fHi (l.getD i.toNat dW) - b.fLo (l.getD i.toNat dW)
def ltW (b : Bo) (l : List Wa) (x y : Int) : Bool := decide (wdt b l x < wdt b l y)
/-- The ways that are fine among the first k, the narrowest first. -/
def rL (b : Bo) (wl wh : Int) (l : List Wa) (k : Nat) : List Int := (sortR (ltW b l) (idxL b wl wh l k)).reverse

theorem insR_congr {f g : Int → Int → Bool} {x : Int} : ∀ R : List Int, (∀ y, y ∈ R → f x y = g x y) → insR f x R = insR g x R
  | [], _ => rfl
  | p :: r, h => by
    unfold insR
    rw [h p (List.mem_cons_self ..), insR_congr r (fun y hy => h y (List.mem_cons_of_mem _ hy))]
theorem foldR_congr {f g : Int → Int → Bool} : ∀ (l R : List Int), (∀ x y, (x ∈ l ∨ x ∈ R) → (y ∈ l ∨ y ∈ R) → f x y = g x y) → l.foldl (fun R x => insR f x R) R = l.foldl (fun R x => insR g x R) R
  | [], _, _ => rfl
  | x :: l, R, h => by
    simp only [List.foldl_cons]
    rw [insR_congr R (fun y hy => h x y (.inl (List.mem_cons_self ..)) (.inr hy))]
    refine foldR_congr l _ (fun u v hu hv => h u v ?_ ?_)
    · rcases hu with hu | hu
      · exact .inl (List.mem_cons_of_mem _ hu)
      · rcases insR_mem g x u R hu with rfl | hu
        · exact .inl (List.mem_cons_self ..)
        · exact .inr hu
    · rcases hv with hv | hv
      · exact .inl (List.mem_cons_of_mem _ hv)
      · rcases insR_mem g x v R hv with rfl | hv
        · exact .inl (List.mem_cons_self ..)
        · exact .inr hv

theorem kvGet_snoc (kv : List (Int × Int)) (k v x : Int) (h : ¬ k ∈ kv.map (·.1)) : kvGet (kv ++ [(k, v)]) x = if x = k then v else kvGet kv x := by
  induction kv with
  | nil => rfl
  | cons p r ih =>
    obtain ⟨a, c⟩ := p
    simp only [List.map_cons, List.mem_cons, not_or] at h
    simp only [List.cons_append, kvGet]
    by_cases hx : x = a
    · rw [if_pos hx, if_pos hx, if_neg (by omega)]
    · rw [if_neg hx, if_neg hx]
      exact ih h.2

theorem idxL_nonneg (b : Bo) (wl wh : Int) (l : List Wa) : ∀ k i, i ∈ idxL b wl wh l k → 0 ≤ i
  | 0, i, h => by simp [idxL] at h
  | k + 1, i, h => by
    unfold idxL at h
    split at h
    · rcases List.mem_append.1 h with h | h
      · exact idxL_nonneg b wl wh l k i h
      · have : i = k := by simpa using h
        omega
    · exact idxL_nonneg b wl wh l k i h

theorem kvL_get (b : Bo) (wl wh : Int) (l : List Wa) : ∀ k i, i ∈ idxL b wl wh l k → kvGet (kvL b wl wh l k) i = wdt b l i
  | 0, i, h => by simp [idxL] at h
  | k + 1, i, h => by
    have hl := idxL_lt b wl wh l k
    unfold idxL at h
    unfold kvL
    split at h
    · rename_i hf
      rw [if_pos hf, kvGet_snoc _ _ _ _ (by rw [kvL_fst]; intro hm; have := hl.2 _ hm; omega)]
      rcases List.mem_append.1 h with h | h
      · rw [if_neg (by have := hl.2 i h; omega)]
        exact kvL_get b wl wh l k i h
      · have : i = k := by simpa using h
        subst this
        rw [if_pos rfl]
        simp [wdt]
    · rename_i hf
      rw [if_neg hf]
      exact kvL_get b wl wh l k i h

theorem bestL_rL (b : Bo) (wl wh : Int) (l : List Wa) : (sortR (fun x y => decide (kvCmp (kvL b wl wh l l.length) x y < 0)) (idxL b wl wh l l.length)).reverse = rL b wl wh l l.length := by
  unfold rL sortR
  congr 1
  refine foldR_congr _ _ (fun x y hx hy => ?_)
  have hx : x ∈ idxL b wl wh l l.length := by simpa using hx
  have hy : y ∈ idxL b wl wh l l.length := by simpa using hy
  unfold kvCmp ltW
  rw [kvL_get b wl wh l _ x hx, kvL_get b wl wh l _ y hy]
  rw [Bool.eq_iff_iff, decide_eq_true_eq, decide_eq_true_eq]
  omega

/-- What stands in the list: numbers of ways, by width. -/
structure RInv (b : Bo) (l : List Wa) (k : Nat) (R : List Int) : Prop where
  mem : ∀ i, i ∈ R → 0 ≤ i ∧ i < k
  srt : R.Pairwise (fun x y => wdt b l x ≤ wdt b l y)

theorem rL_mem (b : Bo) (wl wh : Int) (l : List Wa) (k : Nat) (i : Int) (h : i ∈ rL b wl wh l k) : 0 ≤ i ∧ i < k := by
  have h1 : i ∈ sortR (ltW b l) (idxL b wl wh l k) := by simpa [rL] using h
  rcases sortR_mem (ltW b l) i (idxL b wl wh l k) [] h1 with h | h
  · cases h
  · exact ⟨idxL_nonneg b wl wh l k i h, (idxL_lt b wl wh l k).2 i h⟩

theorem rL_len (b : Bo) (wl wh : Int) (l : List Wa) (k : Nat) : (rL b wl wh l k).length = (idxL b wl wh l k).length := by simp [rL, sortR, sortR_len]

/-- One more way, laid behind those that are as narrow. -/
theorem ins_at {b : Bo} {l : List Wa} {R : List Int} {x : Int} {m : Nat} (hs : R.Pairwise (fun x y => wdt b l x ≤ wdt b l y)) (hA : ∀ a, a ∈ R.take m → wdt b l a ≤ wdt b l x) (hB : ∀ c, R[m]? = some c → wdt b l x < wdt b l c) :
    (insR (ltW b l) x R.reverse).reverse = R.take m ++ (x :: R.drop m) ∧ (R.take m ++ (x :: R.drop m)).Pairwise (fun x y => wdt b l x ≤ wdt b l y) := by
  have hBall : ∀ c, c ∈ R.drop m → wdt b l x < wdt b l c := by
    intro c hc
    cases hd : R.drop m with
    | nil => rw [hd] at hc; cases hc
    | cons h t =>
      have h0 : R[m]? = some h := by
        have : (R.drop m)[0]? = some h := by rw [hd]; rfl
        simpa using this
      have hh := hB h h0
      have hp : (R.drop m).Pairwise (fun x y => wdt b l x ≤ wdt b l y) := hs.sublist (List.drop_sublist _ _)
      rw [hd] at hp hc
      rcases List.mem_cons.1 hc with rfl | hc
      · exact hh
      · have := (List.pairwise_cons.1 hp).1 c hc
        omega
  have e : R.reverse = (R.drop m).reverse ++ (R.take m).reverse := by rw [← List.reverse_append, List.take_append_drop]
  refine ⟨?_, ?_⟩
  · rw [e, insR_split (R.drop m).reverse (R.take m).reverse (fun c hc => ?_) (fun a r hr => ?_)]
    · simp
    · unfold ltW
      exact decide_eq_true (hBall c (List.mem_reverse.1 hc))
    · unfold ltW
      have ha : a ∈ R.take m := List.mem_reverse.1 (by rw [hr]; exact List.mem_cons_self ..)
      have := hA a ha
      exact decide_eq_false (by omega)
  · rw [List.pairwise_append]
    refine ⟨hs.sublist (List.take_sublist _ _), ?_, fun a ha c hc => ?_⟩
    · rw [List.pairwise_cons]
      exact ⟨fun c hc => Int.le_of_lt (hBall c hc), hs.sublist (List.drop_sublist _ _)⟩
    · rcases List.mem_cons.1 hc with rfl | hc
      · exact hA a ha
      · have := hA a ha
        have := hBall c hc
        omega

theorem rL_yes {b : Bo} {wl wh : Int} {l : List Wa} {k m : Nat} (hf : fineB b wl wh (l.getD k dW) = true) (hs : (rL b wl wh l k).Pairwise (fun x y => wdt b l x ≤ wdt b l y))
    (hA : ∀ a, a ∈ (rL b wl wh l k).take m → wdt b l a ≤ wdt b l k) (hB : ∀ c, (rL b wl wh l k)[m]? = some c → wdt b l k < wdt b l c) :
    rL b wl wh l (k + 1) = (rL b wl wh l k).take m ++ ((k : Int) :: (rL b wl wh l k).drop m) ∧ (rL b wl wh l (k + 1)).Pairwise (fun x y => wdt b l x ≤ wdt b l y) := by
  have e : rL b wl wh l (k + 1) = (insR (ltW b l) k (rL b wl wh l k).reverse).reverse := by
    unfold rL
    have : idxL b wl wh l (k + 1) = idxL b wl wh l k ++ [(k : Int)] := by
      show (if _ then _ else _) = _
      rw [if_pos hf]
    rw [this, sortR_snoc, List.reverse_reverse]
  have h := ins_at hs hA hB
  rw [e]
  exact ⟨h.1, h.1 ▸ h.2⟩
theorem rL_no {b : Bo} {wl wh : Int} {l : List Wa} {k : Nat} (hf : ¬ fineB b wl wh (l.getD k dW) = true) : rL b wl wh l (k + 1) = rL b wl wh l k := by
  unfold rL
  have : idxL b wl wh l (k + 1) = idxL b wl wh l k := by
    show (if _ then _ else _) = _
    rw [if_neg hf]
  rw [this]

/-! ### The error, step by step -/
def cod0 (b : Bo) (l : List Wa) : Int := if b.chk then (if 20 < l.length then 5 else 0) else 2
def codK (b : Bo) (l : List Wa) (k : Nat) : Int := if cod0 b l = 0 then (if (l.take k).any (fun y => !y.chk) then 2 else 0) else cod0 b l
def cod2 (b : Bo) (wl wh : Int) (l : List Wa) : Int := if codK b l l.length = 0 then (if isSp wl wh 0 100000000 then 0 else 3) else codK b l l.length
/-- What is found, or nothing. -/
def rFin (b : Bo) (wl wh : Int) (l : List Wa) : List Int := if cod2 b wl wh l = 0 then rL b wl wh l l.length else []

theorem codK_succ {b : Bo} {l : List Wa} {k : Nat} (hk : k < l.length) : codK b l (k + 1) = if codK b l k = 0 ∧ l[k].chk = false then 2 else codK b l k := by
  unfold codK
  by_cases h0 : cod0 b l = 0
  · rw [if_pos h0, if_pos h0, List.take_succ_eq_append_getElem hk, List.any_append]
    by_cases h1 : (l.take k).any (fun y => !y.chk) = true
    · rw [h1]; simp
    · have h1' : (l.take k).any (fun y => !y.chk) = false := by simpa using h1
      rw [h1']
      cases h2 : l[k].chk <;> simp [h2]
  · rw [if_neg h0, if_neg h0, if_neg (fun h => h0 h.1)]

theorem cod2_best (b : Bo) (wl wh : Int) (l : List Wa) : bestE b wl wh l = (if cod2 b wl wh l = 0 ∧ (rFin b wl wh l).length = 0 then 7 else cod2 b wl wh l) ∧ bestL b wl wh l = rFin b wl wh l := by
  have hl : (rL b wl wh l l.length).length = (idxL b wl wh l l.length).length := rL_len ..
  have hE : bestE b wl wh l = (if cod2 b wl wh l = 0 ∧ (rFin b wl wh l).length = 0 then 7 else cod2 b wl wh l) := by
    unfold bestE rFin cod2 codK cod0 openE
    rw [List.take_length]
    cases hc : b.chk
    · simp
    · by_cases h20 : 20 < l.length
      · simp [h20]
      · cases ha : l.any (fun y => !y.chk)
        · cases hs : isSp wl wh 0 100000000
          · simp [h20]
          · simp [h20, hl]
        · simp [h20]
  refine ⟨hE, ?_⟩
  unfold bestL
  rw [bestL_rL]
  unfold rFin at hE ⊢
  by_cases h0 : cod2 b wl wh l = 0
  · rw [if_pos h0] at hE ⊢
    by_cases hz : (rL b wl wh l l.length).length = 0
    · rw [if_pos ⟨h0, hz⟩] at hE
      rw [if_neg (by rw [hE]; decide)]
      exact (List.length_eq_zero_iff.1 hz).symm
    · rw [if_neg (fun h => hz h.2)] at hE
      rw [if_pos (by rw [hE, h0])]
  · rw [if_neg (fun h => h0 h.1)] at hE
    rw [if_neg h0, if_neg (by rw [hE]; exact h0)]

end Go.Proofs.Yteecidddfcbabaa
