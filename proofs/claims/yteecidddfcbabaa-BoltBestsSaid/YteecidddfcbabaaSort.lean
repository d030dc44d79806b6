/- Own layer: what a sort by insertion asks. -/
import Derived.Test.YteecidddfcbabaaMaps
namespace Go.Proofs.Yteecidddfcbabaa
open Go

/-- One insertion into the reversed prefix. -/
def insR (lt : Int → Int → Bool) (x : Int) : List Int → List Int
  | [] => [x]
  | p :: r => if lt x p then p :: insR lt x r else x :: p :: r
/-- The reversed prefix, sorted. -/
def sortR (lt : Int → Int → Bool) (l : List Int) : List Int := l.foldl (fun R x => insR lt x R) []

theorem insR_split {lt : Int → Int → Bool} {x : Int} : ∀ (B A : List Int), (∀ b, b ∈ B → lt x b = true) → (∀ a r, A = a :: r → lt x a = false) → insR lt x (B ++ A) = B ++ x :: A
  | [], [], _, _ => rfl
  | [], a :: r, _, h => by simp [insR, h a r rfl]
  | b :: B, A, hB, hA => by
    simp only [List.cons_append, insR, hB b (List.mem_cons_self ..), if_true]
    rw [insR_split B A (fun c hc => hB c (List.mem_cons_of_mem _ hc)) hA]

theorem sortR_snoc (lt : Int → Int → Bool) (l : List Int) (x : Int) : sortR lt (l ++ [x]) = insR lt x (sortR lt l) := by
  unfold sortR; rw [List.foldl_append]; rfl
theorem sortR_take (lt : Int → Int → Bool) (l : List Int) (k : Nat) (h : k < l.length) : sortR lt (l.take (k + 1)) = insR lt l[k] (sortR lt (l.take k)) := by
  rw [List.take_succ_eq_append_getElem h, sortR_snoc]
theorem sortR_one (lt : Int → Int → Bool) (l : List Int) : (sortR lt (l.take 1)).reverse ++ l.drop 1 = l := by
  cases l with
  | nil => rfl
  | cons x r => simp [sortR, insR]
theorem insR_len (lt : Int → Int → Bool) (x : Int) : ∀ R : List Int, (insR lt x R).length = R.length + 1
  | [] => rfl
  | p :: r => by
    unfold insR
    split
    · simp [insR_len lt x r]
    · rfl
theorem sortR_len (lt : Int → Int → Bool) : ∀ (l R : List Int), (l.foldl (fun R x => insR lt x R) R).length = R.length + l.length
  | [], R => by simp
  | x :: l, R => by simp only [List.foldl_cons, sortR_len lt l, insR_len, List.length_cons]; omega

theorem insR_mem (lt : Int → Int → Bool) (x y : Int) : ∀ R : List Int, y ∈ insR lt x R → y = x ∨ y ∈ R
  | [], h => by simpa [insR] using h
  | p :: r, h => by
    unfold insR at h
    split at h
    · rcases List.mem_cons.1 h with rfl | h
      · exact .inr (List.mem_cons_self ..)
      · rcases insR_mem lt x y r h with h | h
        · exact .inl h
        · exact .inr (List.mem_cons_of_mem _ h)
    · rcases List.mem_cons.1 h with rfl | h
      · exact .inl rfl
      · exact .inr h
theorem sortR_mem (lt : Int → Int → Bool) (y : Int) : ∀ (l R : List Int), y ∈ l.foldl (fun R x => insR lt x R) R → y ∈ R ∨ y ∈ l
  | [], R, h => .inl h
  | x :: l, R, h => by
    rcases sortR_mem lt y l (insR lt x R) h with h | h
    · rcases insR_mem lt x y R h with rfl | h
      · exact .inr (List.mem_cons_self ..)
      · exact .inl h
    · exact .inr (List.mem_cons_of_mem _ h)

/-- The step of the outer loop: x laid where it belongs. -/
theorem ins_done {lt : Int → Int → Bool} {l A B : List Int} {k : Nat} (h : k < l.length) (hP : A ++ B = (sortR lt (l.take k)).reverse) (hB : ∀ b, b ∈ B → lt l[k] b = true) (hA : ∀ A' a, A = A' ++ [a] → lt l[k] a = false) :
    (sortR lt (l.take (k + 1))).reverse ++ l.drop (k + 1) = (A ++ l[k] :: B) ++ l.drop (k + 1) := by
  have e : sortR lt (l.take k) = B.reverse ++ A.reverse := by rw [← List.reverse_append, hP, List.reverse_reverse]
  rw [sortR_take lt l k h, e, insR_split B.reverse A.reverse (fun b hb => hB b (List.mem_reverse.1 hb)) (fun a r hr => hA r.reverse a (by rw [← List.reverse_reverse A, hr]; simp))]
  simp

theorem snoc_cases (A : List Int) : A = [] ∨ ∃ A' a, A = A' ++ [a] := by
  rcases List.eq_nil_or_concat A with h | ⟨A', a, h⟩
  · exact .inl h
  · exact .inr ⟨A', a, by simpa using h⟩

theorem spl_mid (A R : List Int) (y z : Int) (sp : List Value) : Spl ((A ++ y :: R).map (Value.int .i64) ++ sp) A.length [Value.int .i64 z] ((A ++ z :: R).map (Value.int .i64) ++ sp) :=
  ⟨by simp [List.drop_append], by simp⟩
theorem get_mid (A R : List Int) (y : Int) (sp : List Value) : ((A ++ y :: R).map (Value.int .i64) ++ sp)[A.length]? = some (Value.int .i64 y) := by
  simp

section
variable {P : Program} {N : Nat} {w0 : World} {M : List Nat} {Γ : Gam} {H : Hp} {R : Ending → World → Prop}
theorem fin0 {fn : Func} (hr : fn.results = #[]) (h : ∀ W, Sat w0 M H W → R (.returned (.tuple #[])) W) : Kn N w0 M Γ H (Fin P fn R) :=
  fun a W ha hW => ⟨ha.defers, .tuple #[], by simp [results, hr], h W hW⟩

/-- A call that writes one block that is known, and lays new ones. -/
theorem Sat.put {H' : Hp} {W W' : World} {b : Nat} {ty : TypeId} {cs cs' : List Value} (h : Sat w0 M H W) [hs : SetE H b cs' H'] [he : HasE H b ty cs true] (k : Ext [b] W W') (hb : W'.heap[b]? = some (.cells cs'.toArray ty (0, 0))) : Sat w0 M H' W' := by
  obtain ⟨l, r, ty', cs0, h1, h2⟩ := hs.set
  have hmem : (⟨b, ty', cs0, true⟩ : Ent) ∈ H := by rw [h1]; simp
  have hty : ty' = ty := by
    have e1 := h.at_ _ hmem
    have e2 := h.cells he
    simp only [Ent.obj] at e1 e2
    rw [e1] at e2
    injection e2 with e2
    injection e2
  subst hty
  have hn := h.nodup
  rw [h1] at hn
  simp only [List.map_append, List.map_cons] at hn
  obtain ⟨hnl, hnr⟩ := nodup_mid hn
  have old : ∀ e, e ∈ l ∨ e ∈ r → e ∈ H ∧ e.b ≠ b := fun e hx => by
    refine ⟨by rw [h1]; rcases hx with hx | hx <;> simp [hx], fun heq => ?_⟩
    rcases hx with hx | hx
    · exact hnl (List.mem_map.2 ⟨e, hx, heq⟩)
    · exact hnr (List.mem_map.2 ⟨e, hx, heq⟩)
  have keep : ∀ e, e ∈ l ∨ e ∈ r → W'.heap[e.b]? = some e.obj := fun e hx => by
    rw [k.block e.b (h.lt (old e hx).1) (by simpa using (old e hx).2)]
    exact h.at_ e (old e hx).1
  refine ⟨h.ext.trans k (fun z hz hzl => ?_), fun e he => ?_, fun e he => ?_, ?_⟩
  · simp only [List.mem_singleton] at hz
    subst hz
    rcases h.new _ hmem with h | h
    · simp only at h; omega
    · exact h
  · rw [h2] at he
    rcases List.mem_append.1 he with hx | hx
    · exact keep e (.inl hx)
    · rcases List.mem_cons.1 hx with rfl | hx
      · exact hb
      · exact keep e (.inr hx)
  · rw [h2] at he
    rcases List.mem_append.1 he with hx | hx
    · exact h.new e (old e (.inl hx)).1
    · rcases List.mem_cons.1 hx with rfl | hx
      · exact h.new ⟨b, ty', cs0, true⟩ hmem
      · exact h.new e (old e (.inr hx)).1
  · rw [h2]; simpa [h1] using h.nodup

/-- A call that turns one block that is known. -/
theorem o_callP {ops : Array Oper} {Q : Exit → Act → World → Prop} {next : AW} {rest : List Oper} {d f b : Nat} {args : List Operand} {vs cs cs' : List Value} {ats : Array TypeId} {t : TypeId} {H' : Hp} {ty : Nat} {pos : String} {aft : Array Edge} (hcall : ∀ l W, (callFunc f l).run P W = .ok (.enter f l) W)
    (hargs : evs Γ args = some vs) [he : HasE H b t cs true] [hs : SetE H b cs' H'] (hc : ∀ W, Sat w0 M H W → Calls P f vs.toArray W (fun x W' => x = .returned (.tuple #[]) ∧ W'.heap[b]? = some (.cells cs'.toArray t (0, 0)) ∧ Ext [b] W W'))
    (k : OpsN P ops Q next N w0 M rest ((d, .tuple #[]) :: Γ) H') (hdN : d < N := by decide) : OpsN P ops Q next N w0 M (⟨some d, .call ⟨.value (.func f), args.toArray, ats⟩, ty, pos, aft, none⟩ :: rest) Γ H :=
  o_step (ex_callF (bs := [b]) (φ := fun v K => v = .tuple #[] ∧ K = H') hcall hargs fun W hW => (hc W hW).mono fun _ W' ⟨hx, hb, hE⟩ => ⟨.tuple #[], H', hx, ⟨rfl, rfl⟩, hW.put (cs' := cs') hE hb, hE⟩)
    (by rintro _ _ ⟨rfl, rfl⟩; exact k) rfl rfl hdN
end
end Go.Proofs.Yteecidddfcbabaa
