/- Plain lemmas on weights turned round, their products, inverse answers and weights apart. Conditions stand in each lemma. -/
import Derived.Test.YtgancmcbldmjaaaBase3
namespace Go.Proofs.Ytgancmcbldmjaaa.Base
set_option linter.unusedVariables false
set_option linter.unusedSimpArgs false
open Go.RowKit Go.Proofs.YtgancmcbldmjaaaW.PrintWords Go.Proofs.YtgancmcbldmjaaaW.PrintLast Go.Proofs.YtgancmcbldmjaaaW.PrintMore
/-! ### lists turned round -/
theorem atM_reverse (s : List Int) (n : Int) : atM s.reverse ((s.length : Int) - 1 - n) = atM s n := by
  unfold atM
  by_cases h0 : 0 ≤ n
  · rw [if_pos h0]
    by_cases h1 : n ≤ (s.length : Int) - 1
    · rw [if_pos (by omega)]
      simp only [List.getD]
      rw [List.getElem?_reverse (by omega), show s.length - 1 - ((s.length : Int) - 1 - n).toNat = n.toNat by omega]
    · rw [if_neg (by omega)]
      simp [List.getD, show s.length ≤ n.toNat by omega]
  · rw [if_neg h0, if_pos (by omega)]
    simp [List.getD, show s.length ≤ ((s.length : Int) - 1 - n).toNat by omega]
theorem cv_snoc2 (a : Int) (s : List Int) : ∀ (h : List Int) (n : Int), cv (h ++ [a]) s n = cv h s n + a * atM s (n - h.length)
  | [], n => by simp [cv]
  | b :: r, n => by
    simp only [List.cons_append, cv]
    rw [cv_snoc2 a s r (n - 1)]
    simp only [List.length_cons]
    rw [show n - 1 - (r.length : Int) = n - ((r.length + 1 : Nat) : Int) by omega]
    omega
theorem cv_reverse (s : List Int) : ∀ (h : List Int) (n : Int), cv h.reverse s.reverse ((h.length : Int) + s.length - 2 - n) = cv h s n
  | [], n => rfl
  | a :: r, n => by
    simp only [List.reverse_cons, cv]
    rw [cv_snoc2]
    have ih := cv_reverse s r (n - 1)
    simp only [List.length_cons, List.length_reverse]
    rw [show ((r.length + 1 : Nat) : Int) + (s.length : Int) - 2 - n = (r.length : Int) + s.length - 2 - (n - 1) by omega, ih, show (r.length : Int) + (s.length : Int) - 2 - (n - 1) - (r.length : Int) = (s.length : Int) - 1 - n by omega, atM_reverse]
    omega
theorem sum_rev (l : List Int) : l.reverse.sum = l.sum := by
  induction l with
  | nil => rfl
  | cons a r ih => simp only [List.reverse_cons, List.sum_append, List.sum_cons, List.sum_nil, ih]; omega
theorem sum_neg (l : List Int) : (l.map fun x => x * -1).sum = -l.sum := by
  induction l with
  | nil => rfl
  | cons a r ih => simp only [List.map_cons, List.sum_cons, ih]; omega
theorem mirrored_sum {l : List Int} (h : (l.reverse.map fun x => x * -1) = l) : l.sum = 0 := by
  have h1 := congrArg List.sum h
  rw [sum_neg, sum_rev] at h1
  omega
theorem absM_nonneg (a : Int) : 0 ≤ absM a := by unfold absM; omega
theorem absSum_nonneg (l : List Int) : 0 ≤ absSum l := by
  induction l with
  | nil => simp [absSum]
  | cons a r ih => simp only [absSum, List.map_cons, List.sum_cons] at ih ⊢; have := absM_nonneg a; omega
theorem absSum_cons (a : Int) (r : List Int) : absSum (a :: r) = absM a + absSum r := rfl
theorem sum_abs (l : List Int) : -absSum l ≤ l.sum ∧ l.sum ≤ absSum l := by
  induction l with
  | nil => simp [absSum]
  | cons a r ih => rw [absSum_cons]; simp only [List.sum_cons]; unfold absM; omega
theorem alt_abs (l : List Int) : ∀ b, -absSum l ≤ alt b l ∧ alt b l ≤ absSum l := by
  induction l with
  | nil => intro b; cases b <;> simp [absSum, alt]
  | cons a r ih =>
    intro b
    rw [absSum_cons]
    have h1 := ih true
    have h2 := ih false
    cases b <;> simp only [alt] <;> unfold absM <;> omega
theorem absSum_zero {l : List Int} (h : ∀ x ∈ l, x = 0) : absSum l = 0 := by
  induction l with
  | nil => rfl
  | cons a r ih =>
    rw [absSum_cons, ih (fun x hx => h x (by simp [hx])), h a (by simp)]
    rfl
theorem zero_absSum {l : List Int} (h : absSum l = 0) : ∀ x ∈ l, x = 0 := by
  induction l with
  | nil => intro x hx; cases hx
  | cons a r ih =>
    rw [absSum_cons] at h
    have h1 := absSum_nonneg r
    have h2 := absM_nonneg a
    intro x hx
    rcases List.mem_cons.mp hx with rfl | hx
    · unfold absM at h h2; omega
    · exact ih (by omega) x hx
theorem both_zero {l : List Int} (h1 : l.reverse = l) (h2 : (l.reverse.map fun x => x * -1) = l) : absSum l = 0 := by
  rw [h1] at h2
  apply absSum_zero
  intro x hx
  have h3 : ∀ (a b : List Int), a.map (fun x => x * -1) = b → a = b → ∀ x ∈ a, x = 0 := by
    intro a
    induction a with
    | nil => intro b _ _ x hx; cases hx
    | cons c r ih =>
      intro b e1 e2 x hx
      subst e2
      simp only [List.map_cons, List.cons.injEq] at e1
      rcases List.mem_cons.mp hx with rfl | hx
      · omega
      · exact ih r e1.2 rfl x hx
  exact h3 l l h2 rfl x hx
/-! ### inverse answers -/
theorem restM_cv (out : List Int) (i : Nat) : ∀ (r : List Int) (acc : Int) (k : Nat), restM out i acc r k = acc - cv r out ((i : Int) - k)
  | [], acc, k => by simp [restM, cv]
  | a :: r, acc, k => by
    simp only [restM, cv]
    rw [restM_cv out i r _ (k + 1), show (i : Int) - ((k + 1 : Nat) : Int) = (i : Int) - k - 1 by omega]
    omega
theorem atM_prefix (out t : List Int) (n : Int) (h : n < out.length) : atM (out ++ t) n = atM out n := by
  unfold atM
  split
  · simp only [List.getD]; rw [List.getElem?_append_left (by omega)]
  · rfl
theorem cv_prefix (out t : List Int) : ∀ (h : List Int) (n : Int), n < out.length → cv h (out ++ t) n = cv h out n
  | [], n, _ => rfl
  | a :: r, n, hn => by simp only [cv]; rw [atM_prefix out t n hn, cv_prefix out t r (n - 1) (by omega)]
theorem invM_spec (h : List Int) (h1 : 1 ≤ h.length) (h0 : h.getD 0 0 = 1 ∨ h.getD 0 0 = -1) : ∀ (d i : Nat) (out F : List Int), out.length = i → Bd out → invM h d i out = (F, true) →
    F.length = i + d ∧ Bd F ∧ (∃ t, F = out ++ t) ∧ ∀ j : Nat, i ≤ j → j < i + d → cv h F j = if j = 0 then 1 else 0
  | 0, i, out, F, ho, hb, he => by
    simp only [invM, Prod.mk.injEq, and_true] at he
    subst he
    exact ⟨by omega, hb, ⟨[], by simp⟩, fun j h1 h2 => by omega⟩
  | d + 1, i, out, F, ho, hb, he => by
    simp only [invM] at he
    generalize hv : restM out i (if i = 0 then 1 else 0) (h.drop 1) 1 * h.getD 0 0 = v at he
    cases hr : inR v (-100000) 100000 with
    | false => rw [hr] at he; simp at he
    | true =>
      rw [hr, if_pos rfl] at he
      obtain ⟨g1, g2, ⟨t, g3⟩, g4⟩ := invM_spec h h1 h0 d (i + 1) (out ++ [v]) F (by simp [ho]) (hb.snoc (inR_true.mp hr)) he
      refine ⟨by omega, g2, ⟨[v] ++ t, by rw [g3]; simp⟩, fun j j1 j2 => ?_⟩
      by_cases hj : i + 1 ≤ j
      · exact g4 j hj (by omega)
      · have hji : j = i := by omega
        subst hji
        rw [restM_cv] at hv
        cases h with
        | nil => simp at h1
        | cons a r =>
          simp only [List.drop_succ_cons, List.drop_zero, List.getD_cons_zero] at hv h0
          simp only [cv]
          rw [g3, List.append_assoc, cv_prefix out _ r ((j : Int) - 1) (by omega), show (j : Int) - ((1 : Nat) : Int) = (j : Int) - 1 by omega] at *
          have hat : atM (out ++ ([v] ++ t)) (j : Int) = v := by
            unfold atM
            rw [if_pos (by omega), show (j : Int).toNat = out.length by omega]
            simp [List.getD]
          rw [hat, ← hv]
          generalize cv r out ((j : Int) - 1) = c
          rcases h0 with rfl | rfl <;> omega
theorem ext_getD {a b : List Int} (hl : a.length = b.length) (h : ∀ j, j < a.length → a.getD j 0 = b.getD j 0) : a = b := by
  apply List.ext_getElem hl
  intro i h1 h2
  have := h i h1
  simpa [List.getD, h1, h2] using this
theorem product_sym (h : List Int) (h1 : 1 ≤ h.length) (hh : h.length ≤ 1000) (hM : ∀ a ∈ h, ∀ x ∈ h, -10000000000 ≤ a * x ∧ a * x ≤ 10000000000) : (ansM h h.reverse).reverse = ansM h h.reverse := by
  have hM2 : ∀ a ∈ h, ∀ x ∈ h.reverse, -10000000000 ≤ a * x ∧ a * x ≤ 10000000000 := fun a ha x hx => hM a ha x (by simpa using hx)
  have hl : (ansM h h.reverse).length = h.length + h.length - 1 := by rw [ansM_length, if_neg (by simp; intro e; subst e; simp at h1)]; simp
  apply ext_getD (by simp)
  intro j hj
  simp only [List.length_reverse, hl] at hj
  rw [ansM_get h _ hh hM2 j]
  have e1 : (ansM h h.reverse).reverse.getD j 0 = (ansM h h.reverse).getD (h.length + h.length - 1 - 1 - j) 0 := by
    simp only [List.getD]
    rw [List.getElem?_reverse (by omega), hl]
  rw [e1, ansM_get h _ hh hM2]
  have e2 := cv_reverse h.reverse h (((h.length + h.length - 1 - 1 - j : Nat)) : Int)
  rw [List.reverse_reverse, List.length_reverse] at e2
  rw [← e2, cv_comm, show (h.length : Int) + (h.length : Int) - 2 - ((h.length + h.length - 1 - 1 - j : Nat) : Int) = (j : Int) by omega]
/-- The answer of weights to their inverse answer, as far as it goes: 1 and zeros. -/
theorem inverse_take (h F : List Int) (n : Nat) (hF : F.length = n) (h1 : 1 ≤ h.length) (hh : h.length ≤ 1000) (hM : ∀ a ∈ h, ∀ x ∈ F, -10000000000 ≤ a * x ∧ a * x ≤ 10000000000) (hc : ∀ j : Nat, j < n → cv h F j = if j = 0 then 1 else 0) :
    (ansM h F).take F.length = (List.range n).map fun (j : Nat) => if j = 0 then (1 : Int) else 0 := by
  by_cases h0 : n = 0
  · subst h0; simp [hF]
  have hl := ansM_length h F
  rw [if_neg (by omega)] at hl
  apply ext_getD (by simp; omega)
  intro j hj
  simp only [List.length_take] at hj
  have g := ansM_get h F hh hM j
  rw [hc j (by omega)] at g
  simp only [List.getD] at g ⊢
  rw [List.getElem?_take_of_lt (by omega), g]
  simp [show j < n by omega]
end Go.Proofs.Ytgancmcbldmjaaa.Base
