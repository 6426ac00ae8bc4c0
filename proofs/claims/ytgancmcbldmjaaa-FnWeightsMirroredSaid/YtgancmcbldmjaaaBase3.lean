/- Plain lemmas on the answer of weights as sums of products: each place, its length, that it doesn't depend on the order of the two. Conditions stand in each lemma. -/
import Derived.Test.YtgancmcbldmjaaaBase2
namespace Go.Proofs.Ytgancmcbldmjaaa.Base
set_option linter.unusedVariables false
set_option linter.unusedSimpArgs false
open Go.RowKit Go.Proofs.YtgancmcbldmjaaaW.PrintWords Go.Proofs.YtgancmcbldmjaaaW.PrintLast Go.Proofs.YtgancmcbldmjaaaW.PrintMore
/-- The sum of all products of the weight k and the sample n - k. -/
def cv : List Int → List Int → Int → Int
  | [], _, _ => 0
  | a :: r, s, n => a * atM s n + cv r s (n - 1)
theorem cv_nil_right (h : List Int) (n : Int) : cv h [] n = 0 := by
  induction h generalizing n with
  | nil => rfl
  | cons a r ih => simp [cv, ih, atM]
theorem atM_cons (b : Int) (s : List Int) (n : Int) : atM (b :: s) n = if n = 0 then b else atM s (n - 1) := by
  unfold atM
  by_cases h : n = 0
  · subst h; simp
  · rw [if_neg h]
    by_cases h1 : 0 ≤ n
    · rw [if_pos h1, if_pos (by omega), show n.toNat = (n - 1).toNat + 1 by omega]; simp
    · rw [if_neg h1, if_neg (by omega)]
theorem cv_neg (h s : List Int) : ∀ (n : Int), n < 0 → cv h s n = 0 := by
  induction h with
  | nil => intro n _; rfl
  | cons a r ih => intro n hn; simp only [cv]; rw [atM_neg hn, ih (n - 1) (by omega)]; simp
theorem cv_cons_right (b : Int) (s : List Int) : ∀ (h : List Int) (n : Int), cv h (b :: s) n = atM h n * b + cv h s (n - 1)
  | [], n => by simp [cv, atM]
  | a :: r, n => by
    simp only [cv, atM_cons]
    rw [cv_cons_right b s r (n - 1)]
    by_cases h : n = 0
    · subst h
      rw [if_pos rfl, if_pos rfl, atM_neg (l := r) (by omega), atM_neg (l := s) (by omega)]
      simp
    · rw [if_neg h, if_neg h]
      omega
theorem cv_comm (h s : List Int) : ∀ n : Int, cv h s n = cv s h n := by
  induction s with
  | nil => intro n; rw [cv_nil_right]; rfl
  | cons b s ih => intro n; rw [cv_cons_right, ih]; simp only [cv]; rw [Int.mul_comm]
/-- Past both there is nothing. -/
theorem cv_past (h s : List Int) : ∀ (n : Int), (h.length : Int) + s.length - 1 ≤ n → cv h s n = 0 := by
  induction h with
  | nil => intro n _; rfl
  | cons a r ih =>
    intro n hn
    simp only [List.length_cons] at hn
    simp only [cv]
    rw [ih (n - 1) (by omega)]
    have : atM s n = 0 := by
      unfold atM
      split
      · simp [List.getD, show s.length ≤ n.toNat by omega]
      · rfl
    rw [this]; simp
/-- Each place of what stands behind some of the weights: bounds under which nothing wraps. -/
theorem innerM_get (k : Nat) (a : Int) : ∀ (r : List Int) (i : Nat) (out : List Int), k + i + r.length ≤ out.length →
    (∀ x ∈ r, -10000000000 ≤ a * x ∧ a * x ≤ 10000000000) → (∀ j, k + i ≤ j → j < out.length → -4000000000000000000 ≤ out.getD j 0 ∧ out.getD j 0 ≤ 4000000000000000000) →
    ∀ j : Nat, (innerM k a out r i).getD j 0 = out.getD j 0 + (if k + i ≤ j then a * r.getD (j - (k + i)) 0 else 0)
  | [], i, out, hl, hM, ho, j => by
    simp only [innerM]
    split <;> simp
  | x :: r, i, out, hl, hM, ho, j => by
    simp only [List.length_cons] at hl
    have hx := hM x (by simp)
    have hk := ho (k + i) (by omega) (by omega)
    have hset : ∀ t, (out.set (k + i) (wrap64 (out.getD (k + i) 0 + wrap64 (a * x)))).getD t 0 = if t = k + i then out.getD (k + i) 0 + a * x else out.getD t 0 := by
      intro t
      rw [wrap_id (x := a * x) (by omega) (by omega), wrap_id (x := out.getD (k + i) 0 + a * x) (by omega) (by omega)]
      by_cases ht : t = k + i
      · rw [if_pos ht, ht]; simp [List.getD, List.getElem?_set, show k + i < out.length by omega]
      · rw [if_neg ht]; simp only [List.getD]; rw [List.getElem?_set_ne (by omega)]
    simp only [innerM]
    rw [innerM_get k a r (i + 1) _ (by simp; omega) (fun y hy => hM y (by simp [hy])) (by intro t h1 h2; rw [hset t, if_neg (by omega)]; exact ho t (by omega) (by simpa using h2)) j, hset j]
    by_cases h1 : j = k + i
    · rw [if_pos h1, if_neg (by omega), if_pos (by omega), h1]
      simp
    · rw [if_neg h1]
      by_cases h2 : k + i ≤ j
      · rw [if_pos h2, if_pos (by omega), show j - (k + i) = (j - (k + (i + 1))) + 1 by omega]
        simp
      · rw [if_neg h2, if_neg (by omega)]
theorem getD_mul_bd {a : Int} {s : List Int} (h : ∀ x ∈ s, -10000000000 ≤ a * x ∧ a * x ≤ 10000000000) (i : Nat) : -10000000000 ≤ a * s.getD i 0 ∧ a * s.getD i 0 ≤ 10000000000 := by
  by_cases hi : i < s.length
  · rw [show s.getD i 0 = s[i] by simp [List.getD, hi]]; exact h _ (List.getElem_mem hi)
  · rw [show s.getD i 0 = 0 by simp [List.getD, show s.length ≤ i by omega]]; simp
theorem outerM_get (s : List Int) : ∀ (r : List Int) (k : Nat) (out : List Int), k + r.length + s.length ≤ out.length + 1 → (∀ a ∈ r, ∀ x ∈ s, -10000000000 ≤ a * x ∧ a * x ≤ 10000000000) →
    (∀ j, j < out.length → -3000000000000000000 + 10000000000 * (r.length : Int) ≤ out.getD j 0 ∧ out.getD j 0 ≤ 3000000000000000000 - 10000000000 * (r.length : Int)) → r.length ≤ 1000 →
    ∀ j : Nat, (outerM s out r k).getD j 0 = out.getD j 0 + cv r s ((j : Int) - k)
  | [], k, out, hl, hM, ho, hr, j => by simp [outerM, cv]
  | a :: r, k, out, hl, hM, ho, hr, j => by
    simp only [List.length_cons] at hl ho hr
    have hi := innerM_get k a s 0 out (by omega) (hM a (by simp)) (by intro j _ hj; have := ho j hj; omega)
    simp only [outerM]
    rw [outerM_get s r (k + 1) _ (by rw [innerM_length]; omega) (fun b hb => hM b (by simp [hb])) (by
      intro j hj
      rw [innerM_length] at hj
      have := ho j hj
      rw [hi j]
      split
      · have := getD_mul_bd (hM a (by simp)) (j - (k + 0))
        omega
      · omega) (by omega) j, hi j]
    simp only [cv, Nat.add_zero]
    rw [show (j : Int) - k - 1 = (j : Int) - ((k + 1 : Nat) : Int) by omega]
    have : (if k ≤ j then a * s.getD (j - k) 0 else 0) = a * atM s ((j : Int) - k) := by
      unfold atM
      by_cases h : k ≤ j
      · rw [if_pos h, if_pos (by omega), show ((j : Int) - k).toNat = j - k by omega]
      · rw [if_neg h, if_neg (by omega), Int.mul_zero]
    rw [this]; omega
/-- The answer's places. -/
theorem ansM_get (h s : List Int) (hh : h.length ≤ 1000) (hM : ∀ a ∈ h, ∀ x ∈ s, -10000000000 ≤ a * x ∧ a * x ≤ 10000000000) (j : Nat) : (ansM h s).getD j 0 = cv h s j := by
  unfold ansM
  split
  · next h0 =>
    have : s = [] := by cases s with | nil => rfl | cons _ _ => simp at h0
    subst this
    rw [cv_nil_right]; simp
  · next h0 =>
    have hz : ∀ j, (List.replicate (h.length + s.length - 1) (0 : Int)).getD j 0 = 0 := by
      intro j; simp only [List.getD]; by_cases hj : j < h.length + s.length - 1 <;> simp [List.getElem?_replicate, hj]
    rw [outerM_get s h 0 _ (by simp; omega) hM (by intro j _; rw [hz]; omega) hh j, hz]
    simp
theorem ansM_comm (h s : List Int) (hh : h.length ≤ 1000) (hs : s.length ≤ 1000) (h0 : 1 ≤ h.length) (s0 : 1 ≤ s.length) (hM : ∀ a ∈ h, ∀ x ∈ s, -10000000000 ≤ a * x ∧ a * x ≤ 10000000000) : ansM h s = ansM s h := by
  have l1 := ansM_length h s
  have l2 := ansM_length s h
  rw [if_neg (by omega)] at l1 l2
  apply List.ext_getElem?
  intro i
  by_cases hi : i < h.length + s.length - 1
  · have g1 := ansM_get h s hh hM i
    have g2 := ansM_get s h hs (fun a ha x hx => by rw [Int.mul_comm]; exact hM x hx a ha) i
    rw [cv_comm] at g1
    rw [show (ansM h s).getD i 0 = (ansM h s)[i]'(by omega) by simp [List.getD, show i < (ansM h s).length by omega]] at g1
    rw [show (ansM s h).getD i 0 = (ansM s h)[i]'(by omega) by simp [List.getD, show i < (ansM s h).length by omega]] at g2
    rw [List.getElem?_eq_getElem (by omega), List.getElem?_eq_getElem (by omega), g1, g2]
  · rw [List.getElem?_eq_none (by omega), List.getElem?_eq_none (by omega)]
end Go.Proofs.Ytgancmcbldmjaaa.Base
