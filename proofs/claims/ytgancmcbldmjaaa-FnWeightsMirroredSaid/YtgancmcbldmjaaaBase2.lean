/- Plain lemmas on answers of weights, inverse answers and products. Conditions stand in each lemma. -/
import Derived.Test.YtgancmcbldmjaaaBase
namespace Go.Proofs.Ytgancmcbldmjaaa.Base
set_option linter.unusedVariables false
set_option linter.unusedSimpArgs false
open Go.RowKit Go.Proofs.YtgancmcbldmjaaaW.PrintWords Go.Proofs.YtgancmcbldmjaaaW.PrintLast Go.Proofs.YtgancmcbldmjaaaW.PrintMore
/-! ### inverse answers -/
def restM (out : List Int) (i : Nat) : Int → List Int → Nat → Int
  | acc, [], _ => acc
  | acc, a :: r, k => restM out i (acc - a * atM out ((i : Int) - k)) r (k + 1)
theorem atM_neg {l : List Int} {i : Int} (h : i < 0) : atM l i = 0 := by unfold atM; rw [if_neg (by omega)]
theorem restM_past (out : List Int) (i : Nat) : ∀ (r : List Int) (acc : Int) (k : Nat), i < k → restM out i acc r k = acc
  | [], acc, k, h => rfl
  | a :: r, acc, k, h => by simp only [restM]; rw [atM_neg (by omega), Int.mul_zero, Int.sub_zero, restM_past out i r acc (k + 1) (by omega)]
theorem atM_bd {l : List Int} (h : Bd l) (i : Int) : -100000 ≤ atM l i ∧ atM l i ≤ 100000 := by
  unfold atM
  split
  · exact getD_bd h _
  · omega
def invM (h : List Int) : Nat → Nat → List Int → List Int × Bool
  | 0, _, out => (out, true)
  | d + 1, i, out => if inR (restM out i (if i = 0 then 1 else 0) (h.drop 1) 1 * h.getD 0 0) (-100000) 100000 = true then invM h d (i + 1) (out ++ [restM out i (if i = 0 then 1 else 0) (h.drop 1) 1 * h.getD 0 0]) else ([], false)
theorem invM_len (h : List Int) : ∀ (d i : Nat) (out : List Int), (invM h d i out).1.length ≤ out.length + d
  | 0, i, out => by simp [invM]
  | d + 1, i, out => by
    simp only [invM]
    generalize restM out i (if i = 0 then 1 else 0) (h.drop 1) 1 * h.getD 0 0 = v
    cases inR v (-100000) 100000
    · simp
    · have := invM_len h d (i + 1) (out ++ [v])
      simp only [List.length_append, List.length_singleton] at this
      simp only [if_true]
      omega
theorem Bd.snoc {l : List Int} {v : Int} (h : Bd l) (hv : -100000 ≤ v ∧ v ≤ 100000) : Bd (l ++ [v]) := by
  intro x hx
  rw [List.mem_append, List.mem_singleton] at hx
  rcases hx with hx | rfl
  · exact h x hx
  · exact hv
theorem mul_bd3 {a c : Int} (ha : -10000000000 ≤ a ∧ a ≤ 10000000000) (hc : -1000 ≤ c ∧ c ≤ 1000) : -10000000000000 ≤ a * c ∧ a * c ≤ 10000000000000 := by
  have key : ∀ u v : Int, 0 ≤ u → u ≤ 10000000000 → 0 ≤ v → v ≤ 1000 → 0 ≤ u * v ∧ u * v ≤ 10000000000000 := fun u v hu hu2 hv hv2 =>
    ⟨Int.mul_nonneg hu hv, Int.le_trans (Int.mul_le_mul hu2 hv2 hv (by omega)) (by omega)⟩
  by_cases h1 : 0 ≤ a <;> by_cases h2 : 0 ≤ c
  · have := key a c h1 (by omega) h2 (by omega); omega
  · have := key a (-c) h1 (by omega) (by omega) (by omega); rw [Int.mul_neg] at this; omega
  · have := key (-a) c (by omega) (by omega) h2 (by omega); rw [Int.neg_mul] at this; omega
  · have := key (-a) (-c) (by omega) (by omega) (by omega) (by omega); rw [Int.neg_mul_neg] at this; omega
end Go.Proofs.Ytgancmcbldmjaaa.Base
