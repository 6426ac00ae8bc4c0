/- Numbers without rounding and fitting, scaled. Conditions stand in each lemma. -/
import Derived.Test.YtepfkahbfnahmaaBase
namespace Go.Proofs.Ytepfkahbfnahmaa.Base
set_option linter.unusedVariables false
set_option linter.unusedSimpArgs false
open Go.RowKit Go.Proofs.YtepfkahbfnahmaaW.PrintWords Go.Proofs.YtepfkahbfnahmaaW.PrintLast Go.Proofs.YtepfkahbfnahmaaW.PrintMore
def exM (nx : Nat → Int → Int → Int) (s : Int) : List Int → Nat → Int → Int → List Int → Int → List Int × Bool
  | [], _, _, _, out, _ => (out, true)
  | x :: r, n, y, l, out, sc => if shl .i64 sc s > 1000000000000 then ([], false) else if inR (wrap64 (nx n y l + wrap64 (x * shl .i64 sc s))) (-1000000000000) 1000000000000 = true then exM nx s r (n + 1) (wrap64 (nx n y l + wrap64 (x * shl .i64 sc s))) y (out ++ [wrap64 (nx n y l + wrap64 (x * shl .i64 sc s))]) (shl .i64 sc s) else ([], false)
theorem exM_len (nx : Nat → Int → Int → Int) (s : Int) : ∀ (r : List Int) (n : Nat) (y l : Int) (out : List Int) (sc : Int), (exM nx s r n y l out sc).1.length ≤ out.length + r.length
  | [], n, y, l, out, sc => by simp [exM]
  | x :: r, n, y, l, out, sc => by
    simp only [exM]
    split
    · simp
    · split
      · refine Nat.le_trans (exM_len nx s r _ _ _ _ _) ?_
        simp; omega
      · simp
theorem ex_if_len (c : Bool) (nx : Nat → Int → Int → Int) (s : Int) (S : List Int) (y l : Int) (h : c = true → S.length ≤ 64) : (if c = true then exM nx s S 0 y l [] 1 else ([], false)).1.length ≤ 1000 := by
  cases c
  · simp
  · have := exM_len nx s S 0 y l [] 1
    have := h rfl
    simp at *
    omega
theorem pw_1024 {s : Int} (h : s ≤ 10) : pw s ≤ 1024 := Int.le_trans (pw_mono h) (by decide)
theorem scale_bd {sc s : Int} (h1 : 1 ≤ sc) (h2 : sc ≤ 1000000000000) (h3 : 0 ≤ s) (h4 : s ≤ 10) : 1 ≤ shl .i64 sc s ∧ shl .i64 sc s ≤ 1024000000000000 := by
  have hp := pw_pos s
  have hp2 := pw_1024 h4
  have m1 : 1 * 1 ≤ sc * pw s := Int.mul_le_mul h1 hp (by omega) (by omega)
  have m2 : sc * pw s ≤ 1000000000000 * 1024 := Int.mul_le_mul h2 hp2 (by omega) (by omega)
  rw [shl_eq (by omega) (by omega) (by omega)]
  omega
/-- A scale that is no more than a number is one. -/
theorem scale_in {v : Int} (h1 : 1 ≤ v) : inR v (-1000000000000) 1000000000000 = !(decide (v > 1000000000000)) := by
  unfold inR
  rw [Bool.eq_iff_iff]
  simp
  omega
theorem prod_shift {c l s : Int} (hc : -1024 ≤ c ∧ c ≤ 1024) (hl : -1000000000000 ≤ l ∧ l ≤ 1000000000000) (h3 : 0 ≤ s) (h4 : s ≤ 10) : shl .i64 (wrap64 (c * l)) s = wrap64 (shl .i64 c s * l) := by
  have hp := pw_pos s
  have hp2 := pw_1024 h4
  have key : ∀ u v M N : Int, -M ≤ u ∧ u ≤ M → -N ≤ v ∧ v ≤ N → -(M * N) ≤ u * v ∧ u * v ≤ M * N := by
    intro u v M N hu hv
    have key : ∀ x y : Int, 0 ≤ x → x ≤ M → 0 ≤ y → y ≤ N → 0 ≤ x * y ∧ x * y ≤ M * N := fun x y hx hx2 hy hy2 =>
      ⟨Int.mul_nonneg hx hy, Int.mul_le_mul hx2 hy2 hy (by omega)⟩
    by_cases h1 : 0 ≤ u <;> by_cases h2 : 0 ≤ v
    · have := key u v h1 (by omega) h2 (by omega); omega
    · have := key u (-v) h1 (by omega) (by omega) (by omega); rw [Int.mul_neg] at this; omega
    · have := key (-u) v (by omega) (by omega) h2 (by omega); rw [Int.neg_mul] at this; omega
    · have := key (-u) (-v) (by omega) (by omega) (by omega) (by omega); rw [Int.neg_mul_neg] at this; omega
  have k1 := key c l 1024 1000000000000 (by omega) (by omega)
  have k2 := key (c * l) (pw s) 1024000000000000 1024 (by omega) (by omega)
  have k3 := key c (pw s) 1024 1024 (by omega) (by omega)
  have e : c * pw s * l = c * l * pw s := by rw [Int.mul_assoc, Int.mul_comm (pw s) l, Int.mul_assoc]
  rw [wrap_id (x := c * l) (by omega) (by omega), shl_eq (by omega) (by omega) (by omega), shl_eq (by omega) (by omega) (by omega), e, wrap_id (by omega) (by omega)]
theorem word_bd {b y : Int} (hb : b ≤ 16) (h : inR y (-pw (b - 1)) (pw (b - 1) - 1) = true) : -1000000000000 ≤ y ∧ y ≤ 1000000000000 := by
  have := inR_true.mp h
  have h1 : pw (b - 1) ≤ 32768 := Int.le_trans (pw_mono (show b - 1 ≤ 15 by omega)) (by decide)
  omega
end Go.Proofs.Ytepfkahbfnahmaa.Base
