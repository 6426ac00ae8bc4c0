/- Numbers of a range that hold something, increasing. Conditions stand in each lemma. -/
import Derived.Test.YtepfkahbfnahmaaBase
namespace Go.Proofs.Ytepfkahbfnahmaa.Base
set_option linter.unusedVariables false
set_option linter.unusedSimpArgs false
open Go.RowKit Go.Proofs.YtepfkahbfnahmaaW.PrintWords Go.Proofs.YtepfkahbfnahmaaW.PrintLast Go.Proofs.YtepfkahbfnahmaaW.PrintMore
def scanM (p : Int → Bool) : Nat → Int → List Int → List Int
  | 0, _, out => out
  | d + 1, y, out => scanM p d (y + 1) (if p y = true then out ++ [y] else out)
theorem scanM_len (p : Int → Bool) : ∀ (d : Nat) (y : Int) (out : List Int), (scanM p d y out).length ≤ out.length + d
  | 0, y, out => by simp [scanM]
  | d + 1, y, out => by
    have := scanM_len p d (y + 1) (if p y = true then out ++ [y] else out)
    simp only [scanM]
    refine Nat.le_trans this ?_
    split <;> simp <;> omega
theorem pw_ten {b : Int} (h : b ≤ 10) : pw (b - 1) ≤ 512 := Int.le_trans (pw_mono (show b - 1 ≤ 9 by omega)) (by decide)
/-- The results of the two, of moderate length. -/
theorem both4 {f g : Nat → Option (List Int × Bool)} {v : List Int × Bool} (S : Ev f v) (I : Ev g v) (h : v.1.length ≤ 4096) : ∃ v : List Int × Bool, Ev f v ∧ Ev g v ∧ v.1.length ≤ 4096 := ⟨v, S, I, h⟩
theorem scan_if_len (c : Bool) (p : Int → Bool) (d : Nat) (y : Int) (hd : c = true → d ≤ 4096) : (if c = true then (scanM p d y [], true) else (([] : List Int), false)).1.length ≤ 4096 := by
  cases c
  · simp
  · have := scanM_len p d y []
    have := hd rfl
    simp at *
    omega
end Go.Proofs.Ytepfkahbfnahmaa.Base
