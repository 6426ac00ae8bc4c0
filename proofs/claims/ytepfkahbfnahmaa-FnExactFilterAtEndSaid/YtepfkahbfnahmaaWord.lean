/- The answer that is made in a word: its places, their sizes. Conditions stand in each lemma. -/
import Derived.Test.YtepfkahbfnahmaaBase
namespace Go.Proofs.Ytepfkahbfnahmaa.Base
set_option linter.unusedVariables false
set_option linter.unusedSimpArgs false
open Go.RowKit Go.Proofs.YtepfkahbfnahmaaW.PrintWords Go.Proofs.YtepfkahbfnahmaaW.PrintLast Go.Proofs.YtepfkahbfnahmaaW.PrintMore
def wfM (b : Int) (w : Bool) (s m : Int) (S : List Int) (n : Int) : List Int → Nat → Int → Int
  | [], _, acc => acc
  | a :: r, k, acc => if (k : Int) ≤ n then wfM b w s m S n r (k + 1) (fitM b w (acc + fitM b w (shf (a * rd S (n - k)) s m))) else acc
theorem fit_bd {b : Int} (w : Bool) (x : Int) (h1 : 2 ≤ b) (h2 : b ≤ 16) : -32768 ≤ fitM b w x ∧ fitM b w x ≤ 32767 := by
  have := fitM_bd b w x
  have := pw_mono (show b - 1 ≤ 15 by omega)
  have : pw 15 = 32768 := by decide
  omega
theorem wfM_bd {b : Int} (w : Bool) (s m : Int) (S : List Int) (n : Int) (h1 : 2 ≤ b) (h2 : b ≤ 16) : ∀ (r : List Int) (k : Nat) (acc : Int), -32768 ≤ acc ∧ acc ≤ 32767 → -32768 ≤ wfM b w s m S n r k acc ∧ wfM b w s m S n r k acc ≤ 32767
  | [], k, acc, h => h
  | a :: r, k, acc, h => by
    simp only [wfM]
    split
    · exact wfM_bd w s m S n h1 h2 r (k + 1) _ (fit_bd w _ h1 h2)
    · exact h
def fiwM (b : Int) (w : Bool) (s m : Int) (h S : List Int) : List Int := (List.range S.length).map fun (n : Nat) => wfM b w s m S n h 0 0
theorem rd_bd {l : List Int} (h : Bd l) (i : Int) : -100000 ≤ rd l i ∧ rd l i ≤ 100000 := getD_bd h i.toNat
/-- What must hold ahead of an answer in a word. -/
def wordB (b : Int) (s m : Int) (h S : List Int) : Bool := inR b 2 16 && ((weB h && sigB S) && ((inR s 0 20 && inR m 0 2) && ((h.all fun x => inR x (-pw (b - 1)) (pw (b - 1) - 1)) && (S.all fun x => inR x (-pw (b - 1)) (pw (b - 1) - 1)))))
theorem wordB_true {b s m : Int} {h S : List Int} (c : wordB b s m h S = true) : (2 ≤ b ∧ b ≤ 16) ∧ weB h = true ∧ sigB S = true ∧ (0 ≤ s ∧ s ≤ 20) ∧ (0 ≤ m ∧ m ≤ 2) := by
  simp only [wordB, Bool.and_eq_true, inR_true] at c
  exact ⟨c.1, c.2.1.1, c.2.1.2, c.2.2.1.1, c.2.2.1.2⟩
theorem fiw_sig {b s m : Int} (w : Bool) {h S : List Int} (c : wordB b s m h S = true) : ifSig (fiwM b w s m h S) = (fiwM b w s m h S, true) := by
  obtain ⟨hb, _, hS, _⟩ := wordB_true c
  have := (sigB_true hS).1
  unfold ifSig
  rw [if_pos]
  apply sigB_mk
  · simp [fiwM]; omega
  · intro x hx
    simp only [fiwM, List.mem_map] at hx
    obtain ⟨n, _, rfl⟩ := hx
    have := wfM_bd w s m S n hb.1 hb.2 h 0 0 (by omega)
    omega
theorem fiw_len (c : Bool) {b s m : Int} (w : Bool) {h S : List Int} (hc : c = true → wordB b s m h S = true) : (if c = true then (fiwM b w s m h S, true) else (([] : List Int), false)).1.length ≤ 1000 := by
  cases c
  · simp
  · have := (sigB_true (wordB_true (hc rfl)).2.2.1).1
    simp [fiwM]; omega
end Go.Proofs.Ytepfkahbfnahmaa.Base
