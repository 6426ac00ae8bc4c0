/- The answer fitted to a word at the end: its places, their sizes. Conditions stand in each lemma. -/
import Derived.Test.YtepfkahbfnahmaaBase3
import Derived.Test.YtepfkahbfnahmaaWord
namespace Go.Proofs.Ytepfkahbfnahmaa.Base
set_option linter.unusedVariables false
set_option linter.unusedSimpArgs false
open Go.RowKit Go.Proofs.YtepfkahbfnahmaaW.PrintWords Go.Proofs.YtepfkahbfnahmaaW.PrintLast Go.Proofs.YtepfkahbfnahmaaW.PrintMore
theorem cv_bd {S : List Int} (hS : Bd S) : ∀ (r : List Int) (n : Int), (∀ a ∈ r, -1000 ≤ a ∧ a ≤ 1000) → -100000000 * (r.length : Int) ≤ cv r S n ∧ cv r S n ≤ 100000000 * (r.length : Int)
  | [], n, _ => by simp [cv]
  | a :: r, n, h => by
    have h1 := mul_bd2 (h a (by simp)) (atM_bd hS n)
    have h2 := cv_bd hS r (n - 1) (fun b hb => h b (by simp [hb]))
    simp only [cv, List.length_cons]
    omega
theorem rd_atM {l : List Int} {i : Int} (h : 0 ≤ i) : rd l i = atM l i := by unfold atM rd; rw [if_pos h]
def faeM (b : Int) (w : Bool) (s m : Int) (h S : List Int) : List Int := (List.range S.length).map fun (n : Nat) => fitM b w (shf (cv h S n) s m)
theorem fae_take {h S : List Int} (hh : weB h = true) (hS : sigB S = true) : (ansM h S).take S.length = (List.range S.length).map fun (n : Nat) => cv h S n := by
  have wl := weB_true hh
  have sl := sigB_true hS
  have hg := ansM_get h S (by omega) (fun a ha x hx => by have := mul_bd2 (wl.2.1 a ha) (sl.2 x hx); omega)
  have hL := ansM_length h S
  have hl : ((ansM h S).take S.length).length = S.length := by
    rw [List.length_take, hL]
    split <;> omega
  apply List.ext_getElem
  · rw [hl]; simp
  · intro n h1 h2
    rw [hl] at h1
    have := hg n
    rw [List.getElem_take]
    have hn : n < (ansM h S).length := by rw [hL]; split <;> omega
    rw [show (ansM h S).getD n 0 = (ansM h S)[n] by simp [List.getD, hn]] at this
    simp [this]
theorem fae_sig {b s m : Int} (w : Bool) {h S : List Int} (c : wordB b s m h S = true) : ifSig (faeM b w s m h S) = (faeM b w s m h S, true) := by
  obtain ⟨hb, _, hS, _⟩ := wordB_true c
  have := (sigB_true hS).1
  unfold ifSig
  rw [if_pos]
  apply sigB_mk
  · simp [faeM]; omega
  · intro x hx
    simp only [faeM, List.mem_map] at hx
    obtain ⟨n, _, rfl⟩ := hx
    have := fit_bd w (shf (cv h S n) s m) hb.1 hb.2
    omega
theorem fae_len (c : Bool) {b s m : Int} (w : Bool) {h S : List Int} (hc : c = true → wordB b s m h S = true) : (if c = true then (faeM b w s m h S, true) else (([] : List Int), false)).1.length ≤ 1000 := by
  cases c
  · simp
  · have := (sigB_true (wordB_true (hc rfl)).2.2.1).1
    simp [faeM]; omega
end Go.Proofs.Ytepfkahbfnahmaa.Base
