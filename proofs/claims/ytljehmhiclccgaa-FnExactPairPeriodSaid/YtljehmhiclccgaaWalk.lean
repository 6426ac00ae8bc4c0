/- Plain lemmas on a walk that comes again: its first place that comes again, a slow and a fast walker. Conditions stand in each lemma. -/
import Derived.Test.YtljehmhiclccgaaBase
namespace Go.Proofs.Ytljehmhiclccgaa.Base
set_option linter.unusedVariables false
set_option linter.unusedSimpArgs false
open Go.RowKit Go.Proofs.YtljehmhiclccgaaW.PrintWords Go.Proofs.YtljehmhiclccgaaW.PrintLast Go.Proofs.YtljehmhiclccgaaW.PrintMore
/-! ### a walk that comes again -/
section Walk
variable {α : Type} {it : Nat → α} {g : α → α}
theorem walk_add (hg : ∀ n, it (n + 1) = g (it n)) {a b : Nat} (h : it a = it b) : ∀ m, it (a + m) = it (b + m)
  | 0 => h
  | m + 1 => by rw [← Nat.add_assoc, ← Nat.add_assoc, hg, hg, walk_add hg h m]
/-- All places below l are different, and the place l is the place j once more. -/
def Rep (it : Nat → α) (l j : Nat) : Prop := j < l ∧ it j = it l ∧ ∀ a b, a < b → b < l → it a ≠ it b
theorem Rep.period (hg : ∀ n, it (n + 1) = g (it n)) {l j : Nat} (h : Rep it l j) : ∀ m q, it (j + m + (l - j) * q) = it (j + m)
  | m, 0 => by simp
  | m, q + 1 => by
    have h1 : it (j + (m + (l - j) * q)) = it (l + (m + (l - j) * q)) := walk_add hg h.2.1 _
    have h2 := h.1
    rw [show j + m + (l - j) * (q + 1) = l + (m + (l - j) * q) by rw [Nat.mul_succ]; omega, ← h1, ← Nat.add_assoc]
    exact Rep.period hg h m q
theorem Rep.mod (hg : ∀ n, it (n + 1) = g (it n)) {l j : Nat} (h : Rep it l j) (m : Nat) : it (j + m) = it (j + m % (l - j)) := by
  have h1 := h.period hg (m % (l - j)) (m / (l - j))
  have h2 := Nat.mod_add_div m (l - j)
  rw [Nat.add_assoc, h2] at h1
  exact h1
theorem Rep.inj {l j : Nat} (h : Rep it l j) {a b : Nat} (ha : a < l) (hb : b < l) (e : it a = it b) : a = b := by
  rcases Nat.lt_trichotomy a b with c | c | c
  · exact absurd e (h.2.2 a b c hb)
  · exact c
  · exact absurd e.symm (h.2.2 b a c ha)
theorem Rep.same (hg : ∀ n, it (n + 1) = g (it n)) {l j : Nat} (h : Rep it l j) {a b : Nat} (hab : a < b) (e : it a = it b) : j ≤ a ∧ (l - j) ∣ b - a := by
  have hl := h.1
  have hm : ∀ m, m % (l - j) < l - j := fun m => Nat.mod_lt _ (by omega)
  by_cases ha : a < j
  · exfalso
    by_cases hb : b < j
    · have := h.inj (by omega) (by omega) e; omega
    · have h1 := h.mod hg (b - j)
      rw [show j + (b - j) = b by omega, ← e] at h1
      have := hm (b - j)
      have := h.inj (by omega) (by omega) h1
      omega
  · refine ⟨by omega, ?_⟩
    have h1 := h.mod hg (a - j)
    have h2 := h.mod hg (b - j)
    rw [show j + (a - j) = a by omega] at h1
    rw [show j + (b - j) = b by omega] at h2
    have m1 := hm (a - j)
    have m2 := hm (b - j)
    have h3 := h.inj (a := j + (a - j) % (l - j)) (b := j + (b - j) % (l - j)) (by omega) (by omega) (by rw [← h1, ← h2]; exact e)
    have h4 := Nat.sub_mod_eq_zero_of_mod_eq (m := b - j) (n := a - j) (k := l - j) (by omega)
    rw [show b - j - (a - j) = b - a by omega] at h4
    exact Nat.dvd_of_mod_eq_zero h4
/-- The slow and the fast one meet in time. -/
theorem Rep.meets (hg : ∀ n, it (n + 1) = g (it n)) {l j : Nat} (h : Rep it l j) : ∃ n, 1 ≤ n ∧ n ≤ l ∧ it n = it (2 * n) := by
  have hl := h.1
  refine ⟨(l - j) * (j / (l - j) + 1), ?_, ?_, ?_⟩
  · exact Nat.mul_pos (by omega) (Nat.succ_pos _)
  · have := Nat.div_mul_le_self j (l - j)
    rw [Nat.mul_comm] at this
    rw [Nat.mul_succ]; omega
  · have h1 : j < (l - j) * (j / (l - j) + 1) := Nat.lt_mul_div_succ j (by omega)
    have := h.period hg ((l - j) * (j / (l - j) + 1) - j) (j / (l - j) + 1)
    rw [show j + ((l - j) * (j / (l - j) + 1) - j) = (l - j) * (j / (l - j) + 1) by omega] at this
    rw [Nat.two_mul, this]
theorem Rep.start (hg : ∀ n, it (n + 1) = g (it n)) {l j n s : Nat} (h : Rep it l j) (hn : 1 ≤ n) (hm : it n = it (2 * n)) (hs : it s = it (n + s)) (hl : ∀ t, t < s → it t ≠ it (n + t)) : s = j := by
  have h1 := (h.same hg (a := s) (b := n + s) (by omega) hs).1
  have h2 := (h.same hg (a := n) (b := 2 * n) (by omega) hm).2
  rw [show 2 * n - n = n by omega] at h2
  obtain ⟨q, hq⟩ := h2
  have h3 := h.period hg 0 q
  rw [Nat.add_zero, ← hq] at h3
  apply Nat.le_antisymm _ h1
  apply Nat.le_of_not_lt
  intro hc
  exact hl j hc (by rw [Nat.add_comm n j]; exact h3.symm)
theorem Rep.per {l j P : Nat} (h : Rep it l j) (hP : 1 ≤ P) (hs : it (j + P) = it j) (hl : ∀ t, 1 ≤ t → t < P → it (j + t) ≠ it j) : P = l - j := by
  have h1 := h.1
  apply Nat.le_antisymm
  · apply Nat.le_of_not_lt
    intro hc
    exact hl (l - j) (by omega) hc (by rw [show j + (l - j) = l by omega]; exact h.2.1.symm)
  · apply Nat.le_of_not_lt
    intro hc
    exact h.2.2 j (j + P) (by omega) (by omega) hs.symm
end Walk
/-- The places of a walk. -/
def itM {α : Type} (g : α → α) (p : α) : Nat → α
  | 0 => p
  | n + 1 => g (itM g p n)
theorem itM_succ {α : Type} (g : α → α) (p : α) (n : Nat) : itM g p (n + 1) = g (itM g p n) := rfl
/-- The least number with a property. -/
theorem least {Q : Nat → Prop} {lo n : Nat} (h1 : lo ≤ n) (h2 : Q n) : ∃ m, lo ≤ m ∧ m ≤ n ∧ Q m ∧ ∀ t, lo ≤ t → t < m → ¬ Q t := by
  induction n using Nat.strongRecOn with
  | ind n ih =>
    by_cases c : ∃ t, lo ≤ t ∧ t < n ∧ Q t
    · obtain ⟨t, a, b, q⟩ := c
      obtain ⟨m, m1, m2, m3, m4⟩ := ih t b a q
      exact ⟨m, m1, by omega, m3, m4⟩
    · exact ⟨n, h1, Nat.le_refl _, h2, fun t a b q => c ⟨t, a, b, q⟩⟩
theorem ne_pair (p q : Int × Int) : ((!(p.1 == q.1) || (!(p.2 == q.2))) = true) ↔ p ≠ q := by
  obtain ⟨a, b⟩ := p
  obtain ⟨c, d⟩ := q
  by_cases h1 : a = c <;> by_cases h2 : b = d <;> simp [h1, h2]
end Go.Proofs.Ytljehmhiclccgaa.Base
