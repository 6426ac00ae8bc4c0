/- Weights divided by weights: what is left, place by place. Conditions stand in each lemma. -/
import Derived.Test.YtepfkahbfnahmaaBase3
namespace Go.Proofs.Ytepfkahbfnahmaa.Base
set_option linter.unusedVariables false
set_option linter.unusedSimpArgs false
open Go.RowKit Go.Proofs.YtepfkahbfnahmaaW.PrintWords Go.Proofs.YtepfkahbfnahmaaW.PrintLast Go.Proofs.YtepfkahbfnahmaaW.PrintMore
theorem cv_snoc (w : Int) (b : List Int) : ∀ (q : List Int) (i : Int), cv (q ++ [w]) b i = cv q b i + w * atM b (i - q.length)
  | [], i => by simp [cv]
  | x :: q, i => by
    simp only [List.cons_append, cv, List.length_cons]
    rw [cv_snoc w b q (i - 1), show i - ((q.length + 1 : Nat) : Int) = i - 1 - q.length by omega]
    omega
theorem atM_past {l : List Int} {i : Int} (h : (l.length : Int) ≤ i) : atM l i = 0 := by
  unfold atM
  rw [if_pos (by omega)]
  simp [List.getD, show l.length ≤ i.toNat by omega]
theorem atM_bd3 {l : List Int} (h : ∀ x ∈ l, -1000 ≤ x ∧ x ≤ 1000) (i : Int) : -1000 ≤ atM l i ∧ atM l i ≤ 1000 := by
  unfold atM
  split
  · by_cases hi : i.toNat < l.length
    · rw [show l.getD i.toNat 0 = l[i.toNat] by simp [List.getD, hi]]; exact h _ (List.getElem_mem hi)
    · rw [show l.getD i.toNat 0 = 0 by simp [List.getD, show l.length ≤ i.toNat by omega]]; omega
  · omega
theorem mul_bd4 {a c : Int} (ha : -1000 ≤ a ∧ a ≤ 1000) (hc : -1000 ≤ c ∧ c ≤ 1000) : -1000000 ≤ a * c ∧ a * c ≤ 1000000 := by
  have key : ∀ u v : Int, 0 ≤ u → u ≤ 1000 → 0 ≤ v → v ≤ 1000 → 0 ≤ u * v ∧ u * v ≤ 1000000 := fun u v hu hu2 hv hv2 =>
    ⟨Int.mul_nonneg hu hv, Int.le_trans (Int.mul_le_mul hu2 hv2 hv (by omega)) (by omega)⟩
  by_cases h1 : 0 ≤ a <;> by_cases h2 : 0 ≤ c
  · have := key a c h1 (by omega) h2 (by omega); omega
  · have := key a (-c) h1 (by omega) (by omega) (by omega); rw [Int.mul_neg] at this; omega
  · have := key (-a) c (by omega) (by omega) h2 (by omega); rw [Int.neg_mul] at this; omega
  · have := key (-a) (-c) (by omega) (by omega) (by omega) (by omega); rw [Int.neg_mul_neg] at this; omega
theorem cv_bd4 {b : List Int} (hb : ∀ x ∈ b, -1000 ≤ x ∧ x ≤ 1000) : ∀ (q : List Int) (i : Int), (∀ x ∈ q, -1000 ≤ x ∧ x ≤ 1000) → -1000000 * (q.length : Int) ≤ cv q b i ∧ cv q b i ≤ 1000000 * (q.length : Int)
  | [], i, _ => by simp [cv]
  | a :: r, i, h => by
    have h1 := mul_bd4 (h a (by simp)) (atM_bd3 hb i)
    have h2 := cv_bd4 hb r (i - 1) (fun b hb => h b (by simp [hb]))
    simp only [cv, List.length_cons]
    omega
theorem rd_atM' {l : List Int} {i : Int} (h : 0 ≤ i) : rd l i = atM l i := by unfold atM rd; rw [if_pos h]
def divM (a b : List Int) : Nat → List Int → List Int × Bool
  | 0, q => if ansM q b = a then ifWe q else ([], false)
  | d + 1, q => if Int.tmod (atM a q.length - cv q b q.length) (rd b 0) = 0 then (if inR (Int.tdiv (atM a q.length - cv q b q.length) (rd b 0)) (-1000) 1000 = true then divM a b d (q ++ [Int.tdiv (atM a q.length - cv q b q.length) (rd b 0)]) else ([], false)) else ([], false)
theorem divM_len (a b : List Int) : ∀ (d : Nat) (q : List Int), (divM a b d q).1.length ≤ 9
  | 0, q => by
    simp only [divM]
    split
    · exact ifWe_len q
    · simp
  | d + 1, q => by
    simp only [divM]
    split
    · split
      · exact divM_len a b d _
      · simp
    · simp
theorem div_if_len {c : Prop} [Decidable c] (a b : List Int) (d : Nat) (q : List Int) : (if c then divM a b d q else ([], false)).1.length ≤ 9 := by
  split
  · exact divM_len a b d q
  · simp
/-- What is left, once weights have been taken away. -/
def subM (n : Nat) (w : Int) : List Int → List Int → Nat → List Int
  | left, [], _ => left
  | left, x :: r, j => subM n w (left.set (n + j) (atM left ((n + j : Nat) : Int) - w * x)) r (j + 1)
theorem subM_length (n : Nat) (w : Int) : ∀ (r left : List Int) (j : Nat), (subM n w left r j).length = left.length
  | [], left, j => rfl
  | x :: r, left, j => by simp [subM, subM_length n w r]
theorem atM_set {l : List Int} {n : Nat} (hn : n < l.length) (v : Int) (i : Int) : atM (l.set n v) i = if i = n then v else atM l i := by
  unfold atM
  by_cases h0 : 0 ≤ i
  · rw [if_pos h0, if_pos h0]
    by_cases h : i = n
    · rw [if_pos h, h]; simp [List.getD, List.getElem?_set, hn]
    · rw [if_neg h]; simp only [List.getD]; rw [List.getElem?_set_ne (by omega)]
  · rw [if_neg h0, if_neg h0, if_neg (by omega)]
theorem subM_get (n : Nat) (w : Int) : ∀ (r left : List Int) (j : Nat), n + j + r.length ≤ left.length → ∀ i : Int, atM (subM n w left r j) i = atM left i - w * atM r (i - ((n + j : Nat) : Int))
  | [], left, j, h, i => by simp [subM, atM]
  | x :: r, left, j, h, i => by
    simp only [List.length_cons] at h
    simp only [subM]
    rw [subM_get n w r _ (j + 1) (by simp; omega) i, atM_set (by omega), atM_cons, show i - ((n + (j + 1) : Nat) : Int) = i - ((n + j : Nat) : Int) - 1 by omega]
    by_cases c : i = ((n + j : Nat) : Int)
    · rw [if_pos c, if_pos (by omega), atM_neg (l := r) (by omega), c]; simp
    · rw [if_neg c, if_neg (by omega)]
theorem pk_zero : ∀ (l : List Int) (m : Int), 0 ≤ m → (pk m l > 0 ↔ (m > 0 ∨ ∃ x ∈ l, x ≠ 0))
  | [], m, hm => by simp [pk]
  | a :: l, m, hm => by
    simp only [pk]
    rw [pk_zero l (max m (absM a)) (by omega)]
    unfold absM
    constructor
    · rintro (h | ⟨x, hx, h0⟩)
      · by_cases ha : a = 0
        · left; omega
        · right; exact ⟨a, by simp, ha⟩
      · right; exact ⟨x, by simp [hx], h0⟩
    · rintro (h | ⟨x, hx, h0⟩)
      · left; omega
      · rw [List.mem_cons] at hx
        rcases hx with rfl | hx
        · left; omega
        · right; exact ⟨x, hx, h0⟩
theorem atM_mem {l : List Int} {x : Int} (h : x ∈ l) : ∃ i : Nat, i < l.length ∧ atM l i = x := by
  obtain ⟨i, hi, rfl⟩ := List.mem_iff_getElem.mp h
  exact ⟨i, hi, by unfold atM; rw [if_pos (by omega)]; simp [List.getD, hi]⟩
theorem atM_get {l : List Int} {i : Nat} (h : i < l.length) : atM l i = l[i] := by unfold atM; rw [if_pos (by omega)]; simp [List.getD, h]
/-- Nothing is left: then the quotient times the divisor is what was divided. -/
theorem left_zero {a b q left : List Int} (hl : left.length = a.length) (hb1 : 1 ≤ b.length) (hqa : q.length + b.length = a.length + 1) (hq : q.length ≤ 9) (qb : ∀ x ∈ q, -1000 ≤ x ∧ x ≤ 1000) (bb : ∀ x ∈ b, -1000 ≤ x ∧ x ≤ 1000)
    (hi : ∀ i : Nat, i < a.length → atM left i = atM a i - cv q b i) : (pk 0 left > 0) ↔ ¬ ansM q b = a := by
  rw [pk_zero left 0 (by omega)]
  have hL := ansM_length q b
  rw [if_neg (by omega)] at hL
  have hg := ansM_get q b (by omega) (fun u hu x hx => by have := mul_bd4 (qb u hu) (bb x hx); omega)
  have hc : ∀ i : Nat, i < a.length → ((ansM q b)[i]? = a[i]? ↔ atM left i = 0) := by
    intro i h
    have h1 := hg i
    have h2 : i < (ansM q b).length := by omega
    rw [show (ansM q b).getD i 0 = (ansM q b)[i] by simp [List.getD, h2]] at h1
    rw [hi i h, List.getElem?_eq_getElem h2, List.getElem?_eq_getElem h, h1, atM_get h, Option.some.injEq]
    omega
  constructor
  · rintro (h | ⟨x, hx, h0⟩) he
    · omega
    · obtain ⟨i, h1, h2⟩ := atM_mem hx
      have := (hc i (by omega)).mp (by rw [he])
      omega
  · intro he
    right
    apply Classical.byContradiction
    intro hn
    apply he
    apply List.ext_getElem?
    intro i
    by_cases h : i < a.length
    · rw [hc i h]
      apply Classical.byContradiction
      intro h0
      exact hn ⟨atM left i, by rw [atM_get (by omega)]; exact List.getElem_mem _, h0⟩
    · rw [List.getElem?_eq_none (by omega), List.getElem?_eq_none (by omega)]
theorem tdiv_bd {x y : Int} (h : -100000000 ≤ x ∧ x ≤ 100000000) : -100000000 ≤ Int.tdiv x y ∧ Int.tdiv x y ≤ 100000000 := by
  have := Int.natAbs_tdiv_le_natAbs x y
  omega
theorem Rd.snoc {l : List Int} {v : Int} (h : ∀ x ∈ l, -1000 ≤ x ∧ x ≤ 1000) (hv : -1000 ≤ v ∧ v ≤ 1000) : ∀ x ∈ l ++ [v], -1000 ≤ x ∧ x ≤ 1000 := by
  intro x hx
  rw [List.mem_append, List.mem_singleton] at hx
  rcases hx with hx | rfl
  · exact h x hx
  · exact hv
/-- What must hold ahead of a division. -/
def divB (a b : List Int) : Bool := weB a && (weB b && (!(rd b 0 == 0) && decide (b.length ≤ a.length)))
end Go.Proofs.Ytepfkahbfnahmaa.Base
