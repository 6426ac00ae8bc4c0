/- Powers of weights: a power whose numbers are weights has weights behind it all the way. Conditions stand in each lemma. -/
import Derived.Test.YtepjolkmmnnobaaBase3
namespace Go.Proofs.Ytepjolkmmnnobaa.Base
set_option linter.unusedVariables false
set_option linter.unusedSimpArgs false
set_option maxRecDepth 100000
open Go.RowKit Go.Proofs.YtepjolkmmnnobaaW.PrintWords Go.Proofs.YtepjolkmmnnobaaW.PrintLast Go.Proofs.YtepjolkmmnnobaaW.PrintMore
def addF : List Int → List Int → List Int
  | [], y => y
  | x, [] => x
  | a :: x, b :: y => (a + b) :: addF x y
def mulF : List Int → List Int → List Int
  | [], _ => []
  | a :: r, s => addF (s.map fun x => a * x) (0 :: mulF r s)
def PF (h : List Int) : Nat → List Int
  | 0 => [1]
  | i + 1 => mulF h (PF h i)
def inB (l : List Int) : Bool := l.all fun x => inR x (-1000) 1000
def chk1 (a : Int) (n : Nat) : Bool := !(inB (PF [a] n)) || (List.range n).all fun i => inB (PF [a] i)
def chk2 (a b : Int) (n : Nat) : Bool := !(inB (PF [a, b] n)) || (List.range n).all fun i => inB (PF [a, b] i)
def chk4 (a b c : Int) : Bool := !(inB (PF [a, b, c] 4)) || inB (PF [a, b, c] 3)
theorem t1 : (List.range 21).all (fun i => [3, 4, 5, 6, 7, 8].all fun n => chk1 ((i : Int) - 10) n) = true := by decide +kernel
theorem t2 : (List.range 21).all (fun i => (List.range 21).all fun j => [3, 4, 5, 6, 7, 8].all fun n => chk2 ((i : Int) - 10) ((j : Int) - 10) n) = true := by decide +kernel
theorem t4 : (List.range 11).all (fun i => (List.range 35).all fun j => (List.range 11).all fun l => chk4 ((i : Int) - 5) ((j : Int) - 17) ((l : Int) - 5)) = true := by decide +kernel
theorem getD_addF : ∀ (x y : List Int) (n : Nat), (addF x y).getD n 0 = x.getD n 0 + y.getD n 0
  | [], y, n => by simp [addF]
  | a :: x, [], n => by simp [addF]
  | a :: x, b :: y, 0 => by simp [addF]
  | a :: x, b :: y, n + 1 => by
    have := getD_addF x y n
    simpa [addF] using this
theorem atM_addF (x y : List Int) (i : Int) : atM (addF x y) i = atM x i + atM y i := by
  unfold atM
  split
  · exact getD_addF x y _
  · rfl
theorem atM_map (a : Int) (s : List Int) (i : Int) : atM (s.map fun x => a * x) i = a * atM s i := by
  unfold atM
  split
  · by_cases h : i.toNat < s.length
    · simp [List.getD, h]
    · simp [List.getD, show s.length ≤ i.toNat by omega]
  · simp
theorem atM_mulF : ∀ (h s : List Int) (i : Int), atM (mulF h s) i = cv h s i
  | [], s, i => by simp [mulF, cv, atM]
  | a :: r, s, i => by
    simp only [mulF, cv]
    rw [atM_addF, atM_map, atM_cons]
    split
    · next h => subst h; rw [cv_neg r s _ (by omega)]
    · rw [atM_mulF r s]
theorem addF_length : ∀ (x y : List Int), (addF x y).length = max x.length y.length
  | [], y => by simp [addF]
  | a :: x, [] => by simp [addF]
  | a :: x, b :: y => by simp only [addF, List.length_cons, addF_length x y]; omega
theorem mulF_length : ∀ (h s : List Int), 1 ≤ h.length → 1 ≤ s.length → (mulF h s).length = h.length + s.length - 1
  | [], s, h1, _ => by simp at h1
  | [a], s, _, h2 => by simp [mulF, addF_length] <;> omega
  | a :: b :: r, s, _, h2 => by
    have := mulF_length (b :: r) s (by simp) h2
    simp only [List.length_cons] at this
    rw [mulF, addF_length]
    simp only [List.length_map, List.length_cons, this]
    omega
theorem ansM_mulF (h s : List Int) (hh : h.length ≤ 1000) (h0 : 1 ≤ h.length) (s0 : 1 ≤ s.length) (hM : ∀ a ∈ h, ∀ x ∈ s, -10000000000 ≤ a * x ∧ a * x ≤ 10000000000) : ansM h s = mulF h s := by
  have l1 := ansM_length h s
  rw [if_neg (by omega)] at l1
  have l2 := mulF_length h s h0 s0
  apply List.ext_getElem
  · omega
  · intro i h1 h2
    have g1 := ansM_get h s hh hM i
    have g2 := atM_mulF h s (i : Int)
    rw [show (ansM h s).getD i 0 = (ansM h s)[i] by simp [List.getD, h1]] at g1
    unfold atM at g2
    rw [if_pos (by omega), Int.toNat_natCast, show (mulF h s).getD i 0 = (mulF h s)[i] by simp [List.getD, h2]] at g2
    rw [g1, g2]
theorem mulF_one : ∀ h : List Int, mulF h [1] = h
  | [] => rfl
  | a :: r => by simp [mulF, addF, mulF_one r]
theorem PF_length (h : List Int) (h0 : 1 ≤ h.length) : ∀ i, (PF h i).length = i * (h.length - 1) + 1
  | 0 => by simp [PF]
  | i + 1 => by
    have := PF_length h h0 i
    rw [PF, mulF_length h _ h0 (by omega), this, Nat.succ_mul]
    omega
theorem inB_atM {l : List Int} (h : inB l = true) (i : Int) : -1000 ≤ atM l i ∧ atM l i ≤ 1000 := by
  simp only [inB, List.all_eq_true, inR_true] at h
  unfold atM
  split
  · by_cases hi : i.toNat < l.length
    · rw [show l.getD i.toNat 0 = l[i.toNat] by simp [List.getD, hi]]; exact h _ (List.getElem_mem hi)
    · rw [show l.getD i.toNat 0 = 0 by simp [List.getD, show l.length ≤ i.toNat by omega]]; omega
  · omega
theorem atM_past' {l : List Int} {i : Int} (h : (l.length : Int) ≤ i) : atM l i = 0 := by
  unfold atM
  rw [if_pos (by omega)]
  simp [List.getD, show l.length ≤ i.toNat by omega]
theorem PF_first (a : Int) (r : List Int) : ∀ i, atM (PF (a :: r) i) 0 = a ^ i
  | 0 => by simp [PF, atM]
  | i + 1 => by
    rw [PF, atM_mulF]
    simp only [cv]
    rw [cv_neg r _ _ (by omega), PF_first a r i, Int.pow_succ, Int.mul_comm]
    omega
theorem PF_last2 (a b : Int) : ∀ i : Nat, atM (PF [a, b] i) (i : Int) = b ^ i
  | 0 => by simp [PF, atM]
  | i + 1 => by
    have := PF_length [a, b] (by simp) i
    simp at this
    rw [PF, atM_mulF]
    simp only [cv]
    rw [atM_past' (by omega), show ((i + 1 : Nat) : Int) - 1 = (i : Int) by omega, PF_last2 a b i, Int.pow_succ, Int.mul_comm b]
    omega
theorem PF_last3 (a b c : Int) : ∀ i : Nat, atM (PF [a, b, c] i) (2 * (i : Int)) = c ^ i
  | 0 => by simp [PF, atM]
  | i + 1 => by
    have := PF_length [a, b, c] (by simp) i
    simp at this
    rw [PF, atM_mulF]
    simp only [cv]
    rw [atM_past' (i := 2 * ((i + 1 : Nat) : Int)) (by omega), atM_past' (i := 2 * ((i + 1 : Nat) : Int) - 1) (by omega), show 2 * ((i + 1 : Nat) : Int) - 1 - 1 = 2 * (i : Int) by omega, PF_last3 a b c i, Int.pow_succ, Int.mul_comm c]
    omega
theorem pow_bd {a : Int} {n M m : Nat} (hM : 1 ≤ M) (hmn : m ≤ n) (hp : 1000 < M ^ m) (h : -1000 ≤ a ^ n ∧ a ^ n ≤ 1000) : a.natAbs < M := by
  apply Nat.lt_of_not_le
  intro hle
  have h1 : (a ^ n).natAbs = a.natAbs ^ n := Int.natAbs_pow a n
  have h2 : M ^ m ≤ M ^ n := Nat.pow_le_pow_right hM hmn
  have h3 : M ^ n ≤ a.natAbs ^ n := Nat.pow_le_pow_left hle n
  omega
theorem mul_bdg {u v M N : Int} (hu : -M ≤ u ∧ u ≤ M) (hv : -N ≤ v ∧ v ≤ N) : -(M * N) ≤ u * v ∧ u * v ≤ M * N := by
  have key : ∀ x y : Int, 0 ≤ x → x ≤ M → 0 ≤ y → y ≤ N → 0 ≤ x * y ∧ x * y ≤ M * N := fun x y hx hx2 hy hy2 =>
    ⟨Int.mul_nonneg hx hy, Int.mul_le_mul hx2 hy2 hy (by omega)⟩
  by_cases h1 : 0 ≤ u <;> by_cases h2 : 0 ≤ v
  · have := key u v h1 (by omega) h2 (by omega); omega
  · have := key u (-v) h1 (by omega) (by omega) (by omega); rw [Int.mul_neg] at this; omega
  · have := key (-u) v (by omega) (by omega) h2 (by omega); rw [Int.neg_mul] at this; omega
  · have := key (-u) (-v) (by omega) (by omega) (by omega) (by omega); rw [Int.neg_mul_neg] at this; omega
theorem in8 {n : Nat} (h : 3 ≤ n) (h2 : n ≤ 8) : n ∈ [3, 4, 5, 6, 7, 8] := by
  simp only [List.mem_cons, List.not_mem_nil, or_false]; omega
theorem key1 (a : Int) (n : Nat) (h3 : 3 ≤ n) (h8 : n ≤ 8) (hn : inB (PF [a] n) = true) (i : Nat) (hi : i < n) : inB (PF [a] i) = true := by
  have p := pow_bd (M := 11) (m := 3) (by omega) h3 (by decide) (by have := inB_atM hn 0; rwa [PF_first] at this)
  have t := t1
  simp only [List.all_eq_true, List.mem_range] at t
  have := t (a + 10).toNat (by omega) n (in8 h3 h8)
  rw [show ((a + 10).toNat : Int) - 10 = a by omega] at this
  simp only [chk1, hn, Bool.not_true, Bool.false_or, List.all_eq_true, List.mem_range] at this
  exact this i hi
theorem key2 (a b : Int) (n : Nat) (h3 : 3 ≤ n) (h8 : n ≤ 8) (hn : inB (PF [a, b] n) = true) (i : Nat) (hi : i < n) : inB (PF [a, b] i) = true := by
  have p := pow_bd (M := 11) (m := 3) (by omega) h3 (by decide) (by have := inB_atM hn 0; rwa [PF_first] at this)
  have q := pow_bd (M := 11) (m := 3) (by omega) h3 (by decide) (by have := inB_atM hn n; rwa [PF_last2] at this)
  have t := t2
  simp only [List.all_eq_true, List.mem_range] at t
  have := t (a + 10).toNat (by omega) (b + 10).toNat (by omega) n (in8 h3 h8)
  rw [show ((a + 10).toNat : Int) - 10 = a by omega, show ((b + 10).toNat : Int) - 10 = b by omega] at this
  simp only [chk2, hn, Bool.not_true, Bool.false_or, List.all_eq_true, List.mem_range] at this
  exact this i hi
theorem PF33 (a b c : Int) : atM (PF [a, b, c] 3) 3 = b * (b * b + 6 * (a * c)) := by
  simp [PF, mulF, addF, atM]
  grind
theorem PF44 (a b c : Int) : atM (PF [a, b, c] 4) 4 = (b * b) * (b * b + 12 * (a * c)) + 6 * ((a * c) * (a * c)) := by
  simp [PF, mulF, addF, atM]
  grind
theorem sq_nonneg (b : Int) : 0 ≤ b * b := by
  by_cases h0 : 0 ≤ b
  · exact Int.mul_nonneg h0 h0
  · exact Int.mul_nonneg_of_nonpos_of_nonpos (by omega) (by omega)
theorem cube_bd {b t : Int} (ht : -100 ≤ t ∧ t ≤ 100) (h : -1000 ≤ b * (b * b + 6 * t) ∧ b * (b * b + 6 * t) ≤ 1000) : -28 ≤ b ∧ b ≤ 28 := by
  have up : ∀ x : Int, 29 ≤ x → 6989 ≤ x * (x * x + 6 * t) := by
    intro x hx
    have : 29 * 29 ≤ x * x := Int.mul_le_mul hx hx (by omega) (by omega)
    have : 29 * 241 ≤ x * (x * x + 6 * t) := Int.mul_le_mul hx (by omega) (by omega) (by omega)
    omega
  constructor
  · apply Int.not_lt.mp
    intro hb
    have h1 := up (-b) (by omega)
    rw [Int.neg_mul_neg, Int.neg_mul] at h1
    omega
  · apply Int.not_lt.mp
    intro hb
    have h1 := up b (by omega)
    omega
theorem four_bd {b t : Int} (ht : -25 ≤ t ∧ t ≤ 25) (h : (b * b) * (b * b + 12 * t) + 6 * (t * t) ≤ 1000) : -17 ≤ b ∧ b ≤ 17 := by
  have h0 := sq_nonneg t
  have up : ∀ x : Int, 18 ≤ x → 7776 ≤ (x * x) * (x * x + 12 * t) := by
    intro x hx
    have h1 : 18 * 18 ≤ x * x := Int.mul_le_mul hx hx (by omega) (by omega)
    have : (18 * 18) * 24 ≤ (x * x) * (x * x + 12 * t) := Int.mul_le_mul h1 (by omega) (by omega) (by omega)
    omega
  constructor
  · apply Int.not_lt.mp
    intro hb
    have h1 := up (-b) (by omega)
    rw [Int.neg_mul_neg] at h1
    omega
  · apply Int.not_lt.mp
    intro hb
    have h1 := up b (by omega)
    omega
theorem PF2_in {a b c : Int} (ha : -10 ≤ a ∧ a ≤ 10) (hb : -28 ≤ b ∧ b ≤ 28) (hc : -10 ≤ c ∧ c ≤ 10) : inB (PF [a, b, c] 2) = true := by
  have aa := mul_bdg ha ha
  have ab := mul_bdg ha hb
  have ba := mul_bdg hb ha
  have ac := mul_bdg ha hc
  have ca := mul_bdg hc ha
  have bb := mul_bdg hb hb
  have bc := mul_bdg hb hc
  have cb := mul_bdg hc hb
  have cc := mul_bdg hc hc
  simp [PF, mulF, addF, inB, inR]
  omega
theorem key3 (a b c : Int) (n : Nat) (h3 : 3 ≤ n) (h4 : n ≤ 4) (hn : inB (PF [a, b, c] n) = true) (hh : inB [a, b, c] = true) (i : Nat) (hi : i < n) : inB (PF [a, b, c] i) = true := by
  have p := pow_bd (M := 11) (m := 3) (by omega) h3 (by decide) (by have := inB_atM hn 0; rwa [PF_first] at this)
  have q := pow_bd (M := 11) (m := 3) (by omega) h3 (by decide) (by have := inB_atM hn (2 * n); rwa [PF_last3] at this)
  have ac := mul_bdg (u := a) (v := c) (M := 10) (N := 10) (by omega) (by omega)
  have e1 : PF [a, b, c] 1 = [a, b, c] := mulF_one _
  have all (hb : -28 ≤ b ∧ b ≤ 28) (h : i < 3) : inB (PF [a, b, c] i) = true := by
    match i, h with
    | 0, _ => rfl
    | 1, _ => rw [e1]; exact hh
    | 2, _ => exact PF2_in (by omega) hb (by omega)
  by_cases hn3 : n = 3
  · subst hn3
    have := inB_atM hn 3
    rw [PF33] at this
    exact all (cube_bd (by omega) this) hi
  · have hn4 : n = 4 := by omega
    subst hn4
    have p := pow_bd (M := 6) (m := 4) (by omega) (Nat.le_refl 4) (by decide) (by have := inB_atM hn 0; rwa [PF_first] at this)
    have q := pow_bd (M := 6) (m := 4) (by omega) (Nat.le_refl 4) (by decide) (by have := inB_atM hn (2 * (4 : Nat)); rwa [PF_last3] at this)
    have ac := mul_bdg (u := a) (v := c) (M := 5) (N := 5) (by omega) (by omega)
    have h44 := inB_atM hn 4
    rw [PF44] at h44
    have hb := four_bd (by omega) h44.2
    by_cases hi3 : i = 3
    · subst hi3
      have t := t4
      simp only [List.all_eq_true, List.mem_range] at t
      have := t (a + 5).toNat (by omega) (b + 17).toNat (by omega) (c + 5).toNat (by omega)
      rw [show ((a + 5).toNat : Int) - 5 = a by omega, show ((b + 17).toNat : Int) - 17 = b by omega, show ((c + 5).toNat : Int) - 5 = c by omega] at this
      simpa [chk4, hn] using this
    · exact all (by omega) (by omega)
theorem weB_inB {l : List Int} : weB l = true ↔ (1 ≤ l.length ∧ l.length ≤ 9) ∧ inB l = true := by
  simp only [weB, inB, Bool.and_eq_true, inR_true]
  constructor
  · rintro ⟨h1, h2⟩; exact ⟨by omega, h2⟩
  · rintro ⟨h1, h2⟩; exact ⟨by omega, h2⟩
/-- A power whose numbers are weights: so are all powers behind it. -/
theorem power_key (h : List Int) (wh : weB h = true) (n : Nat) (h8 : n ≤ 8) (hn : weB (PF h n) = true) (i : Nat) (hi : i < n) : weB (PF h i) = true := by
  obtain ⟨hl, hh⟩ := weB_inB.mp wh
  obtain ⟨nl, hn⟩ := weB_inB.mp hn
  have L := PF_length h hl.1
  rw [L n] at nl
  have hi9 : i * (h.length - 1) ≤ n * (h.length - 1) := Nat.mul_le_mul_right _ (by omega)
  refine weB_inB.mpr ⟨by rw [L i]; omega, ?_⟩
  by_cases h3 : 3 ≤ n
  · have h33 : 3 * (h.length - 1) ≤ n * (h.length - 1) := Nat.mul_le_mul_right _ h3
    match h, hl, hh, hn, nl, h33 with
    | [a], _, _, hn, _, _ => exact key1 a n h3 h8 hn i hi
    | [a, b], _, _, hn, _, _ => exact key2 a b n h3 h8 hn i hi
    | [a, b, c], _, hh, hn, nl, _ => exact key3 a b c n h3 (by simp at nl; omega) hn hh i hi
    | _ :: _ :: _ :: _ :: _, _, _, _, nl, h33 => simp at nl h33; omega
  · match i, (show i < 2 by omega) with
    | 0, _ => rfl
    | 1, _ => rw [show PF h 1 = h from mulF_one h]; exact hh
/-! ### the two ways through -/
def spM (h : List Int) : Nat → List Int → List Int × Bool
  | 0, out => (out, true)
  | d + 1, out => if weB (ansM h out) = true then spM h d (ansM h out) else ([], false)
def ipM (h : List Int) : Nat → List Int → List Int × Bool
  | 0, out => ifWe out
  | d + 1, out => if (ansM out h).length > 9 then ([], false) else if pk 0 (ansM out h) > 1000000 then ([], false) else ipM h d (ansM out h)
def MB (l : List Int) : Prop := (1 ≤ l.length ∧ l.length ≤ 9) ∧ ∀ x ∈ l, -1000000 ≤ x ∧ x ≤ 1000000
theorem weB_MB {l : List Int} (h : weB l = true) : MB l := ⟨(weB_true h).1, fun x hx => by have := (weB_true h).2.1 x hx; omega⟩
theorem prod_bd {h out : List Int} (wh : weB h = true) (ho : MB out) : ∀ a ∈ h, ∀ x ∈ out, -10000000000 ≤ a * x ∧ a * x ≤ 10000000000 := by
  intro a ha x hx
  have := mul_bdg (u := a) (v := x) (M := 1000) (N := 1000000) (by have := (weB_true wh).2.1 a ha; omega) (by have := ho.2 x hx; omega)
  omega
theorem step_eq {h out : List Int} (wh : weB h = true) (ho : MB out) : ansM h out = mulF h out :=
  ansM_mulF h out (by have := (weB_true wh).1; omega) (weB_true wh).1.1 ho.1.1 (prod_bd wh ho)
theorem step_comm {h out : List Int} (wh : weB h = true) (ho : MB out) : ansM out h = ansM h out :=
  (ansM_comm h out (by have := (weB_true wh).1; omega) (by have := ho.1; omega) (weB_true wh).1.1 ho.1.1 (prod_bd wh ho)).symm
theorem pk_le {B : Int} : ∀ (l : List Int) (m : Int), pk m l ≤ B ↔ (m ≤ B ∧ ∀ x ∈ l, absM x ≤ B)
  | [], m => by simp [pk]
  | a :: l, m => by
    simp only [pk]
    rw [pk_le l (max m (absM a))]
    constructor
    · rintro ⟨h1, h2⟩
      refine ⟨by omega, fun x hx => ?_⟩
      rw [List.mem_cons] at hx
      rcases hx with rfl | hx
      · omega
      · exact h2 x hx
    · rintro ⟨h1, h2⟩
      have := h2 a (by simp)
      exact ⟨by omega, fun x hx => h2 x (by simp [hx])⟩
theorem cv_bdg {s : List Int} (ho : ∀ x ∈ s, -1000000 ≤ x ∧ x ≤ 1000000) : ∀ (r : List Int) (i : Int), (∀ x ∈ r, -1000 ≤ x ∧ x ≤ 1000) → -1000000000 * (r.length : Int) ≤ cv r s i ∧ cv r s i ≤ 1000000000 * (r.length : Int)
  | [], i, _ => by simp [cv]
  | a :: r, i, h => by
    have hs : -1000000 ≤ atM s i ∧ atM s i ≤ 1000000 := by
      unfold atM
      split
      · by_cases hi : i.toNat < s.length
        · rw [show s.getD i.toNat 0 = s[i.toNat] by simp [List.getD, hi]]; exact ho _ (List.getElem_mem hi)
        · rw [show s.getD i.toNat 0 = 0 by simp [List.getD, show s.length ≤ i.toNat by omega]]; omega
      · omega
    have h1 := mul_bdg (u := a) (M := 1000) (N := 1000000) (by have := h a (by simp); omega) (by omega : -1000000 ≤ atM s i ∧ atM s i ≤ 1000000)
    have h2 := cv_bdg ho r (i - 1) (fun b hb => h b (by simp [hb]))
    simp only [cv, List.length_cons]
    omega
theorem ans_bd {h out : List Int} (wh : weB h = true) (ho : MB out) : ∀ x ∈ ansM out h, -9000000000 ≤ x ∧ x ≤ 9000000000 := by
  intro x hx
  rw [step_comm wh ho, step_eq wh ho] at hx
  obtain ⟨i, hi, rfl⟩ := List.mem_iff_getElem.mp hx
  have g := atM_mulF h out (i : Int)
  unfold atM at g
  rw [if_pos (by omega), Int.toNat_natCast, show (mulF h out).getD i 0 = (mulF h out)[i] by simp [List.getD, hi]] at g
  have := cv_bdg ho.2 h i (weB_true wh).2.1
  have := (weB_true wh).1
  rw [g]
  omega
theorem ans_MB {h out : List Int} (wh : weB h = true) (ho : MB out) (h9 : ¬ (ansM out h).length > 9) (hp : ¬ pk 0 (ansM out h) > 1000000) : MB (ansM out h) := by
  have L := ansM_length out h
  have hl := (weB_true wh).1
  rw [if_neg (by omega)] at L
  have := ho.1
  refine ⟨by omega, fun x hx => ?_⟩
  have := ((pk_le (B := 1000000) (ansM out h) 0).mp (by omega)).2 x hx
  unfold absM at this
  omega
def allW (h : List Int) : Nat → Nat → Bool
  | 0, _ => true
  | d + 1, i => weB (PF h (i + 1)) && allW h d (i + 1)
def allI (h : List Int) : Nat → Nat → Bool
  | 0, i => weB (PF h i)
  | d + 1, i => (decide ((PF h (i + 1)).length ≤ 9) && decide (pk 0 (PF h (i + 1)) ≤ 1000000)) && allI h d (i + 1)
theorem sp_eq (h : List Int) (wh : weB h = true) : ∀ (d i : Nat), weB (PF h i) = true → spM h d (PF h i) = if allW h d i = true then (PF h (i + d), true) else ([], false)
  | 0, i, _ => by simp [spM, allW]
  | d + 1, i, hi => by
    simp only [spM]
    rw [step_eq wh (weB_MB hi), show mulF h (PF h i) = PF h (i + 1) from rfl]
    by_cases c : weB (PF h (i + 1)) = true
    · have e : allW h (d + 1) i = allW h d (i + 1) := by simp only [allW, c, Bool.true_and]
      rw [if_pos c, sp_eq h wh d (i + 1) c, show i + 1 + d = i + (d + 1) by omega, e]
    · have e : allW h (d + 1) i = false := by simp [allW, c]
      rw [if_neg c, e]
      simp
theorem ip_eq (h : List Int) (wh : weB h = true) : ∀ (d i : Nat), MB (PF h i) → ipM h d (PF h i) = if allI h d i = true then (PF h (i + d), true) else ([], false)
  | 0, i, _ => by
    have e : allI h 0 i = weB (PF h i) := rfl
    simp only [ipM, ifWe, Nat.add_zero]
    rw [e]
  | d + 1, i, hi => by
    have hm := ans_MB wh hi
    simp only [ipM]
    rw [step_comm wh hi, step_eq wh hi, show mulF h (PF h i) = PF h (i + 1) from rfl] at hm ⊢
    by_cases c1 : (PF h (i + 1)).length ≤ 9
    · by_cases c2 : pk 0 (PF h (i + 1)) ≤ 1000000
      · have e : allI h (d + 1) i = allI h d (i + 1) := by simp [allI, c1, c2]
        rw [if_neg (by omega), if_neg (by omega), ip_eq h wh d (i + 1) (hm (by omega) (by omega)), show i + 1 + d = i + (d + 1) by omega, e]
      · have e : allI h (d + 1) i = false := by simp [allI, c2]
        rw [if_neg (by omega), if_pos (by omega), e]
        simp
    · have e : allI h (d + 1) i = false := by simp [allI, c1]
      rw [if_pos (by omega), e]
      simp
theorem allW_iff (h : List Int) : ∀ (d i : Nat), allW h d i = true ↔ ∀ j, i < j → j ≤ i + d → weB (PF h j) = true
  | 0, i => by simp only [allW, true_iff]; intro j h1 h2; omega
  | d + 1, i => by
    simp only [allW, Bool.and_eq_true]
    rw [allW_iff h d (i + 1)]
    constructor
    · rintro ⟨h1, h2⟩ j hj hj2
      by_cases c : j = i + 1
      · subst c; exact h1
      · exact h2 j (by omega) (by omega)
    · intro H
      exact ⟨H _ (by omega) (by omega), fun j h1 h2 => H j (by omega) (by omega)⟩
theorem allI_iff (h : List Int) : ∀ (d i : Nat), allI h d i = true ↔ (∀ j, i < j → j ≤ i + d → (PF h j).length ≤ 9 ∧ pk 0 (PF h j) ≤ 1000000) ∧ weB (PF h (i + d)) = true
  | 0, i => by
    simp only [allI, Nat.add_zero]
    constructor
    · intro H; exact ⟨fun j h1 h2 => by omega, H⟩
    · exact fun H => H.2
  | d + 1, i => by
    simp only [allI, Bool.and_eq_true, decide_eq_true_eq]
    rw [allI_iff h d (i + 1), show i + 1 + d = i + (d + 1) by omega]
    constructor
    · rintro ⟨h1, h2, h3⟩
      refine ⟨fun j hj hj2 => ?_, h3⟩
      by_cases c : j = i + 1
      · subst c; exact h1
      · exact h2 j (by omega) (by omega)
    · rintro ⟨H, h3⟩
      exact ⟨H _ (by omega) (by omega), fun j h1 h2 => H j (by omega) (by omega), h3⟩
theorem weB_pk {l : List Int} (h : weB l = true) : l.length ≤ 9 ∧ pk 0 l ≤ 1000000 := by
  refine ⟨(weB_true h).1.2, (pk_le l 0).mpr ⟨by omega, fun x hx => ?_⟩⟩
  have := (weB_true h).2.1 x hx
  unfold absM
  omega
theorem both_ways (h : List Int) (wh : weB h = true) (n : Nat) (h8 : n ≤ 8) : ipM h n [1] = spM h n [1] := by
  have w1 : weB (PF h 0) = true := rfl
  have e1 := sp_eq h wh n 0 w1
  have e2 := ip_eq h wh n 0 (weB_MB w1)
  rw [show PF h 0 = [1] from rfl] at e1 e2
  rw [e1, e2]
  have : allW h n 0 = allI h n 0 := by
    rw [Bool.eq_iff_iff, allW_iff, allI_iff, Nat.zero_add]
    constructor
    · intro H
      refine ⟨fun j h1 h2 => weB_pk (H j h1 h2), ?_⟩
      by_cases c : n = 0
      · subst c; rfl
      · exact H n (by omega) (by omega)
    · rintro ⟨_, H⟩ j h1 h2
      by_cases c : j = n
      · subst c; exact H
      · exact power_key h wh n h8 H j (by omega)
  rw [this]
theorem spM_len (h : List Int) : ∀ (d : Nat) (out : List Int), out.length ≤ 9 → (spM h d out).1.length ≤ 9
  | 0, out, ho => ho
  | d + 1, out, ho => by
    simp only [spM]
    split
    · next c => exact spM_len h d _ (weB_true c).1.2
    · simp
theorem sp_if_len {c : Prop} [Decidable c] (h : List Int) (d : Nat) : (if c then spM h d [1] else ([], false)).1.length ≤ 9 := by
  split
  · exact spM_len h d _ (by simp)
  · simp
end Go.Proofs.Ytepjolkmmnnobaa.Base
