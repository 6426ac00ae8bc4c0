/- Plain lemmas that the laws of this seat share: ranges, powers of two, shifts, fitting to a word, lists read by their indexes. Conditions stand in each lemma. -/
import Derived.Test.YtgancmcbldmjaaaWWords
import Derived.Test.YtgancmcbldmjaaaWLast
import Derived.Test.YtgancmcbldmjaaaWMore
namespace Go.Proofs.Ytgancmcbldmjaaa.Base
set_option linter.unusedVariables false
set_option linter.unusedSimpArgs false
open Go.RowKit Go.Proofs.YtgancmcbldmjaaaW.PrintWords Go.Proofs.YtgancmcbldmjaaaW.PrintLast Go.Proofs.YtgancmcbldmjaaaW.PrintMore
/-! ### numbers -/
def inR (n lo hi : Int) : Bool := decide (lo ≤ n ∧ n ≤ hi)
theorem inR_true {n lo hi : Int} : inR n lo hi = true ↔ lo ≤ n ∧ n ≤ hi := by simp [inR]
theorem inR_false {n lo hi : Int} : inR n lo hi = false ↔ ¬ (lo ≤ n ∧ n ≤ hi) := by simp [inR]
theorem inR_ge (a b c : Int) : (if a ≥ b then some (decide (a ≤ c)) else some false) = some (inR a b c) := by
  unfold inR; by_cases h : b ≤ a <;> simp [h]
theorem inR_le (a b c : Int) : (if b ≤ a then some (decide (a ≤ c)) else some false) = some (inR a b c) := inR_ge a b c
theorem wf64 {a : Int} (h : (Lit.int .i64 a).wf = true) : -9223372036854775808 ≤ a ∧ a ≤ 9223372036854775807 := by
  simp [Lit.wf, IntKind.min, IntKind.max, IntKind.signed, IntKind.bits] at h
  omega
theorem wrap_id {x : Int} (h : -9223372036854775808 ≤ x) (h2 : x ≤ 9223372036854775807) : wrap64 x = x := by unfold wrap64; omega
theorem wrap_nat {n m : Nat} (h : n < m) (hm : m ≤ 1152921504606846976) : wrap64 ((n : Int) + 1) = ((n + 1 : Nat) : Int) := by unfold wrap64; omega
theorem boolStep (b : Bool) (x y : Option Bool) : (if b = true then x else y) = (match b with | true => x | false => y) := by cases b <;> rfl
theorem bind_and (a b : Bool) : (if a = true then some b else some false) = some (a && b) := by cases a <;> rfl
theorem told_same (b : Bool) : (if (b != b) = true then some false else some true) = some true := by simp
/-! ### powers of two -/
def pw (n : Int) : Int := 2 ^ n.toNat
theorem pw_pos (n : Int) : 1 ≤ pw n := by
  unfold pw
  have h1 : 0 < (2 : Nat) ^ n.toNat := Nat.pow_pos (by omega)
  have h2 : ((2 : Int) ^ n.toNat) = ((2 ^ n.toNat : Nat) : Int) := by simp
  rw [h2]
  omega
theorem pw_le {n : Int} (h : n ≤ 62) : pw n ≤ 4611686018427387904 := by
  unfold pw
  have h1 : (2 : Nat) ^ n.toNat ≤ 2 ^ 62 := Nat.pow_le_pow_right (by omega) (by omega)
  have h2 : ((2 : Int) ^ n.toNat) = ((2 ^ n.toNat : Nat) : Int) := by simp
  rw [h2]
  omega
theorem pw_succ {n : Int} (h : 0 ≤ n) : pw (n + 1) = 2 * pw n := by
  unfold pw
  rw [show (n + 1).toNat = n.toNat + 1 by omega, Int.pow_succ]
  omega
theorem pw_pred {n : Int} (h : 1 ≤ n) : pw n = 2 * pw (n - 1) := by
  have := pw_succ (n := n - 1) (by omega)
  rwa [show n - 1 + 1 = n by omega] at this
theorem pw_zero : pw 0 = 1 := rfl
theorem pw_mono {m n : Int} (h : m ≤ n) : pw m ≤ pw n := by
  unfold pw
  have h1 : (2 : Nat) ^ m.toNat ≤ 2 ^ n.toNat := Nat.pow_le_pow_right (by omega) (by omega)
  have h2 : ∀ k : Nat, ((2 : Int) ^ k) = ((2 ^ k : Nat) : Int) := fun k => by simp
  rw [h2, h2]
  omega
theorem shl_eq {x n : Int} (h1 : n ≤ 64) (h2 : -9223372036854775808 ≤ x * pw n) (h3 : x * pw n ≤ 9223372036854775807) : shl .i64 x n = x * pw n := by
  unfold shl
  rw [i64_w, Nat.min_eq_left (by simp [IntKind.bits]; omega)]
  exact wrap_id h2 h3
theorem shl_one {n : Int} (h1 : n ≤ 62) : shl .i64 1 n = pw n := by
  have := pw_pos n
  have := pw_le h1
  rw [shl_eq (by omega) (by omega) (by omega)]
  omega
theorem shr_eq {x n : Int} (h1 : n ≤ 64) : shr .i64 x n = x / pw n := by
  unfold shr pw
  rw [Nat.min_eq_left (by simp [IntKind.bits]; omega)]
/-! ### division -/
theorem tdiv_if (x p : Int) : Int.tdiv x p = if 0 ≤ x then x / p else -((-x) / p) := by
  split
  · next h => rw [Int.tdiv_eq_ediv_of_nonneg h]
  · next h => rw [← Int.tdiv_eq_ediv_of_nonneg (by omega : 0 ≤ -x), Int.neg_tdiv, Int.neg_neg]
theorem tmod_if (x p : Int) : Int.tmod x p = if 0 ≤ x then x % p else -((-x) % p) := by
  split
  · next h => rw [Int.tmod_eq_emod_of_nonneg h]
  · next h => rw [← Int.tmod_eq_emod_of_nonneg (by omega : 0 ≤ -x), Int.neg_tmod, Int.neg_neg]
/-! ### a number shifted -/
theorem pw20 {s : Int} (h : s ≤ 20) : pw s ≤ 1048576 := pw_mono h
/-- A number shifted: down; to the nearest, of two the greater; towards 0. -/
def shf (x s m : Int) : Int := if m = 1 then (if s > 0 then (x + pw (s - 1)) / pw s else x) else if m = 2 then (if x < 0 then -((-x) / pw s) else x / pw s) else x / pw s
theorem floor_bd (x p : Int) (hp : 1 ≤ p) (h1 : -1152921504606846976 ≤ x) (h2 : x ≤ 1152921504606846976) : -1152921504606846976 ≤ x / p ∧ x / p ≤ 1152921504606846976 := by
  constructor
  · apply Int.le_ediv_of_mul_le (by omega)
    have : -1152921504606846976 * p ≤ -1152921504606846976 * 1 := Int.mul_le_mul_of_nonpos_left (by omega) hp
    omega
  · by_cases hx : 0 ≤ x
    · exact Int.le_trans (Int.ediv_le_self p hx) h2
    · have := Int.ediv_neg_of_neg_of_pos (show x < 0 by omega) (show 0 < p by omega)
      omega
theorem neg_floor (x p : Int) (hp : 1 ≤ p) : (-x) / p = if x % p = 0 then -(x / p) else -(x / p) - 1 := by
  have hd := Int.mul_ediv_add_emod x p
  have hr := Int.emod_nonneg x (show p ≠ 0 by omega)
  have hr2 := Int.emod_lt_of_pos x (show 0 < p by omega)
  have hd' := Int.mul_ediv_add_emod (-x) p
  have hr' := Int.emod_nonneg (-x) (show p ≠ 0 by omega)
  have hr2' := Int.emod_lt_of_pos (-x) (show 0 < p by omega)
  have e : p * ((-x) / p + x / p) = -(x % p) - (-x) % p := by rw [Int.mul_add]; omega
  split
  · next h =>
    have : (-x) / p + x / p = 0 := by
      apply Int.le_antisymm
      · exact Int.le_of_lt_add_one (Int.lt_of_mul_lt_mul_left (a := p) (by rw [e]; omega) (by omega))
      · exact Int.le_of_lt_add_one (Int.lt_of_mul_lt_mul_left (a := p) (by rw [Int.mul_add, e]; omega) (by omega))
    omega
  · next h =>
    have : (-x) / p + x / p = -1 := by
      apply Int.le_antisymm
      · exact Int.le_of_lt_add_one (Int.lt_of_mul_lt_mul_left (a := p) (by rw [e]; omega) (by omega))
      · exact Int.le_of_lt_add_one (Int.lt_of_mul_lt_mul_left (a := p) (by rw [Int.mul_add, e]; omega) (by omega))
    omega
theorem mod_neg0 (x p : Int) (hp : 1 ≤ p) : x % p = 0 ↔ (-x) % p = 0 := by
  constructor
  · intro h
    exact Int.emod_eq_zero_of_dvd (Int.dvd_neg.mpr (Int.dvd_of_emod_eq_zero h))
  · intro h
    exact Int.emod_eq_zero_of_dvd (Int.dvd_neg.mp (Int.dvd_of_emod_eq_zero h))
theorem tm_neg (x p : Int) (hp : 1 ≤ p) : (Int.tmod x p < 0) = (x < 0 ∧ x % p ≠ 0) := by
  rw [tmod_if]
  have hr := Int.emod_nonneg x (show p ≠ 0 by omega)
  have hr' := Int.emod_nonneg (-x) (show p ≠ 0 by omega)
  have := mod_neg0 x p hp
  apply propext
  split <;> constructor <;> intro h <;> omega
theorem td_bd (x p : Int) (hp : 1 ≤ p) (h1 : -1152921504606846976 ≤ x) (h2 : x ≤ 1152921504606846976) : -1152921504606846976 ≤ Int.tdiv x p ∧ Int.tdiv x p ≤ 1152921504606846976 := by
  rw [tdiv_if]
  have a := floor_bd x p hp h1 h2
  have b := floor_bd (-x) p hp (by omega) (by omega)
  split <;> omega
theorem td_low (x p : Int) (hp : 1 ≤ p) (h : x < 0 ∧ x % p ≠ 0) : Int.tdiv x p - 1 = x / p := by
  rw [tdiv_if, if_neg (by omega), neg_floor x p hp, if_neg h.2]
  omega
theorem td_high (x p : Int) (hp : 1 ≤ p) (h : ¬ (x < 0 ∧ x % p ≠ 0)) : Int.tdiv x p = x / p := by
  rw [tdiv_if]
  split
  · rfl
  · rw [neg_floor x p hp, if_pos (by omega)]
    omega
/-- The number shifted, by the next lower quotient and its rest. -/
theorem shf_eq (x s m : Int) (h3 : 0 ≤ s) (h4 : s ≤ 20) : shf x s m = if m = 1 then (if 2 * (x % pw s) ≥ pw s then x / pw s + 1 else x / pw s) else if m = 2 then (if x < 0 then (if x % pw s > 0 then x / pw s + 1 else x / pw s) else x / pw s) else x / pw s := by
  have hp := pw_pos s
  have hr := Int.emod_nonneg x (show pw s ≠ 0 by omega)
  have hr2 := Int.emod_lt_of_pos x (show 0 < pw s by omega)
  have hd := Int.mul_ediv_add_emod x (pw s)
  unfold shf
  split
  · by_cases c : s > 0
    · rw [if_pos c]
      have h2 := pw_pred (n := s) (by omega)
      have e : x + pw (s - 1) = (x % pw s + pw (s - 1)) + pw s * (x / pw s) := by omega
      rw [e, Int.add_mul_ediv_left _ _ (by omega)]
      split
      · have : (x % pw s + pw (s - 1)) / pw s = 1 := by
          apply Int.le_antisymm
          · exact Int.le_of_lt_add_one (Int.ediv_lt_of_lt_mul (by omega) (by omega))
          · exact Int.le_ediv_of_mul_le (by omega) (by omega)
        omega
      · have : (x % pw s + pw (s - 1)) / pw s = 0 := Int.ediv_eq_zero_of_lt (by omega) (by omega)
        omega
    · have : s = 0 := by omega
      subst this
      simp only [pw_zero] at *
      simp
  · split
    · split
      · rw [neg_floor x _ hp]
        by_cases c : x % pw s = 0
        · rw [if_pos c, if_neg (by omega)]; omega
        · rw [if_neg c, if_pos (by omega)]; omega
      · rfl
    · rfl
/-! ### filters of the first and of the second order -/
def foB (a s m b : Int) : Bool := inR a (-1024) 1024 && (inR s 0 10 && (inR m 0 2 && inR b 2 16))
def sdB (a c s m b : Int) : Bool := inR a (-1024) 1024 && (inR c (-1024) 1024 && (inR s 0 10 && (inR m 0 2 && inR b 2 16)))
theorem scale_shift (s : Int) : (inR s 0 10 && inR s 0 20) = inR s 0 10 := by
  unfold inR
  rw [Bool.eq_iff_iff]
  simp
  omega
theorem foB_spec (a s m b : Int) : (inR a (-1024) 1024 && (inR s 0 10 && ((inR s 0 20 && inR m 0 2) && inR b 2 16))) = foB a s m b := by
  unfold foB
  rw [← scale_shift s]
  simp only [Bool.and_assoc, Bool.and_self_left]
theorem foB_impl (a s m b : Int) : (inR a (-1024) 1024 && ((inR s 0 10 && inR m 0 2) && inR b 2 16)) = foB a s m b := by
  unfold foB
  simp only [Bool.and_assoc]
theorem sdB_spec (a c s m b : Int) : (inR a (-1024) 1024 && (inR c (-1024) 1024 && (inR s 0 10 && ((inR s 0 20 && inR m 0 2) && inR b 2 16)))) = sdB a c s m b := by
  unfold sdB
  rw [← scale_shift s]
  simp only [Bool.and_assoc, Bool.and_self_left]
theorem sdB_impl (a c s m b : Int) : (inR a (-1024) 1024 && (inR c (-1024) 1024 && ((inR s 0 10 && inR m 0 2) && inR b 2 16))) = sdB a c s m b := by
  unfold sdB
  simp only [Bool.and_assoc]
theorem foB_true {a s m b : Int} : foB a s m b = true ↔ (-1024 ≤ a ∧ a ≤ 1024) ∧ (0 ≤ s ∧ s ≤ 10) ∧ (0 ≤ m ∧ m ≤ 2) ∧ (2 ≤ b ∧ b ≤ 16) := by simp [foB, inR]
theorem sdB_true {a c s m b : Int} : sdB a c s m b = true ↔ (-1024 ≤ a ∧ a ≤ 1024) ∧ (-1024 ≤ c ∧ c ≤ 1024) ∧ (0 ≤ s ∧ s ≤ 10) ∧ (0 ≤ m ∧ m ≤ 2) ∧ (2 ≤ b ∧ b ≤ 16) := by simp [sdB, inR]
def absM (a : Int) : Int := max a (-a)
theorem mx_max (a b : Int) : mx a b = max a b := by unfold mx; split <;> omega
theorem mn_min (a b : Int) : mn a b = min a b := by unfold mn; split <;> omega
/-! ### lists by index -/
theorem drop_nil {xs : List Int} {n : Nat} (h : xs.drop n = []) : xs.length ≤ n := by simpa using h
theorem drop_cons {xs : List Int} {n : Nat} {a : Int} {r : List Int} (h : xs.drop n = a :: r) : n < xs.length ∧ rd xs n = a ∧ xs.drop (n + 1) = r := by
  have h1 : n < xs.length := by
    apply Nat.lt_of_not_le
    intro hle
    rw [List.drop_eq_nil_of_le hle] at h
    cases h
  have h2 := List.drop_eq_getElem_cons h1
  rw [h] at h2
  injection h2 with h3 h4
  refine ⟨h1, ?_, h4.symm⟩
  rw [h3]
  simp [rd, List.getD, h1]
theorem len_drop {xs : List Int} {n : Nat} {r : List Int} (h : xs.drop n = r) (hn : n ≤ xs.length) : n + r.length = xs.length := by
  have := congrArg List.length h
  simp at this
  omega
theorem pred {n k : Nat} (h : n < k) : ∃ m, k = m + 1 := ⟨k - 1, by omega⟩
theorem rd_nat (xs : List Int) (n : Nat) (h : n < xs.length) : rd xs (n : Int) = xs[n] := by simp [rd, List.getD, h]
/-! ### a signal, weights -/
def sigB (l : List Int) : Bool := decide (l.length ≤ 64) && l.all fun x => inR x (-100000) 100000
def weB (l : List Int) : Bool := inR l.length 1 9 && l.all fun x => inR x (-1000) 1000
/-- Each number lies within a sample's size. -/
def Bd (l : List Int) : Prop := ∀ x ∈ l, -100000 ≤ x ∧ x ≤ 100000
theorem Bd.cons {a : Int} {l : List Int} (h : Bd (a :: l)) : (-100000 ≤ a ∧ a ≤ 100000) ∧ Bd l := ⟨h a (by simp), fun x hx => h x (by simp [hx])⟩
theorem sigB_true {l : List Int} (h : sigB l = true) : l.length ≤ 64 ∧ Bd l := by
  simp only [sigB, Bool.and_eq_true, decide_eq_true_eq, List.all_eq_true, inR_true] at h
  exact h
theorem sigB_mk {l : List Int} (h : l.length ≤ 64) (h2 : Bd l) : sigB l = true := by
  simp only [sigB, Bool.and_eq_true, decide_eq_true_eq, List.all_eq_true, inR_true]
  exact ⟨h, h2⟩
theorem weB_true {l : List Int} (h : weB l = true) : (1 ≤ l.length ∧ l.length ≤ 9) ∧ (∀ x ∈ l, -1000 ≤ x ∧ x ≤ 1000) ∧ Bd l := by
  simp only [weB, Bool.and_eq_true, List.all_eq_true, inR_true] at h
  exact ⟨by omega, h.2, fun x hx => by have := h.2 x hx; omega⟩
/-- Sums with signs in turn. -/
def alt : Bool → List Int → Int
  | _, [] => 0
  | true, a :: r => a + alt false r
  | false, a :: r => -a + alt true r
def absSum (l : List Int) : Int := (l.map absM).sum
def pk : Int → List Int → Int
  | m, [] => m
  | m, a :: r => pk (max m (absM a)) r
def enSum (l : List Int) : Int := (l.map fun x => x * x).sum
theorem sq_bd {x : Int} (h : -100000 ≤ x ∧ x ≤ 100000) : 0 ≤ x * x ∧ x * x ≤ 10000000000 := by
  constructor
  · by_cases h0 : 0 ≤ x
    · exact Int.mul_nonneg h0 h0
    · exact Int.mul_nonneg_of_nonpos_of_nonpos (by omega) (by omega)
  · by_cases h0 : 0 ≤ x
    · exact Int.le_trans (Int.mul_le_mul h.2 h.2 h0 (by omega)) (by omega)
    · have := Int.mul_le_mul (show -x ≤ 100000 by omega) (show -x ≤ 100000 by omega) (by omega) (by omega)
      rw [Int.neg_mul_neg] at this
      omega
/-! ### a number fitted to a word -/
def fitM (b : Int) (w : Bool) (x : Int) : Int :=
  if w = true then (if x % (2 * pw (b - 1)) > pw (b - 1) - 1 then x % (2 * pw (b - 1)) - 2 * pw (b - 1) else x % (2 * pw (b - 1))) else min (max x (-pw (b - 1))) (pw (b - 1) - 1)
theorem tmod2 (x p : Int) (hp : 1 ≤ p) : Int.tmod (Int.tmod x p + p) p = x % p := by
  have hr := Int.emod_nonneg x (show p ≠ 0 by omega)
  have hr2 := Int.emod_lt_of_pos x (show 0 < p by omega)
  have hr' := Int.emod_nonneg (-x) (show p ≠ 0 by omega)
  have hr2' := Int.emod_lt_of_pos (-x) (show 0 < p by omega)
  by_cases h : 0 ≤ x
  · rw [tmod_if x, if_pos h, tmod_if, if_pos (by omega), Int.add_emod_right, Int.emod_emod_of_dvd _ (Int.dvd_refl p)]
  · rw [tmod_if x, if_neg h, tmod_if, if_pos (by omega)]
    have hd := Int.mul_ediv_add_emod (-x) p
    have e : -(-x % p) + p = x + p * ((-x) / p + 1) := by rw [Int.mul_add]; omega
    rw [e, Int.add_mul_emod_self_left]
theorem tmod_bd (x p : Int) (hp : 1 ≤ p) : -p < Int.tmod x p ∧ Int.tmod x p < p := by
  have hr := Int.emod_nonneg x (show p ≠ 0 by omega)
  have hr2 := Int.emod_lt_of_pos x (show 0 < p by omega)
  have hr' := Int.emod_nonneg (-x) (show p ≠ 0 by omega)
  have hr2' := Int.emod_lt_of_pos (-x) (show 0 < p by omega)
  rw [tmod_if]
  split <;> omega
theorem wrap_mid (x h : Int) (hh : 1 ≤ h) : (x + h) % (2 * h) - h = if x % (2 * h) > h - 1 then x % (2 * h) - 2 * h else x % (2 * h) := by
  have hr := Int.emod_nonneg x (show 2 * h ≠ 0 by omega)
  have hr2 := Int.emod_lt_of_pos x (show 0 < 2 * h by omega)
  have hd := Int.mul_ediv_add_emod x (2 * h)
  split
  · next c =>
    have e : x + h = (x % (2 * h) - h) + 2 * h * (x / (2 * h) + 1) := by rw [Int.mul_add]; omega
    rw [e, Int.add_mul_emod_self_left, Int.emod_eq_of_lt (by omega) (by omega)]
    omega
  · next c =>
    have e : x + h = (x % (2 * h) + h) + 2 * h * (x / (2 * h)) := by omega
    rw [e, Int.add_mul_emod_self_left, Int.emod_eq_of_lt (by omega) (by omega)]
    omega
theorem fitM_bd (b : Int) (w : Bool) (x : Int) : -pw (b - 1) ≤ fitM b w x ∧ fitM b w x ≤ pw (b - 1) - 1 := by
  have hp := pw_pos (b - 1)
  have hr := Int.emod_nonneg x (show 2 * pw (b - 1) ≠ 0 by omega)
  have hr2 := Int.emod_lt_of_pos x (show 0 < 2 * pw (b - 1) by omega)
  unfold fitM
  split
  · split <;> omega
  · omega
/-! ### lists that are made -/
def sumsM : Int → List Int → List Int
  | _, [] => []
  | t, a :: r => (t + a) :: sumsM (t + a) r
theorem sumsM_length (t : Int) (l : List Int) : (sumsM t l).length = l.length := by induction l generalizing t <;> simp [sumsM, *]
def diffM : Int → List Int → List Int
  | _, [] => []
  | t, a :: r => (a - t) :: diffM a r
theorem diffM_length (t : Int) (l : List Int) : (diffM t l).length = l.length := by induction l generalizing t <;> simp [diffM, *]
/-- A list, if it is a signal. -/
def ifSig (l : List Int) : List Int × Bool := if sigB l = true then (l, true) else ([], false)
def ifWe (l : List Int) : List Int × Bool := if weB l = true then (l, true) else ([], false)
theorem ifSig_len (l : List Int) : (ifSig l).1.length ≤ 64 := by
  unfold ifSig
  split
  · next h => exact (sigB_true h).1
  · simp
theorem ifWe_len (l : List Int) : (ifWe l).1.length ≤ 9 := by
  unfold ifWe
  split
  · next h => exact (weB_true h).1.2
  · simp
/-- The numbers that a law writes into a list. -/
def marks (s : Int) (n : Nat) : List Int := (List.range n).map fun (i : Nat) => s + (i : Int)
theorem marks_length (s : Int) (n : Nat) : (marks s n).length = n := by simp [marks]
theorem marks_get (s : Int) (n i : Nat) (h : i < n) : (marks s n)[i]? = some (s + (i : Int)) := by simp [marks, h]
theorem set_take {xs ys : List Int} {n : Nat} (hy : ys.length = xs.length) (h1 : n < xs.length) (ht : ys.take n = xs.take n) {v : Int} (hv : xs[n]? = some v) : (ys.set n v).take (n + 1) = xs.take (n + 1) := by
  apply List.ext_getElem?
  intro i
  by_cases hi : i < n
  · have := congrArg (fun z => z[i]?) ht
    simp only [List.getElem?_take, hi, if_true] at this
    simp only [List.getElem?_take, show i < n + 1 by omega, if_true]
    rw [List.getElem?_set_ne (by omega)]
    exact this
  · by_cases he : i = n
    · subst he
      rw [List.getElem?_eq_getElem h1] at hv
      simp [List.getElem?_take, List.getElem?_set, hy, h1, Option.some.inj hv]
    · simp [List.getElem?_take, show ¬ i < n + 1 by omega]
/-! ### greatest common divisors -/
theorem gcd_step {a b : Int} (ha : 0 ≤ a) (hb : 0 < b) : Int.gcd b (Int.tmod a b) = Int.gcd a b := by
  rw [Int.tmod_eq_emod_of_nonneg ha, Int.gcd_comm a b]
  simp only [Int.gcd, Int.natAbs_emod_of_nonneg ha]
  rw [Nat.gcd_comm b.natAbs a.natAbs, Nat.gcd_comm b.natAbs (a.natAbs % b.natAbs), ← Nat.gcd_rec, Nat.gcd_comm]
theorem pw15 {s : Int} (h : s ≤ 15) : pw s ≤ 32768 := pw_mono h
theorem pw10 {s : Int} (h : s ≤ 10) : pw s ≤ 1024 := pw_mono h
theorem mul_bd {a c : Int} (ha : -100000 ≤ a ∧ a ≤ 100000) (hc : -100000 ≤ c ∧ c ≤ 100000) : -10000000000 ≤ a * c ∧ a * c ≤ 10000000000 := by
  have key : ∀ u v : Int, 0 ≤ u → u ≤ 100000 → 0 ≤ v → v ≤ 100000 → 0 ≤ u * v ∧ u * v ≤ 10000000000 := fun u v hu hu2 hv hv2 =>
    ⟨Int.mul_nonneg hu hv, Int.le_trans (Int.mul_le_mul hu2 hv2 hv (by omega)) (by omega)⟩
  by_cases h1 : 0 ≤ a <;> by_cases h2 : 0 ≤ c
  · have := key a c h1 (by omega) h2 (by omega); omega
  · have := key a (-c) h1 (by omega) (by omega) (by omega); rw [Int.mul_neg] at this; omega
  · have := key (-a) c (by omega) (by omega) h2 (by omega); rw [Int.neg_mul] at this; omega
  · have := key (-a) (-c) (by omega) (by omega) (by omega) (by omega); rw [Int.neg_mul_neg] at this; omega
theorem shf_bd {x s m : Int} (h1 : -1000000000000000000 ≤ x) (h2 : x ≤ 1000000000000000000) (h3 : 0 ≤ s) (h4 : s ≤ 20) : -1152921504606846976 ≤ shf x s m ∧ shf x s m ≤ 1152921504606846976 := by
  have hp := pw_pos s
  have hp2 := pw20 (s := s - 1) (by omega)
  have hp3 := pw_pos (s - 1)
  have a := floor_bd x (pw s) hp (by omega) (by omega)
  have b := floor_bd (-x) (pw s) hp (by omega) (by omega)
  have c := floor_bd (x + pw (s - 1)) (pw s) hp (by omega) (by omega)
  unfold shf
  split
  · split <;> omega
  · split
    · split <;> omega
    · omega
/-! ### what the calls with lists as results answer -/
theorem sig_if_len {c : Prop} [Decidable c] (l : List Int) : (if c then ifSig l else ([], false)).1.length ≤ 64 := by
  split
  · exact ifSig_len l
  · simp
theorem we_if_len {c : Prop} [Decidable c] (l : List Int) : (if c then ifWe l else ([], false)).1.length ≤ 9 := by
  split
  · exact ifWe_len l
  · simp
theorem both {f g : Nat → Option (List Int × Bool)} {v : List Int × Bool} (S : Ev f v) (I : Ev g v) (h : v.1.length ≤ 1000) : ∃ v : List Int × Bool, Ev f v ∧ Ev g v ∧ v.1.length ≤ 1000 := ⟨v, S, I, h⟩
/-! ### fractions in lowest terms -/
theorem gcd_abs (a b : Int) : Int.gcd (absM a) (absM b) = Int.gcd a b := by
  unfold absM
  simp only [Int.gcd]
  congr 1 <;> omega
theorem gcd_zero {a : Int} (ha : 0 ≤ a) : ((Int.gcd a 0 : Nat) : Int) = a := by simp [Int.gcd]; omega
theorem gcd_pos1 {a b : Int} (ha : 0 < a) : 1 ≤ ((Int.gcd a b : Nat) : Int) := by
  have := Int.gcd_pos_of_ne_zero_left b (show a ≠ 0 by omega)
  omega
theorem gcd_le1 {a b : Int} (ha : 0 < a) : ((Int.gcd a b : Nat) : Int) ≤ a := by
  have := Int.gcd_le_natAbs_left b (show a ≠ 0 by omega)
  omega
def ratM (num den : Int) : Int × Int := if den < 0 then (Int.tdiv (-num) (Int.gcd num den), Int.tdiv (-den) (Int.gcd num den)) else (Int.tdiv num (Int.gcd num den), Int.tdiv den (Int.gcd num den))
theorem pw_two (n : Int) : (2 : Int) ^ n.toNat = pw n := rfl
/-! ### steps of filters -/
def foStepM (a s m b : Int) (w : Bool) (y x : Int) : Int := fitM b w (shf (a * y) s m + x)
def sdStepM (a c s m b : Int) (w : Bool) (y z x : Int) : Int := fitM b w (shf (a * y + c * z) s m + x)
theorem foStepM_bd (a s m b : Int) (w : Bool) (y x : Int) : -pw (b - 1) ≤ foStepM a s m b w y x ∧ foStepM a s m b w y x ≤ pw (b - 1) - 1 := fitM_bd _ _ _
theorem sdStepM_bd (a c s m b : Int) (w : Bool) (y z x : Int) : -pw (b - 1) ≤ sdStepM a c s m b w y z x ∧ sdStepM a c s m b w y z x ≤ pw (b - 1) - 1 := fitM_bd _ _ _
/-- What 'shf' makes of a number of moderate size stays of moderate size. -/
theorem shf_bd2 {x s m : Int} (h1 : -1000000000000 ≤ x) (h2 : x ≤ 1000000000000) (h3 : 0 ≤ s) (h4 : s ≤ 20) : -1000000000001 ≤ shf x s m ∧ shf x s m ≤ 1000000000001 := by
  have hp := pw_pos s
  rw [shf_eq x s m h3 h4]
  have a : -1000000000000 ≤ x / pw s ∧ x / pw s ≤ 1000000000000 := by
    constructor
    · apply Int.le_ediv_of_mul_le (by omega)
      have : -1000000000000 * pw s ≤ -1000000000000 * 1 := Int.mul_le_mul_of_nonpos_left (by omega) hp
      omega
    · by_cases hx : 0 ≤ x
      · exact Int.le_trans (Int.ediv_le_self (pw s) hx) h2
      · have := Int.ediv_neg_of_neg_of_pos (show x < 0 by omega) (show 0 < pw s by omega)
        omega
  split
  · split <;> omega
  · split
    · split
      · split <;> omega
      · omega
    · omega
/-! ### the answer of weights -/
def innerM (k : Nat) (a : Int) : List Int → List Int → Nat → List Int
  | out, [], _ => out
  | out, x :: r, i => innerM k a (out.set (k + i) (wrap64 (out.getD (k + i) 0 + wrap64 (a * x)))) r (i + 1)
theorem innerM_length (k : Nat) (a : Int) (r : List Int) : ∀ (out : List Int) (i : Nat), (innerM k a out r i).length = out.length := by
  induction r with
  | nil => intro out i; rfl
  | cons x r ih => intro out i; simp [innerM, ih]
def outerM (s : List Int) : List Int → List Int → Nat → List Int
  | out, [], _ => out
  | out, a :: r, k => outerM s (innerM k a out s 0) r (k + 1)
theorem outerM_length (s r : List Int) : ∀ (out : List Int) (k : Nat), (outerM s out r k).length = out.length := by
  induction r with
  | nil => intro out k; rfl
  | cons x r ih => intro out k; simp [outerM, ih, innerM_length]
def ansM (h s : List Int) : List Int := if s.length = 0 then [] else outerM s (List.replicate (h.length + s.length - 1) 0) h 0
theorem ansM_length (h s : List Int) : (ansM h s).length = if s.length = 0 then 0 else h.length + s.length - 1 := by
  unfold ansM
  split
  · rfl
  · rw [outerM_length]; simp
def atM (l : List Int) (i : Int) : Int := if 0 ≤ i then l.getD i.toNat 0 else 0
def addM (a b : List Int) : List Int := (List.range (max a.length b.length)).map fun (i : Nat) => a.getD i 0 + b.getD i 0
theorem getD_bd {l : List Int} (h : Bd l) (i : Nat) : -100000 ≤ l.getD i 0 ∧ l.getD i 0 ≤ 100000 := by
  by_cases hi : i < l.length
  · rw [show l.getD i 0 = l[i] by simp [List.getD, hi]]; exact h _ (List.getElem_mem hi)
  · rw [show l.getD i 0 = 0 by simp [List.getD, show l.length ≤ i by omega]]; omega
/-! ### bits that a word needs -/
def lowM (p : Int) (l : List Int) : Int := (l.map fun x => min (x * -p) (x * (p - 1))).sum
def highM (p : Int) (l : List Int) : Int := (l.map fun x => max (x * -p) (x * (p - 1))).sum
def bitsM (lo hi : Int) : Nat → Int → Int × Bool
  | 0, _ => (0, false)
  | d + 1, n => if lo ≥ -pw (n - 1) ∧ hi < pw (n - 1) then (n, true) else bitsM lo hi d (n + 1)
theorem mul_bd2 {a c : Int} (ha : -1000 ≤ a ∧ a ≤ 1000) (hc : -100000 ≤ c ∧ c ≤ 100000) : -100000000 ≤ a * c ∧ a * c ≤ 100000000 := by
  have key : ∀ u v : Int, 0 ≤ u → u ≤ 1000 → 0 ≤ v → v ≤ 100000 → 0 ≤ u * v ∧ u * v ≤ 100000000 := fun u v hu hu2 hv hv2 =>
    ⟨Int.mul_nonneg hu hv, Int.le_trans (Int.mul_le_mul hu2 hv2 hv (by omega)) (by omega)⟩
  by_cases h1 : 0 ≤ a <;> by_cases h2 : 0 ≤ c
  · have := key a c h1 (by omega) h2 (by omega); omega
  · have := key a (-c) h1 (by omega) (by omega) (by omega); rw [Int.mul_neg] at this; omega
  · have := key (-a) c (by omega) (by omega) h2 (by omega); rw [Int.neg_mul] at this; omega
  · have := key (-a) (-c) (by omega) (by omega) (by omega) (by omega); rw [Int.neg_mul_neg] at this; omega
end Go.Proofs.Ytgancmcbldmjaaa.Base
