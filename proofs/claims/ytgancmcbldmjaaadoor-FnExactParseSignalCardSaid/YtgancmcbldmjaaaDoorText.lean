/- Plain lemmas on texts: bytes put together, decimals, texts with commas between. Conditions stand in each lemma. -/
import Derived.Test.YtgancmcbldmjaaaDoorBase
import Derived.Lib.ItoaNum
import Derived.Lib.Join
namespace Go.Proofs.YtgancmcbldmjaaaDoor.Base
set_option linter.unusedVariables false
set_option linter.unusedSimpArgs false
open Go.RowKit Go.Proofs.YtgancmcbldmjaaaDoorW.PrintWords Go.Proofs.YtgancmcbldmjaaaDoorW.PrintLast Go.Proofs.YtgancmcbldmjaaaDoorW.PrintMore
/-- The text of these bytes. -/
def tx (l : List UInt8) : ByteArray := ⟨l.toArray⟩
theorem tx_append (a b : List UInt8) : tx a ++ tx b = tx (a ++ b) := by
  apply ByteArray.ext
  simp [tx, ByteArray.data_append]
theorem tx_size (a : List UInt8) : (tx a).size = a.length := by simp [tx, ByteArray.size]
theorem tx_list (a : List UInt8) : (tx a).data.toList = a := by simp [tx]
theorem dec_small {u : Nat} (h : u < 10) : Lib.decDigits u = [UInt8.ofNat (48 + u)] := by
  rw [Lib.decDigits, dif_pos h]
theorem dec_more {u : Nat} (h : ¬ u < 10) : Lib.decDigits u = Lib.decDigits (u / 10) ++ [UInt8.ofNat (48 + u % 10)] := by
  rw [Lib.decDigits, dif_neg h]
theorem dec_len : ∀ (k u : Nat), u < 10 ^ (k + 1) → (Lib.decDigits u).length ≤ k + 1
  | 0, u, h => by rw [dec_small (by omega)]; simp
  | k + 1, u, h => by
    by_cases c : u < 10
    · rw [dec_small c]; simp
    · rw [dec_more c]
      have := dec_len k (u / 10) (by rw [Nat.pow_succ] at h; omega)
      simp
      omega
theorem itoa_len {x : Int} (h : -100000 ≤ x ∧ x ≤ 100000) : (Lib.itoa x).length ≤ 8 := by
  unfold Lib.itoa
  split
  · have := dec_len 6 x.natAbs (by omega)
    simp; omega
  · have := dec_len 6 x.toNat (by omega)
    omega
theorem join_flat (a : List UInt8) : ∀ l : List (List UInt8), Lib.join (a :: l) [44] = a ++ l.flatMap fun b => 44 :: b
  | [] => by simp [Lib.join, List.intercalate]
  | b :: l => by
    have := join_flat b l
    simp only [Lib.join, List.intercalate] at this ⊢
    rw [List.intersperse_cons_cons]
    simp only [List.flatten_cons, this, List.flatMap_cons]
    simp
/-- The text of numbers, the first one's and a comma ahead of each other one's. -/
def listT : List Int → List UInt8
  | [] => []
  | x :: r => Lib.itoa x ++ r.flatMap fun y => 44 :: Lib.itoa y
theorem join_itoa (l : List Int) : Lib.join (l.map Lib.itoa) [44] = listT l := by
  cases l with
  | nil => simp [Lib.join, List.intercalate, listT]
  | cons x r => rw [List.map_cons, join_flat, listT, List.flatMap_map]
theorem flat_len {r : List Int} (h : Bd r) : (r.flatMap fun y => 44 :: Lib.itoa y).length ≤ 9 * r.length := by
  induction r with
  | nil => simp
  | cons a r ih =>
    have h1 := itoa_len (h a (by simp))
    have h2 := ih (fun x hx => h x (by simp [hx]))
    simp only [List.flatMap_cons, List.length_append, List.length_cons]
    omega
theorem listT_len {l : List Int} (h : Bd l) : (listT l).length ≤ 9 * l.length := by
  cases l with
  | nil => simp [listT]
  | cons a r =>
    have h1 := itoa_len (h a (by simp))
    have h2 := flat_len (r := r) (fun x hx => h x (by simp [hx]))
    simp only [listT, List.length_append, List.length_cons]
    omega
end Go.Proofs.YtgancmcbldmjaaaDoor.Base
