/- The plain statement behind the law FnExactBitsNeeded: its walk's numbers answer true. Conditions: the given statement's own (each number is an int; each slice within the reach). -/
import Derived.Test.YtepjolkmmnnobaaQFnExactBitsNeededx0
import Derived.Test.YtepjolkmmnnobaaQFnExactBitsNeededx1
import Derived.Test.YtepjolkmmnnobaaQFnExactBitsNeededx2
import Derived.Test.YtepjolkmmnnobaaQFnExactBitsNeededx3
import Derived.Test.YtepjolkmmnnobaaBase
namespace Go.Proofs.Ytepjolkmmnnobaa.Pure
open Go.RowKit Go.Proofs.Ytepjolkmmnnobaa.QFnExactBitsNeeded Go.Proofs.YtepjolkmmnnobaaW.PrintWords Go.Proofs.YtepjolkmmnnobaaW.PrintLast Go.Proofs.YtepjolkmmnnobaaW.PrintMore Go.Proofs.Ytepjolkmmnnobaa.Base
set_option linter.unusedVariables false
set_option linter.unusedSimpArgs false

theorem spec_l1In_v (a b c : Int) : spec_l1In.f a b c = some (inR a b c) := inR_ge a b c

theorem spec_l1All_l (lo hi : Int) (xs : List Int) (hn : xs.length ≤ 1152921504606846976) : ∀ (r : List Int) (n k : Nat), xs.drop n = r → r.length < k → spec_l1All.l0 k lo hi xs (xs.length : Int) n = some (r.all fun x => inR x lo hi)
  | [], n, k, hd, hk => by
    obtain ⟨k, rfl⟩ := pred hk
    have := drop_nil hd
    simp only [spec_l1All.l0]; rw [if_neg (by omega)]; rfl
  | a :: r, n, k, hd, hk => by
    obtain ⟨k, rfl⟩ := pred hk
    obtain ⟨h1, h2, h3⟩ := drop_cons hd
    simp only [spec_l1All.l0]
    rw [if_pos (by omega), if_pos (by omega), if_pos (by omega), h2, spec_l1In_v, wrap_nat h1 hn]; simp only [Option.bind_some, List.all_cons]
    cases h : inR a lo hi
    · simp
    · simp only [if_true, Bool.true_and]
      exact spec_l1All_l lo hi xs hn r (n + 1) k h3 (by simp at hk; omega)
theorem spec_l1All_e (lo hi : Int) (xs : List Int) (hn : xs.length ≤ 1152921504606846976) : Ev (fun k => spec_l1All.f k xs lo hi) (xs.all fun x => inR x lo hi) :=
  ⟨xs.length + 1, fun k hk => spec_l1All_l lo hi xs hn xs 0 k rfl (by omega)⟩

theorem spec_weGood_e (xs : List Int) (hn : xs.length ≤ 1152921504606846976) : Ev (fun k => spec_weGood.f k xs) (weB xs) := by
  obtain ⟨K, e⟩ := spec_l1All_e (-1000) 1000 xs hn
  refine ⟨K, fun k hk => ?_⟩
  show spec_weGood.f k xs = some (weB xs)
  unfold spec_weGood.f weB
  simp only [e k hk, spec_l1In_v, Option.bind_some, bind_and]

theorem spec_wdGood_v (a : Int) (b : Bool) : spec_wdGood.f a b = some (inR a 2 16) := by simp [spec_wdGood.f, spec_l1In_v]

theorem spec_wdLow_v (b : Int) (w : Bool) (h1 : 2 ≤ b) (h2 : b ≤ 16) : spec_wdLow.f b w = some (-pw (b - 1)) := by
  have := pw_pos (b - 1)
  have := pw_le (n := b - 1) (by omega)
  unfold spec_wdLow.f
  rw [wrap_id (x := b - 1) (by omega) (by omega), if_pos (by omega), shl_one (by omega), wrap_id (by omega) (by omega)]

theorem spec_wdHigh_v (b : Int) (w : Bool) (h1 : 2 ≤ b) (h2 : b ≤ 16) : spec_wdHigh.f b w = some (pw (b - 1) - 1) := by
  have := pw_pos (b - 1)
  have := pw_le (n := b - 1) (by omega)
  unfold spec_wdHigh.f
  rw [wrap_id (x := b - 1) (by omega) (by omega), if_pos (by omega), shl_one (by omega), wrap_id (by omega) (by omega)]

theorem spec_l1Least_v (a b : Int) : spec_l1Least.f a b = some (min a b) := by
  unfold spec_l1Least.f
  split <;> (congr 1; omega)

theorem spec_l1Most_v (a b : Int) : spec_l1Most.f a b = some (max a b) := by
  unfold spec_l1Most.f
  split <;> (congr 1; omega)

theorem spec_BitsNeeded_l1 (lo hi : Int) : ∀ (d : Nat) (n : Int) (k : Nat), n + d = 41 → 2 ≤ n → d < k → spec_BitsNeeded.l1 k lo hi n = some (bitsM lo hi d n)
  | 0, n, k, hd, hn, hk => by
    obtain ⟨k, rfl⟩ := pred hk
    simp only [spec_BitsNeeded.l1, bitsM]; rw [if_neg (by omega)]
  | d + 1, n, k, hd, hn, hk => by
    obtain ⟨k, rfl⟩ := pred hk
    have hp := pw_pos (n - 1)
    have hp2 := pw_le (n := n - 1) (by omega)
    simp only [spec_BitsNeeded.l1, bitsM]
    rw [if_pos (by omega), wrap_id (x := n - 1) (by omega) (by omega), if_pos (by omega), shl_one (by omega), wrap_id (x := -pw (n - 1)) (by omega) (by omega), wrap_id (x := n + 1) (by omega) (by omega), spec_BitsNeeded_l1 lo hi d (n + 1) k (by omega) (by omega) (by omega)]
    rw [wrap_id (x := pw (n - 1) - 1) (by omega) (by omega)]
    by_cases c1 : lo ≥ -pw (n - 1)
    · by_cases c2 : hi < pw (n - 1)
      · rw [if_pos c1, if_pos (by omega), if_pos ⟨c1, c2⟩]
      · rw [if_pos c1, if_neg (by omega), if_neg (fun h => c2 h.2)]
    · rw [if_neg c1, if_neg (fun h => c1 h.1)]
theorem spec_BitsNeeded_l (xs : List Int) (b : Int) (w : Bool) (h1 : 2 ≤ b) (h2 : b ≤ 16) (hn : xs.length ≤ 1152921504606846976) : ∀ (r : List Int) (n k : Nat) (lo hi : Int), xs.drop n = r → (∀ x ∈ r, -1000 ≤ x ∧ x ≤ 1000) → -1000000000000 ≤ lo - 100000000 * r.length → lo + 100000000 * r.length ≤ 1000000000000 → -1000000000000 ≤ hi - 100000000 * r.length → hi + 100000000 * r.length ≤ 1000000000000 → r.length + 40 < k → spec_BitsNeeded.l0 k lo hi xs (xs.length : Int) n b w = some (bitsM (lo + lowM (pw (b - 1)) r) (hi + highM (pw (b - 1)) r) 39 2)
  | [], n, k, lo, hi, hd, hb, a1, a2, a3, a4, hk => by
    obtain ⟨k, rfl⟩ := pred (show 0 < k by omega)
    have := drop_nil hd
    simp only [List.length_nil] at hk
    simp only [spec_BitsNeeded.l0]; rw [if_neg (by omega), spec_BitsNeeded_l1 lo hi 39 2 k (by omega) (by omega) (by omega)]; simp [lowM, highM]
  | a :: r, n, k, lo, hi, hd, hb, a1, a2, a3, a4, hk => by
    obtain ⟨k, rfl⟩ := pred (show 0 < k by omega)
    obtain ⟨g1, g2, g3⟩ := drop_cons hd
    have b1 := hb a (by simp)
    simp only [List.length_cons] at hk a1 a2 a3 a4
    have hp := pw_pos (b - 1)
    have hp2 : pw (b - 1) ≤ 32768 := pw15 (by omega)
    have m1 := mul_bd2 (a := a) (c := -pw (b - 1)) (by omega) (by omega)
    have m2 := mul_bd2 (a := a) (c := pw (b - 1) - 1) (by omega) (by omega)
    simp only [spec_BitsNeeded.l0]
    rw [if_pos (by omega), if_pos (by omega), if_pos (by omega), g2, wrap_nat g1 hn]
    simp only [spec_wdLow_v b w h1 h2, spec_wdHigh_v b w h1 h2, spec_l1Least_v, spec_l1Most_v, Option.bind_some]
    rw [wrap_id (x := a * -pw (b - 1)) (by omega) (by omega), wrap_id (x := a * (pw (b - 1) - 1)) (by omega) (by omega), wrap_id (x := lo + min (a * -pw (b - 1)) (a * (pw (b - 1) - 1))) (by omega) (by omega), wrap_id (x := hi + max (a * -pw (b - 1)) (a * (pw (b - 1) - 1))) (by omega) (by omega)]
    rw [spec_BitsNeeded_l xs b w h1 h2 hn r (n + 1) k _ _ g3 (fun x hx => hb x (by simp [hx])) (by omega) (by omega) (by omega) (by omega) (by omega)]
    simp [lowM, highM, Int.add_assoc]
theorem spec_BitsNeeded_e (xs : List Int) (b : Int) (w : Bool) (hn : xs.length ≤ 1048576) : Ev (fun k => spec_BitsNeeded.f k xs b w) (if (weB xs && inR b 2 16) = true then bitsM (lowM (pw (b - 1)) xs) (highM (pw (b - 1)) xs) 39 2 else (0, false)) := by
  obtain ⟨K1, e1⟩ := spec_weGood_e xs (by omega)
  refine ⟨K1 + 100, fun k hk => ?_⟩
  obtain ⟨k, rfl⟩ := pred (show 0 < k by omega)
  show spec_BitsNeeded.f (k + 1) xs b w = _
  unfold spec_BitsNeeded.f
  simp only [e1 (k + 1) (by omega), spec_wdGood_v, Option.bind_some]
  cases hc : weB xs
  · simp [spec_BitsNeeded.j0]
  cases h0 : inR b 2 16
  · simp [spec_BitsNeeded.j0]
  obtain ⟨h1, h2⟩ := inR_true.mp h0
  have w1 := weB_true hc
  have := spec_BitsNeeded_l xs b w h1 h2 (by omega) xs 0 k 0 0 rfl w1.2.1 (by omega) (by omega) (by omega) (by omega) (by omega)
  rw [show ((0 : Nat) : Int) = 0 from rfl, Int.zero_add, Int.zero_add] at this
  simp [spec_BitsNeeded.j0, this]

theorem laws_toIntS_l (xs : List Int) (hn : xs.length ≤ 1152921504606846976) : ∀ (r : List Int) (n k : Nat) (ys : List Int), xs.drop n = r → n ≤ xs.length → ys.length = xs.length → ys.take n = xs.take n → r.length < k → laws_toIntS.l0 k xs ys n = some xs
  | [], n, k, ys, hd, hx, hy, ht, hk => by
    obtain ⟨k, rfl⟩ := pred hk
    have := drop_nil hd
    simp only [laws_toIntS.l0]; rw [if_neg (by omega)]
    rw [List.take_of_length_le (by omega), List.take_of_length_le (by omega)] at ht
    rw [ht]
  | a :: r, n, k, ys, hd, hx, hy, ht, hk => by
    obtain ⟨k, rfl⟩ := pred hk
    obtain ⟨h1, h2, h3⟩ := drop_cons hd
    simp only [laws_toIntS.l0]
    rw [if_pos (by omega), if_pos (by omega), if_pos (by omega), wrap_nat h1 hn]
    refine laws_toIntS_l xs hn r (n + 1) k _ h3 (by omega) (by simpa using hy) ?_ (by simp at hk; omega)
    rw [show ((n : Int)).toNat = n by omega, rd_nat xs n h1]
    apply List.ext_getElem?
    intro i
    by_cases hi : i < n
    · have := congrArg (fun z => z[i]?) ht
      simp only [List.getElem?_take, hi, if_true] at this
      simp only [List.getElem?_take, show i < n + 1 by omega, if_true]
      rw [List.getElem?_set_ne (by omega)]
      exact this
    · by_cases he : i = n
      · subst he
        simp [List.getElem?_take, List.getElem?_set, hy, h1]
      · simp [List.getElem?_take, show ¬ i < n + 1 by omega]
theorem laws_toIntS_e (xs : List Int) (hn : xs.length ≤ 1048576) : Ev (fun k => laws_toIntS.f k xs) xs :=
  ⟨xs.length + 1, fun k hk => by
    show laws_toIntS.f k xs = some xs
    unfold laws_toIntS.f
    rw [if_pos (by omega), if_pos (by omega)]
    exact laws_toIntS_l xs (by omega) xs 0 k _ rfl (by omega) (by simp) (by simp) (by omega)⟩

theorem laws_toWord_v (a : Int) (b : Bool) : laws_toWord.f a b = some (a, b) := rfl

theorem impl_in_v (a b c : Int) : impl_in.f a b c = some (inR a b c) := inR_le a b c

theorem impl_isWeights_1_v (x : Int) : impl_isWeights_1.f x = some (!inR x (-1000) 1000) := by simp only [impl_isWeights_1.f, impl_in_v, Option.bind_some]
theorem index_isWeights_l (xs : List Int) (hn : xs.length ≤ 1152921504606846976) : ∀ (r : List Int) (n k : Nat), xs.drop n = r → r.length < k → ∃ v : Int, slices_IndexFunc_int_int_impl_isWeights_1.l0 k xs (xs.length : Int) n = some v ∧ decide (v ≥ 0) = !(r.all fun x => inR x (-1000) 1000)
  | [], n, k, hd, hk => by
    obtain ⟨k, rfl⟩ := pred hk
    have := drop_nil hd
    refine ⟨-1, ?_, by simp⟩
    simp only [slices_IndexFunc_int_int_impl_isWeights_1.l0]; rw [if_neg (by omega)]
  | a :: r, n, k, hd, hk => by
    obtain ⟨k, rfl⟩ := pred hk
    obtain ⟨h1, h2, h3⟩ := drop_cons hd
    simp only [slices_IndexFunc_int_int_impl_isWeights_1.l0]
    rw [if_pos (by omega), if_pos (by omega), if_pos (by omega), h2, impl_isWeights_1_v, wrap_nat h1 hn]; simp only [Option.bind_some, List.all_cons]
    cases h : inR a (-1000) 1000
    · exact ⟨n, by simp, by simp⟩
    · obtain ⟨v, e, hv⟩ := index_isWeights_l xs hn r (n + 1) k h3 (by simp at hk; omega)
      exact ⟨v, by simpa using e, by simpa using hv⟩
theorem contains_isWeights_e (xs : List Int) (hn : xs.length ≤ 1152921504606846976) : Ev (fun k => slices_ContainsFunc_int_int_impl_isWeights_1.f k xs) (!(xs.all fun x => inR x (-1000) 1000)) :=
  ⟨xs.length + 1, fun k hk => by
    show slices_ContainsFunc_int_int_impl_isWeights_1.f k xs = some _
    obtain ⟨v, e, hv⟩ := index_isWeights_l xs hn xs 0 k rfl (by omega)
    have e' : slices_IndexFunc_int_int_impl_isWeights_1.f k xs = some v := e
    unfold slices_ContainsFunc_int_int_impl_isWeights_1.f
    rw [e']; simp only [Option.bind_some, hv]⟩

theorem impl_isWeights_e (xs : List Int) (hn : xs.length ≤ 1152921504606846976) : Ev (fun k => impl_isWeights.f k xs) (weB xs) := by
  obtain ⟨K, e⟩ := contains_isWeights_e xs hn
  refine ⟨K, fun k hk => ?_⟩
  show impl_isWeights.f k xs = some (weB xs)
  unfold impl_isWeights.f weB
  simp only [e k hk, impl_in_v, Option.bind_some, Bool.not_not, bind_and]

theorem impl_isWord_v (a : Int) (b : Bool) : impl_isWord.f a b = some (inR a 2 16) := by simp [impl_isWord.f, impl_in_v]

theorem impl_Word_ends_v (b : Int) (w : Bool) (h1 : 2 ≤ b) (h2 : b ≤ 16) : impl_Word_ends.f b w = some (-pw (b - 1), pw (b - 1) - 1) := by
  have := pw_pos (b - 1)
  have := pw_le (n := b - 1) (by omega)
  unfold impl_Word_ends.f
  rw [wrap_id (x := b - 1) (by omega) (by omega), if_pos (by omega), shl_one (by omega), wrap_id (x := -pw (b - 1)) (by omega) (by omega), wrap_id (x := pw (b - 1) - 1) (by omega) (by omega)]

theorem impl_BitsNeeded_l1 (lo hi : Int) : ∀ (d : Nat) (n : Int) (k : Nat), n + d = 41 → 2 ≤ n → d < k → impl_BitsNeeded.l1 k lo hi n = some (bitsM lo hi d n)
  | 0, n, k, hd, hn, hk => by
    obtain ⟨k, rfl⟩ := pred hk
    simp only [impl_BitsNeeded.l1, bitsM]; rw [if_neg (by omega)]
  | d + 1, n, k, hd, hn, hk => by
    obtain ⟨k, rfl⟩ := pred hk
    have hp := pw_pos (n - 1)
    have hp2 := pw_le (n := n - 1) (by omega)
    simp only [impl_BitsNeeded.l1, bitsM]
    rw [if_pos (by omega), wrap_id (x := n - 1) (by omega) (by omega), if_pos (by omega), shl_one (by omega), wrap_id (x := -pw (n - 1)) (by omega) (by omega), wrap_id (x := n + 1) (by omega) (by omega), impl_BitsNeeded_l1 lo hi d (n + 1) k (by omega) (by omega) (by omega)]
    by_cases c1 : lo ≥ -pw (n - 1)
    · by_cases c2 : hi < pw (n - 1)
      · rw [if_pos c1, if_pos (by omega), if_pos ⟨c1, c2⟩]
      · rw [if_pos c1, if_neg (by omega), if_neg (fun h => c2 h.2)]
    · rw [if_neg c1, if_neg (fun h => c1 h.1)]
theorem impl_BitsNeeded_l (xs : List Int) (b : Int) (w : Bool) (h1 : 2 ≤ b) (h2 : b ≤ 16) (hn : xs.length ≤ 1152921504606846976) : ∀ (r : List Int) (n k : Nat) (lo hi : Int), xs.drop n = r → (∀ x ∈ r, -1000 ≤ x ∧ x ≤ 1000) → -1000000000000 ≤ lo - 100000000 * r.length → lo + 100000000 * r.length ≤ 1000000000000 → -1000000000000 ≤ hi - 100000000 * r.length → hi + 100000000 * r.length ≤ 1000000000000 → r.length + 40 < k → impl_BitsNeeded.l0 k (-pw (b - 1)) (pw (b - 1) - 1) lo hi xs (xs.length : Int) n = some (bitsM (lo + lowM (pw (b - 1)) r) (hi + highM (pw (b - 1)) r) 39 2)
  | [], n, k, lo, hi, hd, hb, a1, a2, a3, a4, hk => by
    obtain ⟨k, rfl⟩ := pred (show 0 < k by omega)
    have := drop_nil hd
    simp only [List.length_nil] at hk
    simp only [impl_BitsNeeded.l0]; rw [if_neg (by omega), impl_BitsNeeded_l1 lo hi 39 2 k (by omega) (by omega) (by omega)]; simp [lowM, highM]
  | a :: r, n, k, lo, hi, hd, hb, a1, a2, a3, a4, hk => by
    obtain ⟨k, rfl⟩ := pred (show 0 < k by omega)
    obtain ⟨g1, g2, g3⟩ := drop_cons hd
    have b1 := hb a (by simp)
    simp only [List.length_cons] at hk a1 a2 a3 a4
    have hp := pw_pos (b - 1)
    have hp2 : pw (b - 1) ≤ 32768 := pw15 (by omega)
    have m1 := mul_bd2 (a := a) (c := -pw (b - 1)) (by omega) (by omega)
    have m2 := mul_bd2 (a := a) (c := pw (b - 1) - 1) (by omega) (by omega)
    simp only [impl_BitsNeeded.l0]
    rw [if_pos (by omega), if_pos (by omega), if_pos (by omega), g2, wrap_nat g1 hn]
    simp only [mn_min, mx_max]
    rw [wrap_id (x := a * -pw (b - 1)) (by omega) (by omega), wrap_id (x := a * (pw (b - 1) - 1)) (by omega) (by omega), wrap_id (x := lo + min (a * -pw (b - 1)) (a * (pw (b - 1) - 1))) (by omega) (by omega), wrap_id (x := hi + max (a * -pw (b - 1)) (a * (pw (b - 1) - 1))) (by omega) (by omega)]
    rw [impl_BitsNeeded_l xs b w h1 h2 hn r (n + 1) k _ _ g3 (fun x hx => hb x (by simp [hx])) (by omega) (by omega) (by omega) (by omega) (by omega)]
    simp [lowM, highM, Int.add_assoc]
theorem impl_BitsNeeded_e (xs : List Int) (b : Int) (w : Bool) (hn : xs.length ≤ 1048576) : Ev (fun k => impl_BitsNeeded.f k xs b w) (if (weB xs && inR b 2 16) = true then bitsM (lowM (pw (b - 1)) xs) (highM (pw (b - 1)) xs) 39 2 else (0, false)) := by
  obtain ⟨K1, e1⟩ := impl_isWeights_e xs (by omega)
  refine ⟨K1 + 100, fun k hk => ?_⟩
  obtain ⟨k, rfl⟩ := pred (show 0 < k by omega)
  show impl_BitsNeeded.f (k + 1) xs b w = _
  unfold impl_BitsNeeded.f
  simp only [e1 (k + 1) (by omega), impl_isWord_v, Option.bind_some]
  cases hc : weB xs
  · simp [impl_BitsNeeded.j0]
  cases h0 : inR b 2 16
  · simp [impl_BitsNeeded.j0]
  obtain ⟨h1, h2⟩ := inR_true.mp h0
  have w1 := weB_true hc
  have := impl_BitsNeeded_l xs b w h1 h2 (by omega) xs 0 k 0 0 rfl w1.2.1 (by omega) (by omega) (by omega) (by omega) (by omega)
  rw [show ((0 : Nat) : Int) = 0 from rfl, Int.zero_add, Int.zero_add] at this
  simp [impl_BitsNeeded.j0, this, impl_Word_ends_v b w h1 h2]

theorem laws_eqIntS_l (xs : List Int) (hn : xs.length ≤ 1152921504606846976) : ∀ (r : List Int) (n k : Nat), xs.drop n = r → r.length < k → laws_eqIntS.l0 k xs xs n = some true
  | [], n, k, hd, hk => by
    obtain ⟨k, rfl⟩ := pred hk
    have := drop_nil hd
    simp only [laws_eqIntS.l0]; rw [if_neg (by omega)]
  | a :: r, n, k, hd, hk => by
    obtain ⟨k, rfl⟩ := pred hk
    obtain ⟨h1, h2, h3⟩ := drop_cons hd
    simp only [laws_eqIntS.l0]
    rw [if_pos (by omega), if_pos (by omega), if_pos (by omega), if_pos trivial, wrap_nat h1 hn]
    exact laws_eqIntS_l xs hn r (n + 1) k h3 (by simp at hk; omega)
theorem laws_eqIntS_same (xs : List Int) (hn : xs.length ≤ 1152921504606846976) : Ev (fun k => laws_eqIntS.f k xs xs) true :=
  ⟨xs.length + 1, fun k hk => by
    show laws_eqIntS.f k xs xs = some true
    unfold laws_eqIntS.f
    rw [if_pos rfl]
    exact laws_eqIntS_l xs hn xs 0 k rfl (by omega)⟩

theorem FnExactBitsNeeded : laws_FnExactBitsNeeded.Pure := by
  intro l b w _ hl hw _
  by_cases h0 : (l.length : Int) > 1048576
  · exact ⟨0, by simp [laws_FnExactBitsNeeded.f, h0]⟩
  obtain ⟨K1, e1⟩ := laws_toIntS_e l (by omega)
  obtain ⟨K2, e2⟩ := laws_eqIntS_same l (by omega)
  obtain ⟨K3, e3⟩ := spec_BitsNeeded_e l b w (by omega)
  obtain ⟨K4, e4⟩ := impl_BitsNeeded_e l b w (by omega)
  refine ⟨K1 + K2 + K3 + K4 + 1, ?_⟩
  simp only [laws_FnExactBitsNeeded.f, laws_toWord_v, if_neg h0, e1 _ (show K1 ≤ K1 + K2 + K3 + K4 + 1 by omega), e3 _ (show K3 ≤ K1 + K2 + K3 + K4 + 1 by omega), e4 _ (show K4 ≤ K1 + K2 + K3 + K4 + 1 by omega), Option.bind_some]
  simp [laws_FnExactBitsNeeded.j0, e1 _ (show K1 ≤ K1 + K2 + K3 + K4 by omega), e2 _ (show K2 ≤ K1 + K2 + K3 + K4 by omega)]

end Go.Proofs.Ytepjolkmmnnobaa.Pure
