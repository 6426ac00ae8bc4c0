/- The plain statement behind the law FnExactIsSymmetric: its walk's numbers answer true. Conditions: the given statement's own (each number is an int; each slice within the reach). -/
import Derived.Test.YteponjafchejiaaQFnExactIsSymmetricx0
import Derived.Test.YteponjafchejiaaQFnExactIsSymmetricx1
import Derived.Test.YteponjafchejiaaQFnExactIsSymmetricx2
import Derived.Test.YteponjafchejiaaQFnExactIsSymmetricx3
import Derived.Test.YteponjafchejiaaBase
namespace Go.Proofs.Yteponjafchejiaa.Pure
open Go.RowKit Go.Proofs.Yteponjafchejiaa.QFnExactIsSymmetric Go.Proofs.YteponjafchejiaaW.PrintWords Go.Proofs.YteponjafchejiaaW.PrintLast Go.Proofs.YteponjafchejiaaW.PrintMore Go.Proofs.Yteponjafchejiaa.Base
set_option linter.unusedVariables false
set_option linter.unusedSimpArgs false

theorem laws_toIntS_l (xs : List Int) (hn : xs.length ≤ 1152921504606846976) : ∀ (r : List Int) (n k : Nat) (ys : List Int), xs.drop n = r → n ≤ xs.length → ys.length = xs.length → ys.take n = xs.take n → r.length < k → laws_toIntS.l0 k xs ys n = some xs
  | [], n, k, ys, hd, hx, hy, ht, hk => by
    obtain ⟨k, rfl⟩ := pred hk
    have := drop_nil hd
    simp only [laws_toIntS.l0]; rw [if_neg (by omega)]
    rw [List.take_of_length_le (by omega), List.take_of_length_le (by omega)] at ht
    rw [ht]
  | a :: r, n, k, ys, hd, hx, hy, ht, hk => by
    obtain ⟨k, rfl⟩ := pred hk
    obtain ⟨h1, h2, h3⟩ := drop_cons hd
    simp only [laws_toIntS.l0]
    rw [if_pos (by omega), if_pos (by omega), if_pos (by omega), wrap_nat h1 hn]
    refine laws_toIntS_l xs hn r (n + 1) k _ h3 (by omega) (by simpa using hy) ?_ (by simp at hk; omega)
    rw [show ((n : Int)).toNat = n by omega, rd_nat xs n h1]
    apply List.ext_getElem?
    intro i
    by_cases hi : i < n
    · have := congrArg (fun z => z[i]?) ht
      simp only [List.getElem?_take, hi, if_true] at this
      simp only [List.getElem?_take, show i < n + 1 by omega, if_true]
      rw [List.getElem?_set_ne (by omega)]
      exact this
    · by_cases he : i = n
      · subst he
        simp [List.getElem?_take, List.getElem?_set, hy, h1]
      · simp [List.getElem?_take, show ¬ i < n + 1 by omega]
theorem laws_toIntS_e (xs : List Int) (hn : xs.length ≤ 1048576) : Ev (fun k => laws_toIntS.f k xs) xs :=
  ⟨xs.length + 1, fun k hk => by
    show laws_toIntS.f k xs = some xs
    unfold laws_toIntS.f
    rw [if_pos (by omega), if_pos (by omega)]
    exact laws_toIntS_l xs (by omega) xs 0 k _ rfl (by omega) (by simp) (by simp) (by omega)⟩

theorem laws_eqIntS_l (xs : List Int) (hn : xs.length ≤ 1152921504606846976) : ∀ (r : List Int) (n k : Nat), xs.drop n = r → r.length < k → laws_eqIntS.l0 k xs xs n = some true
  | [], n, k, hd, hk => by
    obtain ⟨k, rfl⟩ := pred hk
    have := drop_nil hd
    simp only [laws_eqIntS.l0]; rw [if_neg (by omega)]
  | a :: r, n, k, hd, hk => by
    obtain ⟨k, rfl⟩ := pred hk
    obtain ⟨h1, h2, h3⟩ := drop_cons hd
    simp only [laws_eqIntS.l0]
    rw [if_pos (by omega), if_pos (by omega), if_pos (by omega), if_pos trivial, wrap_nat h1 hn]
    exact laws_eqIntS_l xs hn r (n + 1) k h3 (by simp at hk; omega)
theorem laws_eqIntS_same (xs : List Int) (hn : xs.length ≤ 1152921504606846976) : Ev (fun k => laws_eqIntS.f k xs xs) true :=
  ⟨xs.length + 1, fun k hk => by
    show laws_eqIntS.f k xs xs = some true
    unfold laws_eqIntS.f
    rw [if_pos rfl]
    exact laws_eqIntS_l xs hn xs 0 k rfl (by omega)⟩

theorem spec_l1In_v (a b c : Int) : spec_l1In.f a b c = some (inR a b c) := inR_ge a b c

theorem spec_l1All_l (lo hi : Int) (xs : List Int) (hn : xs.length ≤ 1152921504606846976) : ∀ (r : List Int) (n k : Nat), xs.drop n = r → r.length < k → spec_l1All.l0 k lo hi xs (xs.length : Int) n = some (r.all fun x => inR x lo hi)
  | [], n, k, hd, hk => by
    obtain ⟨k, rfl⟩ := pred hk
    have := drop_nil hd
    simp only [spec_l1All.l0]; rw [if_neg (by omega)]; rfl
  | a :: r, n, k, hd, hk => by
    obtain ⟨k, rfl⟩ := pred hk
    obtain ⟨h1, h2, h3⟩ := drop_cons hd
    simp only [spec_l1All.l0]
    rw [if_pos (by omega), if_pos (by omega), if_pos (by omega), h2, spec_l1In_v, wrap_nat h1 hn]; simp only [Option.bind_some, List.all_cons]
    cases h : inR a lo hi
    · simp
    · simp only [if_true, Bool.true_and]
      exact spec_l1All_l lo hi xs hn r (n + 1) k h3 (by simp at hk; omega)
theorem spec_l1All_e (lo hi : Int) (xs : List Int) (hn : xs.length ≤ 1152921504606846976) : Ev (fun k => spec_l1All.f k xs lo hi) (xs.all fun x => inR x lo hi) :=
  ⟨xs.length + 1, fun k hk => spec_l1All_l lo hi xs hn xs 0 k rfl (by omega)⟩

theorem spec_weGood_e (xs : List Int) (hn : xs.length ≤ 1152921504606846976) : Ev (fun k => spec_weGood.f k xs) (weB xs) := by
  obtain ⟨K, e⟩ := spec_l1All_e (-1000) 1000 xs hn
  refine ⟨K, fun k hk => ?_⟩
  show spec_weGood.f k xs = some (weB xs)
  unfold spec_weGood.f weB
  simp only [e k hk, spec_l1In_v, Option.bind_some, bind_and]

theorem spec_weBack_l (xs : List Int) (hn : xs.length ≤ 1048576) : ∀ (n k : Nat) (out : List Int), n ≤ xs.length → out = (xs.drop n).reverse → n < k → spec_weBack.l0 k xs out ((n : Int) - 1) = some xs.reverse
  | 0, k, out, h1, ho, hk => by
    obtain ⟨k, rfl⟩ := pred hk
    simp only [spec_weBack.l0]; rw [if_neg (by omega), ho]; simp
  | n + 1, k, out, h1, ho, hk => by
    obtain ⟨k, rfl⟩ := pred hk
    have hl : out.length ≤ xs.length := by rw [ho]; simp
    simp only [spec_weBack.l0]
    rw [if_pos (by omega), if_pos (by omega), if_pos (by omega), if_pos (by omega), wrap_id (by omega) (by omega), show ((n + 1 : Nat) : Int) - 1 = (n : Int) by omega, rd_nat xs n (by omega)]
    refine spec_weBack_l xs hn n k _ (by omega) ?_ (by omega)
    rw [ho, List.drop_eq_getElem_cons (show n < xs.length by omega), List.reverse_cons]
theorem spec_weBack_e (xs : List Int) (hn : xs.length ≤ 1048576) : Ev (fun k => spec_weBack.f k xs) xs.reverse :=
  ⟨xs.length + 1, fun k hk => by
    show spec_weBack.f k xs = _
    unfold spec_weBack.f
    rw [wrap_id (by omega) (by omega)]
    exact spec_weBack_l xs hn xs.length k [] (by omega) (by simp) (by omega)⟩

theorem spec_weSame_l (a b : List Int) (hn : a.length ≤ 1152921504606846976) (hl : a.length = b.length) : ∀ (r : List Int) (n k : Nat), a.drop n = r → r.length < k → spec_weSame.l0 k a b (a.length : Int) n = some (decide (r = b.drop n))
  | [], n, k, hd, hk => by
    obtain ⟨k, rfl⟩ := pred hk
    have := drop_nil hd
    simp only [spec_weSame.l0]; rw [if_neg (by omega)]
    have : b.drop n = [] := List.drop_eq_nil_of_le (by omega)
    simp [this]
  | x :: r, n, k, hd, hk => by
    obtain ⟨k, rfl⟩ := pred hk
    obtain ⟨h1, h2, h3⟩ := drop_cons hd
    have hb : b.drop n = b[n] :: b.drop (n + 1) := List.drop_eq_getElem_cons (by omega)
    obtain ⟨g1, g2, g3⟩ := drop_cons hb
    simp only [spec_weSame.l0]
    rw [if_pos (by omega), if_pos (by omega), if_pos (by omega), if_pos (by omega), h2, g2, wrap_nat h1 hn, hb]
    by_cases c : x = b[n]
    · rw [if_pos c, spec_weSame_l a b hn hl r (n + 1) k h3 (by simp at hk; omega)]; congr 1; exact decide_eq_decide.mpr ⟨fun h => by rw [h, c], fun h => (List.cons.inj h).2⟩
    · rw [if_neg c, decide_eq_false (fun h => c (List.cons.inj h).1)]
theorem spec_weSame_e (a b : List Int) (hn : a.length ≤ 1152921504606846976) : Ev (fun k => spec_weSame.f k a b) (decide (a = b)) :=
  ⟨a.length + 1, fun k hk => by
    show spec_weSame.f k a b = _
    unfold spec_weSame.f
    by_cases hl : a.length = b.length
    · rw [if_pos (by omega)]
      have := spec_weSame_l a b hn hl a 0 k rfl (by omega)
      rw [show ((0 : Nat) : Int) = 0 from rfl] at this
      simpa using this
    · rw [if_neg (by omega)]
      have : a ≠ b := fun h => hl (by rw [h])
      simp [this]⟩

theorem spec_IsSymmetric_e (xs : List Int) (hn : xs.length ≤ 1048576) : Ev (fun k => spec_IsSymmetric.f k xs) (if weB xs = true then (decide (xs.reverse = xs), true) else (false, false)) := by
  obtain ⟨K1, e1⟩ := spec_weGood_e xs (by omega)
  obtain ⟨K2, e2⟩ := spec_weBack_e xs hn
  obtain ⟨K3, e3⟩ := spec_weSame_e xs xs.reverse (by omega)
  refine ⟨K1 + K2 + K3, fun k hk => ?_⟩
  show spec_IsSymmetric.f k xs = _
  unfold spec_IsSymmetric.f
  cases h : weB xs
  · simp [e1 k (by omega), h]
  · simp only [e1 k (by omega), e2 k (by omega), e3 k (by omega), h, Option.bind_some, if_true]
    rw [show decide (xs = xs.reverse) = decide (xs.reverse = xs) from decide_eq_decide.mpr eq_comm]

theorem impl_in_v (a b c : Int) : impl_in.f a b c = some (inR a b c) := inR_le a b c

theorem impl_isWeights_1_v (x : Int) : impl_isWeights_1.f x = some (!inR x (-1000) 1000) := by simp only [impl_isWeights_1.f, impl_in_v, Option.bind_some]
theorem index_isWeights_l (xs : List Int) (hn : xs.length ≤ 1152921504606846976) : ∀ (r : List Int) (n k : Nat), xs.drop n = r → r.length < k → ∃ v : Int, slices_IndexFunc_int_int_impl_isWeights_1.l0 k xs (xs.length : Int) n = some v ∧ decide (v ≥ 0) = !(r.all fun x => inR x (-1000) 1000)
  | [], n, k, hd, hk => by
    obtain ⟨k, rfl⟩ := pred hk
    have := drop_nil hd
    refine ⟨-1, ?_, by simp⟩
    simp only [slices_IndexFunc_int_int_impl_isWeights_1.l0]; rw [if_neg (by omega)]
  | a :: r, n, k, hd, hk => by
    obtain ⟨k, rfl⟩ := pred hk
    obtain ⟨h1, h2, h3⟩ := drop_cons hd
    simp only [slices_IndexFunc_int_int_impl_isWeights_1.l0]
    rw [if_pos (by omega), if_pos (by omega), if_pos (by omega), h2, impl_isWeights_1_v, wrap_nat h1 hn]; simp only [Option.bind_some, List.all_cons]
    cases h : inR a (-1000) 1000
    · exact ⟨n, by simp, by simp⟩
    · obtain ⟨v, e, hv⟩ := index_isWeights_l xs hn r (n + 1) k h3 (by simp at hk; omega)
      exact ⟨v, by simpa using e, by simpa using hv⟩
theorem contains_isWeights_e (xs : List Int) (hn : xs.length ≤ 1152921504606846976) : Ev (fun k => slices_ContainsFunc_int_int_impl_isWeights_1.f k xs) (!(xs.all fun x => inR x (-1000) 1000)) :=
  ⟨xs.length + 1, fun k hk => by
    show slices_ContainsFunc_int_int_impl_isWeights_1.f k xs = some _
    obtain ⟨v, e, hv⟩ := index_isWeights_l xs hn xs 0 k rfl (by omega)
    have e' : slices_IndexFunc_int_int_impl_isWeights_1.f k xs = some v := e
    unfold slices_ContainsFunc_int_int_impl_isWeights_1.f
    rw [e']; simp only [Option.bind_some, hv]⟩

theorem impl_isWeights_e (xs : List Int) (hn : xs.length ≤ 1152921504606846976) : Ev (fun k => impl_isWeights.f k xs) (weB xs) := by
  obtain ⟨K, e⟩ := contains_isWeights_e xs hn
  refine ⟨K, fun k hk => ?_⟩
  show impl_isWeights.f k xs = some (weB xs)
  unfold impl_isWeights.f weB
  simp only [e k hk, impl_in_v, Option.bind_some, Bool.not_not, bind_and]

theorem slices_Reverse_int_int_l (xs : List Int) (hn : xs.length ≤ 1048576) : ∀ (d i k : Nat) (ys : List Int), xs.length ≤ 2 * i + d → i ≤ xs.length → ys.length = xs.length → (∀ j, j < xs.length → ys[j]? = if j < i ∨ xs.length ≤ j + i then xs.reverse[j]? else xs[j]?) → d < k → slices_Reverse_int_int.l0 k ys i ((xs.length : Int) - 1 - i) = some xs.reverse
  | d, i, 0, ys, hd, hi, hy, hj, hk => by omega
  | d, i, k + 1, ys, hd, hi, hy, hj, hk => by
    simp only [slices_Reverse_int_int.l0]
    by_cases c : (i : Int) < (xs.length : Int) - 1 - i
    · have e3 : ((xs.length : Int) - 1 - i).toNat = xs.length - 1 - i := by omega
      obtain ⟨d, rfl⟩ : ∃ d', d = d' + 1 := ⟨d - 1, by omega⟩
      have r1 : rd ys i = xs[i] := by
        have := hj i (by omega)
        rw [if_neg (by omega), List.getElem?_eq_getElem (by omega), List.getElem?_eq_getElem (by omega)] at this
        rw [rd_nat ys i (by omega)]
        exact Option.some.inj this
      have r2 : rd ys ((xs.length : Int) - 1 - i) = xs[xs.length - 1 - i] := by
        have := hj (xs.length - 1 - i) (by omega)
        rw [if_neg (by omega), List.getElem?_eq_getElem (by omega), List.getElem?_eq_getElem (by omega)] at this
        rw [show (xs.length : Int) - 1 - i = ((xs.length - 1 - i : Nat) : Int) by omega, rd_nat ys _ (by omega)]
        exact Option.some.inj this
      rw [if_pos c, if_pos (by omega), if_pos (by omega), if_pos (by omega), if_pos (by omega), wrap_nat (m := xs.length) (by omega) (by omega), wrap_id (by omega) (by omega), e3, r1, r2, show ((i : Int)).toNat = i by omega, show (xs.length : Int) - 1 - (i : Int) - 1 = (xs.length : Int) - 1 - ((i + 1 : Nat) : Int) by omega]
      refine slices_Reverse_int_int_l xs hn d (i + 1) k _ (by omega) (by omega) (by simpa using hy) ?_ (by omega)
      intro j hjl
      rw [List.getElem?_set, List.getElem?_set]
      have hjj := hj j hjl
      by_cases a1 : xs.length - 1 - i = j
      · rw [if_pos a1, if_pos (by simp; omega), if_pos (by omega), List.getElem?_reverse (by omega)]
        rw [List.getElem?_eq_getElem (by omega)]
        congr 2; omega
      · rw [if_neg a1]
        by_cases a2 : i = j
        · rw [if_pos a2, if_pos (by omega), if_pos (by omega), List.getElem?_reverse (by omega), List.getElem?_eq_getElem (by omega)]
          congr 2; omega
        · rw [if_neg a2, hjj]
          by_cases a3 : j < i ∨ xs.length ≤ j + i
          · rw [if_pos a3, if_pos (by omega)]
          · rw [if_neg a3, if_neg (by omega)]
    · rw [if_neg c]
      congr 1
      apply List.ext_getElem?
      intro j
      by_cases hjl : j < xs.length
      · rw [hj j hjl]
        split
        · rfl
        · next h =>
          rw [List.getElem?_reverse (by omega)]
          congr 1; omega
      · rw [List.getElem?_eq_none (by omega), List.getElem?_eq_none (by simp; omega)]
theorem slices_Reverse_int_int_e (xs : List Int) (hn : xs.length ≤ 1048576) : Ev (fun k => slices_Reverse_int_int.f k xs) xs.reverse :=
  ⟨xs.length + 1, fun k hk => by
    show slices_Reverse_int_int.f k xs = _
    unfold slices_Reverse_int_int.f
    rw [wrap_id (by omega) (by omega)]
    have := slices_Reverse_int_int_l xs hn xs.length 0 k xs (by omega) (by omega) rfl (by intro j hj; rw [if_neg (by omega)]) (by omega)
    rw [show ((0 : Nat) : Int) = 0 from rfl, Int.sub_zero] at this
    exact this⟩

theorem impl_backwards_e (xs : List Int) (hn : xs.length ≤ 1048576) : Ev (fun k => impl_backwards.f k xs) xs.reverse := by
  obtain ⟨K, e⟩ := slices_Reverse_int_int_e xs hn
  refine ⟨K, fun k hk => ?_⟩
  show impl_backwards.f k xs = _
  unfold impl_backwards.f slices_Clone_int_int.f
  rw [if_pos (by omega)]
  simp only [Option.bind_some, e k hk]

theorem slices_Equal_int_int_l (a b : List Int) (hn : a.length ≤ 1152921504606846976) (hl : a.length = b.length) : ∀ (r : List Int) (n k : Nat), a.drop n = r → r.length < k → slices_Equal_int_int.l0 k a b (a.length : Int) n = some (decide (r = b.drop n))
  | [], n, k, hd, hk => by
    obtain ⟨k, rfl⟩ := pred hk
    have := drop_nil hd
    simp only [slices_Equal_int_int.l0]; rw [if_neg (by omega)]
    have : b.drop n = [] := List.drop_eq_nil_of_le (by omega)
    simp [this]
  | x :: r, n, k, hd, hk => by
    obtain ⟨k, rfl⟩ := pred hk
    obtain ⟨h1, h2, h3⟩ := drop_cons hd
    have hb : b.drop n = b[n] :: b.drop (n + 1) := List.drop_eq_getElem_cons (by omega)
    obtain ⟨g1, g2, g3⟩ := drop_cons hb
    simp only [slices_Equal_int_int.l0]
    rw [if_pos (by omega), if_pos (by omega), if_pos (by omega), if_pos (by omega), h2, g2, wrap_nat h1 hn, hb]
    by_cases c : x = b[n]
    · rw [if_pos c, slices_Equal_int_int_l a b hn hl r (n + 1) k h3 (by simp at hk; omega)]; congr 1; exact decide_eq_decide.mpr ⟨fun h => by rw [h, c], fun h => (List.cons.inj h).2⟩
    · rw [if_neg c, decide_eq_false (fun h => c (List.cons.inj h).1)]
theorem slices_Equal_int_int_e (a b : List Int) (hn : a.length ≤ 1152921504606846976) : Ev (fun k => slices_Equal_int_int.f k a b) (decide (a = b)) :=
  ⟨a.length + 1, fun k hk => by
    show slices_Equal_int_int.f k a b = _
    unfold slices_Equal_int_int.f
    by_cases hl : a.length = b.length
    · rw [if_pos (by omega)]
      have := slices_Equal_int_int_l a b hn hl a 0 k rfl (by omega)
      rw [show ((0 : Nat) : Int) = 0 from rfl] at this
      simpa using this
    · rw [if_neg (by omega)]
      have : a ≠ b := fun h => hl (by rw [h])
      simp [this]⟩

theorem impl_IsSymmetric_e (xs : List Int) (hn : xs.length ≤ 1048576) : Ev (fun k => impl_IsSymmetric.f k xs) (if weB xs = true then (decide (xs.reverse = xs), true) else (false, false)) := by
  obtain ⟨K1, e1⟩ := impl_isWeights_e xs (by omega)
  obtain ⟨K2, e2⟩ := impl_backwards_e xs hn
  obtain ⟨K3, e3⟩ := slices_Equal_int_int_e xs.reverse xs (by simp; omega)
  refine ⟨K1 + K2 + K3, fun k hk => ?_⟩
  show impl_IsSymmetric.f k xs = _
  unfold impl_IsSymmetric.f
  cases h : weB xs
  · simp [e1 k (by omega), h]
  · simp only [e1 k (by omega), e2 k (by omega), e3 k (by omega), h, Option.bind_some, if_true]

theorem FnExactIsSymmetric : laws_FnExactIsSymmetric.Pure := by
  intro l _ hl hw
  by_cases h0 : (l.length : Int) > 1048576
  · exact ⟨0, by simp [laws_FnExactIsSymmetric.f, h0]⟩
  obtain ⟨K1, e1⟩ := laws_toIntS_e l (by omega)
  obtain ⟨K2, e2⟩ := laws_eqIntS_same l (by omega)
  obtain ⟨K3, e3⟩ := spec_IsSymmetric_e l (by omega)
  obtain ⟨K4, e4⟩ := impl_IsSymmetric_e l (by omega)
  refine ⟨K1 + K2 + K3 + K4 + 1, ?_⟩
  simp only [laws_FnExactIsSymmetric.f, if_neg h0, e1 _ (show K1 ≤ K1 + K2 + K3 + K4 + 1 by omega), e3 _ (show K3 ≤ K1 + K2 + K3 + K4 + 1 by omega), e4 _ (show K4 ≤ K1 + K2 + K3 + K4 + 1 by omega), Option.bind_some]
  simp [laws_FnExactIsSymmetric.j0, e1 _ (show K1 ≤ K1 + K2 + K3 + K4 by omega), e2 _ (show K2 ≤ K1 + K2 + K3 + K4 by omega)]

end Go.Proofs.Yteponjafchejiaa.Pure
