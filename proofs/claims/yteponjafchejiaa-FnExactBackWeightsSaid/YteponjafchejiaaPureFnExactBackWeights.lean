/- The plain statement behind the law FnExactBackWeights: its walk's numbers answer true. Conditions: the given statement's own (each number is an int; each slice within the reach). -/
import Derived.Test.YteponjafchejiaaQFnExactBackWeightsx0
import Derived.Test.YteponjafchejiaaQFnExactBackWeightsx1
import Derived.Test.YteponjafchejiaaQFnExactBackWeightsx2
import Derived.Test.YteponjafchejiaaQFnExactBackWeightsx3
import Derived.Test.YteponjafchejiaaBase
namespace Go.Proofs.Yteponjafchejiaa.Pure
open Go.RowKit Go.Proofs.Yteponjafchejiaa.QFnExactBackWeights Go.Proofs.YteponjafchejiaaW.PrintWords Go.Proofs.YteponjafchejiaaW.PrintLast Go.Proofs.YteponjafchejiaaW.PrintMore Go.Proofs.Yteponjafchejiaa.Base
set_option linter.unusedVariables false
set_option linter.unusedSimpArgs false

theorem laws_toIntS_l (xs : List Int) (hn : xs.length ≤ 1152921504606846976) : ∀ (r : List Int) (n k : Nat) (ys : List Int), xs.drop n = r → n ≤ xs.length → ys.length = xs.length → ys.take n = xs.take n → r.length < k → laws_toIntS.l0 k xs ys n = some xs
  | [], n, k, ys, hd, hx, hy, ht, hk => by
    obtain ⟨k, rfl⟩ := pred hk
    have := drop_nil hd
    simp only [laws_toIntS.l0]; rw [if_neg (by omega)]
    rw [List.take_of_length_le (by omega), List.take_of_length_le (by omega)] at ht
    rw [ht]
  | a :: r, n, k, ys, hd, hx, hy, ht, hk => by
    obtain ⟨k, rfl⟩ := pred hk
    obtain ⟨h1, h2, h3⟩ := drop_cons hd
    simp only [laws_toIntS.l0]
    rw [if_pos (by omega), if_pos (by omega), if_pos (by omega), wrap_nat h1 hn]
    refine laws_toIntS_l xs hn r (n + 1) k _ h3 (by omega) (by simpa using hy) ?_ (by simp at hk; omega)
    rw [show ((n : Int)).toNat = n by omega, rd_nat xs n h1]
    apply List.ext_getElem?
    intro i
    by_cases hi : i < n
    · have := congrArg (fun z => z[i]?) ht
      simp only [List.getElem?_take, hi, if_true] at this
      simp only [List.getElem?_take, show i < n + 1 by omega, if_true]
      rw [List.getElem?_set_ne (by omega)]
      exact this
    · by_cases he : i = n
      · subst he
        simp [List.getElem?_take, List.getElem?_set, hy, h1]
      · simp [List.getElem?_take, show ¬ i < n + 1 by omega]
theorem laws_toIntS_e (xs : List Int) (hn : xs.length ≤ 1048576) : Ev (fun k => laws_toIntS.f k xs) xs :=
  ⟨xs.length + 1, fun k hk => by
    show laws_toIntS.f k xs = some xs
    unfold laws_toIntS.f
    rw [if_pos (by omega), if_pos (by omega)]
    exact laws_toIntS_l xs (by omega) xs 0 k _ rfl (by omega) (by simp) (by simp) (by omega)⟩

theorem laws_eqIntS_l (xs : List Int) (hn : xs.length ≤ 1152921504606846976) : ∀ (r : List Int) (n k : Nat), xs.drop n = r → r.length < k → laws_eqIntS.l0 k xs xs n = some true
  | [], n, k, hd, hk => by
    obtain ⟨k, rfl⟩ := pred hk
    have := drop_nil hd
    simp only [laws_eqIntS.l0]; rw [if_neg (by omega)]
  | a :: r, n, k, hd, hk => by
    obtain ⟨k, rfl⟩ := pred hk
    obtain ⟨h1, h2, h3⟩ := drop_cons hd
    simp only [laws_eqIntS.l0]
    rw [if_pos (by omega), if_pos (by omega), if_pos (by omega), if_pos trivial, wrap_nat h1 hn]
    exact laws_eqIntS_l xs hn r (n + 1) k h3 (by simp at hk; omega)
theorem laws_eqIntS_same (xs : List Int) (hn : xs.length ≤ 1152921504606846976) : Ev (fun k => laws_eqIntS.f k xs xs) true :=
  ⟨xs.length + 1, fun k hk => by
    show laws_eqIntS.f k xs xs = some true
    unfold laws_eqIntS.f
    rw [if_pos rfl]
    exact laws_eqIntS_l xs hn xs 0 k rfl (by omega)⟩

theorem laws_markIntS_l (s : Int) (len : Nat) (hs : 0 ≤ s) (hs2 : s ≤ 1000000000000) (hn : len ≤ 1000000000000) : ∀ (d n k : Nat) (ys : List Int), n + d = len → ys.length = len → ys.take n = (marks s len).take n → d < k → laws_markIntS.l0 k ys (s + n) n = some (s + len, marks s len)
  | 0, n, k, ys, hd, hy, ht, hk => by
    obtain ⟨k, rfl⟩ := pred hk
    simp only [laws_markIntS.l0]; rw [if_neg (by omega)]
    rw [List.take_of_length_le (by omega), List.take_of_length_le (by rw [marks_length]; omega)] at ht
    rw [ht, show n = len by omega]
  | d + 1, n, k, ys, hd, hy, ht, hk => by
    obtain ⟨k, rfl⟩ := pred hk
    simp only [laws_markIntS.l0]
    rw [if_pos (by omega), if_pos (by omega), wrap_nat (m := len) (by omega) (by omega), wrap_id (x := s + n + 1) (by omega) (by omega), show s + (n : Int) + 1 = s + ((n + 1 : Nat) : Int) by omega, show ((n : Int)).toNat = n by omega]
    exact laws_markIntS_l s len hs hs2 hn d (n + 1) k _ (by omega) (by simpa using hy) (set_take (by rw [marks_length, hy]) (by rw [marks_length]; omega) ht (marks_get s len n (by omega))) (by omega)
theorem laws_markIntS_e (xs : List Int) (s : Int) (hs : 0 ≤ s) (hs2 : s ≤ 1000000000000) (hn : xs.length ≤ 1048576) : Ev (fun k => laws_markIntS.f k xs s) (s + xs.length, marks s xs.length) :=
  ⟨xs.length + 1, fun k hk => by
    have := laws_markIntS_l s xs.length hs hs2 (by omega) xs.length 0 k xs (by omega) rfl (by simp) (by omega)
    simpa [laws_markIntS.f] using this⟩

theorem laws_heldIntS_l (s : Int) (len : Nat) (hs : 0 ≤ s) (hs2 : s ≤ 1000000000000) (hn : len ≤ 1000000000000) : ∀ (d n k : Nat), n + d = len → d < k → laws_heldIntS.l0 k (marks s len) (s + n) n = some (s + len)
  | 0, n, k, hd, hk => by
    obtain ⟨k, rfl⟩ := pred hk
    simp only [laws_heldIntS.l0, marks_length]; rw [if_neg (by omega), show n = len by omega]
  | d + 1, n, k, hd, hk => by
    obtain ⟨k, rfl⟩ := pred hk
    simp only [laws_heldIntS.l0, marks_length]
    have hr : rd (marks s len) n = s + n := by simp [rd, List.getD, marks_get s len n (by omega)]
    rw [if_pos (by omega), if_pos (by omega), if_pos hr, wrap_nat (m := len) (by omega) (by omega), wrap_id (x := s + n + 1) (by omega) (by omega), show s + (n : Int) + 1 = s + ((n + 1 : Nat) : Int) by omega]
    exact laws_heldIntS_l s len hs hs2 hn d (n + 1) k (by omega) (by omega)
theorem laws_heldIntS_e (n : Nat) (s : Int) (hs : 0 ≤ s) (hs2 : s ≤ 1000000000000) (hn : n ≤ 1048576) : Ev (fun k => laws_heldIntS.f k (marks s n) s) (s + n) :=
  ⟨n + 1, fun k hk => by
    have := laws_heldIntS_l s n hs hs2 (by omega) n 0 k (by omega) (by omega)
    simpa [laws_heldIntS.f] using this⟩

theorem spec_l1In_v (a b c : Int) : spec_l1In.f a b c = some (inR a b c) := inR_ge a b c

theorem spec_l1All_l (lo hi : Int) (xs : List Int) (hn : xs.length ≤ 1152921504606846976) : ∀ (r : List Int) (n k : Nat), xs.drop n = r → r.length < k → spec_l1All.l0 k lo hi xs (xs.length : Int) n = some (r.all fun x => inR x lo hi)
  | [], n, k, hd, hk => by
    obtain ⟨k, rfl⟩ := pred hk
    have := drop_nil hd
    simp only [spec_l1All.l0]; rw [if_neg (by omega)]; rfl
  | a :: r, n, k, hd, hk => by
    obtain ⟨k, rfl⟩ := pred hk
    obtain ⟨h1, h2, h3⟩ := drop_cons hd
    simp only [spec_l1All.l0]
    rw [if_pos (by omega), if_pos (by omega), if_pos (by omega), h2, spec_l1In_v, wrap_nat h1 hn]; simp only [Option.bind_some, List.all_cons]
    cases h : inR a lo hi
    · simp
    · simp only [if_true, Bool.true_and]
      exact spec_l1All_l lo hi xs hn r (n + 1) k h3 (by simp at hk; omega)
theorem spec_l1All_e (lo hi : Int) (xs : List Int) (hn : xs.length ≤ 1152921504606846976) : Ev (fun k => spec_l1All.f k xs lo hi) (xs.all fun x => inR x lo hi) :=
  ⟨xs.length + 1, fun k hk => spec_l1All_l lo hi xs hn xs 0 k rfl (by omega)⟩

theorem spec_weGood_e (xs : List Int) (hn : xs.length ≤ 1152921504606846976) : Ev (fun k => spec_weGood.f k xs) (weB xs) := by
  obtain ⟨K, e⟩ := spec_l1All_e (-1000) 1000 xs hn
  refine ⟨K, fun k hk => ?_⟩
  show spec_weGood.f k xs = some (weB xs)
  unfold spec_weGood.f weB
  simp only [e k hk, spec_l1In_v, Option.bind_some, bind_and]

theorem spec_weBack_l (xs : List Int) (hn : xs.length ≤ 1048576) : ∀ (n k : Nat) (out : List Int), n ≤ xs.length → out = (xs.drop n).reverse → n < k → spec_weBack.l0 k xs out ((n : Int) - 1) = some xs.reverse
  | 0, k, out, h1, ho, hk => by
    obtain ⟨k, rfl⟩ := pred hk
    simp only [spec_weBack.l0]; rw [if_neg (by omega), ho]; simp
  | n + 1, k, out, h1, ho, hk => by
    obtain ⟨k, rfl⟩ := pred hk
    have hl : out.length ≤ xs.length := by rw [ho]; simp
    simp only [spec_weBack.l0]
    rw [if_pos (by omega), if_pos (by omega), if_pos (by omega), if_pos (by omega), wrap_id (by omega) (by omega), show ((n + 1 : Nat) : Int) - 1 = (n : Int) by omega, rd_nat xs n (by omega)]
    refine spec_weBack_l xs hn n k _ (by omega) ?_ (by omega)
    rw [ho, List.drop_eq_getElem_cons (show n < xs.length by omega), List.reverse_cons]
theorem spec_weBack_e (xs : List Int) (hn : xs.length ≤ 1048576) : Ev (fun k => spec_weBack.f k xs) xs.reverse :=
  ⟨xs.length + 1, fun k hk => by
    show spec_weBack.f k xs = _
    unfold spec_weBack.f
    rw [wrap_id (by omega) (by omega)]
    exact spec_weBack_l xs hn xs.length k [] (by omega) (by simp) (by omega)⟩

theorem spec_BackWeights_e (xs : List Int) (hn : xs.length ≤ 1048576) : Ev (fun k => spec_BackWeights.f k xs) (if weB xs = true then (xs.reverse, true) else ([], false)) := by
  obtain ⟨K1, e1⟩ := spec_weGood_e xs (by omega)
  obtain ⟨K2, e2⟩ := spec_weBack_e xs hn
  refine ⟨K1 + K2, fun k hk => ?_⟩
  show spec_BackWeights.f k xs = _
  unfold spec_BackWeights.f
  cases h : weB xs <;> simp [e1 k (by omega), e2 k (by omega), h]

theorem impl_in_v (a b c : Int) : impl_in.f a b c = some (inR a b c) := inR_le a b c

theorem impl_isWeights_1_v (x : Int) : impl_isWeights_1.f x = some (!inR x (-1000) 1000) := by simp only [impl_isWeights_1.f, impl_in_v, Option.bind_some]
theorem index_isWeights_l (xs : List Int) (hn : xs.length ≤ 1152921504606846976) : ∀ (r : List Int) (n k : Nat), xs.drop n = r → r.length < k → ∃ v : Int, slices_IndexFunc_int_int_impl_isWeights_1.l0 k xs (xs.length : Int) n = some v ∧ decide (v ≥ 0) = !(r.all fun x => inR x (-1000) 1000)
  | [], n, k, hd, hk => by
    obtain ⟨k, rfl⟩ := pred hk
    have := drop_nil hd
    refine ⟨-1, ?_, by simp⟩
    simp only [slices_IndexFunc_int_int_impl_isWeights_1.l0]; rw [if_neg (by omega)]
  | a :: r, n, k, hd, hk => by
    obtain ⟨k, rfl⟩ := pred hk
    obtain ⟨h1, h2, h3⟩ := drop_cons hd
    simp only [slices_IndexFunc_int_int_impl_isWeights_1.l0]
    rw [if_pos (by omega), if_pos (by omega), if_pos (by omega), h2, impl_isWeights_1_v, wrap_nat h1 hn]; simp only [Option.bind_some, List.all_cons]
    cases h : inR a (-1000) 1000
    · exact ⟨n, by simp, by simp⟩
    · obtain ⟨v, e, hv⟩ := index_isWeights_l xs hn r (n + 1) k h3 (by simp at hk; omega)
      exact ⟨v, by simpa using e, by simpa using hv⟩
theorem contains_isWeights_e (xs : List Int) (hn : xs.length ≤ 1152921504606846976) : Ev (fun k => slices_ContainsFunc_int_int_impl_isWeights_1.f k xs) (!(xs.all fun x => inR x (-1000) 1000)) :=
  ⟨xs.length + 1, fun k hk => by
    show slices_ContainsFunc_int_int_impl_isWeights_1.f k xs = some _
    obtain ⟨v, e, hv⟩ := index_isWeights_l xs hn xs 0 k rfl (by omega)
    have e' : slices_IndexFunc_int_int_impl_isWeights_1.f k xs = some v := e
    unfold slices_ContainsFunc_int_int_impl_isWeights_1.f
    rw [e']; simp only [Option.bind_some, hv]⟩

theorem impl_isWeights_e (xs : List Int) (hn : xs.length ≤ 1152921504606846976) : Ev (fun k => impl_isWeights.f k xs) (weB xs) := by
  obtain ⟨K, e⟩ := contains_isWeights_e xs hn
  refine ⟨K, fun k hk => ?_⟩
  show impl_isWeights.f k xs = some (weB xs)
  unfold impl_isWeights.f weB
  simp only [e k hk, impl_in_v, Option.bind_some, Bool.not_not, bind_and]

theorem slices_Reverse_int_int_l (xs : List Int) (hn : xs.length ≤ 1048576) : ∀ (d i k : Nat) (ys : List Int), xs.length ≤ 2 * i + d → i ≤ xs.length → ys.length = xs.length → (∀ j, j < xs.length → ys[j]? = if j < i ∨ xs.length ≤ j + i then xs.reverse[j]? else xs[j]?) → d < k → slices_Reverse_int_int.l0 k ys i ((xs.length : Int) - 1 - i) = some xs.reverse
  | d, i, 0, ys, hd, hi, hy, hj, hk => by omega
  | d, i, k + 1, ys, hd, hi, hy, hj, hk => by
    simp only [slices_Reverse_int_int.l0]
    by_cases c : (i : Int) < (xs.length : Int) - 1 - i
    · have e3 : ((xs.length : Int) - 1 - i).toNat = xs.length - 1 - i := by omega
      obtain ⟨d, rfl⟩ : ∃ d', d = d' + 1 := ⟨d - 1, by omega⟩
      have r1 : rd ys i = xs[i] := by
        have := hj i (by omega)
        rw [if_neg (by omega), List.getElem?_eq_getElem (by omega), List.getElem?_eq_getElem (by omega)] at this
        rw [rd_nat ys i (by omega)]
        exact Option.some.inj this
      have r2 : rd ys ((xs.length : Int) - 1 - i) = xs[xs.length - 1 - i] := by
        have := hj (xs.length - 1 - i) (by omega)
        rw [if_neg (by omega), List.getElem?_eq_getElem (by omega), List.getElem?_eq_getElem (by omega)] at this
        rw [show (xs.length : Int) - 1 - i = ((xs.length - 1 - i : Nat) : Int) by omega, rd_nat ys _ (by omega)]
        exact Option.some.inj this
      rw [if_pos c, if_pos (by omega), if_pos (by omega), if_pos (by omega), if_pos (by omega), wrap_nat (m := xs.length) (by omega) (by omega), wrap_id (by omega) (by omega), e3, r1, r2, show ((i : Int)).toNat = i by omega, show (xs.length : Int) - 1 - (i : Int) - 1 = (xs.length : Int) - 1 - ((i + 1 : Nat) : Int) by omega]
      refine slices_Reverse_int_int_l xs hn d (i + 1) k _ (by omega) (by omega) (by simpa using hy) ?_ (by omega)
      intro j hjl
      rw [List.getElem?_set, List.getElem?_set]
      have hjj := hj j hjl
      by_cases a1 : xs.length - 1 - i = j
      · rw [if_pos a1, if_pos (by simp; omega), if_pos (by omega), List.getElem?_reverse (by omega)]
        rw [List.getElem?_eq_getElem (by omega)]
        congr 2; omega
      · rw [if_neg a1]
        by_cases a2 : i = j
        · rw [if_pos a2, if_pos (by omega), if_pos (by omega), List.getElem?_reverse (by omega), List.getElem?_eq_getElem (by omega)]
          congr 2; omega
        · rw [if_neg a2, hjj]
          by_cases a3 : j < i ∨ xs.length ≤ j + i
          · rw [if_pos a3, if_pos (by omega)]
          · rw [if_neg a3, if_neg (by omega)]
    · rw [if_neg c]
      congr 1
      apply List.ext_getElem?
      intro j
      by_cases hjl : j < xs.length
      · rw [hj j hjl]
        split
        · rfl
        · next h =>
          rw [List.getElem?_reverse (by omega)]
          congr 1; omega
      · rw [List.getElem?_eq_none (by omega), List.getElem?_eq_none (by simp; omega)]
theorem slices_Reverse_int_int_e (xs : List Int) (hn : xs.length ≤ 1048576) : Ev (fun k => slices_Reverse_int_int.f k xs) xs.reverse :=
  ⟨xs.length + 1, fun k hk => by
    show slices_Reverse_int_int.f k xs = _
    unfold slices_Reverse_int_int.f
    rw [wrap_id (by omega) (by omega)]
    have := slices_Reverse_int_int_l xs hn xs.length 0 k xs (by omega) (by omega) rfl (by intro j hj; rw [if_neg (by omega)]) (by omega)
    rw [show ((0 : Nat) : Int) = 0 from rfl, Int.sub_zero] at this
    exact this⟩

theorem impl_backwards_e (xs : List Int) (hn : xs.length ≤ 1048576) : Ev (fun k => impl_backwards.f k xs) xs.reverse := by
  obtain ⟨K, e⟩ := slices_Reverse_int_int_e xs hn
  refine ⟨K, fun k hk => ?_⟩
  show impl_backwards.f k xs = _
  unfold impl_backwards.f slices_Clone_int_int.f
  rw [if_pos (by omega)]
  simp only [Option.bind_some, e k hk]

theorem impl_BackWeights_e (xs : List Int) (hn : xs.length ≤ 1048576) : Ev (fun k => impl_BackWeights.f k xs) (if weB xs = true then (xs.reverse, true) else ([], false)) := by
  obtain ⟨K1, e1⟩ := impl_isWeights_e xs (by omega)
  obtain ⟨K2, e2⟩ := impl_backwards_e xs hn
  refine ⟨K1 + K2, fun k hk => ?_⟩
  show impl_BackWeights.f k xs = _
  unfold impl_BackWeights.f
  cases h : weB xs <;> simp [e1 k (by omega), e2 k (by omega), h]

theorem FnExactBackWeights : laws_FnExactBackWeights.Pure := by
  intro l _ hl hw
  by_cases h00 : (l.length : Int) > 1048576
  · exact ⟨0, by simp [laws_FnExactBackWeights.f, h00]⟩
  obtain ⟨K1, e1⟩ := laws_toIntS_e l (by omega)
  obtain ⟨K2, e2⟩ := laws_eqIntS_same l (by omega)
  obtain ⟨v, ⟨K3, e3⟩, ⟨K4, e4⟩, hv⟩ := both (spec_BackWeights_e l (by omega)) (impl_BackWeights_e l (by omega)) (by split; { next h => have := (weB_true h).1; simp; omega }; { simp })
  obtain ⟨K5, e5⟩ := laws_eqIntS_same v.1 (by omega)
  obtain ⟨K6, e6⟩ := laws_markIntS_e l (1) (by omega) (by omega) (by omega)
  obtain ⟨K7, e7⟩ := laws_markIntS_e v.1 1 (by omega) (by omega) (by omega)
  obtain ⟨K8, e8⟩ := laws_heldIntS_e v.1.length 1 (by omega) (by omega) (by omega)
  obtain ⟨K, hK⟩ : ∃ K, K = K1 + K2 + K3 + K4 + K5 + K6 + K7 + K8 := ⟨_, rfl⟩
  refine ⟨K + 3, ?_⟩
  have a1_3 := e1 (K + 3) (by omega)
  have a2_3 := e2 (K + 3) (by omega)
  have a3_3 := e3 (K + 3) (by omega)
  have a4_3 := e4 (K + 3) (by omega)
  have a5_3 := e5 (K + 3) (by omega)
  have a6_3 := e6 (K + 3) (by omega)
  have a7_3 := e7 (K + 3) (by omega)
  have a8_3 := e8 (K + 3) (by omega)
  have a1_2 := e1 (K + 2) (by omega)
  have a2_2 := e2 (K + 2) (by omega)
  have a3_2 := e3 (K + 2) (by omega)
  have a4_2 := e4 (K + 2) (by omega)
  have a5_2 := e5 (K + 2) (by omega)
  have a6_2 := e6 (K + 2) (by omega)
  have a7_2 := e7 (K + 2) (by omega)
  have a8_2 := e8 (K + 2) (by omega)
  have a1_1 := e1 (K + 1) (by omega)
  have a2_1 := e2 (K + 1) (by omega)
  have a3_1 := e3 (K + 1) (by omega)
  have a4_1 := e4 (K + 1) (by omega)
  have a5_1 := e5 (K + 1) (by omega)
  have a6_1 := e6 (K + 1) (by omega)
  have a7_1 := e7 (K + 1) (by omega)
  have a8_1 := e8 (K + 1) (by omega)
  have a1_0 := e1 K (by omega)
  have a2_0 := e2 K (by omega)
  have a3_0 := e3 K (by omega)
  have a4_0 := e4 K (by omega)
  have a5_0 := e5 K (by omega)
  have a6_0 := e6 K (by omega)
  have a7_0 := e7 K (by omega)
  have a8_0 := e8 K (by omega)
  have n0 : (1 + (l.length : Int) < 0) = False := eq_false (by omega)
  have n1 : (1 + (v.1.length : Int) < 0) = False := eq_false (by omega)
  simp only [laws_FnExactBackWeights.f, laws_FnExactBackWeights.j0, laws_FnExactBackWeights.j1, laws_FnExactBackWeights.j2, if_neg h00, a1_3, a2_3, a3_3, a4_3, a5_3, a6_3, a7_3, a8_3, a1_2, a2_2, a3_2, a4_2, a5_2, a6_2, a7_2, a8_2, a1_1, a2_1, a3_1, a4_1, a5_1, a6_1, a7_1, a8_1, a1_0, a2_0, a3_0, a4_0, a5_0, a6_0, a7_0, a8_0, n0, n1, Option.bind_some, bne_self_eq_false, Bool.false_eq_true, if_true, if_false]

end Go.Proofs.Yteponjafchejiaa.Pure
