/- The plain statement behind the law FnExactPowerWeights: its walk's numbers answer true. Conditions: the given statement's own (each number is an int; each slice within the reach). -/
import Derived.Test.YtepjolkmmnnobaaQFnExactPowerWeightsx0
import Derived.Test.YtepjolkmmnnobaaQFnExactPowerWeightsx1
import Derived.Test.YtepjolkmmnnobaaQFnExactPowerWeightsx2
import Derived.Test.YtepjolkmmnnobaaQFnExactPowerWeightsx3
import Derived.Test.YtepjolkmmnnobaaQFnExactPowerWeightsx4
import Derived.Test.YtepjolkmmnnobaaBase
import Derived.Test.YtepjolkmmnnobaaPower
namespace Go.Proofs.Ytepjolkmmnnobaa.Pure
open Go.RowKit Go.Proofs.Ytepjolkmmnnobaa.QFnExactPowerWeights Go.Proofs.YtepjolkmmnnobaaW.PrintWords Go.Proofs.YtepjolkmmnnobaaW.PrintLast Go.Proofs.YtepjolkmmnnobaaW.PrintMore Go.Proofs.Ytepjolkmmnnobaa.Base
set_option linter.unusedVariables false
set_option linter.unusedSimpArgs false

theorem laws_toIntS_l (xs : List Int) (hn : xs.length ≤ 1152921504606846976) : ∀ (r : List Int) (n k : Nat) (ys : List Int), xs.drop n = r → n ≤ xs.length → ys.length = xs.length → ys.take n = xs.take n → r.length < k → laws_toIntS.l0 k xs ys n = some xs
  | [], n, k, ys, hd, hx, hy, ht, hk => by
    obtain ⟨k, rfl⟩ := pred hk
    have := drop_nil hd
    simp only [laws_toIntS.l0]; rw [if_neg (by omega)]
    rw [List.take_of_length_le (by omega), List.take_of_length_le (by omega)] at ht
    rw [ht]
  | a :: r, n, k, ys, hd, hx, hy, ht, hk => by
    obtain ⟨k, rfl⟩ := pred hk
    obtain ⟨h1, h2, h3⟩ := drop_cons hd
    simp only [laws_toIntS.l0]
    rw [if_pos (by omega), if_pos (by omega), if_pos (by omega), wrap_nat h1 hn]
    refine laws_toIntS_l xs hn r (n + 1) k _ h3 (by omega) (by simpa using hy) ?_ (by simp at hk; omega)
    rw [show ((n : Int)).toNat = n by omega, rd_nat xs n h1]
    apply List.ext_getElem?
    intro i
    by_cases hi : i < n
    · have := congrArg (fun z => z[i]?) ht
      simp only [List.getElem?_take, hi, if_true] at this
      simp only [List.getElem?_take, show i < n + 1 by omega, if_true]
      rw [List.getElem?_set_ne (by omega)]
      exact this
    · by_cases he : i = n
      · subst he
        simp [List.getElem?_take, List.getElem?_set, hy, h1]
      · simp [List.getElem?_take, show ¬ i < n + 1 by omega]
theorem laws_toIntS_e (xs : List Int) (hn : xs.length ≤ 1048576) : Ev (fun k => laws_toIntS.f k xs) xs :=
  ⟨xs.length + 1, fun k hk => by
    show laws_toIntS.f k xs = some xs
    unfold laws_toIntS.f
    rw [if_pos (by omega), if_pos (by omega)]
    exact laws_toIntS_l xs (by omega) xs 0 k _ rfl (by omega) (by simp) (by simp) (by omega)⟩

theorem laws_eqIntS_l (xs : List Int) (hn : xs.length ≤ 1152921504606846976) : ∀ (r : List Int) (n k : Nat), xs.drop n = r → r.length < k → laws_eqIntS.l0 k xs xs n = some true
  | [], n, k, hd, hk => by
    obtain ⟨k, rfl⟩ := pred hk
    have := drop_nil hd
    simp only [laws_eqIntS.l0]; rw [if_neg (by omega)]
  | a :: r, n, k, hd, hk => by
    obtain ⟨k, rfl⟩ := pred hk
    obtain ⟨h1, h2, h3⟩ := drop_cons hd
    simp only [laws_eqIntS.l0]
    rw [if_pos (by omega), if_pos (by omega), if_pos (by omega), if_pos trivial, wrap_nat h1 hn]
    exact laws_eqIntS_l xs hn r (n + 1) k h3 (by simp at hk; omega)
theorem laws_eqIntS_same (xs : List Int) (hn : xs.length ≤ 1152921504606846976) : Ev (fun k => laws_eqIntS.f k xs xs) true :=
  ⟨xs.length + 1, fun k hk => by
    show laws_eqIntS.f k xs xs = some true
    unfold laws_eqIntS.f
    rw [if_pos rfl]
    exact laws_eqIntS_l xs hn xs 0 k rfl (by omega)⟩

theorem laws_markIntS_l (s : Int) (len : Nat) (hs : 0 ≤ s) (hs2 : s ≤ 1000000000000) (hn : len ≤ 1000000000000) : ∀ (d n k : Nat) (ys : List Int), n + d = len → ys.length = len → ys.take n = (marks s len).take n → d < k → laws_markIntS.l0 k ys (s + n) n = some (s + len, marks s len)
  | 0, n, k, ys, hd, hy, ht, hk => by
    obtain ⟨k, rfl⟩ := pred hk
    simp only [laws_markIntS.l0]; rw [if_neg (by omega)]
    rw [List.take_of_length_le (by omega), List.take_of_length_le (by rw [marks_length]; omega)] at ht
    rw [ht, show n = len by omega]
  | d + 1, n, k, ys, hd, hy, ht, hk => by
    obtain ⟨k, rfl⟩ := pred hk
    simp only [laws_markIntS.l0]
    rw [if_pos (by omega), if_pos (by omega), wrap_nat (m := len) (by omega) (by omega), wrap_id (x := s + n + 1) (by omega) (by omega), show s + (n : Int) + 1 = s + ((n + 1 : Nat) : Int) by omega, show ((n : Int)).toNat = n by omega]
    exact laws_markIntS_l s len hs hs2 hn d (n + 1) k _ (by omega) (by simpa using hy) (set_take (by rw [marks_length, hy]) (by rw [marks_length]; omega) ht (marks_get s len n (by omega))) (by omega)
theorem laws_markIntS_e (xs : List Int) (s : Int) (hs : 0 ≤ s) (hs2 : s ≤ 1000000000000) (hn : xs.length ≤ 1048576) : Ev (fun k => laws_markIntS.f k xs s) (s + xs.length, marks s xs.length) :=
  ⟨xs.length + 1, fun k hk => by
    have := laws_markIntS_l s xs.length hs hs2 (by omega) xs.length 0 k xs (by omega) rfl (by simp) (by omega)
    simpa [laws_markIntS.f] using this⟩

theorem laws_heldIntS_l (s : Int) (len : Nat) (hs : 0 ≤ s) (hs2 : s ≤ 1000000000000) (hn : len ≤ 1000000000000) : ∀ (d n k : Nat), n + d = len → d < k → laws_heldIntS.l0 k (marks s len) (s + n) n = some (s + len)
  | 0, n, k, hd, hk => by
    obtain ⟨k, rfl⟩ := pred hk
    simp only [laws_heldIntS.l0, marks_length]; rw [if_neg (by omega), show n = len by omega]
  | d + 1, n, k, hd, hk => by
    obtain ⟨k, rfl⟩ := pred hk
    simp only [laws_heldIntS.l0, marks_length]
    have hr : rd (marks s len) n = s + n := by simp [rd, List.getD, marks_get s len n (by omega)]
    rw [if_pos (by omega), if_pos (by omega), if_pos hr, wrap_nat (m := len) (by omega) (by omega), wrap_id (x := s + n + 1) (by omega) (by omega), show s + (n : Int) + 1 = s + ((n + 1 : Nat) : Int) by omega]
    exact laws_heldIntS_l s len hs hs2 hn d (n + 1) k (by omega) (by omega)
theorem laws_heldIntS_e (n : Nat) (s : Int) (hs : 0 ≤ s) (hs2 : s ≤ 1000000000000) (hn : n ≤ 1048576) : Ev (fun k => laws_heldIntS.f k (marks s n) s) (s + n) :=
  ⟨n + 1, fun k hk => by
    have := laws_heldIntS_l s n hs hs2 (by omega) n 0 k (by omega) (by omega)
    simpa [laws_heldIntS.f] using this⟩

theorem spec_l1In_v (a b c : Int) : spec_l1In.f a b c = some (inR a b c) := inR_ge a b c

theorem spec_l1All_l (lo hi : Int) (xs : List Int) (hn : xs.length ≤ 1152921504606846976) : ∀ (r : List Int) (n k : Nat), xs.drop n = r → r.length < k → spec_l1All.l0 k lo hi xs (xs.length : Int) n = some (r.all fun x => inR x lo hi)
  | [], n, k, hd, hk => by
    obtain ⟨k, rfl⟩ := pred hk
    have := drop_nil hd
    simp only [spec_l1All.l0]; rw [if_neg (by omega)]; rfl
  | a :: r, n, k, hd, hk => by
    obtain ⟨k, rfl⟩ := pred hk
    obtain ⟨h1, h2, h3⟩ := drop_cons hd
    simp only [spec_l1All.l0]
    rw [if_pos (by omega), if_pos (by omega), if_pos (by omega), h2, spec_l1In_v, wrap_nat h1 hn]; simp only [Option.bind_some, List.all_cons]
    cases h : inR a lo hi
    · simp
    · simp only [if_true, Bool.true_and]
      exact spec_l1All_l lo hi xs hn r (n + 1) k h3 (by simp at hk; omega)
theorem spec_l1All_e (lo hi : Int) (xs : List Int) (hn : xs.length ≤ 1152921504606846976) : Ev (fun k => spec_l1All.f k xs lo hi) (xs.all fun x => inR x lo hi) :=
  ⟨xs.length + 1, fun k hk => spec_l1All_l lo hi xs hn xs 0 k rfl (by omega)⟩

theorem spec_weGood_e (xs : List Int) (hn : xs.length ≤ 1152921504606846976) : Ev (fun k => spec_weGood.f k xs) (weB xs) := by
  obtain ⟨K, e⟩ := spec_l1All_e (-1000) 1000 xs hn
  refine ⟨K, fun k hk => ?_⟩
  show spec_weGood.f k xs = some (weB xs)
  unfold spec_weGood.f weB
  simp only [e k hk, spec_l1In_v, Option.bind_some, bind_and]

theorem spec_weAnswer_in (s : List Int) (hs : s.length ≤ 1000) (k0 : Nat) (a : Int) (hk0 : k0 ≤ 1000) (h : List Int) (m : Int) : ∀ (r : List Int) (i k : Nat) (out : List Int), s.drop i = r → i + r.length = s.length → k0 + s.length ≤ out.length → r.length + 1 < k → spec_weAnswer.l1 k s out k0 a h m k0 s (s.length : Int) i = spec_weAnswer.l0 (k - r.length - 1) s (innerM k0 a out r i) h m (wrap64 (k0 + 1))
  | [], i, k, out, hd, hi, ho, hk => by
    obtain ⟨k, rfl⟩ := pred (show 0 < k by omega)
    have := drop_nil hd
    simp only [spec_weAnswer.l1, innerM]; rw [if_neg (by omega)]; simp
  | x :: r, i, k, out, hd, hi, ho, hk => by
    obtain ⟨k, rfl⟩ := pred (show 0 < k by omega)
    obtain ⟨h1, h2, h3⟩ := drop_cons hd
    simp only [List.length_cons] at hk hi
    simp only [spec_weAnswer.l1, innerM]
    rw [if_pos (by omega), if_pos (by omega), if_pos (by omega), wrap_id (x := (k0 : Int) + (i : Int)) (by omega) (by omega), if_pos (by omega), if_pos (by omega), h2, wrap_nat h1 (by omega), show ((k0 : Int) + (i : Int)).toNat = k0 + i by omega]
    rw [show rd out ((k0 : Int) + (i : Int)) = out.getD (k0 + i) 0 by unfold rd; rw [show ((k0 : Int) + (i : Int)).toNat = k0 + i by omega]]
    rw [spec_weAnswer_in s hs k0 a hk0 h m r (i + 1) k _ h3 (by omega) (by simpa using ho) (by omega)]
    simp only [List.length_cons]
    congr 1; omega
theorem spec_weAnswer_out (s : List Int) (hs : s.length ≤ 1000) (h : List Int) (hh : h.length ≤ 1000) : ∀ (r : List Int) (n k : Nat) (out : List Int), h.drop n = r → n + r.length = h.length → h.length + s.length ≤ out.length + 1 → 1 ≤ s.length → r.length * (s.length + 2) < k → spec_weAnswer.l0 k s out h (h.length : Int) n = some (outerM s out r n)
  | [], n, k, out, hd, hi, ho, hs1, hk => by
    obtain ⟨k, rfl⟩ := pred (show 0 < k by omega)
    have := drop_nil hd
    simp only [spec_weAnswer.l0, outerM]; rw [if_neg (by omega)]
  | a :: r, n, k, out, hd, hi, ho, hs1, hk => by
    obtain ⟨k, rfl⟩ := pred (show 0 < k by omega)
    obtain ⟨h1, h2, h3⟩ := drop_cons hd
    simp only [List.length_cons] at hk hi
    have e : (r.length + 1) * (s.length + 2) = r.length * (s.length + 2) + (s.length + 2) := by rw [Nat.add_mul, Nat.one_mul]
    simp only [spec_weAnswer.l0, outerM]
    rw [if_pos (by omega), if_pos (by omega), if_pos (by omega), h2]
    have h4 := spec_weAnswer_in s hs n a (by omega) h h.length s 0 k out rfl (by omega) (by omega) (by omega)
    rw [show ((0 : Nat) : Int) = 0 from rfl] at h4
    rw [h4, wrap_nat h1 (by omega)]
    exact spec_weAnswer_out s hs h hh r (n + 1) _ _ h3 (by omega) (by rw [innerM_length]; omega) hs1 (by omega)
theorem spec_weAnswer_e (h s : List Int) (hh : h.length ≤ 1000) (hs : s.length ≤ 1000) (hh1 : 1 ≤ h.length) : Ev (fun k => spec_weAnswer.f k h s) (ansM h s) :=
  ⟨h.length * (s.length + 2) + 1, fun k hk => by
    show spec_weAnswer.f k h s = _
    unfold spec_weAnswer.f ansM
    by_cases h0 : s.length = 0
    · rw [if_pos (by omega), if_pos h0]
    · rw [if_neg (by omega), if_neg h0, wrap_id (x := (h.length : Int) + (s.length : Int)) (by omega) (by omega), wrap_id (x := (h.length : Int) + (s.length : Int) - 1) (by omega) (by omega), if_pos (by omega), if_pos (by omega), show ((h.length : Int) + (s.length : Int) - 1).toNat = h.length + s.length - 1 by omega]
      exact spec_weAnswer_out s hs h hh h 0 k _ rfl (by omega) (by simp; omega) (by omega) (by omega)⟩

theorem spec_PowerWeights_l (h : List Int) (wh : weB h = true) : ∀ (d : Nat) (out : List Int), d ≤ 1000 → 1 ≤ out.length → out.length ≤ 9 → Ev (fun k => spec_PowerWeights.l0 k h (d : Int) out) (spM h d out)
  | 0, out, hd, h1, h2 => by
    refine ⟨1, fun k hk => ?_⟩
    obtain ⟨k, rfl⟩ := pred (show 0 < k by omega)
    show spec_PowerWeights.l0 (k + 1) h ((0 : Nat) : Int) out = _
    simp only [spec_PowerWeights.l0, spM]
    rw [if_neg (by omega)]
  | d + 1, out, hd, h1, h2 => by
    have wl := (weB_true wh).1
    obtain ⟨K1, e1⟩ := spec_weAnswer_e h out (by omega) (by omega) (by omega)
    obtain ⟨K2, e2⟩ := spec_weGood_e (ansM h out) (by rw [ansM_length]; split <;> omega)
    by_cases c : weB (ansM h out) = true
    · obtain ⟨K3, e3⟩ := spec_PowerWeights_l h wh d (ansM h out) (by omega) (weB_true c).1.1 (weB_true c).1.2
      refine ⟨K1 + K2 + K3 + 1, fun k hk => ?_⟩
      obtain ⟨k, rfl⟩ := pred (show K1 + K2 + K3 < k by omega)
      show spec_PowerWeights.l0 (k + 1) h ((d + 1 : Nat) : Int) out = _
      have := e3 k (by omega)
      simp only [spec_PowerWeights.l0, spM]
      rw [if_pos (by omega)]
      simp only [e1 k (by omega), e2 k (by omega), Option.bind_some]
      rw [if_pos c, if_pos c, wrap_id (x := ((d + 1 : Nat) : Int) - 1) (by omega) (by omega), show ((d + 1 : Nat) : Int) - 1 = (d : Int) by omega]
      exact this
    · refine ⟨K1 + K2 + 1, fun k hk => ?_⟩
      obtain ⟨k, rfl⟩ := pred (show K1 + K2 < k by omega)
      show spec_PowerWeights.l0 (k + 1) h ((d + 1 : Nat) : Int) out = _
      simp only [spec_PowerWeights.l0, spM]
      rw [if_pos (by omega)]
      simp only [e1 k (by omega), e2 k (by omega), Option.bind_some]
      rw [if_neg c, if_neg c]
theorem spec_PowerWeights_e (h : List Int) (n : Int) (hn : h.length ≤ 1048576) : Ev (fun k => spec_PowerWeights.f k h n) (if (weB h && inR n 0 8) = true then spM h n.toNat [1] else ([], false)) := by
  obtain ⟨K1, e1⟩ := spec_weGood_e h (by omega)
  cases c1 : weB h
  · refine ⟨K1 + 1, fun k hk => ?_⟩
    obtain ⟨k, rfl⟩ := pred (show K1 < k by omega)
    show spec_PowerWeights.f (k + 1) h n = _
    unfold spec_PowerWeights.f
    simp [e1 (k + 1) (by omega), c1, spec_PowerWeights.j0]
  · cases c2 : inR n 0 8
    · refine ⟨K1 + 1, fun k hk => ?_⟩
      obtain ⟨k, rfl⟩ := pred (show K1 < k by omega)
      show spec_PowerWeights.f (k + 1) h n = _
      unfold spec_PowerWeights.f
      simp [e1 (k + 1) (by omega), c1, c2, spec_l1In_v, spec_PowerWeights.j0]
    · have hc := inR_true.mp c2
      obtain ⟨d, rfl⟩ : ∃ d : Nat, n = d := ⟨n.toNat, by omega⟩
      obtain ⟨K3, e3⟩ := spec_PowerWeights_l h c1 d [1] (by omega) (by simp) (by simp)
      refine ⟨K1 + K3 + 1, fun k hk => ?_⟩
      obtain ⟨k, rfl⟩ := pred (show K1 + K3 < k by omega)
      show spec_PowerWeights.f (k + 1) h d = _
      have := e3 k (by omega)
      unfold spec_PowerWeights.f
      simp only [e1 (k + 1) (by omega), c1, c2, spec_l1In_v, Option.bind_some, if_true, spec_PowerWeights.j0, Bool.not_true, Bool.false_eq_true, if_false, Bool.and_self, Int.toNat_natCast]
      exact this

theorem impl_in_v (a b c : Int) : impl_in.f a b c = some (inR a b c) := inR_le a b c

theorem impl_isWeights_1_v (x : Int) : impl_isWeights_1.f x = some (!inR x (-1000) 1000) := by simp only [impl_isWeights_1.f, impl_in_v, Option.bind_some]
theorem index_isWeights_l (xs : List Int) (hn : xs.length ≤ 1152921504606846976) : ∀ (r : List Int) (n k : Nat), xs.drop n = r → r.length < k → ∃ v : Int, slices_IndexFunc_int_int_impl_isWeights_1.l0 k xs (xs.length : Int) n = some v ∧ decide (v ≥ 0) = !(r.all fun x => inR x (-1000) 1000)
  | [], n, k, hd, hk => by
    obtain ⟨k, rfl⟩ := pred hk
    have := drop_nil hd
    refine ⟨-1, ?_, by simp⟩
    simp only [slices_IndexFunc_int_int_impl_isWeights_1.l0]; rw [if_neg (by omega)]
  | a :: r, n, k, hd, hk => by
    obtain ⟨k, rfl⟩ := pred hk
    obtain ⟨h1, h2, h3⟩ := drop_cons hd
    simp only [slices_IndexFunc_int_int_impl_isWeights_1.l0]
    rw [if_pos (by omega), if_pos (by omega), if_pos (by omega), h2, impl_isWeights_1_v, wrap_nat h1 hn]; simp only [Option.bind_some, List.all_cons]
    cases h : inR a (-1000) 1000
    · exact ⟨n, by simp, by simp⟩
    · obtain ⟨v, e, hv⟩ := index_isWeights_l xs hn r (n + 1) k h3 (by simp at hk; omega)
      exact ⟨v, by simpa using e, by simpa using hv⟩
theorem contains_isWeights_e (xs : List Int) (hn : xs.length ≤ 1152921504606846976) : Ev (fun k => slices_ContainsFunc_int_int_impl_isWeights_1.f k xs) (!(xs.all fun x => inR x (-1000) 1000)) :=
  ⟨xs.length + 1, fun k hk => by
    show slices_ContainsFunc_int_int_impl_isWeights_1.f k xs = some _
    obtain ⟨v, e, hv⟩ := index_isWeights_l xs hn xs 0 k rfl (by omega)
    have e' : slices_IndexFunc_int_int_impl_isWeights_1.f k xs = some v := e
    unfold slices_ContainsFunc_int_int_impl_isWeights_1.f
    rw [e']; simp only [Option.bind_some, hv]⟩

theorem impl_isWeights_e (xs : List Int) (hn : xs.length ≤ 1152921504606846976) : Ev (fun k => impl_isWeights.f k xs) (weB xs) := by
  obtain ⟨K, e⟩ := contains_isWeights_e xs hn
  refine ⟨K, fun k hk => ?_⟩
  show impl_isWeights.f k xs = some (weB xs)
  unfold impl_isWeights.f weB
  simp only [e k hk, impl_in_v, Option.bind_some, Bool.not_not, bind_and]

theorem impl_weighed_e (xs : List Int) (hn : xs.length ≤ 1152921504606846976) : Ev (fun k => impl_weighed.f k xs) (ifWe xs) := by
  obtain ⟨K, e⟩ := impl_isWeights_e xs hn
  refine ⟨K, fun k hk => ?_⟩
  show impl_weighed.f k xs = some (ifWe xs)
  unfold impl_weighed.f ifWe
  simp only [e k hk, Option.bind_some]
  split <;> rfl

theorem impl_answer_in (s : List Int) (hs : s.length ≤ 1000) (k0 : Nat) (a : Int) (hk0 : k0 ≤ 1000) (h : List Int) (m : Int) : ∀ (r : List Int) (i k : Nat) (out : List Int), s.drop i = r → i + r.length = s.length → k0 + s.length ≤ out.length → r.length + 1 < k → impl_answer.l1 k s out k0 a h m k0 s (s.length : Int) i = impl_answer.l0 (k - r.length - 1) s (innerM k0 a out r i) h m (wrap64 (k0 + 1))
  | [], i, k, out, hd, hi, ho, hk => by
    obtain ⟨k, rfl⟩ := pred (show 0 < k by omega)
    have := drop_nil hd
    simp only [impl_answer.l1, innerM]; rw [if_neg (by omega)]; simp
  | x :: r, i, k, out, hd, hi, ho, hk => by
    obtain ⟨k, rfl⟩ := pred (show 0 < k by omega)
    obtain ⟨h1, h2, h3⟩ := drop_cons hd
    simp only [List.length_cons] at hk hi
    simp only [impl_answer.l1, innerM]
    rw [if_pos (by omega), if_pos (by omega), if_pos (by omega), wrap_id (x := (i : Int) + (k0 : Int)) (by omega) (by omega), if_pos (by omega), if_pos (by omega), h2, wrap_nat h1 (by omega), show ((i : Int) + (k0 : Int)).toNat = k0 + i by omega]
    rw [show rd out ((i : Int) + (k0 : Int)) = out.getD (k0 + i) 0 by unfold rd; rw [show ((i : Int) + (k0 : Int)).toNat = k0 + i by omega]]
    rw [impl_answer_in s hs k0 a hk0 h m r (i + 1) k _ h3 (by omega) (by simpa using ho) (by omega)]
    simp only [List.length_cons]
    congr 1; omega
theorem impl_answer_out (s : List Int) (hs : s.length ≤ 1000) (h : List Int) (hh : h.length ≤ 1000) : ∀ (r : List Int) (n k : Nat) (out : List Int), h.drop n = r → n + r.length = h.length → h.length + s.length ≤ out.length + 1 → 1 ≤ s.length → r.length * (s.length + 2) < k → impl_answer.l0 k s out h (h.length : Int) n = some (outerM s out r n)
  | [], n, k, out, hd, hi, ho, hs1, hk => by
    obtain ⟨k, rfl⟩ := pred (show 0 < k by omega)
    have := drop_nil hd
    simp only [impl_answer.l0, outerM]; rw [if_neg (by omega)]
  | a :: r, n, k, out, hd, hi, ho, hs1, hk => by
    obtain ⟨k, rfl⟩ := pred (show 0 < k by omega)
    obtain ⟨h1, h2, h3⟩ := drop_cons hd
    simp only [List.length_cons] at hk hi
    have e : (r.length + 1) * (s.length + 2) = r.length * (s.length + 2) + (s.length + 2) := by rw [Nat.add_mul, Nat.one_mul]
    simp only [impl_answer.l0, outerM]
    rw [if_pos (by omega), if_pos (by omega), if_pos (by omega), h2]
    have h4 := impl_answer_in s hs n a (by omega) h h.length s 0 k out rfl (by omega) (by omega) (by omega)
    rw [show ((0 : Nat) : Int) = 0 from rfl] at h4
    rw [h4, wrap_nat h1 (by omega)]
    exact impl_answer_out s hs h hh r (n + 1) _ _ h3 (by omega) (by rw [innerM_length]; omega) hs1 (by omega)
theorem impl_answer_e (h s : List Int) (hh : h.length ≤ 1000) (hs : s.length ≤ 1000) (hh1 : 1 ≤ h.length) : Ev (fun k => impl_answer.f k h s) (ansM h s) :=
  ⟨h.length * (s.length + 2) + 1, fun k hk => by
    show impl_answer.f k h s = _
    unfold impl_answer.f ansM
    by_cases h0 : s.length = 0
    · rw [if_pos (by omega), if_pos h0]
    · rw [if_neg (by omega), if_neg h0, wrap_id (x := (h.length : Int) + (s.length : Int)) (by omega) (by omega), wrap_id (x := (h.length : Int) + (s.length : Int) - 1) (by omega) (by omega), if_pos (by omega), if_pos (by omega), show ((h.length : Int) + (s.length : Int) - 1).toNat = h.length + s.length - 1 by omega]
      exact impl_answer_out s hs h hh h 0 k _ rfl (by omega) (by simp; omega) (by omega) (by omega)⟩

theorem impl_size_v (a : Int) (h : -9223372036854775807 ≤ a) (h2 : a ≤ 9223372036854775807) : impl_size.f a = some (absM a) := by
  simp only [impl_size.f]
  rw [wrap_id (by omega) (by omega), mx_max]; rfl

theorem impl_peak_l (xs : List Int) (hn : xs.length ≤ 1152921504606846976) : ∀ (r : List Int) (n k : Nat) (m : Int), xs.drop n = r → (∀ x ∈ r, -9223372036854775807 ≤ x ∧ x ≤ 9223372036854775807) → r.length < k → impl_peak.l0 k m xs (xs.length : Int) n = some (pk m r)
  | [], n, k, m, hd, hb, hk => by
    obtain ⟨k, rfl⟩ := pred hk
    have := drop_nil hd
    simp only [impl_peak.l0]; rw [if_neg (by omega)]; simp [pk]
  | a :: r, n, k, m, hd, hb, hk => by
    obtain ⟨k, rfl⟩ := pred hk
    obtain ⟨h1, h2, h3⟩ := drop_cons hd
    have b1 := hb a (by simp)
    simp only [List.length_cons] at hk
    simp only [impl_peak.l0]
    rw [if_pos (by omega), if_pos (by omega), if_pos (by omega), h2, wrap_nat h1 hn, impl_size_v a (by omega) (by omega)]
    simp only [Option.bind_some, mx_max]
    rw [impl_peak_l xs hn r (n + 1) k _ h3 (fun x hx => hb x (by simp [hx])) (by omega)]
    rfl
theorem impl_peak_e (xs : List Int) (hn : xs.length ≤ 1048576) (hb : ∀ x ∈ xs, -9223372036854775807 ≤ x ∧ x ≤ 9223372036854775807) : Ev (fun k => impl_peak.f k xs) (pk 0 xs) :=
  ⟨xs.length + 1, fun k hk => by
    show impl_peak.f k xs = _
    have := impl_peak_l xs (by omega) xs 0 k 0 rfl hb (by omega)
    simpa [impl_peak.f] using this⟩

theorem impl_PowerWeights_l (h : List Int) (wh : weB h = true) (n : Nat) (hn : n ≤ 8) : ∀ (d i : Nat) (out : List Int), i + d = n → MB out → Ev (fun k => impl_PowerWeights.l0 k h out (n : Int) (i : Int)) (ipM h d out)
  | 0, i, out, hd, ho => by
    obtain ⟨K1, e1⟩ := impl_weighed_e out (by have := ho.1; omega)
    refine ⟨K1 + 1, fun k hk => ?_⟩
    obtain ⟨k, rfl⟩ := pred (show K1 < k by omega)
    show impl_PowerWeights.l0 (k + 1) h out (n : Int) (i : Int) = _
    simp only [impl_PowerWeights.l0, ipM]
    rw [if_neg (by omega)]
    simp only [e1 k (by omega), Option.bind_some]
  | d + 1, i, out, hd, ho => by
    have wl := (weB_true wh).1
    have hl := ho.1
    have hb := ans_bd wh ho
    obtain ⟨K1, e1⟩ := impl_answer_e out h (by omega) (by omega) (by omega)
    obtain ⟨K2, e2⟩ := impl_peak_e (ansM out h) (by rw [ansM_length]; split <;> omega) (fun x hx => by have := hb x hx; omega)
    by_cases c1 : (ansM out h).length > 9
    · refine ⟨K1 + K2 + 1, fun k hk => ?_⟩
      obtain ⟨k, rfl⟩ := pred (show K1 + K2 < k by omega)
      show impl_PowerWeights.l0 (k + 1) h out (n : Int) (i : Int) = _
      simp only [impl_PowerWeights.l0, ipM]
      rw [if_pos (by omega)]
      simp only [e1 k (by omega), Option.bind_some]
      rw [if_pos (by omega), if_pos c1]
    · by_cases c2 : pk 0 (ansM out h) > 1000000
      · refine ⟨K1 + K2 + 1, fun k hk => ?_⟩
        obtain ⟨k, rfl⟩ := pred (show K1 + K2 < k by omega)
        show impl_PowerWeights.l0 (k + 1) h out (n : Int) (i : Int) = _
        simp only [impl_PowerWeights.l0, ipM]
        rw [if_pos (by omega)]
        simp only [e1 k (by omega), e2 k (by omega), Option.bind_some]
        rw [if_neg (by omega), if_pos c2, if_neg c1, if_pos c2]
      · obtain ⟨K3, e3⟩ := impl_PowerWeights_l h wh n hn d (i + 1) (ansM out h) (by omega) (ans_MB wh ho c1 c2)
        refine ⟨K1 + K2 + K3 + 1, fun k hk => ?_⟩
        obtain ⟨k, rfl⟩ := pred (show K1 + K2 + K3 < k by omega)
        show impl_PowerWeights.l0 (k + 1) h out (n : Int) (i : Int) = _
        have := e3 k (by omega)
        simp only [impl_PowerWeights.l0, ipM]
        rw [if_pos (by omega)]
        simp only [e1 k (by omega), e2 k (by omega), Option.bind_some]
        rw [if_neg (by omega), if_neg c2, if_neg c1, if_neg c2, wrap_id (x := (i : Int) + 1) (by omega) (by omega)]
        exact this
theorem impl_PowerWeights_e (h : List Int) (n : Int) (hn : h.length ≤ 1048576) : Ev (fun k => impl_PowerWeights.f k h n) (if (weB h && inR n 0 8) = true then spM h n.toNat [1] else ([], false)) := by
  obtain ⟨K1, e1⟩ := impl_isWeights_e h (by omega)
  cases c1 : weB h
  · refine ⟨K1 + 1, fun k hk => ?_⟩
    obtain ⟨k, rfl⟩ := pred (show K1 < k by omega)
    show impl_PowerWeights.f (k + 1) h n = _
    unfold impl_PowerWeights.f
    simp [e1 (k + 1) (by omega), c1, impl_PowerWeights.j0]
  · cases c2 : inR n 0 8
    · refine ⟨K1 + 1, fun k hk => ?_⟩
      obtain ⟨k, rfl⟩ := pred (show K1 < k by omega)
      show impl_PowerWeights.f (k + 1) h n = _
      unfold impl_PowerWeights.f
      simp [e1 (k + 1) (by omega), c1, c2, impl_in_v, impl_PowerWeights.j0]
    · have hc := inR_true.mp c2
      obtain ⟨d, rfl⟩ : ∃ d : Nat, n = d := ⟨n.toNat, by omega⟩
      obtain ⟨K3, e3⟩ := impl_PowerWeights_l h c1 d (by omega) d 0 [1] (by omega) (weB_MB (by decide))
      rw [both_ways h c1 d (by omega)] at e3
      refine ⟨K1 + K3 + 1, fun k hk => ?_⟩
      obtain ⟨k, rfl⟩ := pred (show K1 + K3 < k by omega)
      show impl_PowerWeights.f (k + 1) h d = _
      have := e3 k (by omega)
      unfold impl_PowerWeights.f
      simp only [e1 (k + 1) (by omega), c1, c2, impl_in_v, Option.bind_some, if_true, impl_PowerWeights.j0, Bool.not_true, Bool.false_eq_true, if_false, Bool.and_self, Int.toNat_natCast]
      exact this

-- import Power
theorem FnExactPowerWeights : laws_FnExactPowerWeights.Pure := by
  intro h n _ hl hw _
  by_cases h00 : (h.length : Int) > 1048576
  · exact ⟨0, by simp [laws_FnExactPowerWeights.f, h00]⟩
  obtain ⟨K1, e1⟩ := laws_toIntS_e h (by omega)
  obtain ⟨K2, e2⟩ := laws_eqIntS_same h (by omega)
  obtain ⟨v, ⟨K3, e3⟩, ⟨K4, e4⟩, hv⟩ := both (spec_PowerWeights_e h n (by omega)) (impl_PowerWeights_e h n (by omega)) (Nat.le_trans (sp_if_len _ _) (by omega))
  obtain ⟨K5, e5⟩ := laws_eqIntS_same v.1 (by omega)
  obtain ⟨K6, e6⟩ := laws_markIntS_e h (1) (by omega) (by omega) (by omega)
  obtain ⟨K7, e7⟩ := laws_markIntS_e v.1 1 (by omega) (by omega) (by omega)
  obtain ⟨K8, e8⟩ := laws_heldIntS_e v.1.length 1 (by omega) (by omega) (by omega)
  obtain ⟨K, hK⟩ : ∃ K, K = K1 + K2 + K3 + K4 + K5 + K6 + K7 + K8 := ⟨_, rfl⟩
  refine ⟨K + 3, ?_⟩
  have a1_3 := e1 (K + 3) (by omega)
  have a2_3 := e2 (K + 3) (by omega)
  have a3_3 := e3 (K + 3) (by omega)
  have a4_3 := e4 (K + 3) (by omega)
  have a5_3 := e5 (K + 3) (by omega)
  have a6_3 := e6 (K + 3) (by omega)
  have a7_3 := e7 (K + 3) (by omega)
  have a8_3 := e8 (K + 3) (by omega)
  have a1_2 := e1 (K + 2) (by omega)
  have a2_2 := e2 (K + 2) (by omega)
  have a3_2 := e3 (K + 2) (by omega)
  have a4_2 := e4 (K + 2) (by omega)
  have a5_2 := e5 (K + 2) (by omega)
  have a6_2 := e6 (K + 2) (by omega)
  have a7_2 := e7 (K + 2) (by omega)
  have a8_2 := e8 (K + 2) (by omega)
  have a1_1 := e1 (K + 1) (by omega)
  have a2_1 := e2 (K + 1) (by omega)
  have a3_1 := e3 (K + 1) (by omega)
  have a4_1 := e4 (K + 1) (by omega)
  have a5_1 := e5 (K + 1) (by omega)
  have a6_1 := e6 (K + 1) (by omega)
  have a7_1 := e7 (K + 1) (by omega)
  have a8_1 := e8 (K + 1) (by omega)
  have a1_0 := e1 K (by omega)
  have a2_0 := e2 K (by omega)
  have a3_0 := e3 K (by omega)
  have a4_0 := e4 K (by omega)
  have a5_0 := e5 K (by omega)
  have a6_0 := e6 K (by omega)
  have a7_0 := e7 K (by omega)
  have a8_0 := e8 K (by omega)
  have n0 : (1 + (h.length : Int) < 0) = False := eq_false (by omega)
  have n1 : (1 + (v.1.length : Int) < 0) = False := eq_false (by omega)
  simp only [laws_FnExactPowerWeights.f, laws_FnExactPowerWeights.j0, laws_FnExactPowerWeights.j1, laws_FnExactPowerWeights.j2, if_neg h00, a1_3, a2_3, a3_3, a4_3, a5_3, a6_3, a7_3, a8_3, a1_2, a2_2, a3_2, a4_2, a5_2, a6_2, a7_2, a8_2, a1_1, a2_1, a3_1, a4_1, a5_1, a6_1, a7_1, a8_1, a1_0, a2_0, a3_0, a4_0, a5_0, a6_0, a7_0, a8_0, n0, n1, Option.bind_some, bne_self_eq_false, Bool.false_eq_true, if_true, if_false]

end Go.Proofs.Ytepjolkmmnnobaa.Pure
