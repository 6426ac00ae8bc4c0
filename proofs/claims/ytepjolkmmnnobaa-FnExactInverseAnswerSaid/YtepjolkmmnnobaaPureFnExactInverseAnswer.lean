/- The plain statement behind the law FnExactInverseAnswer: its walk's numbers answer true. Conditions: the given statement's own (each number is an int; each slice within the reach). -/
import Derived.Test.YtepjolkmmnnobaaQFnExactInverseAnswerx0
import Derived.Test.YtepjolkmmnnobaaQFnExactInverseAnswerx1
import Derived.Test.YtepjolkmmnnobaaQFnExactInverseAnswerx2
import Derived.Test.YtepjolkmmnnobaaQFnExactInverseAnswerx3
import Derived.Test.YtepjolkmmnnobaaQFnExactInverseAnswerx4
import Derived.Test.YtepjolkmmnnobaaBase
import Derived.Test.YtepjolkmmnnobaaBase2
namespace Go.Proofs.Ytepjolkmmnnobaa.Pure
open Go.RowKit Go.Proofs.Ytepjolkmmnnobaa.QFnExactInverseAnswer Go.Proofs.YtepjolkmmnnobaaW.PrintWords Go.Proofs.YtepjolkmmnnobaaW.PrintLast Go.Proofs.YtepjolkmmnnobaaW.PrintMore Go.Proofs.Ytepjolkmmnnobaa.Base
set_option linter.unusedVariables false
set_option linter.unusedSimpArgs false

theorem laws_toIntS_l (xs : List Int) (hn : xs.length ≤ 1152921504606846976) : ∀ (r : List Int) (n k : Nat) (ys : List Int), xs.drop n = r → n ≤ xs.length → ys.length = xs.length → ys.take n = xs.take n → r.length < k → laws_toIntS.l0 k xs ys n = some xs
  | [], n, k, ys, hd, hx, hy, ht, hk => by
    obtain ⟨k, rfl⟩ := pred hk
    have := drop_nil hd
    simp only [laws_toIntS.l0]; rw [if_neg (by omega)]
    rw [List.take_of_length_le (by omega), List.take_of_length_le (by omega)] at ht
    rw [ht]
  | a :: r, n, k, ys, hd, hx, hy, ht, hk => by
    obtain ⟨k, rfl⟩ := pred hk
    obtain ⟨h1, h2, h3⟩ := drop_cons hd
    simp only [laws_toIntS.l0]
    rw [if_pos (by omega), if_pos (by omega), if_pos (by omega), wrap_nat h1 hn]
    refine laws_toIntS_l xs hn r (n + 1) k _ h3 (by omega) (by simpa using hy) ?_ (by simp at hk; omega)
    rw [show ((n : Int)).toNat = n by omega, rd_nat xs n h1]
    apply List.ext_getElem?
    intro i
    by_cases hi : i < n
    · have := congrArg (fun z => z[i]?) ht
      simp only [List.getElem?_take, hi, if_true] at this
      simp only [List.getElem?_take, show i < n + 1 by omega, if_true]
      rw [List.getElem?_set_ne (by omega)]
      exact this
    · by_cases he : i = n
      · subst he
        simp [List.getElem?_take, List.getElem?_set, hy, h1]
      · simp [List.getElem?_take, show ¬ i < n + 1 by omega]
theorem laws_toIntS_e (xs : List Int) (hn : xs.length ≤ 1048576) : Ev (fun k => laws_toIntS.f k xs) xs :=
  ⟨xs.length + 1, fun k hk => by
    show laws_toIntS.f k xs = some xs
    unfold laws_toIntS.f
    rw [if_pos (by omega), if_pos (by omega)]
    exact laws_toIntS_l xs (by omega) xs 0 k _ rfl (by omega) (by simp) (by simp) (by omega)⟩

theorem laws_eqIntS_l (xs : List Int) (hn : xs.length ≤ 1152921504606846976) : ∀ (r : List Int) (n k : Nat), xs.drop n = r → r.length < k → laws_eqIntS.l0 k xs xs n = some true
  | [], n, k, hd, hk => by
    obtain ⟨k, rfl⟩ := pred hk
    have := drop_nil hd
    simp only [laws_eqIntS.l0]; rw [if_neg (by omega)]
  | a :: r, n, k, hd, hk => by
    obtain ⟨k, rfl⟩ := pred hk
    obtain ⟨h1, h2, h3⟩ := drop_cons hd
    simp only [laws_eqIntS.l0]
    rw [if_pos (by omega), if_pos (by omega), if_pos (by omega), if_pos trivial, wrap_nat h1 hn]
    exact laws_eqIntS_l xs hn r (n + 1) k h3 (by simp at hk; omega)
theorem laws_eqIntS_same (xs : List Int) (hn : xs.length ≤ 1152921504606846976) : Ev (fun k => laws_eqIntS.f k xs xs) true :=
  ⟨xs.length + 1, fun k hk => by
    show laws_eqIntS.f k xs xs = some true
    unfold laws_eqIntS.f
    rw [if_pos rfl]
    exact laws_eqIntS_l xs hn xs 0 k rfl (by omega)⟩

theorem laws_markIntS_l (s : Int) (len : Nat) (hs : 0 ≤ s) (hs2 : s ≤ 1000000000000) (hn : len ≤ 1000000000000) : ∀ (d n k : Nat) (ys : List Int), n + d = len → ys.length = len → ys.take n = (marks s len).take n → d < k → laws_markIntS.l0 k ys (s + n) n = some (s + len, marks s len)
  | 0, n, k, ys, hd, hy, ht, hk => by
    obtain ⟨k, rfl⟩ := pred hk
    simp only [laws_markIntS.l0]; rw [if_neg (by omega)]
    rw [List.take_of_length_le (by omega), List.take_of_length_le (by rw [marks_length]; omega)] at ht
    rw [ht, show n = len by omega]
  | d + 1, n, k, ys, hd, hy, ht, hk => by
    obtain ⟨k, rfl⟩ := pred hk
    simp only [laws_markIntS.l0]
    rw [if_pos (by omega), if_pos (by omega), wrap_nat (m := len) (by omega) (by omega), wrap_id (x := s + n + 1) (by omega) (by omega), show s + (n : Int) + 1 = s + ((n + 1 : Nat) : Int) by omega, show ((n : Int)).toNat = n by omega]
    exact laws_markIntS_l s len hs hs2 hn d (n + 1) k _ (by omega) (by simpa using hy) (set_take (by rw [marks_length, hy]) (by rw [marks_length]; omega) ht (marks_get s len n (by omega))) (by omega)
theorem laws_markIntS_e (xs : List Int) (s : Int) (hs : 0 ≤ s) (hs2 : s ≤ 1000000000000) (hn : xs.length ≤ 1048576) : Ev (fun k => laws_markIntS.f k xs s) (s + xs.length, marks s xs.length) :=
  ⟨xs.length + 1, fun k hk => by
    have := laws_markIntS_l s xs.length hs hs2 (by omega) xs.length 0 k xs (by omega) rfl (by simp) (by omega)
    simpa [laws_markIntS.f] using this⟩

theorem laws_heldIntS_l (s : Int) (len : Nat) (hs : 0 ≤ s) (hs2 : s ≤ 1000000000000) (hn : len ≤ 1000000000000) : ∀ (d n k : Nat), n + d = len → d < k → laws_heldIntS.l0 k (marks s len) (s + n) n = some (s + len)
  | 0, n, k, hd, hk => by
    obtain ⟨k, rfl⟩ := pred hk
    simp only [laws_heldIntS.l0, marks_length]; rw [if_neg (by omega), show n = len by omega]
  | d + 1, n, k, hd, hk => by
    obtain ⟨k, rfl⟩ := pred hk
    simp only [laws_heldIntS.l0, marks_length]
    have hr : rd (marks s len) n = s + n := by simp [rd, List.getD, marks_get s len n (by omega)]
    rw [if_pos (by omega), if_pos (by omega), if_pos hr, wrap_nat (m := len) (by omega) (by omega), wrap_id (x := s + n + 1) (by omega) (by omega), show s + (n : Int) + 1 = s + ((n + 1 : Nat) : Int) by omega]
    exact laws_heldIntS_l s len hs hs2 hn d (n + 1) k (by omega) (by omega)
theorem laws_heldIntS_e (n : Nat) (s : Int) (hs : 0 ≤ s) (hs2 : s ≤ 1000000000000) (hn : n ≤ 1048576) : Ev (fun k => laws_heldIntS.f k (marks s n) s) (s + n) :=
  ⟨n + 1, fun k hk => by
    have := laws_heldIntS_l s n hs hs2 (by omega) n 0 k (by omega) (by omega)
    simpa [laws_heldIntS.f] using this⟩

theorem spec_l1In_v (a b c : Int) : spec_l1In.f a b c = some (inR a b c) := inR_ge a b c

theorem spec_l1All_l (lo hi : Int) (xs : List Int) (hn : xs.length ≤ 1152921504606846976) : ∀ (r : List Int) (n k : Nat), xs.drop n = r → r.length < k → spec_l1All.l0 k lo hi xs (xs.length : Int) n = some (r.all fun x => inR x lo hi)
  | [], n, k, hd, hk => by
    obtain ⟨k, rfl⟩ := pred hk
    have := drop_nil hd
    simp only [spec_l1All.l0]; rw [if_neg (by omega)]; rfl
  | a :: r, n, k, hd, hk => by
    obtain ⟨k, rfl⟩ := pred hk
    obtain ⟨h1, h2, h3⟩ := drop_cons hd
    simp only [spec_l1All.l0]
    rw [if_pos (by omega), if_pos (by omega), if_pos (by omega), h2, spec_l1In_v, wrap_nat h1 hn]; simp only [Option.bind_some, List.all_cons]
    cases h : inR a lo hi
    · simp
    · simp only [if_true, Bool.true_and]
      exact spec_l1All_l lo hi xs hn r (n + 1) k h3 (by simp at hk; omega)
theorem spec_l1All_e (lo hi : Int) (xs : List Int) (hn : xs.length ≤ 1152921504606846976) : Ev (fun k => spec_l1All.f k xs lo hi) (xs.all fun x => inR x lo hi) :=
  ⟨xs.length + 1, fun k hk => spec_l1All_l lo hi xs hn xs 0 k rfl (by omega)⟩

theorem spec_weGood_e (xs : List Int) (hn : xs.length ≤ 1152921504606846976) : Ev (fun k => spec_weGood.f k xs) (weB xs) := by
  obtain ⟨K, e⟩ := spec_l1All_e (-1000) 1000 xs hn
  refine ⟨K, fun k hk => ?_⟩
  show spec_weGood.f k xs = some (weB xs)
  unfold spec_weGood.f weB
  simp only [e k hk, spec_l1In_v, Option.bind_some, bind_and]

theorem spec_InverseAnswer_l1 (h out : List Int) (n : Int) (i : Nat) (Kc : Nat) (V : List Int × Bool) (hh : h.length ≤ 1000) (hi : i ≤ 1000) (ho : out.length = i) (bo : Bd out) (bh : ∀ x ∈ h, -1000 ≤ x ∧ x ≤ 1000) (s : Int)
    (hC : ∀ k, Kc ≤ k → (if 0 < (h.length : Int) then ((spec_l1In.f (wrap64 (s * (rd h 0))) (-100000) 100000).bind fun t => (if t = true then (if out.length < 17592186044416 then (spec_InverseAnswer.l0 k h n (out ++ [wrap64 (s * (rd h 0))]) (wrap64 ((i : Int) + 1))) else (none)) else (some (([] : List Int), false)))) else (none)) = some V) :
    ∀ (r : List Int) (k0 k : Nat) (acc : Int), h.drop k0 = r → 1 ≤ k0 → k0 + r.length ≤ 2000 → restM out i acc r k0 = s → -100000000000 ≤ acc - 100000000 * r.length → acc + 100000000 * r.length ≤ 100000000000 → r.length + Kc < k → spec_InverseAnswer.l1 k h n out i acc k0 = some V
  | [], k0, k, acc, hd, h1, h2, hs, a1, a2, hk => by
    obtain ⟨k, rfl⟩ := pred (show 0 < k by omega)
    have := drop_nil hd
    simp only [restM] at hs
    simp only [List.length_nil] at hk
    simp only [spec_InverseAnswer.l1]
    rw [if_neg (by omega), hs]
    exact hC k (by omega)
  | a :: r, k0, k, acc, hd, h1, h2, hs, a1, a2, hk => by
    obtain ⟨k, rfl⟩ := pred (show 0 < k by omega)
    obtain ⟨g1, g2, g3⟩ := drop_cons hd
    simp only [List.length_cons] at hk a1 a2 h2
    have ba := bh a (by rw [← List.take_append_drop k0 h, hd]; simp)
    simp only [spec_InverseAnswer.l1]
    rw [if_pos (by omega)]
    by_cases hki : (k0 : Int) ≤ (i : Int)
    · have bx := atM_bd bo ((i : Int) - k0)
      have bm := mul_bd2 ba bx
      have er : rd out ((i : Int) - (k0 : Int)) = atM out ((i : Int) - k0) := by unfold atM; rw [if_pos (by omega)]; rfl
      rw [if_pos hki, if_pos (by omega), wrap_id (x := (i : Int) - (k0 : Int)) (by omega) (by omega), if_pos (by omega), if_pos (by omega), g2, er, wrap_id (x := a * atM out ((i : Int) - k0)) (by omega) (by omega), wrap_id (x := acc - a * atM out ((i : Int) - k0)) (by omega) (by omega), wrap_nat (m := 3000) (by omega) (by omega)]
      exact spec_InverseAnswer_l1 h out n i Kc V hh hi ho bo bh s hC r (k0 + 1) k _ g3 (by omega) (by omega) hs (by omega) (by omega) (by omega)
    · rw [restM_past out i (a :: r) acc k0 (by omega)] at hs
      rw [if_neg hki, hs]
      exact hC k (by omega)
theorem restM_bd (h out : List Int) (i : Nat) (bo : Bd out) : ∀ (r : List Int) (acc : Int) (k : Nat), (∀ x ∈ r, -1000 ≤ x ∧ x ≤ 1000) → acc - 100000000 * r.length ≤ restM out i acc r k ∧ restM out i acc r k ≤ acc + 100000000 * r.length
  | [], acc, k, hb => by simp [restM]
  | a :: r, acc, k, hb => by
    have bm := mul_bd2 (hb a (by simp)) (atM_bd bo ((i : Int) - k))
    have := restM_bd h out i bo r (acc - a * atM out ((i : Int) - k)) (k + 1) (fun x hx => hb x (by simp [hx]))
    simp only [restM, List.length_cons]
    omega
theorem spec_InverseAnswer_l (h : List Int) (hh1 : 1 ≤ h.length) (hh : h.length ≤ 9) (bh : ∀ x ∈ h, -1000 ≤ x ∧ x ≤ 1000) (n : Nat) (hn : n ≤ 64) : ∀ (d i k : Nat) (out : List Int), i + d = n → out.length = i → Bd out → d * 20 < k → spec_InverseAnswer.l0 k h n out i = some (invM h d i out)
  | 0, i, k, out, hd, ho, bo, hk => by
    obtain ⟨k, rfl⟩ := pred (show 0 < k by omega)
    simp only [spec_InverseAnswer.l0, invM]; rw [if_neg (by omega)]
  | d + 1, i, k, out, hd, ho, bo, hk => by
    obtain ⟨k, rfl⟩ := pred (show 0 < k by omega)
    obtain ⟨k, rfl⟩ := pred (show 0 < k by omega)
    have b0 : -1000 ≤ h.getD 0 0 ∧ h.getD 0 0 ≤ 1000 := by
      rw [show h.getD 0 0 = h[0] by simp [List.getD, show 0 < h.length by omega]]; exact bh _ (List.getElem_mem _)
    have hl : (h.drop 1).length ≤ 8 := by simp; omega
    have bt : ∀ x ∈ h.drop 1, -1000 ≤ x ∧ x ≤ 1000 := fun x hx => bh x (List.mem_of_mem_drop hx)
    have key : ∀ s0 : Int, (s0 = if i = 0 then 1 else 0) → spec_InverseAnswer.l1 k h n out i s0 1 = some (invM h (d + 1) i out) := by
      intro s0 hs0
      have h01 : 0 ≤ s0 ∧ s0 ≤ 1 := by rw [hs0]; split <;> omega
      have rb := restM_bd h out i bo (h.drop 1) s0 1 bt
      refine spec_InverseAnswer_l1 h out n i (d * 20 + 1) _ (by omega) (by omega) ho bo bh (restM out i s0 (h.drop 1) 1) ?_ (h.drop 1) 1 k s0 rfl (by omega) (by omega) rfl (by omega) (by omega) (by omega)
      intro k hk
      have hm : -10000000000000 ≤ restM out i s0 (h.drop 1) 1 * h.getD 0 0 ∧ restM out i s0 (h.drop 1) 1 * h.getD 0 0 ≤ 10000000000000 := mul_bd3 (by omega) b0
      rw [if_pos (by omega), show rd h 0 = h.getD 0 0 from rfl, wrap_id (x := restM out i s0 (h.drop 1) 1 * h.getD 0 0) (by omega) (by omega), spec_l1In_v, wrap_nat (m := 100) (by omega) (by omega)]
      simp only [Option.bind_some, invM, ← hs0]
      cases hr : inR (restM out i s0 (h.drop 1) 1 * h.getD 0 0) (-100000) 100000
      · simp
      · simp only [if_true]
        rw [if_pos (by omega)]
        exact spec_InverseAnswer_l h hh1 hh bh n hn d (i + 1) k _ (by omega) (by simp [ho]) (bo.snoc (inR_true.mp hr)) (by omega)
    simp only [spec_InverseAnswer.l0]
    rw [if_pos (by omega)]
    by_cases h0 : i = 0
    · rw [if_pos (by omega)]; simp only [spec_InverseAnswer.j2]; exact key 1 (by rw [if_pos h0])
    · rw [if_neg (by omega)]; simp only [spec_InverseAnswer.j2]; exact key 0 (by rw [if_neg h0])
theorem spec_InverseAnswer_e (h : List Int) (n : Int) (hn : h.length ≤ 1048576) : Ev (fun k => spec_InverseAnswer.f k h n) (if (weB h && (inR n 0 64 && (h.getD 0 0 == 1 || h.getD 0 0 == -1))) = true then invM h n.toNat 0 [] else ([], false)) := by
  obtain ⟨K1, e1⟩ := spec_weGood_e h (by omega)
  refine ⟨K1 + 2000, fun k hk => ?_⟩
  obtain ⟨k, rfl⟩ := pred (show 0 < k by omega)
  show spec_InverseAnswer.f (k + 1) h n = _
  unfold spec_InverseAnswer.f
  simp only [e1 (k + 1) (by omega), spec_l1In_v, Option.bind_some, show rd h 0 = h.getD 0 0 from rfl]
  cases hc : weB h
  · simp [spec_InverseAnswer.j0]
  cases hn2 : inR n 0 64
  · simp [spec_InverseAnswer.j0]
  have w1 := weB_true hc
  have n1 := inR_true.mp hn2
  have key := spec_InverseAnswer_l h (by omega) (by omega) w1.2.1 n.toNat (by omega) n.toNat 0 k [] (by omega) rfl (by intro x hx; cases hx) (by omega)
  rw [show ((n.toNat : Nat) : Int) = n by omega, show ((0 : Nat) : Int) = 0 from rfl] at key
  simp only [if_true, if_pos (show (0 : Int) < (h.length : Int) by omega), spec_InverseAnswer.j0]
  generalize h.getD 0 0 = z
  by_cases c1 : z = 1
  · simp [c1, key]
  · by_cases c2 : z = -1
    · simp [c2, key]
    · simp [c1, c2]

theorem impl_in_v (a b c : Int) : impl_in.f a b c = some (inR a b c) := inR_le a b c

theorem impl_isWeights_1_v (x : Int) : impl_isWeights_1.f x = some (!inR x (-1000) 1000) := by simp only [impl_isWeights_1.f, impl_in_v, Option.bind_some]
theorem index_isWeights_l (xs : List Int) (hn : xs.length ≤ 1152921504606846976) : ∀ (r : List Int) (n k : Nat), xs.drop n = r → r.length < k → ∃ v : Int, slices_IndexFunc_int_int_impl_isWeights_1.l0 k xs (xs.length : Int) n = some v ∧ decide (v ≥ 0) = !(r.all fun x => inR x (-1000) 1000)
  | [], n, k, hd, hk => by
    obtain ⟨k, rfl⟩ := pred hk
    have := drop_nil hd
    refine ⟨-1, ?_, by simp⟩
    simp only [slices_IndexFunc_int_int_impl_isWeights_1.l0]; rw [if_neg (by omega)]
  | a :: r, n, k, hd, hk => by
    obtain ⟨k, rfl⟩ := pred hk
    obtain ⟨h1, h2, h3⟩ := drop_cons hd
    simp only [slices_IndexFunc_int_int_impl_isWeights_1.l0]
    rw [if_pos (by omega), if_pos (by omega), if_pos (by omega), h2, impl_isWeights_1_v, wrap_nat h1 hn]; simp only [Option.bind_some, List.all_cons]
    cases h : inR a (-1000) 1000
    · exact ⟨n, by simp, by simp⟩
    · obtain ⟨v, e, hv⟩ := index_isWeights_l xs hn r (n + 1) k h3 (by simp at hk; omega)
      exact ⟨v, by simpa using e, by simpa using hv⟩
theorem contains_isWeights_e (xs : List Int) (hn : xs.length ≤ 1152921504606846976) : Ev (fun k => slices_ContainsFunc_int_int_impl_isWeights_1.f k xs) (!(xs.all fun x => inR x (-1000) 1000)) :=
  ⟨xs.length + 1, fun k hk => by
    show slices_ContainsFunc_int_int_impl_isWeights_1.f k xs = some _
    obtain ⟨v, e, hv⟩ := index_isWeights_l xs hn xs 0 k rfl (by omega)
    have e' : slices_IndexFunc_int_int_impl_isWeights_1.f k xs = some v := e
    unfold slices_ContainsFunc_int_int_impl_isWeights_1.f
    rw [e']; simp only [Option.bind_some, hv]⟩

theorem impl_isWeights_e (xs : List Int) (hn : xs.length ≤ 1152921504606846976) : Ev (fun k => impl_isWeights.f k xs) (weB xs) := by
  obtain ⟨K, e⟩ := contains_isWeights_e xs hn
  refine ⟨K, fun k hk => ?_⟩
  show impl_isWeights.f k xs = some (weB xs)
  unfold impl_isWeights.f weB
  simp only [e k hk, impl_in_v, Option.bind_some, Bool.not_not, bind_and]

theorem impl_isSignal_1_v (x : Int) : impl_isSignal_1.f x = some (!inR x (-100000) 100000) := by simp only [impl_isSignal_1.f, impl_in_v, Option.bind_some]
theorem index_isSignal_l (xs : List Int) (hn : xs.length ≤ 1152921504606846976) : ∀ (r : List Int) (n k : Nat), xs.drop n = r → r.length < k → ∃ v : Int, slices_IndexFunc_int_int_impl_isSignal_1.l0 k xs (xs.length : Int) n = some v ∧ decide (v ≥ 0) = !(r.all fun x => inR x (-100000) 100000)
  | [], n, k, hd, hk => by
    obtain ⟨k, rfl⟩ := pred hk
    have := drop_nil hd
    refine ⟨-1, ?_, by simp⟩
    simp only [slices_IndexFunc_int_int_impl_isSignal_1.l0]; rw [if_neg (by omega)]
  | a :: r, n, k, hd, hk => by
    obtain ⟨k, rfl⟩ := pred hk
    obtain ⟨h1, h2, h3⟩ := drop_cons hd
    simp only [slices_IndexFunc_int_int_impl_isSignal_1.l0]
    rw [if_pos (by omega), if_pos (by omega), if_pos (by omega), h2, impl_isSignal_1_v, wrap_nat h1 hn]; simp only [Option.bind_some, List.all_cons]
    cases h : inR a (-100000) 100000
    · exact ⟨n, by simp, by simp⟩
    · obtain ⟨v, e, hv⟩ := index_isSignal_l xs hn r (n + 1) k h3 (by simp at hk; omega)
      exact ⟨v, by simpa using e, by simpa using hv⟩
theorem contains_isSignal_e (xs : List Int) (hn : xs.length ≤ 1152921504606846976) : Ev (fun k => slices_ContainsFunc_int_int_impl_isSignal_1.f k xs) (!(xs.all fun x => inR x (-100000) 100000)) :=
  ⟨xs.length + 1, fun k hk => by
    show slices_ContainsFunc_int_int_impl_isSignal_1.f k xs = some _
    obtain ⟨v, e, hv⟩ := index_isSignal_l xs hn xs 0 k rfl (by omega)
    have e' : slices_IndexFunc_int_int_impl_isSignal_1.f k xs = some v := e
    unfold slices_ContainsFunc_int_int_impl_isSignal_1.f
    rw [e']; simp only [Option.bind_some, hv]⟩

theorem impl_isSignal_e (xs : List Int) (hn : xs.length ≤ 1152921504606846976) : Ev (fun k => impl_isSignal.f k xs) (sigB xs) := by
  obtain ⟨K, e⟩ := contains_isSignal_e xs hn
  refine ⟨K, fun k hk => ?_⟩
  show impl_isSignal.f k xs = some (sigB xs)
  unfold impl_isSignal.f sigB
  simp only [e k hk, Option.bind_some, Bool.not_not]
  by_cases h : xs.length ≤ 64
  · rw [if_pos (by omega)]; simp [h]
  · rw [if_neg (by omega)]; simp [h]
theorem impl_isSignal_k (xs : List Int) (k : Nat) (hn : xs.length ≤ 64) (hk : 66 ≤ k) : impl_isSignal.f k xs = some (sigB xs) := by
  obtain ⟨v, e, hv⟩ := index_isSignal_l xs (by omega) xs 0 k rfl (by omega)
  have e' : slices_IndexFunc_int_int_impl_isSignal_1.f k xs = some v := e
  unfold impl_isSignal.f slices_ContainsFunc_int_int_impl_isSignal_1.f sigB
  rw [e']; simp only [Option.bind_some, hv, Bool.not_not]
  rw [if_pos (by omega)]; simp [hn]

theorem impl_at_v (l : List Int) (i : Int) (hl : l.length ≤ 1152921504606846976) : impl_at.f l i = some (atM l i) := by
  unfold impl_at.f atM
  rw [wrap_id (x := (l.length : Int) - 1) (by omega) (by omega), impl_in_v]
  simp only [Option.bind_some]
  cases h : inR i 0 ((l.length : Int) - 1)
  · have := inR_false.mp h
    simp only [Bool.false_eq_true, if_false]
    by_cases h0 : 0 ≤ i
    · rw [if_pos h0]; simp [List.getD, show l.length ≤ i.toNat by omega]
    · rw [if_neg h0]
  · have := inR_true.mp h
    simp only [if_true]
    rw [if_pos (by omega), if_pos (by omega), if_pos (by omega)]; rfl

theorem impl_size_v (a : Int) (h : -9223372036854775807 ≤ a) (h2 : a ≤ 9223372036854775807) : impl_size.f a = some (absM a) := by
  simp only [impl_size.f]
  rw [wrap_id (by omega) (by omega), mx_max]; rfl

theorem impl_InverseAnswer_l1 (h out : List Int) (n : Int) (i : Nat) (Kc : Nat) (V : List Int × Bool) (hh : h.length ≤ 1000) (hi : i ≤ 1000) (ho : out.length = i) (bo : Bd out) (bh : ∀ x ∈ h, -1000 ≤ x ∧ x ≤ 1000) (s : Int)
    (hC : ∀ k, Kc ≤ k → (if 0 < (h.length : Int) then (if out.length < 17592186044416 then ((some (out ++ [wrap64 (s * (rd h 0))] : List Int)).bind fun y => ((impl_isSignal.f k y).bind fun t => (if t = true then (impl_InverseAnswer.l0 k h y n (wrap64 ((i : Int) + 1))) else (some (([] : List Int), false))))) else (none)) else (none)) = some V) :
    ∀ (r : List Int) (k0 k : Nat) (acc : Int), h.drop k0 = r → 1 ≤ k0 → k0 + r.length ≤ 2000 → restM out i acc r k0 = s → -100000000000 ≤ acc - 100000000 * r.length → acc + 100000000 * r.length ≤ 100000000000 → r.length + Kc < k → impl_InverseAnswer.l1 k h out i acc k0 n i = some V
  | [], k0, k, acc, hd, h1, h2, hs, a1, a2, hk => by
    obtain ⟨k, rfl⟩ := pred (show 0 < k by omega)
    have := drop_nil hd
    simp only [restM] at hs
    simp only [List.length_nil] at hk
    simp only [impl_InverseAnswer.l1]
    rw [if_neg (by omega), hs]
    exact hC k (by omega)
  | a :: r, k0, k, acc, hd, h1, h2, hs, a1, a2, hk => by
    obtain ⟨k, rfl⟩ := pred (show 0 < k by omega)
    obtain ⟨g1, g2, g3⟩ := drop_cons hd
    simp only [List.length_cons] at hk a1 a2 h2
    have ba := bh a (by rw [← List.take_append_drop k0 h, hd]; simp)
    have bx := atM_bd bo ((i : Int) - k0)
    have bm := mul_bd2 ba bx
    simp only [impl_InverseAnswer.l1]
    rw [if_pos (by omega), if_pos (by omega), wrap_id (x := (i : Int) - (k0 : Int)) (by omega) (by omega), impl_at_v out _ (by omega)]
    simp only [Option.bind_some]
    rw [g2, wrap_id (x := a * atM out ((i : Int) - k0)) (by omega) (by omega), wrap_id (x := acc - a * atM out ((i : Int) - k0)) (by omega) (by omega), wrap_nat (m := 3000) (by omega) (by omega)]
    exact impl_InverseAnswer_l1 h out n i Kc V hh hi ho bo bh s hC r (k0 + 1) k _ g3 (by omega) (by omega) hs (by omega) (by omega) (by omega)
theorem restM_bd' (h out : List Int) (i : Nat) (bo : Bd out) : ∀ (r : List Int) (acc : Int) (k : Nat), (∀ x ∈ r, -1000 ≤ x ∧ x ≤ 1000) → acc - 100000000 * r.length ≤ restM out i acc r k ∧ restM out i acc r k ≤ acc + 100000000 * r.length
  | [], acc, k, hb => by simp [restM]
  | a :: r, acc, k, hb => by
    have bm := mul_bd2 (hb a (by simp)) (atM_bd bo ((i : Int) - k))
    have := restM_bd' h out i bo r (acc - a * atM out ((i : Int) - k)) (k + 1) (fun x hx => hb x (by simp [hx]))
    simp only [restM, List.length_cons]
    omega
theorem sigB_snoc {l : List Int} {v : Int} (hl : l.length < 64) (h : Bd l) : sigB (l ++ [v]) = inR v (-100000) 100000 := by
  cases hv : inR v (-100000) 100000
  · simp [sigB, hv]
  · exact sigB_mk (by simp; omega) (h.snoc (inR_true.mp hv))
theorem impl_InverseAnswer_l (h : List Int) (hh1 : 1 ≤ h.length) (hh : h.length ≤ 9) (bh : ∀ x ∈ h, -1000 ≤ x ∧ x ≤ 1000) (n : Nat) (hn : n ≤ 64) (KS : Nat) (hS : ∀ (l : List Int) (k : Nat), l.length ≤ 64 → KS ≤ k → impl_isSignal.f k l = some (sigB l)) : ∀ (d i k : Nat) (out : List Int), i + d = n → out.length = i → Bd out → d * 20 + KS < k → impl_InverseAnswer.l0 k h out n i = some (invM h d i out)
  | 0, i, k, out, hd, ho, bo, hk => by
    obtain ⟨k, rfl⟩ := pred (show 0 < k by omega)
    simp only [impl_InverseAnswer.l0, invM]; rw [if_neg (by omega)]
  | d + 1, i, k, out, hd, ho, bo, hk => by
    obtain ⟨k, rfl⟩ := pred (show 0 < k by omega)
    obtain ⟨k, rfl⟩ := pred (show 0 < k by omega)
    have b0 : -1000 ≤ h.getD 0 0 ∧ h.getD 0 0 ≤ 1000 := by
      rw [show h.getD 0 0 = h[0] by simp [List.getD, show 0 < h.length by omega]]; exact bh _ (List.getElem_mem _)
    have hl : (h.drop 1).length ≤ 8 := by simp; omega
    have bt : ∀ x ∈ h.drop 1, -1000 ≤ x ∧ x ≤ 1000 := fun x hx => bh x (List.mem_of_mem_drop hx)
    have key : ∀ s0 : Int, (s0 = if i = 0 then 1 else 0) → impl_InverseAnswer.l1 k h out i s0 1 n i = some (invM h (d + 1) i out) := by
      intro s0 hs0
      have h01 : 0 ≤ s0 ∧ s0 ≤ 1 := by rw [hs0]; split <;> omega
      have rb := restM_bd' h out i bo (h.drop 1) s0 1 bt
      refine impl_InverseAnswer_l1 h out n i (d * 20 + KS + 1) _ (by omega) (by omega) ho bo bh (restM out i s0 (h.drop 1) 1) ?_ (h.drop 1) 1 k s0 rfl (by omega) (by omega) rfl (by omega) (by omega) (by omega)
      intro k hk
      have hm : -10000000000000 ≤ restM out i s0 (h.drop 1) 1 * h.getD 0 0 ∧ restM out i s0 (h.drop 1) 1 * h.getD 0 0 ≤ 10000000000000 := mul_bd3 (by omega) b0
      rw [if_pos (by omega), if_pos (by omega), show rd h 0 = h.getD 0 0 from rfl, wrap_id (x := restM out i s0 (h.drop 1) 1 * h.getD 0 0) (by omega) (by omega), wrap_nat (m := 100) (by omega) (by omega)]
      simp only [Option.bind_some]
      rw [hS _ k (by simp; omega) (by omega), sigB_snoc (by omega) bo]
      simp only [Option.bind_some, invM, ← hs0]
      cases hr : inR (restM out i s0 (h.drop 1) 1 * h.getD 0 0) (-100000) 100000
      · simp
      · simp only [if_true]
        exact impl_InverseAnswer_l h hh1 hh bh n hn KS hS d (i + 1) k _ (by omega) (by simp [ho]) (bo.snoc (inR_true.mp hr)) (by omega)
    simp only [impl_InverseAnswer.l0]
    rw [if_pos (by omega)]
    by_cases h0 : i = 0
    · rw [if_pos (by omega)]; simp only [impl_InverseAnswer.j2]; exact key 1 (by rw [if_pos h0])
    · rw [if_neg (by omega)]; simp only [impl_InverseAnswer.j2]; exact key 0 (by rw [if_neg h0])
theorem impl_InverseAnswer_e (h : List Int) (n : Int) (hn : h.length ≤ 1048576) : Ev (fun k => impl_InverseAnswer.f k h n) (if (weB h && (inR n 0 64 && (h.getD 0 0 == 1 || h.getD 0 0 == -1))) = true then invM h n.toNat 0 [] else ([], false)) := by
  obtain ⟨K1, e1⟩ := impl_isWeights_e h (by omega)
  refine ⟨K1 + 3000, fun k hk => ?_⟩
  obtain ⟨k, rfl⟩ := pred (show 0 < k by omega)
  show impl_InverseAnswer.f (k + 1) h n = _
  unfold impl_InverseAnswer.f
  simp only [e1 (k + 1) (by omega), impl_in_v, Option.bind_some, show rd h 0 = h.getD 0 0 from rfl]
  cases hc : weB h
  · simp [impl_InverseAnswer.j0]
  cases hn2 : inR n 0 64
  · simp [impl_InverseAnswer.j0]
  have w1 := weB_true hc
  have n1 := inR_true.mp hn2
  have b0 : -1000 ≤ h.getD 0 0 ∧ h.getD 0 0 ≤ 1000 := by
    rw [show h.getD 0 0 = h[0] by simp [List.getD, show 0 < h.length by omega]]; exact w1.2.1 _ (List.getElem_mem _)
  have key := impl_InverseAnswer_l h (by omega) (by omega) w1.2.1 n.toNat (by omega) 66 (fun l k h1 h2 => impl_isSignal_k l k h1 (by omega)) n.toNat 0 k [] (by omega) rfl (by intro x hx; cases hx) (by omega)
  rw [show ((n.toNat : Nat) : Int) = n by omega, show ((0 : Nat) : Int) = 0 from rfl] at key
  simp only [if_true, if_pos (show (0 : Int) < (h.length : Int) by omega), impl_size_v (h.getD 0 0) (by omega) (by omega), Option.bind_some, impl_InverseAnswer.j0, key]
  generalize h.getD 0 0 = z at b0 ⊢
  by_cases c1 : z = 1
  · simp [c1, show absM 1 = 1 by unfold absM; omega]
  · by_cases c2 : z = -1
    · simp [c2, show absM (-1) = 1 by unfold absM; omega]
    · have : absM (z) ≠ 1 := by unfold absM; omega
      simp [c1, c2, this]

-- import Base2
theorem FnExactInverseAnswer : laws_FnExactInverseAnswer.Pure := by
  intro l n _ hl hw _
  by_cases h00 : (l.length : Int) > 1048576
  · exact ⟨0, by simp [laws_FnExactInverseAnswer.f, h00]⟩
  obtain ⟨K1, e1⟩ := laws_toIntS_e l (by omega)
  obtain ⟨K2, e2⟩ := laws_eqIntS_same l (by omega)
  obtain ⟨v, ⟨K3, e3⟩, ⟨K4, e4⟩, hv⟩ := both (spec_InverseAnswer_e l n (by omega)) (impl_InverseAnswer_e l n (by omega)) (by split; { next h => simp only [Bool.and_eq_true] at h; have := inR_true.mp h.2.1; have := invM_len l n.toNat 0 []; simp only [List.length_nil] at this; omega }; { simp })
  obtain ⟨K5, e5⟩ := laws_eqIntS_same v.1 (by omega)
  obtain ⟨K6, e6⟩ := laws_markIntS_e l (1) (by omega) (by omega) (by omega)
  obtain ⟨K7, e7⟩ := laws_markIntS_e v.1 1 (by omega) (by omega) (by omega)
  obtain ⟨K8, e8⟩ := laws_heldIntS_e v.1.length 1 (by omega) (by omega) (by omega)
  obtain ⟨K, hK⟩ : ∃ K, K = K1 + K2 + K3 + K4 + K5 + K6 + K7 + K8 := ⟨_, rfl⟩
  refine ⟨K + 3, ?_⟩
  have a1_3 := e1 (K + 3) (by omega)
  have a2_3 := e2 (K + 3) (by omega)
  have a3_3 := e3 (K + 3) (by omega)
  have a4_3 := e4 (K + 3) (by omega)
  have a5_3 := e5 (K + 3) (by omega)
  have a6_3 := e6 (K + 3) (by omega)
  have a7_3 := e7 (K + 3) (by omega)
  have a8_3 := e8 (K + 3) (by omega)
  have a1_2 := e1 (K + 2) (by omega)
  have a2_2 := e2 (K + 2) (by omega)
  have a3_2 := e3 (K + 2) (by omega)
  have a4_2 := e4 (K + 2) (by omega)
  have a5_2 := e5 (K + 2) (by omega)
  have a6_2 := e6 (K + 2) (by omega)
  have a7_2 := e7 (K + 2) (by omega)
  have a8_2 := e8 (K + 2) (by omega)
  have a1_1 := e1 (K + 1) (by omega)
  have a2_1 := e2 (K + 1) (by omega)
  have a3_1 := e3 (K + 1) (by omega)
  have a4_1 := e4 (K + 1) (by omega)
  have a5_1 := e5 (K + 1) (by omega)
  have a6_1 := e6 (K + 1) (by omega)
  have a7_1 := e7 (K + 1) (by omega)
  have a8_1 := e8 (K + 1) (by omega)
  have a1_0 := e1 K (by omega)
  have a2_0 := e2 K (by omega)
  have a3_0 := e3 K (by omega)
  have a4_0 := e4 K (by omega)
  have a5_0 := e5 K (by omega)
  have a6_0 := e6 K (by omega)
  have a7_0 := e7 K (by omega)
  have a8_0 := e8 K (by omega)
  have n0 : (1 + (l.length : Int) < 0) = False := eq_false (by omega)
  have n1 : (1 + (v.1.length : Int) < 0) = False := eq_false (by omega)
  simp only [laws_FnExactInverseAnswer.f, laws_FnExactInverseAnswer.j0, laws_FnExactInverseAnswer.j1, laws_FnExactInverseAnswer.j2, if_neg h00, a1_3, a2_3, a3_3, a4_3, a5_3, a6_3, a7_3, a8_3, a1_2, a2_2, a3_2, a4_2, a5_2, a6_2, a7_2, a8_2, a1_1, a2_1, a3_1, a4_1, a5_1, a6_1, a7_1, a8_1, a1_0, a2_0, a3_0, a4_0, a5_0, a6_0, a7_0, a8_0, n0, n1, Option.bind_some, bne_self_eq_false, Bool.false_eq_true, if_true, if_false]

end Go.Proofs.Ytepjolkmmnnobaa.Pure
