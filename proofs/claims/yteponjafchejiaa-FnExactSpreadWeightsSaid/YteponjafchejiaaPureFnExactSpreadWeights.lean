/- The plain statement behind the law FnExactSpreadWeights: its walk's numbers answer true. Conditions: the given statement's own (each number is an int; each slice within the reach). -/
import Derived.Test.YteponjafchejiaaQFnExactSpreadWeightsx0
import Derived.Test.YteponjafchejiaaQFnExactSpreadWeightsx1
import Derived.Test.YteponjafchejiaaQFnExactSpreadWeightsx2
import Derived.Test.YteponjafchejiaaQFnExactSpreadWeightsx3
import Derived.Test.YteponjafchejiaaBase
namespace Go.Proofs.Yteponjafchejiaa.Pure
open Go.RowKit Go.Proofs.Yteponjafchejiaa.QFnExactSpreadWeights Go.Proofs.YteponjafchejiaaW.PrintWords Go.Proofs.YteponjafchejiaaW.PrintLast Go.Proofs.YteponjafchejiaaW.PrintMore Go.Proofs.Yteponjafchejiaa.Base
set_option linter.unusedVariables false
set_option linter.unusedSimpArgs false

theorem laws_toIntS_l (xs : List Int) (hn : xs.length ≤ 1152921504606846976) : ∀ (r : List Int) (n k : Nat) (ys : List Int), xs.drop n = r → n ≤ xs.length → ys.length = xs.length → ys.take n = xs.take n → r.length < k → laws_toIntS.l0 k xs ys n = some xs
  | [], n, k, ys, hd, hx, hy, ht, hk => by
    obtain ⟨k, rfl⟩ := pred hk
    have := drop_nil hd
    simp only [laws_toIntS.l0]; rw [if_neg (by omega)]
    rw [List.take_of_length_le (by omega), List.take_of_length_le (by omega)] at ht
    rw [ht]
  | a :: r, n, k, ys, hd, hx, hy, ht, hk => by
    obtain ⟨k, rfl⟩ := pred hk
    obtain ⟨h1, h2, h3⟩ := drop_cons hd
    simp only [laws_toIntS.l0]
    rw [if_pos (by omega), if_pos (by omega), if_pos (by omega), wrap_nat h1 hn]
    refine laws_toIntS_l xs hn r (n + 1) k _ h3 (by omega) (by simpa using hy) ?_ (by simp at hk; omega)
    rw [show ((n : Int)).toNat = n by omega, rd_nat xs n h1]
    apply List.ext_getElem?
    intro i
    by_cases hi : i < n
    · have := congrArg (fun z => z[i]?) ht
      simp only [List.getElem?_take, hi, if_true] at this
      simp only [List.getElem?_take, show i < n + 1 by omega, if_true]
      rw [List.getElem?_set_ne (by omega)]
      exact this
    · by_cases he : i = n
      · subst he
        simp [List.getElem?_take, List.getElem?_set, hy, h1]
      · simp [List.getElem?_take, show ¬ i < n + 1 by omega]
theorem laws_toIntS_e (xs : List Int) (hn : xs.length ≤ 1048576) : Ev (fun k => laws_toIntS.f k xs) xs :=
  ⟨xs.length + 1, fun k hk => by
    show laws_toIntS.f k xs = some xs
    unfold laws_toIntS.f
    rw [if_pos (by omega), if_pos (by omega)]
    exact laws_toIntS_l xs (by omega) xs 0 k _ rfl (by omega) (by simp) (by simp) (by omega)⟩

theorem laws_eqIntS_l (xs : List Int) (hn : xs.length ≤ 1152921504606846976) : ∀ (r : List Int) (n k : Nat), xs.drop n = r → r.length < k → laws_eqIntS.l0 k xs xs n = some true
  | [], n, k, hd, hk => by
    obtain ⟨k, rfl⟩ := pred hk
    have := drop_nil hd
    simp only [laws_eqIntS.l0]; rw [if_neg (by omega)]
  | a :: r, n, k, hd, hk => by
    obtain ⟨k, rfl⟩ := pred hk
    obtain ⟨h1, h2, h3⟩ := drop_cons hd
    simp only [laws_eqIntS.l0]
    rw [if_pos (by omega), if_pos (by omega), if_pos (by omega), if_pos trivial, wrap_nat h1 hn]
    exact laws_eqIntS_l xs hn r (n + 1) k h3 (by simp at hk; omega)
theorem laws_eqIntS_same (xs : List Int) (hn : xs.length ≤ 1152921504606846976) : Ev (fun k => laws_eqIntS.f k xs xs) true :=
  ⟨xs.length + 1, fun k hk => by
    show laws_eqIntS.f k xs xs = some true
    unfold laws_eqIntS.f
    rw [if_pos rfl]
    exact laws_eqIntS_l xs hn xs 0 k rfl (by omega)⟩

theorem laws_markIntS_l (s : Int) (len : Nat) (hs : 0 ≤ s) (hs2 : s ≤ 1000000000000) (hn : len ≤ 1000000000000) : ∀ (d n k : Nat) (ys : List Int), n + d = len → ys.length = len → ys.take n = (marks s len).take n → d < k → laws_markIntS.l0 k ys (s + n) n = some (s + len, marks s len)
  | 0, n, k, ys, hd, hy, ht, hk => by
    obtain ⟨k, rfl⟩ := pred hk
    simp only [laws_markIntS.l0]; rw [if_neg (by omega)]
    rw [List.take_of_length_le (by omega), List.take_of_length_le (by rw [marks_length]; omega)] at ht
    rw [ht, show n = len by omega]
  | d + 1, n, k, ys, hd, hy, ht, hk => by
    obtain ⟨k, rfl⟩ := pred hk
    simp only [laws_markIntS.l0]
    rw [if_pos (by omega), if_pos (by omega), wrap_nat (m := len) (by omega) (by omega), wrap_id (x := s + n + 1) (by omega) (by omega), show s + (n : Int) + 1 = s + ((n + 1 : Nat) : Int) by omega, show ((n : Int)).toNat = n by omega]
    exact laws_markIntS_l s len hs hs2 hn d (n + 1) k _ (by omega) (by simpa using hy) (set_take (by rw [marks_length, hy]) (by rw [marks_length]; omega) ht (marks_get s len n (by omega))) (by omega)
theorem laws_markIntS_e (xs : List Int) (s : Int) (hs : 0 ≤ s) (hs2 : s ≤ 1000000000000) (hn : xs.length ≤ 1048576) : Ev (fun k => laws_markIntS.f k xs s) (s + xs.length, marks s xs.length) :=
  ⟨xs.length + 1, fun k hk => by
    have := laws_markIntS_l s xs.length hs hs2 (by omega) xs.length 0 k xs (by omega) rfl (by simp) (by omega)
    simpa [laws_markIntS.f] using this⟩

theorem laws_heldIntS_l (s : Int) (len : Nat) (hs : 0 ≤ s) (hs2 : s ≤ 1000000000000) (hn : len ≤ 1000000000000) : ∀ (d n k : Nat), n + d = len → d < k → laws_heldIntS.l0 k (marks s len) (s + n) n = some (s + len)
  | 0, n, k, hd, hk => by
    obtain ⟨k, rfl⟩ := pred hk
    simp only [laws_heldIntS.l0, marks_length]; rw [if_neg (by omega), show n = len by omega]
  | d + 1, n, k, hd, hk => by
    obtain ⟨k, rfl⟩ := pred hk
    simp only [laws_heldIntS.l0, marks_length]
    have hr : rd (marks s len) n = s + n := by simp [rd, List.getD, marks_get s len n (by omega)]
    rw [if_pos (by omega), if_pos (by omega), if_pos hr, wrap_nat (m := len) (by omega) (by omega), wrap_id (x := s + n + 1) (by omega) (by omega), show s + (n : Int) + 1 = s + ((n + 1 : Nat) : Int) by omega]
    exact laws_heldIntS_l s len hs hs2 hn d (n + 1) k (by omega) (by omega)
theorem laws_heldIntS_e (n : Nat) (s : Int) (hs : 0 ≤ s) (hs2 : s ≤ 1000000000000) (hn : n ≤ 1048576) : Ev (fun k => laws_heldIntS.f k (marks s n) s) (s + n) :=
  ⟨n + 1, fun k hk => by
    have := laws_heldIntS_l s n hs hs2 (by omega) n 0 k (by omega) (by omega)
    simpa [laws_heldIntS.f] using this⟩

theorem spec_l1In_v (a b c : Int) : spec_l1In.f a b c = some (inR a b c) := inR_ge a b c

theorem spec_l1All_l (lo hi : Int) (xs : List Int) (hn : xs.length ≤ 1152921504606846976) : ∀ (r : List Int) (n k : Nat), xs.drop n = r → r.length < k → spec_l1All.l0 k lo hi xs (xs.length : Int) n = some (r.all fun x => inR x lo hi)
  | [], n, k, hd, hk => by
    obtain ⟨k, rfl⟩ := pred hk
    have := drop_nil hd
    simp only [spec_l1All.l0]; rw [if_neg (by omega)]; rfl
  | a :: r, n, k, hd, hk => by
    obtain ⟨k, rfl⟩ := pred hk
    obtain ⟨h1, h2, h3⟩ := drop_cons hd
    simp only [spec_l1All.l0]
    rw [if_pos (by omega), if_pos (by omega), if_pos (by omega), h2, spec_l1In_v, wrap_nat h1 hn]; simp only [Option.bind_some, List.all_cons]
    cases h : inR a lo hi
    · simp
    · simp only [if_true, Bool.true_and]
      exact spec_l1All_l lo hi xs hn r (n + 1) k h3 (by simp at hk; omega)
theorem spec_l1All_e (lo hi : Int) (xs : List Int) (hn : xs.length ≤ 1152921504606846976) : Ev (fun k => spec_l1All.f k xs lo hi) (xs.all fun x => inR x lo hi) :=
  ⟨xs.length + 1, fun k hk => spec_l1All_l lo hi xs hn xs 0 k rfl (by omega)⟩

theorem spec_weGood_e (xs : List Int) (hn : xs.length ≤ 1152921504606846976) : Ev (fun k => spec_weGood.f k xs) (weB xs) := by
  obtain ⟨K, e⟩ := spec_l1All_e (-1000) 1000 xs hn
  refine ⟨K, fun k hk => ?_⟩
  show spec_weGood.f k xs = some (weB xs)
  unfold spec_weGood.f weB
  simp only [e k hk, spec_l1In_v, Option.bind_some, bind_and]

theorem spec_weIf_e (xs : List Int) (hn : xs.length ≤ 1152921504606846976) : Ev (fun k => spec_weIf.f k xs) (ifWe xs) := by
  obtain ⟨K, e⟩ := spec_weGood_e xs hn
  refine ⟨K, fun k hk => ?_⟩
  show spec_weIf.f k xs = some (ifWe xs)
  unfold spec_weIf.f ifWe
  simp only [e k hk, Option.bind_some]
  split <;> rfl

/-- What stands behind some of the weights, each behind so many zeros. -/
def sprM (g : Nat) : List Int → List Int → Nat → List Int
  | out, [], _ => out
  | out, a :: r, n => sprM g ((if n = 0 then out else out ++ List.replicate g 0) ++ [a]) r (n + 1)
theorem sprM_len (g : Nat) : ∀ (r : List Int) (out : List Int) (n : Nat), (sprM g out r n).length ≤ out.length + r.length * (g + 1)
  | [], out, n => by simp [sprM]
  | a :: r, out, n => by
    have := sprM_len g r ((if n = 0 then out else out ++ List.replicate g 0) ++ [a]) (n + 1)
    simp only [sprM, List.length_cons, Nat.add_mul, Nat.one_mul]
    refine Nat.le_trans this ?_
    split <;> simp <;> omega
theorem spec_SpreadWeights_l1 (xs : List Int) (c : Int) (n : Nat) (a : Int) (hn : 0 < n) (v : List Int × Bool) (N : Nat) : ∀ (d : Nat) (j : Int) (out : List Int) (k : Nat), j + d = c → -1000 ≤ j → c ≤ 1000 → out.length + d < 1099511627776 →
    (∀ k, N ≤ k → spec_SpreadWeights.l0 k c (out ++ List.replicate d 0 ++ [a]) xs (xs.length : Int) (wrap64 ((n : Int) + 1)) = some v) → d + N < k → spec_SpreadWeights.l1 k c out n a j xs (xs.length : Int) n = some v
  | 0, j, out, k, hj, h1, h2, ho, hv, hk => by
    obtain ⟨k, rfl⟩ := pred hk
    simp only [spec_SpreadWeights.l1]
    rw [if_neg (by omega), if_pos (by omega)]
    simpa using hv k (by omega)
  | d + 1, j, out, k, hj, h1, h2, ho, hv, hk => by
    obtain ⟨k, rfl⟩ := pred hk
    simp only [spec_SpreadWeights.l1]
    rw [if_pos (by omega), if_pos (by omega), if_pos (by omega), wrap_id (x := j + 1) (by omega) (by omega)]
    refine spec_SpreadWeights_l1 xs c n a hn v N d (j + 1) (out ++ [0]) k (by omega) (by omega) h2 (by simp; omega) ?_ (by omega)
    intro k hk
    have := hv k hk
    rw [List.replicate_succ] at this
    simpa using this
theorem spec_SpreadWeights_l (xs : List Int) (c : Int) (hc : 1 ≤ c ∧ c ≤ 4) (hn : xs.length ≤ 1152921504606846976) (v : List Int × Bool) (K : Nat) (z : List Int) (hK : ∀ k, K ≤ k → spec_weIf.f k z = some v) : ∀ (r : List Int) (n k : Nat) (out : List Int), xs.drop n = r → out.length + r.length * 5 ≤ 109951162777 → sprM (c - 1).toNat out r n = z → r.length * 8 + K < k → spec_SpreadWeights.l0 k c out xs (xs.length : Int) n = some v
  | [], n, k, out, hd, ho, hv, hk => by
    obtain ⟨k, rfl⟩ := pred hk
    have := drop_nil hd
    simp only [sprM] at hv
    simp only [List.length_nil] at hk
    simp only [spec_SpreadWeights.l0]; rw [if_neg (by omega), hv, hK k (by omega)]; simp
  | a :: r, n, k, out, hd, ho, hv, hk => by
    obtain ⟨k, rfl⟩ := pred hk
    obtain ⟨h1, h2, h3⟩ := drop_cons hd
    simp only [List.length_cons] at hk ho
    simp only [spec_SpreadWeights.l0]
    rw [if_pos (by omega), if_pos (by omega), if_pos (by omega), h2]
    by_cases h0 : n = 0
    · subst h0
      obtain ⟨k, rfl⟩ := pred (show r.length * 8 + K + 1 < k by omega)
      simp only [spec_SpreadWeights.l1]
      have ih := spec_SpreadWeights_l xs c hc hn v K z hK r 1 k (out ++ [a]) h3 (by simp; omega) (by simpa [sprM] using hv) (by omega)
      have e : wrap64 (((0 : Nat) : Int) + 1) = ((1 : Nat) : Int) := by rw [wrap_id (by omega) (by omega)]; rfl
      split
      · rw [if_neg (by omega), if_pos (by omega), e]; exact ih
      · rw [if_pos (by omega), e]; exact ih
    · refine spec_SpreadWeights_l1 xs c n a (by omega) v (r.length * 8 + K + 1) (c - 1).toNat 1 out k (by omega) (by omega) (by omega) (by omega) ?_ (by omega)
      intro k hk
      rw [wrap_nat h1 hn]
      refine spec_SpreadWeights_l xs c hc hn v K z hK r (n + 1) k _ h3 (by simp; omega) ?_ (by omega)
      simpa [sprM, h0] using hv
theorem spec_SpreadWeights_e (xs : List Int) (c : Int) (hn : xs.length ≤ 1048576) : Ev (fun k => spec_SpreadWeights.f k xs c) (if (weB xs && inR c 1 4) = true then ifWe (sprM (c - 1).toNat [] xs 0) else ([], false)) := by
  obtain ⟨K1, e1⟩ := spec_weGood_e xs (by omega)
  cases h : weB xs
  · refine ⟨K1 + 1, fun k hk => ?_⟩
    obtain ⟨k, rfl⟩ := pred (show K1 < k by omega)
    show spec_SpreadWeights.f (k + 1) xs c = _
    unfold spec_SpreadWeights.f
    simp [e1 (k + 1) (by omega), h, spec_SpreadWeights.j0]
  · cases h2 : inR c 1 4
    · refine ⟨K1 + 1, fun k hk => ?_⟩
      obtain ⟨k, rfl⟩ := pred (show K1 < k by omega)
      show spec_SpreadWeights.f (k + 1) xs c = _
      unfold spec_SpreadWeights.f
      simp [e1 (k + 1) (by omega), h, h2, spec_l1In_v, spec_SpreadWeights.j0]
    · have hc := inR_true.mp h2
      have hw := (weB_true h).1
      have hl := sprM_len (c - 1).toNat xs [] 0
      have hl2 : xs.length * ((c - 1).toNat + 1) ≤ 9 * 4 := Nat.mul_le_mul hw.2 (by omega)
      simp only [List.length_nil] at hl
      obtain ⟨K3, e3⟩ := spec_weIf_e (sprM (c - 1).toNat [] xs 0) (by omega)
      refine ⟨K1 + K3 + xs.length * 8 + 2, fun k hk => ?_⟩
      obtain ⟨k, rfl⟩ := pred (show K1 + K3 + xs.length * 8 + 1 < k by omega)
      show spec_SpreadWeights.f (k + 1) xs c = _
      unfold spec_SpreadWeights.f
      have := spec_SpreadWeights_l xs c hc (by omega) _ K3 _ e3 xs 0 k [] rfl (by simp; omega) rfl (by omega)
      simp [e1 (k + 1) (by omega), h, h2, spec_l1In_v, spec_SpreadWeights.j0]
      simpa using this

theorem impl_in_v (a b c : Int) : impl_in.f a b c = some (inR a b c) := inR_le a b c

theorem impl_isWeights_1_v (x : Int) : impl_isWeights_1.f x = some (!inR x (-1000) 1000) := by simp only [impl_isWeights_1.f, impl_in_v, Option.bind_some]
theorem index_isWeights_l (xs : List Int) (hn : xs.length ≤ 1152921504606846976) : ∀ (r : List Int) (n k : Nat), xs.drop n = r → r.length < k → ∃ v : Int, slices_IndexFunc_int_int_impl_isWeights_1.l0 k xs (xs.length : Int) n = some v ∧ decide (v ≥ 0) = !(r.all fun x => inR x (-1000) 1000)
  | [], n, k, hd, hk => by
    obtain ⟨k, rfl⟩ := pred hk
    have := drop_nil hd
    refine ⟨-1, ?_, by simp⟩
    simp only [slices_IndexFunc_int_int_impl_isWeights_1.l0]; rw [if_neg (by omega)]
  | a :: r, n, k, hd, hk => by
    obtain ⟨k, rfl⟩ := pred hk
    obtain ⟨h1, h2, h3⟩ := drop_cons hd
    simp only [slices_IndexFunc_int_int_impl_isWeights_1.l0]
    rw [if_pos (by omega), if_pos (by omega), if_pos (by omega), h2, impl_isWeights_1_v, wrap_nat h1 hn]; simp only [Option.bind_some, List.all_cons]
    cases h : inR a (-1000) 1000
    · exact ⟨n, by simp, by simp⟩
    · obtain ⟨v, e, hv⟩ := index_isWeights_l xs hn r (n + 1) k h3 (by simp at hk; omega)
      exact ⟨v, by simpa using e, by simpa using hv⟩
theorem contains_isWeights_e (xs : List Int) (hn : xs.length ≤ 1152921504606846976) : Ev (fun k => slices_ContainsFunc_int_int_impl_isWeights_1.f k xs) (!(xs.all fun x => inR x (-1000) 1000)) :=
  ⟨xs.length + 1, fun k hk => by
    show slices_ContainsFunc_int_int_impl_isWeights_1.f k xs = some _
    obtain ⟨v, e, hv⟩ := index_isWeights_l xs hn xs 0 k rfl (by omega)
    have e' : slices_IndexFunc_int_int_impl_isWeights_1.f k xs = some v := e
    unfold slices_ContainsFunc_int_int_impl_isWeights_1.f
    rw [e']; simp only [Option.bind_some, hv]⟩

theorem impl_isWeights_e (xs : List Int) (hn : xs.length ≤ 1152921504606846976) : Ev (fun k => impl_isWeights.f k xs) (weB xs) := by
  obtain ⟨K, e⟩ := contains_isWeights_e xs hn
  refine ⟨K, fun k hk => ?_⟩
  show impl_isWeights.f k xs = some (weB xs)
  unfold impl_isWeights.f weB
  simp only [e k hk, impl_in_v, Option.bind_some, Bool.not_not, bind_and]

theorem impl_weighed_e (xs : List Int) (hn : xs.length ≤ 1152921504606846976) : Ev (fun k => impl_weighed.f k xs) (ifWe xs) := by
  obtain ⟨K, e⟩ := impl_isWeights_e xs hn
  refine ⟨K, fun k hk => ?_⟩
  show impl_weighed.f k xs = some (ifWe xs)
  unfold impl_weighed.f ifWe
  simp only [e k hk, Option.bind_some]
  split <;> rfl

theorem set_behind (X : List Int) (g m : Nat) (a : Int) : (X ++ List.replicate (g + (m + 1)) 0).set (X.length + g) a = (X ++ List.replicate g 0 ++ [a]) ++ List.replicate m 0 := by
  rw [List.set_append, if_neg (by omega), show X.length + g - X.length = g by omega, ← List.replicate_append_replicate, List.set_append, if_neg (by simp)]
  simp [List.replicate_succ]
/-- The list with its zeros laid ahead: 'out' is what stands there, with zeros behind it. -/
theorem impl_SpreadWeights_l (xs : List Int) (c : Nat) (hc : 1 ≤ c ∧ c ≤ 4) (hx : xs.length ≤ 9) (v : List Int × Bool) (K : Nat) (z : List Int) (hK : ∀ k, K ≤ k → impl_weighed.f k z = some v) : ∀ (r : List Int) (n k : Nat) (X : List Int), 1 ≤ n → n ≤ xs.length → xs.drop n = r → X.length = (n - 1) * c + 1 → sprM (c - 1) X r n = z → r.length + K < k → impl_SpreadWeights.l0 k c (X ++ List.replicate (r.length * c) 0) xs (xs.length : Int) n = some v
  | [], n, k, X, hn, hn2, hd, hX, hv, hk => by
    obtain ⟨k, rfl⟩ := pred hk
    have := drop_nil hd
    simp only [sprM] at hv
    simp only [List.length_nil] at hk
    simp only [impl_SpreadWeights.l0]; rw [if_neg (by omega)]; simp [hv, hK k (by omega)]
  | a :: r, n, k, X, hn, hn2, hd, hX, hv, hk => by
    obtain ⟨k, rfl⟩ := pred hk
    obtain ⟨h1, h2, h3⟩ := drop_cons hd
    simp only [List.length_cons] at hk
    have hnc : n * c ≤ 9 * 4 := Nat.mul_le_mul (by omega) hc.2
    have e1 : n * c = X.length + (c - 1) := by
      rw [hX]
      have : n * c = (n - 1) * c + c := by rw [← Nat.succ_mul]; congr 1; omega
      omega
    have e2 : (r.length + 1) * c = (c - 1) + (r.length * c + 1) := by rw [Nat.succ_mul]; omega
    have e3 : ((n : Int) * (c : Int)) = ((n * c : Nat) : Int) := by simp
    simp only [impl_SpreadWeights.l0, List.length_cons]
    rw [e3, wrap_id (x := ((n * c : Nat) : Int)) (by omega) (by omega)]
    rw [if_pos (by omega), if_pos (by omega), if_pos (by omega), if_pos (by omega), if_pos (by rw [List.length_append, List.length_replicate, e2]; omega), h2, Int.toNat_natCast, e1, e2, set_behind, wrap_nat h1 (by omega)]
    refine impl_SpreadWeights_l xs c hc hx v K z hK r (n + 1) k _ (by omega) (by omega) h3 ?_ ?_ (by omega)
    · simp only [List.length_append, List.length_replicate, List.length_singleton]
      rw [show n + 1 - 1 = n by omega, e1]
    · simpa [sprM, show n ≠ 0 by omega] using hv
theorem impl_SpreadWeights_e (xs : List Int) (c : Int) (hn : xs.length ≤ 1048576) : Ev (fun k => impl_SpreadWeights.f k xs c) (if (weB xs && inR c 1 4) = true then ifWe (sprM (c - 1).toNat [] xs 0) else ([], false)) := by
  obtain ⟨K1, e1⟩ := impl_isWeights_e xs (by omega)
  cases h : weB xs
  · refine ⟨K1 + 1, fun k hk => ?_⟩
    obtain ⟨k, rfl⟩ := pred (show K1 < k by omega)
    show impl_SpreadWeights.f (k + 1) xs c = _
    unfold impl_SpreadWeights.f
    simp [e1 (k + 1) (by omega), h, impl_SpreadWeights.j0]
  · cases h2 : inR c 1 4
    · refine ⟨K1 + 1, fun k hk => ?_⟩
      obtain ⟨k, rfl⟩ := pred (show K1 < k by omega)
      show impl_SpreadWeights.f (k + 1) xs c = _
      unfold impl_SpreadWeights.f
      simp [e1 (k + 1) (by omega), h, h2, impl_in_v, impl_SpreadWeights.j0]
    · have hc := inR_true.mp h2
      obtain ⟨c, rfl⟩ : ∃ d : Nat, c = d := ⟨c.toNat, by omega⟩
      have hw := (weB_true h).1
      have hl := sprM_len ((c : Int) - 1).toNat xs [] 0
      have hl2 : xs.length * (((c : Int) - 1).toNat + 1) ≤ 9 * 4 := Nat.mul_le_mul hw.2 (by omega)
      simp only [List.length_nil] at hl
      obtain ⟨K3, e3⟩ := impl_weighed_e (sprM ((c : Int) - 1).toNat [] xs 0) (by omega)
      have hlc : (xs.length - 1) * c ≤ 9 * 4 := Nat.mul_le_mul (by omega) (by omega)
      refine ⟨K1 + K3 + xs.length + 3, fun k hk => ?_⟩
      obtain ⟨k, rfl⟩ := pred (show K1 + K3 + xs.length + 2 < k by omega)
      obtain ⟨k, rfl⟩ := pred (show K1 + K3 + xs.length + 1 < k by omega)
      show impl_SpreadWeights.f (k + 1 + 1) xs c = _
      unfold impl_SpreadWeights.f
      have e4 : wrap64 (wrap64 (wrap64 ((xs.length : Int) - 1) * (c : Int)) + 1) = (((xs.length - 1) * c + 1 : Nat) : Int) := by
        have e5 : ((xs.length : Int) - 1) * (c : Int) = (((xs.length - 1) * c : Nat) : Int) := by
          rw [show (xs.length : Int) - 1 = ((xs.length - 1 : Nat) : Int) by omega]; simp
        rw [wrap_id (x := (xs.length : Int) - 1) (by omega) (by omega), e5, wrap_id (x := (((xs.length - 1) * c : Nat) : Int)) (by omega) (by omega), wrap_id (by omega) (by omega)]
        omega
      simp only [e1 (k + 1 + 1) (by omega), h, h2, impl_in_v, Option.bind_some, if_true, Bool.not_true, Bool.and_self]
      simp only [impl_SpreadWeights.j0, e4, Bool.false_eq_true, if_false]
      rw [if_pos (by omega), if_pos (by omega), Int.toNat_natCast]
      cases xs with
      | nil => simp at hw
      | cons a r =>
        have h0 : impl_SpreadWeights.l0 (k + 1) (c : Int) (List.replicate (((a :: r).length - 1) * c + 1) 0) (a :: r) ((a :: r).length : Int) 0 = impl_SpreadWeights.l0 k (c : Int) ([a] ++ List.replicate (r.length * c) 0) (a :: r) ((a :: r).length : Int) ((1 : Nat) : Int) := by
          simp only [impl_SpreadWeights.l0, List.length_cons, Nat.add_sub_cancel, Int.zero_mul]
          have w0 : wrap64 0 = 0 := wrap_id (by omega) (by omega)
          have w1 : wrap64 (0 + 1) = ((1 : Nat) : Int) := by rw [wrap_id (by omega) (by omega)]; rfl
          simp only [w0, w1]
          rw [if_pos (by omega), if_pos (by omega), if_pos (by omega), if_pos (by omega), if_pos (by rw [List.length_replicate]; omega)]
          rw [show (0 : Int).toNat = 0 from rfl, List.replicate_succ]
          rfl
        rw [h0]
        refine impl_SpreadWeights_l (a :: r) c (by omega) hw.2 _ K3 _ e3 r 1 k [a] (by omega) (by simp) rfl (by simp) ?_ (by simp at hk; omega)
        simp [sprM, show ((c : Int) - 1).toNat = c - 1 by omega]

theorem FnExactSpreadWeights : laws_FnExactSpreadWeights.Pure := by
  intro xs c _ hl hw _
  by_cases h00 : (xs.length : Int) > 1048576
  · exact ⟨0, by simp [laws_FnExactSpreadWeights.f, h00]⟩
  obtain ⟨K1, e1⟩ := laws_toIntS_e xs (by omega)
  obtain ⟨K2, e2⟩ := laws_eqIntS_same xs (by omega)
  obtain ⟨v, ⟨K3, e3⟩, ⟨K4, e4⟩, hv⟩ := both (spec_SpreadWeights_e xs c (by omega)) (impl_SpreadWeights_e xs c (by omega)) (Nat.le_trans (we_if_len _) (by omega))
  obtain ⟨K5, e5⟩ := laws_eqIntS_same v.1 (by omega)
  obtain ⟨K6, e6⟩ := laws_markIntS_e xs (1) (by omega) (by omega) (by omega)
  obtain ⟨K7, e7⟩ := laws_markIntS_e v.1 1 (by omega) (by omega) (by omega)
  obtain ⟨K8, e8⟩ := laws_heldIntS_e v.1.length 1 (by omega) (by omega) (by omega)
  obtain ⟨K, hK⟩ : ∃ K, K = K1 + K2 + K3 + K4 + K5 + K6 + K7 + K8 := ⟨_, rfl⟩
  refine ⟨K + 3, ?_⟩
  have a1_3 := e1 (K + 3) (by omega)
  have a2_3 := e2 (K + 3) (by omega)
  have a3_3 := e3 (K + 3) (by omega)
  have a4_3 := e4 (K + 3) (by omega)
  have a5_3 := e5 (K + 3) (by omega)
  have a6_3 := e6 (K + 3) (by omega)
  have a7_3 := e7 (K + 3) (by omega)
  have a8_3 := e8 (K + 3) (by omega)
  have a1_2 := e1 (K + 2) (by omega)
  have a2_2 := e2 (K + 2) (by omega)
  have a3_2 := e3 (K + 2) (by omega)
  have a4_2 := e4 (K + 2) (by omega)
  have a5_2 := e5 (K + 2) (by omega)
  have a6_2 := e6 (K + 2) (by omega)
  have a7_2 := e7 (K + 2) (by omega)
  have a8_2 := e8 (K + 2) (by omega)
  have a1_1 := e1 (K + 1) (by omega)
  have a2_1 := e2 (K + 1) (by omega)
  have a3_1 := e3 (K + 1) (by omega)
  have a4_1 := e4 (K + 1) (by omega)
  have a5_1 := e5 (K + 1) (by omega)
  have a6_1 := e6 (K + 1) (by omega)
  have a7_1 := e7 (K + 1) (by omega)
  have a8_1 := e8 (K + 1) (by omega)
  have a1_0 := e1 K (by omega)
  have a2_0 := e2 K (by omega)
  have a3_0 := e3 K (by omega)
  have a4_0 := e4 K (by omega)
  have a5_0 := e5 K (by omega)
  have a6_0 := e6 K (by omega)
  have a7_0 := e7 K (by omega)
  have a8_0 := e8 K (by omega)
  have n0 : (1 + (xs.length : Int) < 0) = False := eq_false (by omega)
  have n1 : (1 + (v.1.length : Int) < 0) = False := eq_false (by omega)
  simp only [laws_FnExactSpreadWeights.f, laws_FnExactSpreadWeights.j0, laws_FnExactSpreadWeights.j1, laws_FnExactSpreadWeights.j2, if_neg h00, a1_3, a2_3, a3_3, a4_3, a5_3, a6_3, a7_3, a8_3, a1_2, a2_2, a3_2, a4_2, a5_2, a6_2, a7_2, a8_2, a1_1, a2_1, a3_1, a4_1, a5_1, a6_1, a7_1, a8_1, a1_0, a2_0, a3_0, a4_0, a5_0, a6_0, a7_0, a8_0, n0, n1, Option.bind_some, bne_self_eq_false, Bool.false_eq_true, if_true, if_false]

end Go.Proofs.Yteponjafchejiaa.Pure
