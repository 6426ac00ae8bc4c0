/- The plain statement behind the law FnExactPeakOf: its walk's numbers answer true. Conditions: the given statement's own (each number is an int; each slice within the reach). -/
import Derived.Test.YtgancmcbldmjaaaQFnExactPeakOfx0
import Derived.Test.YtgancmcbldmjaaaQFnExactPeakOfx1
import Derived.Test.YtgancmcbldmjaaaQFnExactPeakOfx2
import Derived.Test.YtgancmcbldmjaaaBase
namespace Go.Proofs.Ytgancmcbldmjaaa.Pure
open Go.RowKit Go.Proofs.Ytgancmcbldmjaaa.QFnExactPeakOf Go.Proofs.YtgancmcbldmjaaaW.PrintWords Go.Proofs.YtgancmcbldmjaaaW.PrintLast Go.Proofs.YtgancmcbldmjaaaW.PrintMore Go.Proofs.Ytgancmcbldmjaaa.Base
set_option linter.unusedVariables false
set_option linter.unusedSimpArgs false

theorem laws_toIntS_l (xs : List Int) (hn : xs.length ≤ 1152921504606846976) : ∀ (r : List Int) (n k : Nat) (ys : List Int), xs.drop n = r → n ≤ xs.length → ys.length = xs.length → ys.take n = xs.take n → r.length < k → laws_toIntS.l0 k xs ys n = some xs
  | [], n, k, ys, hd, hx, hy, ht, hk => by
    obtain ⟨k, rfl⟩ := pred hk
    have := drop_nil hd
    simp only [laws_toIntS.l0]; rw [if_neg (by omega)]
    rw [List.take_of_length_le (by omega), List.take_of_length_le (by omega)] at ht
    rw [ht]
  | a :: r, n, k, ys, hd, hx, hy, ht, hk => by
    obtain ⟨k, rfl⟩ := pred hk
    obtain ⟨h1, h2, h3⟩ := drop_cons hd
    simp only [laws_toIntS.l0]
    rw [if_pos (by omega), if_pos (by omega), if_pos (by omega), wrap_nat h1 hn]
    refine laws_toIntS_l xs hn r (n + 1) k _ h3 (by omega) (by simpa using hy) ?_ (by simp at hk; omega)
    rw [show ((n : Int)).toNat = n by omega, rd_nat xs n h1]
    apply List.ext_getElem?
    intro i
    by_cases hi : i < n
    · have := congrArg (fun z => z[i]?) ht
      simp only [List.getElem?_take, hi, if_true] at this
      simp only [List.getElem?_take, show i < n + 1 by omega, if_true]
      rw [List.getElem?_set_ne (by omega)]
      exact this
    · by_cases he : i = n
      · subst he
        simp [List.getElem?_take, List.getElem?_set, hy, h1]
      · simp [List.getElem?_take, show ¬ i < n + 1 by omega]
theorem laws_toIntS_e (xs : List Int) (hn : xs.length ≤ 1048576) : Ev (fun k => laws_toIntS.f k xs) xs :=
  ⟨xs.length + 1, fun k hk => by
    show laws_toIntS.f k xs = some xs
    unfold laws_toIntS.f
    rw [if_pos (by omega), if_pos (by omega)]
    exact laws_toIntS_l xs (by omega) xs 0 k _ rfl (by omega) (by simp) (by simp) (by omega)⟩

theorem laws_eqIntS_l (xs : List Int) (hn : xs.length ≤ 1152921504606846976) : ∀ (r : List Int) (n k : Nat), xs.drop n = r → r.length < k → laws_eqIntS.l0 k xs xs n = some true
  | [], n, k, hd, hk => by
    obtain ⟨k, rfl⟩ := pred hk
    have := drop_nil hd
    simp only [laws_eqIntS.l0]; rw [if_neg (by omega)]
  | a :: r, n, k, hd, hk => by
    obtain ⟨k, rfl⟩ := pred hk
    obtain ⟨h1, h2, h3⟩ := drop_cons hd
    simp only [laws_eqIntS.l0]
    rw [if_pos (by omega), if_pos (by omega), if_pos (by omega), if_pos trivial, wrap_nat h1 hn]
    exact laws_eqIntS_l xs hn r (n + 1) k h3 (by simp at hk; omega)
theorem laws_eqIntS_same (xs : List Int) (hn : xs.length ≤ 1152921504606846976) : Ev (fun k => laws_eqIntS.f k xs xs) true :=
  ⟨xs.length + 1, fun k hk => by
    show laws_eqIntS.f k xs xs = some true
    unfold laws_eqIntS.f
    rw [if_pos rfl]
    exact laws_eqIntS_l xs hn xs 0 k rfl (by omega)⟩

theorem spec_l1In_v (a b c : Int) : spec_l1In.f a b c = some (inR a b c) := inR_ge a b c

theorem spec_l1All_l (lo hi : Int) (xs : List Int) (hn : xs.length ≤ 1152921504606846976) : ∀ (r : List Int) (n k : Nat), xs.drop n = r → r.length < k → spec_l1All.l0 k lo hi xs (xs.length : Int) n = some (r.all fun x => inR x lo hi)
  | [], n, k, hd, hk => by
    obtain ⟨k, rfl⟩ := pred hk
    have := drop_nil hd
    simp only [spec_l1All.l0]; rw [if_neg (by omega)]; rfl
  | a :: r, n, k, hd, hk => by
    obtain ⟨k, rfl⟩ := pred hk
    obtain ⟨h1, h2, h3⟩ := drop_cons hd
    simp only [spec_l1All.l0]
    rw [if_pos (by omega), if_pos (by omega), if_pos (by omega), h2, spec_l1In_v, wrap_nat h1 hn]; simp only [Option.bind_some, List.all_cons]
    cases h : inR a lo hi
    · simp
    · simp only [if_true, Bool.true_and]
      exact spec_l1All_l lo hi xs hn r (n + 1) k h3 (by simp at hk; omega)
theorem spec_l1All_e (lo hi : Int) (xs : List Int) (hn : xs.length ≤ 1152921504606846976) : Ev (fun k => spec_l1All.f k xs lo hi) (xs.all fun x => inR x lo hi) :=
  ⟨xs.length + 1, fun k hk => spec_l1All_l lo hi xs hn xs 0 k rfl (by omega)⟩

theorem spec_wdSignal_e (xs : List Int) (hn : xs.length ≤ 1152921504606846976) : Ev (fun k => spec_wdSignal.f k xs) (sigB xs) := by
  obtain ⟨K, e⟩ := spec_l1All_e (-100000) 100000 xs hn
  refine ⟨K, fun k hk => ?_⟩
  show spec_wdSignal.f k xs = some (sigB xs)
  unfold spec_wdSignal.f sigB
  simp only [e k hk, Option.bind_some]
  by_cases h : xs.length ≤ 64
  · rw [if_pos (by omega)]; simp [h]
  · rw [if_neg (by omega)]; simp [h]

theorem spec_l1Most_v (a b : Int) : spec_l1Most.f a b = some (max a b) := by
  unfold spec_l1Most.f
  split <;> (congr 1; omega)

theorem spec_l1Abs_v (a : Int) (h : -9223372036854775807 ≤ a) (h2 : a ≤ 9223372036854775807) : spec_l1Abs.f a = some (absM a) := by
  simp only [spec_l1Abs.f, spec_l1Most_v, Option.bind_some]
  rw [wrap_id (by omega) (by omega)]; rfl

theorem spec_wdPeak_l (xs : List Int) (hn : xs.length ≤ 1152921504606846976) : ∀ (r : List Int) (n k : Nat) (m : Int), xs.drop n = r → (∀ x ∈ r, -9223372036854775807 ≤ x ∧ x ≤ 9223372036854775807) → r.length < k → spec_wdPeak.l0 k m xs (xs.length : Int) n = some (pk m r)
  | [], n, k, m, hd, hb, hk => by
    obtain ⟨k, rfl⟩ := pred hk
    have := drop_nil hd
    simp only [spec_wdPeak.l0]; rw [if_neg (by omega)]; simp [pk]
  | a :: r, n, k, m, hd, hb, hk => by
    obtain ⟨k, rfl⟩ := pred hk
    obtain ⟨h1, h2, h3⟩ := drop_cons hd
    have b1 := hb a (by simp)
    simp only [List.length_cons] at hk
    simp only [spec_wdPeak.l0]
    rw [if_pos (by omega), if_pos (by omega), if_pos (by omega), h2, wrap_nat h1 hn, spec_l1Abs_v a (by omega) (by omega)]
    simp only [Option.bind_some, spec_l1Most_v]
    rw [spec_wdPeak_l xs hn r (n + 1) k _ h3 (fun x hx => hb x (by simp [hx])) (by omega)]
    rfl
theorem spec_wdPeak_e (xs : List Int) (hn : xs.length ≤ 1048576) (hb : ∀ x ∈ xs, -9223372036854775807 ≤ x ∧ x ≤ 9223372036854775807) : Ev (fun k => spec_wdPeak.f k xs) (pk 0 xs) :=
  ⟨xs.length + 1, fun k hk => by
    show spec_wdPeak.f k xs = _
    have := spec_wdPeak_l xs (by omega) xs 0 k 0 rfl hb (by omega)
    simpa [spec_wdPeak.f] using this⟩

theorem spec_PeakOf_e (xs : List Int) (hn : xs.length ≤ 1048576) : Ev (fun k => spec_PeakOf.f k xs) (if sigB xs = true then (pk 0 xs, true) else (0, false)) := by
  obtain ⟨K1, e1⟩ := spec_wdSignal_e xs (by omega)
  cases h : sigB xs
  · refine ⟨K1, fun k hk => ?_⟩
    show spec_PeakOf.f k xs = _
    unfold spec_PeakOf.f
    simp [e1 k hk, h]
  · obtain ⟨K2, e2⟩ := spec_wdPeak_e xs hn (fun x hx => by have := (sigB_true h).2 x hx; omega)
    refine ⟨K1 + K2, fun k hk => ?_⟩
    show spec_PeakOf.f k xs = _
    unfold spec_PeakOf.f
    simp [e1 k (by omega), e2 k (by omega), h]

theorem impl_in_v (a b c : Int) : impl_in.f a b c = some (inR a b c) := inR_le a b c

theorem impl_isSignal_1_v (x : Int) : impl_isSignal_1.f x = some (!inR x (-100000) 100000) := by simp only [impl_isSignal_1.f, impl_in_v, Option.bind_some]
theorem index_isSignal_l (xs : List Int) (hn : xs.length ≤ 1152921504606846976) : ∀ (r : List Int) (n k : Nat), xs.drop n = r → r.length < k → ∃ v : Int, slices_IndexFunc_int_int_impl_isSignal_1.l0 k xs (xs.length : Int) n = some v ∧ decide (v ≥ 0) = !(r.all fun x => inR x (-100000) 100000)
  | [], n, k, hd, hk => by
    obtain ⟨k, rfl⟩ := pred hk
    have := drop_nil hd
    refine ⟨-1, ?_, by simp⟩
    simp only [slices_IndexFunc_int_int_impl_isSignal_1.l0]; rw [if_neg (by omega)]
  | a :: r, n, k, hd, hk => by
    obtain ⟨k, rfl⟩ := pred hk
    obtain ⟨h1, h2, h3⟩ := drop_cons hd
    simp only [slices_IndexFunc_int_int_impl_isSignal_1.l0]
    rw [if_pos (by omega), if_pos (by omega), if_pos (by omega), h2, impl_isSignal_1_v, wrap_nat h1 hn]; simp only [Option.bind_some, List.all_cons]
    cases h : inR a (-100000) 100000
    · exact ⟨n, by simp, by simp⟩
    · obtain ⟨v, e, hv⟩ := index_isSignal_l xs hn r (n + 1) k h3 (by simp at hk; omega)
      exact ⟨v, by simpa using e, by simpa using hv⟩
theorem contains_isSignal_e (xs : List Int) (hn : xs.length ≤ 1152921504606846976) : Ev (fun k => slices_ContainsFunc_int_int_impl_isSignal_1.f k xs) (!(xs.all fun x => inR x (-100000) 100000)) :=
  ⟨xs.length + 1, fun k hk => by
    show slices_ContainsFunc_int_int_impl_isSignal_1.f k xs = some _
    obtain ⟨v, e, hv⟩ := index_isSignal_l xs hn xs 0 k rfl (by omega)
    have e' : slices_IndexFunc_int_int_impl_isSignal_1.f k xs = some v := e
    unfold slices_ContainsFunc_int_int_impl_isSignal_1.f
    rw [e']; simp only [Option.bind_some, hv]⟩

theorem impl_isSignal_e (xs : List Int) (hn : xs.length ≤ 1152921504606846976) : Ev (fun k => impl_isSignal.f k xs) (sigB xs) := by
  obtain ⟨K, e⟩ := contains_isSignal_e xs hn
  refine ⟨K, fun k hk => ?_⟩
  show impl_isSignal.f k xs = some (sigB xs)
  unfold impl_isSignal.f sigB
  simp only [e k hk, Option.bind_some, Bool.not_not]
  by_cases h : xs.length ≤ 64
  · rw [if_pos (by omega)]; simp [h]
  · rw [if_neg (by omega)]; simp [h]

theorem impl_size_v (a : Int) (h : -9223372036854775807 ≤ a) (h2 : a ≤ 9223372036854775807) : impl_size.f a = some (absM a) := by
  simp only [impl_size.f]
  rw [wrap_id (by omega) (by omega), mx_max]; rfl

theorem impl_peak_l (xs : List Int) (hn : xs.length ≤ 1152921504606846976) : ∀ (r : List Int) (n k : Nat) (m : Int), xs.drop n = r → (∀ x ∈ r, -9223372036854775807 ≤ x ∧ x ≤ 9223372036854775807) → r.length < k → impl_peak.l0 k m xs (xs.length : Int) n = some (pk m r)
  | [], n, k, m, hd, hb, hk => by
    obtain ⟨k, rfl⟩ := pred hk
    have := drop_nil hd
    simp only [impl_peak.l0]; rw [if_neg (by omega)]; simp [pk]
  | a :: r, n, k, m, hd, hb, hk => by
    obtain ⟨k, rfl⟩ := pred hk
    obtain ⟨h1, h2, h3⟩ := drop_cons hd
    have b1 := hb a (by simp)
    simp only [List.length_cons] at hk
    simp only [impl_peak.l0]
    rw [if_pos (by omega), if_pos (by omega), if_pos (by omega), h2, wrap_nat h1 hn, impl_size_v a (by omega) (by omega)]
    simp only [Option.bind_some, mx_max]
    rw [impl_peak_l xs hn r (n + 1) k _ h3 (fun x hx => hb x (by simp [hx])) (by omega)]
    rfl
theorem impl_peak_e (xs : List Int) (hn : xs.length ≤ 1048576) (hb : ∀ x ∈ xs, -9223372036854775807 ≤ x ∧ x ≤ 9223372036854775807) : Ev (fun k => impl_peak.f k xs) (pk 0 xs) :=
  ⟨xs.length + 1, fun k hk => by
    show impl_peak.f k xs = _
    have := impl_peak_l xs (by omega) xs 0 k 0 rfl hb (by omega)
    simpa [impl_peak.f] using this⟩

theorem impl_PeakOf_e (xs : List Int) (hn : xs.length ≤ 1048576) : Ev (fun k => impl_PeakOf.f k xs) (if sigB xs = true then (pk 0 xs, true) else (0, false)) := by
  obtain ⟨K1, e1⟩ := impl_isSignal_e xs (by omega)
  cases h : sigB xs
  · refine ⟨K1, fun k hk => ?_⟩
    show impl_PeakOf.f k xs = _
    unfold impl_PeakOf.f
    simp [e1 k hk, h]
  · obtain ⟨K2, e2⟩ := impl_peak_e xs hn (fun x hx => by have := (sigB_true h).2 x hx; omega)
    refine ⟨K1 + K2, fun k hk => ?_⟩
    show impl_PeakOf.f k xs = _
    unfold impl_PeakOf.f
    simp [e1 k (by omega), e2 k (by omega), h]

theorem FnExactPeakOf : laws_FnExactPeakOf.Pure := by
  intro l _ hl hw
  by_cases h0 : (l.length : Int) > 1048576
  · exact ⟨0, by simp [laws_FnExactPeakOf.f, h0]⟩
  obtain ⟨K1, e1⟩ := laws_toIntS_e l (by omega)
  obtain ⟨K2, e2⟩ := laws_eqIntS_same l (by omega)
  obtain ⟨K3, e3⟩ := spec_PeakOf_e l (by omega)
  obtain ⟨K4, e4⟩ := impl_PeakOf_e l (by omega)
  refine ⟨K1 + K2 + K3 + K4 + 1, ?_⟩
  simp only [laws_FnExactPeakOf.f, if_neg h0, e1 _ (show K1 ≤ K1 + K2 + K3 + K4 + 1 by omega), e3 _ (show K3 ≤ K1 + K2 + K3 + K4 + 1 by omega), e4 _ (show K4 ≤ K1 + K2 + K3 + K4 + 1 by omega), Option.bind_some]
  simp [laws_FnExactPeakOf.j0, e1 _ (show K1 ≤ K1 + K2 + K3 + K4 by omega), e2 _ (show K2 ≤ K1 + K2 + K3 + K4 by omega)]

end Go.Proofs.Ytgancmcbldmjaaa.Pure
