/- The plain statement behind the law FnExactCountUnfit: its walk's numbers answer true. Conditions: the given statement's own (each number is an int; each slice within the reach). -/
import Derived.Test.YteponjafchejiaaQFnExactCountUnfitx0
import Derived.Test.YteponjafchejiaaQFnExactCountUnfitx1
import Derived.Test.YteponjafchejiaaQFnExactCountUnfitx2
import Derived.Test.YteponjafchejiaaQFnExactCountUnfitx3
import Derived.Test.YteponjafchejiaaBase
namespace Go.Proofs.Yteponjafchejiaa.Pure
open Go.RowKit Go.Proofs.Yteponjafchejiaa.QFnExactCountUnfit Go.Proofs.YteponjafchejiaaW.PrintWords Go.Proofs.YteponjafchejiaaW.PrintLast Go.Proofs.YteponjafchejiaaW.PrintMore Go.Proofs.Yteponjafchejiaa.Base
set_option linter.unusedVariables false
set_option linter.unusedSimpArgs false

theorem laws_toIntS_l (xs : List Int) (hn : xs.length ≤ 1152921504606846976) : ∀ (r : List Int) (n k : Nat) (ys : List Int), xs.drop n = r → n ≤ xs.length → ys.length = xs.length → ys.take n = xs.take n → r.length < k → laws_toIntS.l0 k xs ys n = some xs
  | [], n, k, ys, hd, hx, hy, ht, hk => by
    obtain ⟨k, rfl⟩ := pred hk
    have := drop_nil hd
    simp only [laws_toIntS.l0]; rw [if_neg (by omega)]
    rw [List.take_of_length_le (by omega), List.take_of_length_le (by omega)] at ht
    rw [ht]
  | a :: r, n, k, ys, hd, hx, hy, ht, hk => by
    obtain ⟨k, rfl⟩ := pred hk
    obtain ⟨h1, h2, h3⟩ := drop_cons hd
    simp only [laws_toIntS.l0]
    rw [if_pos (by omega), if_pos (by omega), if_pos (by omega), wrap_nat h1 hn]
    refine laws_toIntS_l xs hn r (n + 1) k _ h3 (by omega) (by simpa using hy) ?_ (by simp at hk; omega)
    rw [show ((n : Int)).toNat = n by omega, rd_nat xs n h1]
    apply List.ext_getElem?
    intro i
    by_cases hi : i < n
    · have := congrArg (fun z => z[i]?) ht
      simp only [List.getElem?_take, hi, if_true] at this
      simp only [List.getElem?_take, show i < n + 1 by omega, if_true]
      rw [List.getElem?_set_ne (by omega)]
      exact this
    · by_cases he : i = n
      · subst he
        simp [List.getElem?_take, List.getElem?_set, hy, h1]
      · simp [List.getElem?_take, show ¬ i < n + 1 by omega]
theorem laws_toIntS_e (xs : List Int) (hn : xs.length ≤ 1048576) : Ev (fun k => laws_toIntS.f k xs) xs :=
  ⟨xs.length + 1, fun k hk => by
    show laws_toIntS.f k xs = some xs
    unfold laws_toIntS.f
    rw [if_pos (by omega), if_pos (by omega)]
    exact laws_toIntS_l xs (by omega) xs 0 k _ rfl (by omega) (by simp) (by simp) (by omega)⟩

theorem laws_eqIntS_l (xs : List Int) (hn : xs.length ≤ 1152921504606846976) : ∀ (r : List Int) (n k : Nat), xs.drop n = r → r.length < k → laws_eqIntS.l0 k xs xs n = some true
  | [], n, k, hd, hk => by
    obtain ⟨k, rfl⟩ := pred hk
    have := drop_nil hd
    simp only [laws_eqIntS.l0]; rw [if_neg (by omega)]
  | a :: r, n, k, hd, hk => by
    obtain ⟨k, rfl⟩ := pred hk
    obtain ⟨h1, h2, h3⟩ := drop_cons hd
    simp only [laws_eqIntS.l0]
    rw [if_pos (by omega), if_pos (by omega), if_pos (by omega), if_pos trivial, wrap_nat h1 hn]
    exact laws_eqIntS_l xs hn r (n + 1) k h3 (by simp at hk; omega)
theorem laws_eqIntS_same (xs : List Int) (hn : xs.length ≤ 1152921504606846976) : Ev (fun k => laws_eqIntS.f k xs xs) true :=
  ⟨xs.length + 1, fun k hk => by
    show laws_eqIntS.f k xs xs = some true
    unfold laws_eqIntS.f
    rw [if_pos rfl]
    exact laws_eqIntS_l xs hn xs 0 k rfl (by omega)⟩

theorem spec_l1In_v (a b c : Int) : spec_l1In.f a b c = some (inR a b c) := inR_ge a b c

theorem spec_l1All_l (lo hi : Int) (xs : List Int) (hn : xs.length ≤ 1152921504606846976) : ∀ (r : List Int) (n k : Nat), xs.drop n = r → r.length < k → spec_l1All.l0 k lo hi xs (xs.length : Int) n = some (r.all fun x => inR x lo hi)
  | [], n, k, hd, hk => by
    obtain ⟨k, rfl⟩ := pred hk
    have := drop_nil hd
    simp only [spec_l1All.l0]; rw [if_neg (by omega)]; rfl
  | a :: r, n, k, hd, hk => by
    obtain ⟨k, rfl⟩ := pred hk
    obtain ⟨h1, h2, h3⟩ := drop_cons hd
    simp only [spec_l1All.l0]
    rw [if_pos (by omega), if_pos (by omega), if_pos (by omega), h2, spec_l1In_v, wrap_nat h1 hn]; simp only [Option.bind_some, List.all_cons]
    cases h : inR a lo hi
    · simp
    · simp only [if_true, Bool.true_and]
      exact spec_l1All_l lo hi xs hn r (n + 1) k h3 (by simp at hk; omega)
theorem spec_l1All_e (lo hi : Int) (xs : List Int) (hn : xs.length ≤ 1152921504606846976) : Ev (fun k => spec_l1All.f k xs lo hi) (xs.all fun x => inR x lo hi) :=
  ⟨xs.length + 1, fun k hk => spec_l1All_l lo hi xs hn xs 0 k rfl (by omega)⟩

theorem spec_wdSignal_e (xs : List Int) (hn : xs.length ≤ 1152921504606846976) : Ev (fun k => spec_wdSignal.f k xs) (sigB xs) := by
  obtain ⟨K, e⟩ := spec_l1All_e (-100000) 100000 xs hn
  refine ⟨K, fun k hk => ?_⟩
  show spec_wdSignal.f k xs = some (sigB xs)
  unfold spec_wdSignal.f sigB
  simp only [e k hk, Option.bind_some]
  by_cases h : xs.length ≤ 64
  · rw [if_pos (by omega)]; simp [h]
  · rw [if_neg (by omega)]; simp [h]

theorem spec_wdGood_v (a : Int) (b : Bool) : spec_wdGood.f a b = some (inR a 2 16) := by simp [spec_wdGood.f, spec_l1In_v]

theorem spec_wdLow_v (b : Int) (w : Bool) (h1 : 2 ≤ b) (h2 : b ≤ 16) : spec_wdLow.f b w = some (-pw (b - 1)) := by
  have := pw_pos (b - 1)
  have := pw_le (n := b - 1) (by omega)
  unfold spec_wdLow.f
  rw [wrap_id (x := b - 1) (by omega) (by omega), if_pos (by omega), shl_one (by omega), wrap_id (by omega) (by omega)]

theorem spec_wdHigh_v (b : Int) (w : Bool) (h1 : 2 ≤ b) (h2 : b ≤ 16) : spec_wdHigh.f b w = some (pw (b - 1) - 1) := by
  have := pw_pos (b - 1)
  have := pw_le (n := b - 1) (by omega)
  unfold spec_wdHigh.f
  rw [wrap_id (x := b - 1) (by omega) (by omega), if_pos (by omega), shl_one (by omega), wrap_id (by omega) (by omega)]

theorem spec_wdIn_v (b : Int) (w : Bool) (x : Int) : spec_wdIn.f b w x = some (inR b 2 16 && inR x (-pw (b - 1)) (pw (b - 1) - 1)) := by
  unfold spec_wdIn.f
  simp only [spec_wdGood_v, Option.bind_some]
  cases h : inR b 2 16
  · simp
  · obtain ⟨h1, h2⟩ := inR_true.mp h
    simp [spec_wdLow_v b w h1 h2, spec_wdHigh_v b w h1 h2, spec_l1In_v]

theorem spec_CountUnfit_l (xs : List Int) (b : Int) (w : Bool) (h0 : inR b 2 16 = true) (hn : xs.length ≤ 1152921504606846976) : ∀ (r : List Int) (n k : Nat) (t : Nat), xs.drop n = r → t + r.length ≤ 1152921504606846976 → r.length < k → spec_CountUnfit.l0 k t xs (xs.length : Int) n b w = some ((t : Int) + ((r.filter fun x => !inR x (-pw (b - 1)) (pw (b - 1) - 1)).length : Int), true)
  | [], n, k, t, hd, ht, hk => by
    obtain ⟨k, rfl⟩ := pred hk
    have := drop_nil hd
    simp only [spec_CountUnfit.l0]; rw [if_neg (by omega)]; simp
  | a :: r, n, k, t, hd, ht, hk => by
    obtain ⟨k, rfl⟩ := pred hk
    obtain ⟨h1, h2, h3⟩ := drop_cons hd
    simp only [List.length_cons] at hk ht
    simp only [spec_CountUnfit.l0]
    rw [if_pos (by omega), if_pos (by omega), if_pos (by omega), h2, wrap_nat h1 hn]
    simp only [spec_wdIn_v, h0, Bool.true_and, Option.bind_some]
    cases hx : inR a (-pw (b - 1)) (pw (b - 1) - 1)
    · simp only [Bool.false_eq_true, if_false]
      rw [wrap_id (x := (t : Int) + 1) (by omega) (by omega), show (t : Int) + 1 = ((t + 1 : Nat) : Int) by omega, spec_CountUnfit_l xs b w h0 hn r (n + 1) k (t + 1) h3 (by omega) (by omega)]
      simp [List.filter_cons, hx]
      omega
    · simp only [if_true]
      rw [spec_CountUnfit_l xs b w h0 hn r (n + 1) k t h3 (by omega) (by omega)]
      simp [List.filter_cons, hx]
theorem spec_CountUnfit_e (b : Int) (w : Bool) (xs : List Int) (hn : xs.length ≤ 1048576) : Ev (fun k => spec_CountUnfit.f k b w xs) (if (inR b 2 16 && sigB xs) = true then (((xs.filter fun x => !inR x (-pw (b - 1)) (pw (b - 1) - 1)).length : Int), true) else (0, false)) := by
  obtain ⟨K1, e1⟩ := spec_wdSignal_e xs (by omega)
  refine ⟨K1 + xs.length + 2, fun k hk => ?_⟩
  obtain ⟨k, rfl⟩ := pred (show K1 + xs.length + 1 < k by omega)
  show spec_CountUnfit.f (k + 1) b w xs = _
  unfold spec_CountUnfit.f
  simp only [spec_wdGood_v, Option.bind_some]
  cases h0 : inR b 2 16
  · simp [spec_CountUnfit.j0]
  · cases h : sigB xs
    · simp [e1 (k + 1) (by omega), h, spec_CountUnfit.j0]
    · have := spec_CountUnfit_l xs b w h0 (by omega) xs 0 k 0 rfl (by omega) (by omega)
      simp [e1 (k + 1) (by omega), h, spec_CountUnfit.j0]
      simpa using this

theorem laws_toWord_v (a : Int) (b : Bool) : laws_toWord.f a b = some (a, b) := rfl

theorem impl_in_v (a b c : Int) : impl_in.f a b c = some (inR a b c) := inR_le a b c

theorem impl_isSignal_1_v (x : Int) : impl_isSignal_1.f x = some (!inR x (-100000) 100000) := by simp only [impl_isSignal_1.f, impl_in_v, Option.bind_some]
theorem index_isSignal_l (xs : List Int) (hn : xs.length ≤ 1152921504606846976) : ∀ (r : List Int) (n k : Nat), xs.drop n = r → r.length < k → ∃ v : Int, slices_IndexFunc_int_int_impl_isSignal_1.l0 k xs (xs.length : Int) n = some v ∧ decide (v ≥ 0) = !(r.all fun x => inR x (-100000) 100000)
  | [], n, k, hd, hk => by
    obtain ⟨k, rfl⟩ := pred hk
    have := drop_nil hd
    refine ⟨-1, ?_, by simp⟩
    simp only [slices_IndexFunc_int_int_impl_isSignal_1.l0]; rw [if_neg (by omega)]
  | a :: r, n, k, hd, hk => by
    obtain ⟨k, rfl⟩ := pred hk
    obtain ⟨h1, h2, h3⟩ := drop_cons hd
    simp only [slices_IndexFunc_int_int_impl_isSignal_1.l0]
    rw [if_pos (by omega), if_pos (by omega), if_pos (by omega), h2, impl_isSignal_1_v, wrap_nat h1 hn]; simp only [Option.bind_some, List.all_cons]
    cases h : inR a (-100000) 100000
    · exact ⟨n, by simp, by simp⟩
    · obtain ⟨v, e, hv⟩ := index_isSignal_l xs hn r (n + 1) k h3 (by simp at hk; omega)
      exact ⟨v, by simpa using e, by simpa using hv⟩
theorem contains_isSignal_e (xs : List Int) (hn : xs.length ≤ 1152921504606846976) : Ev (fun k => slices_ContainsFunc_int_int_impl_isSignal_1.f k xs) (!(xs.all fun x => inR x (-100000) 100000)) :=
  ⟨xs.length + 1, fun k hk => by
    show slices_ContainsFunc_int_int_impl_isSignal_1.f k xs = some _
    obtain ⟨v, e, hv⟩ := index_isSignal_l xs hn xs 0 k rfl (by omega)
    have e' : slices_IndexFunc_int_int_impl_isSignal_1.f k xs = some v := e
    unfold slices_ContainsFunc_int_int_impl_isSignal_1.f
    rw [e']; simp only [Option.bind_some, hv]⟩

theorem impl_isSignal_e (xs : List Int) (hn : xs.length ≤ 1152921504606846976) : Ev (fun k => impl_isSignal.f k xs) (sigB xs) := by
  obtain ⟨K, e⟩ := contains_isSignal_e xs hn
  refine ⟨K, fun k hk => ?_⟩
  show impl_isSignal.f k xs = some (sigB xs)
  unfold impl_isSignal.f sigB
  simp only [e k hk, Option.bind_some, Bool.not_not]
  by_cases h : xs.length ≤ 64
  · rw [if_pos (by omega)]; simp [h]
  · rw [if_neg (by omega)]; simp [h]

theorem impl_isWord_v (a : Int) (b : Bool) : impl_isWord.f a b = some (inR a 2 16) := by simp [impl_isWord.f, impl_in_v]

theorem impl_Word_ends_v (b : Int) (w : Bool) (h1 : 2 ≤ b) (h2 : b ≤ 16) : impl_Word_ends.f b w = some (-pw (b - 1), pw (b - 1) - 1) := by
  have := pw_pos (b - 1)
  have := pw_le (n := b - 1) (by omega)
  unfold impl_Word_ends.f
  rw [wrap_id (x := b - 1) (by omega) (by omega), if_pos (by omega), shl_one (by omega), wrap_id (x := -pw (b - 1)) (by omega) (by omega), wrap_id (x := pw (b - 1) - 1) (by omega) (by omega)]

theorem impl_Word_has_v (b : Int) (w : Bool) (x : Int) (h1 : 2 ≤ b) (h2 : b ≤ 16) : impl_Word_has.f b w x = some (inR x (-pw (b - 1)) (pw (b - 1) - 1)) := by
  unfold impl_Word_has.f
  simp only [impl_Word_ends_v b w h1 h2, impl_in_v, Option.bind_some]

theorem impl_CountUnfit_l (xs : List Int) (b : Int) (w : Bool) (h0 : inR b 2 16 = true) (hn : xs.length ≤ 1152921504606846976) : ∀ (r : List Int) (n k : Nat) (t : Nat), xs.drop n = r → t + r.length ≤ 1152921504606846976 → r.length < k → impl_CountUnfit.l0 k t xs (xs.length : Int) n b w = some ((t : Int) + ((r.filter fun x => !inR x (-pw (b - 1)) (pw (b - 1) - 1)).length : Int), true)
  | [], n, k, t, hd, ht, hk => by
    obtain ⟨k, rfl⟩ := pred hk
    have := drop_nil hd
    simp only [impl_CountUnfit.l0]; rw [if_neg (by omega)]; simp
  | a :: r, n, k, t, hd, ht, hk => by
    obtain ⟨k, rfl⟩ := pred hk
    obtain ⟨h1, h2, h3⟩ := drop_cons hd
    simp only [List.length_cons] at hk ht
    simp only [impl_CountUnfit.l0]
    rw [if_pos (by omega), if_pos (by omega), if_pos (by omega), h2, wrap_nat h1 hn]
    simp only [impl_Word_has_v b w _ (inR_true.mp h0).1 (inR_true.mp h0).2, Option.bind_some]
    cases hx : inR a (-pw (b - 1)) (pw (b - 1) - 1)
    · simp only [Bool.false_eq_true, if_false]
      rw [wrap_id (x := (t : Int) + 1) (by omega) (by omega), show (t : Int) + 1 = ((t + 1 : Nat) : Int) by omega, impl_CountUnfit_l xs b w h0 hn r (n + 1) k (t + 1) h3 (by omega) (by omega)]
      simp [List.filter_cons, hx]
      omega
    · simp only [if_true]
      rw [impl_CountUnfit_l xs b w h0 hn r (n + 1) k t h3 (by omega) (by omega)]
      simp [List.filter_cons, hx]
theorem impl_CountUnfit_e (b : Int) (w : Bool) (xs : List Int) (hn : xs.length ≤ 1048576) : Ev (fun k => impl_CountUnfit.f k b w xs) (if (inR b 2 16 && sigB xs) = true then (((xs.filter fun x => !inR x (-pw (b - 1)) (pw (b - 1) - 1)).length : Int), true) else (0, false)) := by
  obtain ⟨K1, e1⟩ := impl_isSignal_e xs (by omega)
  refine ⟨K1 + xs.length + 2, fun k hk => ?_⟩
  obtain ⟨k, rfl⟩ := pred (show K1 + xs.length + 1 < k by omega)
  show impl_CountUnfit.f (k + 1) b w xs = _
  unfold impl_CountUnfit.f
  simp only [impl_isWord_v, Option.bind_some]
  cases h0 : inR b 2 16
  · simp [impl_CountUnfit.j0]
  · cases h : sigB xs
    · simp [e1 (k + 1) (by omega), h, impl_CountUnfit.j0]
    · have := impl_CountUnfit_l xs b w h0 (by omega) xs 0 k 0 rfl (by omega) (by omega)
      simp [e1 (k + 1) (by omega), h, impl_CountUnfit.j0]
      simpa using this

theorem FnExactCountUnfit : laws_FnExactCountUnfit.Pure := by
  intro b w l _ _ hl hw
  by_cases h0 : (l.length : Int) > 1048576
  · exact ⟨0, by simp [laws_FnExactCountUnfit.f, h0]⟩
  obtain ⟨K1, e1⟩ := laws_toIntS_e l (by omega)
  obtain ⟨K2, e2⟩ := laws_eqIntS_same l (by omega)
  obtain ⟨K3, e3⟩ := spec_CountUnfit_e b w l (by omega)
  obtain ⟨K4, e4⟩ := impl_CountUnfit_e b w l (by omega)
  refine ⟨K1 + K2 + K3 + K4 + 1, ?_⟩
  simp only [laws_FnExactCountUnfit.f, laws_toWord_v, if_neg h0, e1 _ (show K1 ≤ K1 + K2 + K3 + K4 + 1 by omega), e3 _ (show K3 ≤ K1 + K2 + K3 + K4 + 1 by omega), e4 _ (show K4 ≤ K1 + K2 + K3 + K4 + 1 by omega), Option.bind_some]
  simp [laws_FnExactCountUnfit.j0, e1 _ (show K1 ≤ K1 + K2 + K3 + K4 by omega), e2 _ (show K2 ≤ K1 + K2 + K3 + K4 by omega)]

end Go.Proofs.Yteponjafchejiaa.Pure
