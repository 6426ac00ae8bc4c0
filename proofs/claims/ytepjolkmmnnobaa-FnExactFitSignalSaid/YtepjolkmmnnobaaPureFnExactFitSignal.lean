/- The plain statement behind the law FnExactFitSignal: its walk's numbers answer true. Conditions: the given statement's own (each number is an int; each slice within the reach). -/
import Derived.Test.YtepjolkmmnnobaaQFnExactFitSignalx0
import Derived.Test.YtepjolkmmnnobaaQFnExactFitSignalx1
import Derived.Test.YtepjolkmmnnobaaQFnExactFitSignalx2
import Derived.Test.YtepjolkmmnnobaaQFnExactFitSignalx3
import Derived.Test.YtepjolkmmnnobaaBase
namespace Go.Proofs.Ytepjolkmmnnobaa.Pure
open Go.RowKit Go.Proofs.Ytepjolkmmnnobaa.QFnExactFitSignal Go.Proofs.YtepjolkmmnnobaaW.PrintWords Go.Proofs.YtepjolkmmnnobaaW.PrintLast Go.Proofs.YtepjolkmmnnobaaW.PrintMore Go.Proofs.Ytepjolkmmnnobaa.Base
set_option linter.unusedVariables false
set_option linter.unusedSimpArgs false

theorem laws_toIntS_l (xs : List Int) (hn : xs.length ≤ 1152921504606846976) : ∀ (r : List Int) (n k : Nat) (ys : List Int), xs.drop n = r → n ≤ xs.length → ys.length = xs.length → ys.take n = xs.take n → r.length < k → laws_toIntS.l0 k xs ys n = some xs
  | [], n, k, ys, hd, hx, hy, ht, hk => by
    obtain ⟨k, rfl⟩ := pred hk
    have := drop_nil hd
    simp only [laws_toIntS.l0]; rw [if_neg (by omega)]
    rw [List.take_of_length_le (by omega), List.take_of_length_le (by omega)] at ht
    rw [ht]
  | a :: r, n, k, ys, hd, hx, hy, ht, hk => by
    obtain ⟨k, rfl⟩ := pred hk
    obtain ⟨h1, h2, h3⟩ := drop_cons hd
    simp only [laws_toIntS.l0]
    rw [if_pos (by omega), if_pos (by omega), if_pos (by omega), wrap_nat h1 hn]
    refine laws_toIntS_l xs hn r (n + 1) k _ h3 (by omega) (by simpa using hy) ?_ (by simp at hk; omega)
    rw [show ((n : Int)).toNat = n by omega, rd_nat xs n h1]
    apply List.ext_getElem?
    intro i
    by_cases hi : i < n
    · have := congrArg (fun z => z[i]?) ht
      simp only [List.getElem?_take, hi, if_true] at this
      simp only [List.getElem?_take, show i < n + 1 by omega, if_true]
      rw [List.getElem?_set_ne (by omega)]
      exact this
    · by_cases he : i = n
      · subst he
        simp [List.getElem?_take, List.getElem?_set, hy, h1]
      · simp [List.getElem?_take, show ¬ i < n + 1 by omega]
theorem laws_toIntS_e (xs : List Int) (hn : xs.length ≤ 1048576) : Ev (fun k => laws_toIntS.f k xs) xs :=
  ⟨xs.length + 1, fun k hk => by
    show laws_toIntS.f k xs = some xs
    unfold laws_toIntS.f
    rw [if_pos (by omega), if_pos (by omega)]
    exact laws_toIntS_l xs (by omega) xs 0 k _ rfl (by omega) (by simp) (by simp) (by omega)⟩

theorem laws_toWord_v (a : Int) (b : Bool) : laws_toWord.f a b = some (a, b) := rfl

theorem laws_eqIntS_l (xs : List Int) (hn : xs.length ≤ 1152921504606846976) : ∀ (r : List Int) (n k : Nat), xs.drop n = r → r.length < k → laws_eqIntS.l0 k xs xs n = some true
  | [], n, k, hd, hk => by
    obtain ⟨k, rfl⟩ := pred hk
    have := drop_nil hd
    simp only [laws_eqIntS.l0]; rw [if_neg (by omega)]
  | a :: r, n, k, hd, hk => by
    obtain ⟨k, rfl⟩ := pred hk
    obtain ⟨h1, h2, h3⟩ := drop_cons hd
    simp only [laws_eqIntS.l0]
    rw [if_pos (by omega), if_pos (by omega), if_pos (by omega), if_pos trivial, wrap_nat h1 hn]
    exact laws_eqIntS_l xs hn r (n + 1) k h3 (by simp at hk; omega)
theorem laws_eqIntS_same (xs : List Int) (hn : xs.length ≤ 1152921504606846976) : Ev (fun k => laws_eqIntS.f k xs xs) true :=
  ⟨xs.length + 1, fun k hk => by
    show laws_eqIntS.f k xs xs = some true
    unfold laws_eqIntS.f
    rw [if_pos rfl]
    exact laws_eqIntS_l xs hn xs 0 k rfl (by omega)⟩

theorem laws_markIntS_l (s : Int) (len : Nat) (hs : 0 ≤ s) (hs2 : s ≤ 1000000000000) (hn : len ≤ 1000000000000) : ∀ (d n k : Nat) (ys : List Int), n + d = len → ys.length = len → ys.take n = (marks s len).take n → d < k → laws_markIntS.l0 k ys (s + n) n = some (s + len, marks s len)
  | 0, n, k, ys, hd, hy, ht, hk => by
    obtain ⟨k, rfl⟩ := pred hk
    simp only [laws_markIntS.l0]; rw [if_neg (by omega)]
    rw [List.take_of_length_le (by omega), List.take_of_length_le (by rw [marks_length]; omega)] at ht
    rw [ht, show n = len by omega]
  | d + 1, n, k, ys, hd, hy, ht, hk => by
    obtain ⟨k, rfl⟩ := pred hk
    simp only [laws_markIntS.l0]
    rw [if_pos (by omega), if_pos (by omega), wrap_nat (m := len) (by omega) (by omega), wrap_id (x := s + n + 1) (by omega) (by omega), show s + (n : Int) + 1 = s + ((n + 1 : Nat) : Int) by omega, show ((n : Int)).toNat = n by omega]
    exact laws_markIntS_l s len hs hs2 hn d (n + 1) k _ (by omega) (by simpa using hy) (set_take (by rw [marks_length, hy]) (by rw [marks_length]; omega) ht (marks_get s len n (by omega))) (by omega)
theorem laws_markIntS_e (xs : List Int) (s : Int) (hs : 0 ≤ s) (hs2 : s ≤ 1000000000000) (hn : xs.length ≤ 1048576) : Ev (fun k => laws_markIntS.f k xs s) (s + xs.length, marks s xs.length) :=
  ⟨xs.length + 1, fun k hk => by
    have := laws_markIntS_l s xs.length hs hs2 (by omega) xs.length 0 k xs (by omega) rfl (by simp) (by omega)
    simpa [laws_markIntS.f] using this⟩

theorem laws_heldIntS_l (s : Int) (len : Nat) (hs : 0 ≤ s) (hs2 : s ≤ 1000000000000) (hn : len ≤ 1000000000000) : ∀ (d n k : Nat), n + d = len → d < k → laws_heldIntS.l0 k (marks s len) (s + n) n = some (s + len)
  | 0, n, k, hd, hk => by
    obtain ⟨k, rfl⟩ := pred hk
    simp only [laws_heldIntS.l0, marks_length]; rw [if_neg (by omega), show n = len by omega]
  | d + 1, n, k, hd, hk => by
    obtain ⟨k, rfl⟩ := pred hk
    simp only [laws_heldIntS.l0, marks_length]
    have hr : rd (marks s len) n = s + n := by simp [rd, List.getD, marks_get s len n (by omega)]
    rw [if_pos (by omega), if_pos (by omega), if_pos hr, wrap_nat (m := len) (by omega) (by omega), wrap_id (x := s + n + 1) (by omega) (by omega), show s + (n : Int) + 1 = s + ((n + 1 : Nat) : Int) by omega]
    exact laws_heldIntS_l s len hs hs2 hn d (n + 1) k (by omega) (by omega)
theorem laws_heldIntS_e (n : Nat) (s : Int) (hs : 0 ≤ s) (hs2 : s ≤ 1000000000000) (hn : n ≤ 1048576) : Ev (fun k => laws_heldIntS.f k (marks s n) s) (s + n) :=
  ⟨n + 1, fun k hk => by
    have := laws_heldIntS_l s n hs hs2 (by omega) n 0 k (by omega) (by omega)
    simpa [laws_heldIntS.f] using this⟩

theorem spec_l1In_v (a b c : Int) : spec_l1In.f a b c = some (inR a b c) := inR_ge a b c

theorem spec_wdGood_v (a : Int) (b : Bool) : spec_wdGood.f a b = some (inR a 2 16) := by simp [spec_wdGood.f, spec_l1In_v]

theorem spec_l1All_l (lo hi : Int) (xs : List Int) (hn : xs.length ≤ 1152921504606846976) : ∀ (r : List Int) (n k : Nat), xs.drop n = r → r.length < k → spec_l1All.l0 k lo hi xs (xs.length : Int) n = some (r.all fun x => inR x lo hi)
  | [], n, k, hd, hk => by
    obtain ⟨k, rfl⟩ := pred hk
    have := drop_nil hd
    simp only [spec_l1All.l0]; rw [if_neg (by omega)]; rfl
  | a :: r, n, k, hd, hk => by
    obtain ⟨k, rfl⟩ := pred hk
    obtain ⟨h1, h2, h3⟩ := drop_cons hd
    simp only [spec_l1All.l0]
    rw [if_pos (by omega), if_pos (by omega), if_pos (by omega), h2, spec_l1In_v, wrap_nat h1 hn]; simp only [Option.bind_some, List.all_cons]
    cases h : inR a lo hi
    · simp
    · simp only [if_true, Bool.true_and]
      exact spec_l1All_l lo hi xs hn r (n + 1) k h3 (by simp at hk; omega)
theorem spec_l1All_e (lo hi : Int) (xs : List Int) (hn : xs.length ≤ 1152921504606846976) : Ev (fun k => spec_l1All.f k xs lo hi) (xs.all fun x => inR x lo hi) :=
  ⟨xs.length + 1, fun k hk => spec_l1All_l lo hi xs hn xs 0 k rfl (by omega)⟩

theorem spec_wdSignal_e (xs : List Int) (hn : xs.length ≤ 1152921504606846976) : Ev (fun k => spec_wdSignal.f k xs) (sigB xs) := by
  obtain ⟨K, e⟩ := spec_l1All_e (-100000) 100000 xs hn
  refine ⟨K, fun k hk => ?_⟩
  show spec_wdSignal.f k xs = some (sigB xs)
  unfold spec_wdSignal.f sigB
  simp only [e k hk, Option.bind_some]
  by_cases h : xs.length ≤ 64
  · rw [if_pos (by omega)]; simp [h]
  · rw [if_neg (by omega)]; simp [h]

theorem spec_wdLow_v (b : Int) (w : Bool) (h1 : 2 ≤ b) (h2 : b ≤ 16) : spec_wdLow.f b w = some (-pw (b - 1)) := by
  have := pw_pos (b - 1)
  have := pw_le (n := b - 1) (by omega)
  unfold spec_wdLow.f
  rw [wrap_id (x := b - 1) (by omega) (by omega), if_pos (by omega), shl_one (by omega), wrap_id (by omega) (by omega)]

theorem spec_wdHigh_v (b : Int) (w : Bool) (h1 : 2 ≤ b) (h2 : b ≤ 16) : spec_wdHigh.f b w = some (pw (b - 1) - 1) := by
  have := pw_pos (b - 1)
  have := pw_le (n := b - 1) (by omega)
  unfold spec_wdHigh.f
  rw [wrap_id (x := b - 1) (by omega) (by omega), if_pos (by omega), shl_one (by omega), wrap_id (by omega) (by omega)]

theorem spec_l1Least_v (a b : Int) : spec_l1Least.f a b = some (min a b) := by
  unfold spec_l1Least.f
  split <;> (congr 1; omega)

theorem spec_l1Most_v (a b : Int) : spec_l1Most.f a b = some (max a b) := by
  unfold spec_l1Most.f
  split <;> (congr 1; omega)

theorem spec_wdFit_v (b : Int) (w : Bool) (x : Int) (h1 : 2 ≤ b) (h2 : b ≤ 16) (h3 : -1152921504606846976 ≤ x) (h4 : x ≤ 1152921504606846976) : spec_wdFit.f b w x = some (fitM b w x) := by
  have hp := pw_pos (b - 1)
  have hp2 := pw_le (n := b) (by omega)
  have hp3 := pw_pred (n := b) (by omega)
  have ht := tmod_bd x (pw b) (by omega)
  have hr := Int.emod_nonneg x (show pw b ≠ 0 by omega)
  have hr2 := Int.emod_lt_of_pos x (show 0 < pw b by omega)
  unfold spec_wdFit.f fitM
  rw [← hp3]
  cases w
  · simp only [spec_wdHigh_v b false h1 h2, spec_wdLow_v b false h1 h2, spec_l1Most_v, spec_l1Least_v, Option.bind_some, if_false, Bool.false_eq_true]
    congr 1; omega
  · simp only [if_true, shl_one (n := b) (by omega), if_pos (show 0 ≤ b by omega), if_neg (show ¬ pw b = 0 by omega), spec_wdHigh_v b true h1 h2, Option.bind_some, wrap_id (x := Int.tmod x (pw b) + pw b) (by omega) (by omega), tmod2 x (pw b) (by omega), wrap_id (x := x % pw b - pw b) (by omega) (by omega)]
    split <;> rfl

theorem spec_wdFitAll_l (xs : List Int) (b : Int) (w : Bool) (h1 : 2 ≤ b) (h2 : b ≤ 16) (hn : xs.length ≤ 1152921504606846976) : ∀ (r : List Int) (n k : Nat) (out : List Int), xs.drop n = r → Bd r → out.length + r.length ≤ 1099511627776 → r.length < k → spec_wdFitAll.l0 k out xs (xs.length : Int) n b w = some (out ++ r.map fun x => fitM b w x)
  | [], n, k, out, hd, hb, ho, hk => by
    obtain ⟨k, rfl⟩ := pred hk
    have := drop_nil hd
    simp only [spec_wdFitAll.l0]; rw [if_neg (by omega)]; simp
  | a :: r, n, k, out, hd, hb, ho, hk => by
    obtain ⟨k, rfl⟩ := pred hk
    obtain ⟨g1, g2, g3⟩ := drop_cons hd
    obtain ⟨b1, b2⟩ := hb.cons
    simp only [List.length_cons] at hk ho
    simp only [spec_wdFitAll.l0]
    rw [if_pos (by omega), if_pos (by omega), if_pos (by omega), g2, spec_wdFit_v b w a h1 h2 (by omega) (by omega)]
    simp only [Option.bind_some]
    rw [if_pos (by omega), wrap_nat g1 hn, spec_wdFitAll_l xs b w h1 h2 hn r (n + 1) k _ g3 b2 (by simp; omega) (by omega)]
    simp

theorem spec_FitSignal_e (b : Int) (w : Bool) (xs : List Int) (hn : xs.length ≤ 1048576) : Ev (fun k => spec_FitSignal.f k b w xs) (if (inR b 2 16 && sigB xs) = true then (xs.map fun x => fitM b w x, true) else ([], false)) := by
  obtain ⟨K1, e1⟩ := spec_wdSignal_e xs (by omega)
  refine ⟨K1 + xs.length + 1, fun k hk => ?_⟩
  show spec_FitSignal.f k b w xs = _
  unfold spec_FitSignal.f
  simp only [spec_wdGood_v, Option.bind_some]
  cases h0 : inR b 2 16
  · simp
  cases h : sigB xs
  · simp [e1 k (by omega), h]
  obtain ⟨g1, g2⟩ := inR_true.mp h0
  have := spec_wdFitAll_l xs b w g1 g2 (by omega) xs 0 k [] rfl (sigB_true h).2 (by simp; omega) (by omega)
  simp only [Int.ofNat_eq_natCast, Int.natCast_zero, List.nil_append] at this
  simp [e1 k (by omega), h, spec_wdFitAll.f, this]

theorem impl_in_v (a b c : Int) : impl_in.f a b c = some (inR a b c) := inR_le a b c

theorem impl_isWord_v (a : Int) (b : Bool) : impl_isWord.f a b = some (inR a 2 16) := by simp [impl_isWord.f, impl_in_v]

theorem impl_isSignal_1_v (x : Int) : impl_isSignal_1.f x = some (!inR x (-100000) 100000) := by simp only [impl_isSignal_1.f, impl_in_v, Option.bind_some]
theorem index_isSignal_l (xs : List Int) (hn : xs.length ≤ 1152921504606846976) : ∀ (r : List Int) (n k : Nat), xs.drop n = r → r.length < k → ∃ v : Int, slices_IndexFunc_int_int_impl_isSignal_1.l0 k xs (xs.length : Int) n = some v ∧ decide (v ≥ 0) = !(r.all fun x => inR x (-100000) 100000)
  | [], n, k, hd, hk => by
    obtain ⟨k, rfl⟩ := pred hk
    have := drop_nil hd
    refine ⟨-1, ?_, by simp⟩
    simp only [slices_IndexFunc_int_int_impl_isSignal_1.l0]; rw [if_neg (by omega)]
  | a :: r, n, k, hd, hk => by
    obtain ⟨k, rfl⟩ := pred hk
    obtain ⟨h1, h2, h3⟩ := drop_cons hd
    simp only [slices_IndexFunc_int_int_impl_isSignal_1.l0]
    rw [if_pos (by omega), if_pos (by omega), if_pos (by omega), h2, impl_isSignal_1_v, wrap_nat h1 hn]; simp only [Option.bind_some, List.all_cons]
    cases h : inR a (-100000) 100000
    · exact ⟨n, by simp, by simp⟩
    · obtain ⟨v, e, hv⟩ := index_isSignal_l xs hn r (n + 1) k h3 (by simp at hk; omega)
      exact ⟨v, by simpa using e, by simpa using hv⟩
theorem contains_isSignal_e (xs : List Int) (hn : xs.length ≤ 1152921504606846976) : Ev (fun k => slices_ContainsFunc_int_int_impl_isSignal_1.f k xs) (!(xs.all fun x => inR x (-100000) 100000)) :=
  ⟨xs.length + 1, fun k hk => by
    show slices_ContainsFunc_int_int_impl_isSignal_1.f k xs = some _
    obtain ⟨v, e, hv⟩ := index_isSignal_l xs hn xs 0 k rfl (by omega)
    have e' : slices_IndexFunc_int_int_impl_isSignal_1.f k xs = some v := e
    unfold slices_ContainsFunc_int_int_impl_isSignal_1.f
    rw [e']; simp only [Option.bind_some, hv]⟩

theorem impl_isSignal_e (xs : List Int) (hn : xs.length ≤ 1152921504606846976) : Ev (fun k => impl_isSignal.f k xs) (sigB xs) := by
  obtain ⟨K, e⟩ := contains_isSignal_e xs hn
  refine ⟨K, fun k hk => ?_⟩
  show impl_isSignal.f k xs = some (sigB xs)
  unfold impl_isSignal.f sigB
  simp only [e k hk, Option.bind_some, Bool.not_not]
  by_cases h : xs.length ≤ 64
  · rw [if_pos (by omega)]; simp [h]
  · rw [if_neg (by omega)]; simp [h]

theorem impl_Word_ends_v (b : Int) (w : Bool) (h1 : 2 ≤ b) (h2 : b ≤ 16) : impl_Word_ends.f b w = some (-pw (b - 1), pw (b - 1) - 1) := by
  have := pw_pos (b - 1)
  have := pw_le (n := b - 1) (by omega)
  unfold impl_Word_ends.f
  rw [wrap_id (x := b - 1) (by omega) (by omega), if_pos (by omega), shl_one (by omega), wrap_id (x := -pw (b - 1)) (by omega) (by omega), wrap_id (x := pw (b - 1) - 1) (by omega) (by omega)]

theorem impl_mod_v (x p : Int) (h1 : 1 ≤ p) (h2 : p ≤ 4611686018427387904) : impl_mod.f x p = some (x % p) := by
  have ht := tmod_bd x p h1
  unfold impl_mod.f
  rw [if_neg (by omega), wrap_id (by omega) (by omega), tmod2 x p h1]

theorem impl_Word_fit_v (b : Int) (w : Bool) (x : Int) (h1 : 2 ≤ b) (h2 : b ≤ 16) (h3 : -1152921504606846976 ≤ x) (h4 : x ≤ 1152921504606846976) : impl_Word_fit.f b w x = some (fitM b w x) := by
  have hp := pw_pos (b - 1)
  have hp2 : pw (b - 1) ≤ 1048576 := pw20 (by omega)
  unfold impl_Word_fit.f fitM
  simp only [impl_Word_ends_v b w h1 h2, Option.bind_some]
  cases w
  · simp only [Bool.false_eq_true, if_false, mn_min, mx_max]
  · have hr := Int.emod_nonneg (x + pw (b - 1)) (show 2 * pw (b - 1) ≠ 0 by omega)
    have hr2 := Int.emod_lt_of_pos (x + pw (b - 1)) (show 0 < 2 * pw (b - 1) by omega)
    simp only [if_true]
    rw [show x - -pw (b - 1) = x + pw (b - 1) by omega, wrap_id (x := x + pw (b - 1)) (by omega) (by omega), show pw (b - 1) - 1 - -pw (b - 1) = 2 * pw (b - 1) - 1 by omega, wrap_id (x := 2 * pw (b - 1) - 1) (by omega) (by omega), show 2 * pw (b - 1) - 1 + 1 = 2 * pw (b - 1) by omega, wrap_id (x := 2 * pw (b - 1)) (by omega) (by omega), impl_mod_v _ _ (by omega) (by omega)]
    simp only [Option.bind_some]
    rw [show (x + pw (b - 1)) % (2 * pw (b - 1)) + -pw (b - 1) = (x + pw (b - 1)) % (2 * pw (b - 1)) - pw (b - 1) by omega, wrap_id (by omega) (by omega), wrap_mid x _ hp]

theorem impl_FitSignal_l (xs : List Int) (b : Int) (w : Bool) (h1 : 2 ≤ b) (h2 : b ≤ 16) (hn : xs.length ≤ 1152921504606846976) : ∀ (r : List Int) (n k : Nat) (out : List Int), xs.drop n = r → Bd r → out.length + r.length ≤ 1099511627776 → r.length < k → impl_FitSignal.l0 k out xs (xs.length : Int) n b w = some (out ++ r.map (fun x => fitM b w x), true)
  | [], n, k, out, hd, hb, ho, hk => by
    obtain ⟨k, rfl⟩ := pred hk
    have := drop_nil hd
    simp only [impl_FitSignal.l0]; rw [if_neg (by omega)]; simp
  | a :: r, n, k, out, hd, hb, ho, hk => by
    obtain ⟨k, rfl⟩ := pred hk
    obtain ⟨g1, g2, g3⟩ := drop_cons hd
    obtain ⟨b1, b2⟩ := hb.cons
    simp only [List.length_cons] at hk ho
    simp only [impl_FitSignal.l0]
    rw [if_pos (by omega), if_pos (by omega), if_pos (by omega), g2, impl_Word_fit_v b w a h1 h2 (by omega) (by omega)]
    simp only [Option.bind_some]
    rw [if_pos (by omega), wrap_nat g1 hn, impl_FitSignal_l xs b w h1 h2 hn r (n + 1) k _ g3 b2 (by simp; omega) (by omega)]
    simp
theorem impl_FitSignal_e (b : Int) (w : Bool) (xs : List Int) (hn : xs.length ≤ 1048576) : Ev (fun k => impl_FitSignal.f k b w xs) (if (inR b 2 16 && sigB xs) = true then (xs.map fun x => fitM b w x, true) else ([], false)) := by
  obtain ⟨K1, e1⟩ := impl_isSignal_e xs (by omega)
  refine ⟨K1 + xs.length + 2, fun k hk => ?_⟩
  obtain ⟨k, rfl⟩ := pred (show K1 + xs.length + 1 < k by omega)
  show impl_FitSignal.f (k + 1) b w xs = _
  unfold impl_FitSignal.f
  simp only [impl_isWord_v, Option.bind_some]
  cases h0 : inR b 2 16
  · simp [impl_FitSignal.j0]
  cases h : sigB xs
  · simp [e1 (k + 1) (by omega), h, impl_FitSignal.j0]
  obtain ⟨g1, g2⟩ := inR_true.mp h0
  have := impl_FitSignal_l xs b w g1 g2 (by omega) xs 0 k [] rfl (sigB_true h).2 (by simp; omega) (by omega)
  simp only [Int.ofNat_eq_natCast, Int.natCast_zero, List.nil_append] at this
  simp [e1 (k + 1) (by omega), h, impl_FitSignal.j0, this]

theorem FnExactFitSignal : laws_FnExactFitSignal.Pure := by
  intro b w l _ _ hl hw
  by_cases h00 : (l.length : Int) > 1048576
  · exact ⟨0, by simp [laws_FnExactFitSignal.f, h00]⟩
  obtain ⟨K1, e1⟩ := laws_toIntS_e l (by omega)
  obtain ⟨K2, e2⟩ := laws_eqIntS_same l (by omega)
  obtain ⟨v, ⟨K3, e3⟩, ⟨K4, e4⟩, hv⟩ := both (spec_FitSignal_e b w l (by omega)) (impl_FitSignal_e b w l (by omega)) (by split; { next h => simp only [Bool.and_eq_true] at h; have := (sigB_true h.2).1; simp; omega }; { simp })
  obtain ⟨K5, e5⟩ := laws_eqIntS_same v.1 (by omega)
  obtain ⟨K6, e6⟩ := laws_markIntS_e l (1) (by omega) (by omega) (by omega)
  obtain ⟨K7, e7⟩ := laws_markIntS_e v.1 1 (by omega) (by omega) (by omega)
  obtain ⟨K8, e8⟩ := laws_heldIntS_e v.1.length 1 (by omega) (by omega) (by omega)
  obtain ⟨K, hK⟩ : ∃ K, K = K1 + K2 + K3 + K4 + K5 + K6 + K7 + K8 := ⟨_, rfl⟩
  refine ⟨K + 3, ?_⟩
  have a1_3 := e1 (K + 3) (by omega)
  have a2_3 := e2 (K + 3) (by omega)
  have a3_3 := e3 (K + 3) (by omega)
  have a4_3 := e4 (K + 3) (by omega)
  have a5_3 := e5 (K + 3) (by omega)
  have a6_3 := e6 (K + 3) (by omega)
  have a7_3 := e7 (K + 3) (by omega)
  have a8_3 := e8 (K + 3) (by omega)
  have a1_2 := e1 (K + 2) (by omega)
  have a2_2 := e2 (K + 2) (by omega)
  have a3_2 := e3 (K + 2) (by omega)
  have a4_2 := e4 (K + 2) (by omega)
  have a5_2 := e5 (K + 2) (by omega)
  have a6_2 := e6 (K + 2) (by omega)
  have a7_2 := e7 (K + 2) (by omega)
  have a8_2 := e8 (K + 2) (by omega)
  have a1_1 := e1 (K + 1) (by omega)
  have a2_1 := e2 (K + 1) (by omega)
  have a3_1 := e3 (K + 1) (by omega)
  have a4_1 := e4 (K + 1) (by omega)
  have a5_1 := e5 (K + 1) (by omega)
  have a6_1 := e6 (K + 1) (by omega)
  have a7_1 := e7 (K + 1) (by omega)
  have a8_1 := e8 (K + 1) (by omega)
  have a1_0 := e1 K (by omega)
  have a2_0 := e2 K (by omega)
  have a3_0 := e3 K (by omega)
  have a4_0 := e4 K (by omega)
  have a5_0 := e5 K (by omega)
  have a6_0 := e6 K (by omega)
  have a7_0 := e7 K (by omega)
  have a8_0 := e8 K (by omega)
  have n0 : (1 + (l.length : Int) < 0) = False := eq_false (by omega)
  have n1 : (1 + (v.1.length : Int) < 0) = False := eq_false (by omega)
  simp only [laws_FnExactFitSignal.f, laws_FnExactFitSignal.j0, laws_FnExactFitSignal.j1, laws_FnExactFitSignal.j2, laws_toWord_v, if_neg h00, a1_3, a2_3, a3_3, a4_3, a5_3, a6_3, a7_3, a8_3, a1_2, a2_2, a3_2, a4_2, a5_2, a6_2, a7_2, a8_2, a1_1, a2_1, a3_1, a4_1, a5_1, a6_1, a7_1, a8_1, a1_0, a2_0, a3_0, a4_0, a5_0, a6_0, a7_0, a8_0, n0, n1, Option.bind_some, bne_self_eq_false, Bool.false_eq_true, if_true, if_false]

end Go.Proofs.Ytepjolkmmnnobaa.Pure
