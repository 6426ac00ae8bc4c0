/- The plain statement behind the law FnExactPairsBefore: its walk's numbers answer true. Conditions: the given statement's own (each number is an int; each slice within the reach). -/
import Derived.Test.YtepfkahbfnahmaaQFnExactPairsBeforex0
import Derived.Test.YtepfkahbfnahmaaQFnExactPairsBeforex1
import Derived.Test.YtepfkahbfnahmaaQFnExactPairsBeforex2
import Derived.Test.YtepfkahbfnahmaaQFnExactPairsBeforex3
import Derived.Test.YtepfkahbfnahmaaQFnExactPairsBeforex4
import Derived.Test.YtepfkahbfnahmaaQFnExactPairsBeforex5
import Derived.Test.YtepfkahbfnahmaaBase
import Derived.Test.YtepfkahbfnahmaaScan
namespace Go.Proofs.Ytepfkahbfnahmaa.Pure
open Go.RowKit Go.Proofs.Ytepfkahbfnahmaa.QFnExactPairsBefore Go.Proofs.YtepfkahbfnahmaaW.PrintWords Go.Proofs.YtepfkahbfnahmaaW.PrintLast Go.Proofs.YtepfkahbfnahmaaW.PrintMore Go.Proofs.Ytepfkahbfnahmaa.Base
set_option linter.unusedVariables false
set_option linter.unusedSimpArgs false

theorem laws_eqIntS_l (xs : List Int) (hn : xs.length ≤ 1152921504606846976) : ∀ (r : List Int) (n k : Nat), xs.drop n = r → r.length < k → laws_eqIntS.l0 k xs xs n = some true
  | [], n, k, hd, hk => by
    obtain ⟨k, rfl⟩ := pred hk
    have := drop_nil hd
    simp only [laws_eqIntS.l0]; rw [if_neg (by omega)]
  | a :: r, n, k, hd, hk => by
    obtain ⟨k, rfl⟩ := pred hk
    obtain ⟨h1, h2, h3⟩ := drop_cons hd
    simp only [laws_eqIntS.l0]
    rw [if_pos (by omega), if_pos (by omega), if_pos (by omega), if_pos trivial, wrap_nat h1 hn]
    exact laws_eqIntS_l xs hn r (n + 1) k h3 (by simp at hk; omega)
theorem laws_eqIntS_same (xs : List Int) (hn : xs.length ≤ 1152921504606846976) : Ev (fun k => laws_eqIntS.f k xs xs) true :=
  ⟨xs.length + 1, fun k hk => by
    show laws_eqIntS.f k xs xs = some true
    unfold laws_eqIntS.f
    rw [if_pos rfl]
    exact laws_eqIntS_l xs hn xs 0 k rfl (by omega)⟩

theorem laws_markIntS_l (s : Int) (len : Nat) (hs : 0 ≤ s) (hs2 : s ≤ 1000000000000) (hn : len ≤ 1000000000000) : ∀ (d n k : Nat) (ys : List Int), n + d = len → ys.length = len → ys.take n = (marks s len).take n → d < k → laws_markIntS.l0 k ys (s + n) n = some (s + len, marks s len)
  | 0, n, k, ys, hd, hy, ht, hk => by
    obtain ⟨k, rfl⟩ := pred hk
    simp only [laws_markIntS.l0]; rw [if_neg (by omega)]
    rw [List.take_of_length_le (by omega), List.take_of_length_le (by rw [marks_length]; omega)] at ht
    rw [ht, show n = len by omega]
  | d + 1, n, k, ys, hd, hy, ht, hk => by
    obtain ⟨k, rfl⟩ := pred hk
    simp only [laws_markIntS.l0]
    rw [if_pos (by omega), if_pos (by omega), wrap_nat (m := len) (by omega) (by omega), wrap_id (x := s + n + 1) (by omega) (by omega), show s + (n : Int) + 1 = s + ((n + 1 : Nat) : Int) by omega, show ((n : Int)).toNat = n by omega]
    exact laws_markIntS_l s len hs hs2 hn d (n + 1) k _ (by omega) (by simpa using hy) (set_take (by rw [marks_length, hy]) (by rw [marks_length]; omega) ht (marks_get s len n (by omega))) (by omega)
theorem laws_markIntS_e (xs : List Int) (s : Int) (hs : 0 ≤ s) (hs2 : s ≤ 1000000000000) (hn : xs.length ≤ 1048576) : Ev (fun k => laws_markIntS.f k xs s) (s + xs.length, marks s xs.length) :=
  ⟨xs.length + 1, fun k hk => by
    have := laws_markIntS_l s xs.length hs hs2 (by omega) xs.length 0 k xs (by omega) rfl (by simp) (by omega)
    simpa [laws_markIntS.f] using this⟩

theorem laws_heldIntS_l (s : Int) (len : Nat) (hs : 0 ≤ s) (hs2 : s ≤ 1000000000000) (hn : len ≤ 1000000000000) : ∀ (d n k : Nat), n + d = len → d < k → laws_heldIntS.l0 k (marks s len) (s + n) n = some (s + len)
  | 0, n, k, hd, hk => by
    obtain ⟨k, rfl⟩ := pred hk
    simp only [laws_heldIntS.l0, marks_length]; rw [if_neg (by omega), show n = len by omega]
  | d + 1, n, k, hd, hk => by
    obtain ⟨k, rfl⟩ := pred hk
    simp only [laws_heldIntS.l0, marks_length]
    have hr : rd (marks s len) n = s + n := by simp [rd, List.getD, marks_get s len n (by omega)]
    rw [if_pos (by omega), if_pos (by omega), if_pos hr, wrap_nat (m := len) (by omega) (by omega), wrap_id (x := s + n + 1) (by omega) (by omega), show s + (n : Int) + 1 = s + ((n + 1 : Nat) : Int) by omega]
    exact laws_heldIntS_l s len hs hs2 hn d (n + 1) k (by omega) (by omega)
theorem laws_heldIntS_e (n : Nat) (s : Int) (hs : 0 ≤ s) (hs2 : s ≤ 1000000000000) (hn : n ≤ 1048576) : Ev (fun k => laws_heldIntS.f k (marks s n) s) (s + n) :=
  ⟨n + 1, fun k hk => by
    have := laws_heldIntS_l s n hs hs2 (by omega) n 0 k (by omega) (by omega)
    simpa [laws_heldIntS.f] using this⟩

theorem laws_toWord_v (a : Int) (b : Bool) : laws_toWord.f a b = some (a, b) := rfl

theorem laws_toSecond_v (a c s m b : Int) (w : Bool) : laws_toSecond.f a c s m b w = some (a, c, s, m, b, w) := rfl

theorem spec_wdLow_v (b : Int) (w : Bool) (h1 : 2 ≤ b) (h2 : b ≤ 16) : spec_wdLow.f b w = some (-pw (b - 1)) := by
  have := pw_pos (b - 1)
  have := pw_le (n := b - 1) (by omega)
  unfold spec_wdLow.f
  rw [wrap_id (x := b - 1) (by omega) (by omega), if_pos (by omega), shl_one (by omega), wrap_id (by omega) (by omega)]

theorem spec_l1In_v (a b c : Int) : spec_l1In.f a b c = some (inR a b c) := inR_ge a b c

theorem spec_wdHigh_v (b : Int) (w : Bool) (h1 : 2 ≤ b) (h2 : b ≤ 16) : spec_wdHigh.f b w = some (pw (b - 1) - 1) := by
  have := pw_pos (b - 1)
  have := pw_le (n := b - 1) (by omega)
  unfold spec_wdHigh.f
  rw [wrap_id (x := b - 1) (by omega) (by omega), if_pos (by omega), shl_one (by omega), wrap_id (by omega) (by omega)]

theorem spec_wdGood_v (a : Int) (b : Bool) : spec_wdGood.f a b = some (inR a 2 16) := by simp [spec_wdGood.f, spec_l1In_v]

theorem spec_wdIn_v (b : Int) (w : Bool) (x : Int) : spec_wdIn.f b w x = some (inR b 2 16 && inR x (-pw (b - 1)) (pw (b - 1) - 1)) := by
  unfold spec_wdIn.f
  simp only [spec_wdGood_v, Option.bind_some]
  cases h : inR b 2 16
  · simp
  · obtain ⟨h1, h2⟩ := inR_true.mp h
    simp [spec_wdLow_v b w h1 h2, spec_wdHigh_v b w h1 h2, spec_l1In_v]

theorem spec_wdMode_v (s m : Int) : spec_wdMode.f s m = some (inR s 0 20 && inR m 0 2) := by
  simp only [spec_wdMode.f, spec_l1In_v, Option.bind_some, bind_and]

theorem spec_sdGood_v (a c s m b : Int) (w : Bool) : spec_sdGood.f a c s m b w = some (sdB a c s m b) := by
  simp only [spec_sdGood.f, spec_l1In_v, spec_wdMode_v, spec_wdGood_v, Option.bind_some, bind_and]
  rw [sdB_spec]

theorem spec_sdAsked_v (a c s m b : Int) (w : Bool) (y z x : Int) : spec_sdAsked.f a c s m b w y z x = some (sdB a c s m b && (inR y (-pw (b - 1)) (pw (b - 1) - 1) && (inR z (-pw (b - 1)) (pw (b - 1) - 1) && inR x (-100000) 100000))) := by
  unfold spec_sdAsked.f
  simp only [spec_sdGood_v, spec_wdIn_v, spec_l1In_v, Option.bind_some, bind_and]
  cases h : sdB a c s m b
  · simp
  · have := (sdB_true.mp h).2.2.2.2
    simp [inR_true.mpr this]

theorem spec_l1Most_v (a b : Int) : spec_l1Most.f a b = some (max a b) := by
  unfold spec_l1Most.f
  split <;> (congr 1; omega)

theorem spec_l1Least_v (a b : Int) : spec_l1Least.f a b = some (min a b) := by
  unfold spec_l1Least.f
  split <;> (congr 1; omega)

theorem spec_wdFit_v (b : Int) (w : Bool) (x : Int) (h1 : 2 ≤ b) (h2 : b ≤ 16) (h3 : -1152921504606846976 ≤ x) (h4 : x ≤ 1152921504606846976) : spec_wdFit.f b w x = some (fitM b w x) := by
  have hp := pw_pos (b - 1)
  have hp2 := pw_le (n := b) (by omega)
  have hp3 := pw_pred (n := b) (by omega)
  have ht := tmod_bd x (pw b) (by omega)
  have hr := Int.emod_nonneg x (show pw b ≠ 0 by omega)
  have hr2 := Int.emod_lt_of_pos x (show 0 < pw b by omega)
  unfold spec_wdFit.f fitM
  rw [← hp3]
  cases w
  · simp only [spec_wdHigh_v b false h1 h2, spec_wdLow_v b false h1 h2, spec_l1Most_v, spec_l1Least_v, Option.bind_some, if_false, Bool.false_eq_true]
    congr 1; omega
  · simp only [if_true, shl_one (n := b) (by omega), if_pos (show 0 ≤ b by omega), if_neg (show ¬ pw b = 0 by omega), spec_wdHigh_v b true h1 h2, Option.bind_some, wrap_id (x := Int.tmod x (pw b) + pw b) (by omega) (by omega), tmod2 x (pw b) (by omega), wrap_id (x := x % pw b - pw b) (by omega) (by omega)]
    split <;> rfl

theorem spec_wdShift_v (x s m : Int) (k : Nat) (h1 : -1152921504606846976 ≤ x) (h2 : x ≤ 1152921504606846976) (h3 : 0 ≤ s) (h4 : s ≤ 20) (h5 : 0 ≤ m) (h6 : m ≤ 2) (hk : 2 ≤ k) : spec_wdShift.f k x s m = some (shf x s m) := by
  obtain ⟨k, rfl⟩ : ∃ j, k = j + 2 := ⟨k - 2, by omega⟩
  have hp := pw_pos s
  have hp2 := pw20 h4
  have hd := Int.mul_ediv_add_emod x (pw s)
  have hr := Int.emod_nonneg x (show pw s ≠ 0 by omega)
  have hr2 := Int.emod_lt_of_pos x (show 0 < pw s by omega)
  have hb := floor_bd x (pw s) hp h1 h2
  unfold spec_wdShift.f
  rw [if_pos h3, shl_one (by omega), if_neg (by omega)]
  have key : ∀ d : Int, d = x / pw s → spec_wdShift.j0 (k + 2) x m (pw s) d = some (shf x s m) := by
    rintro d rfl
    simp only [spec_wdShift.j0, spec_wdShift.j1]
    have e1 : wrap64 (x / pw s * pw s) = x / pw s * pw s := wrap_id (by rw [Int.mul_comm]; omega) (by rw [Int.mul_comm]; omega)
    have e2 : x - x / pw s * pw s = x % pw s := by rw [Int.mul_comm]; omega
    rw [e1, e2, wrap_id (x := x % pw s) (by omega) (by omega), wrap_id (x := 2 * (x % pw s)) (by omega) (by omega), wrap_id (x := x / pw s + 1) (by omega) (by omega)]
    rw [shf_eq x s m h3 h4]
    by_cases m1 : m = 1
    · subst m1
      by_cases c1 : 2 * (x % pw s) ≥ pw s
      · by_cases c2 : x % pw s > 0
        · simp [c1, c2]
        · exfalso; omega
      · simp [c1]
    · by_cases m2 : m = 2
      · subst m2
        by_cases c1 : x < 0
        · by_cases c2 : x % pw s > 0 <;> simp [c1, c2]
        · simp [c1]
      · simp [m1, m2]
  have hb2 := td_bd x (pw s) hp h1 h2
  by_cases h : x < 0 ∧ x % pw s ≠ 0
  · rw [if_pos (by rw [tm_neg x (pw s) hp]; exact h)]
    exact key _ (by rw [wrap_id (x := Int.tdiv x (pw s)) (by omega) (by omega), td_low x (pw s) hp h, wrap_id (by omega) (by omega)])
  · rw [if_neg (by rw [tm_neg x (pw s) hp]; exact h)]
    exact key _ (by rw [wrap_id (x := Int.tdiv x (pw s)) (by omega) (by omega), td_high x (pw s) hp h])

theorem spec_sdStep_v (a c s m b : Int) (w : Bool) (y z x : Int) (k : Nat) (h : sdB a c s m b = true) (hy : -100000 ≤ y ∧ y ≤ 100000) (hz : -100000 ≤ z ∧ z ≤ 100000) (hx : -100000 ≤ x ∧ x ≤ 100000) (hk : 2 ≤ k) : spec_sdStep.f k a c s m b w y z x = some (sdStepM a c s m b w y z x) := by
  obtain ⟨ha, hc, hs, hm, hb⟩ := sdB_true.mp h
  have h1 := mul_bd (a := a) (c := y) (by omega) hy
  have h1' := mul_bd (a := c) (c := z) (by omega) hz
  have h2 := shf_bd2 (x := a * y + c * z) (s := s) (m := m) (by omega) (by omega) (by omega) (by omega)
  unfold spec_sdStep.f spec_sdRaw.f sdStepM
  rw [wrap_id (x := a * y) (by omega) (by omega), wrap_id (x := c * z) (by omega) (by omega), wrap_id (x := a * y + c * z) (by omega) (by omega), spec_wdShift_v (a * y + c * z) s m k (by omega) (by omega) (by omega) (by omega) (by omega) (by omega) (by omega)]
  simp only [Option.bind_some]
  rw [wrap_id (x := shf (a * y + c * z) s m + x) (by omega) (by omega), spec_wdFit_v b w _ (by omega) (by omega) (by omega) (by omega)]
  simp only [Option.bind_some]

theorem spec_PairsBefore_l (a c s m b : Int) (w : Bool) (y0 z x : Int) (h : sdB a c s m b = true) (hb : b ≤ 10) (hz : -100000 ≤ z ∧ z ≤ 100000) (hx : -100000 ≤ x ∧ x ≤ 100000) : ∀ (d k : Nat) (y : Int) (out : List Int), y + d = pw (b - 1) → -pw (b - 1) ≤ y → out.length + d ≤ 1099511627776 → d + 2 < k →
    spec_PairsBefore.l0 k y0 z x out y a c s m b w = some (scanM (fun y => decide (sdStepM a c s m b w z y x = y0)) d y out, true)
  | 0, k, y, out, hy, h0, ho, hk => by
    obtain ⟨k, rfl⟩ := pred hk
    have hB := (sdB_true.mp h).2.2.2.2
    simp only [spec_PairsBefore.l0, spec_wdHigh_v b w hB.1 hB.2, Option.bind_some, scanM]
    rw [if_neg (by omega)]
  | d + 1, k, y, out, hy, h0, ho, hk => by
    obtain ⟨k, rfl⟩ := pred hk
    have hB := (sdB_true.mp h).2.2.2.2
    have hp := pw_ten hb
    simp only [spec_PairsBefore.l0, spec_wdHigh_v b w hB.1 hB.2, Option.bind_some, scanM]
    rw [if_pos (by omega), spec_sdStep_v a c s m b w z y x k h hz (by omega) hx (by omega)]
    simp only [Option.bind_some]
    rw [wrap_id (x := y + 1) (by omega) (by omega)]
    have ih := fun out ho => spec_PairsBefore_l a c s m b w y0 z x h hb hz hx d k (y + 1) out (by omega) (by omega) ho (by omega)
    by_cases c : sdStepM a c s m b w z y x = y0
    · simp only [if_pos c, decide_eq_true_eq]
      rw [if_pos (by omega)]
      exact ih _ (by simp; omega)
    · simp only [if_neg c, decide_eq_true_eq]
      exact ih _ (by omega)
theorem spec_PairsBefore_e (a c s m b : Int) (w : Bool) (y0 z x : Int) : Ev (fun k => spec_PairsBefore.f k a c s m b w y0 z x) (if ((sdB a c s m b && (inR y0 (-pw (b - 1)) (pw (b - 1) - 1) && inR z (-pw (b - 1)) (pw (b - 1) - 1))) && (inR x (-100000) 100000 && decide (b ≤ 10))) = true then (scanM (fun y => decide (sdStepM a c s m b w z y x = y0)) (2 * pw (b - 1)).toNat (-pw (b - 1)) [], true) else ([], false)) := by
  refine ⟨2000, fun k hk => ?_⟩
  show spec_PairsBefore.f k a c s m b w y0 z x = _
  obtain ⟨k, rfl⟩ := pred (show 1999 < k by omega)
  unfold spec_PairsBefore.f
  simp only [spec_sdAsked_v, Option.bind_some]
  by_cases c1 : b ≤ 10
  · have c1' : decide (b > 10) = false := decide_eq_false (by omega)
    simp only [c1', c1, decide_true, Bool.and_true]
    cases e1 : sdB a c s m b
    · simp [spec_PairsBefore.j0]
    cases e2 : inR y0 (-pw (b - 1)) (pw (b - 1) - 1)
    · simp [spec_PairsBefore.j0]
    cases e3 : inR z (-pw (b - 1)) (pw (b - 1) - 1)
    · simp [spec_PairsBefore.j0]
    cases e4 : inR x (-100000) 100000
    · simp [spec_PairsBefore.j0]
    have hB := (sdB_true.mp e1).2.2.2.2
    have hp := pw_ten c1
    have hq := pw_pos (b - 1)
    have hz := inR_true.mp e3
    have hx := inR_true.mp e4
    simp only [spec_PairsBefore.j0, Bool.and_self, if_true, Bool.false_eq_true, if_false, spec_wdLow_v b w hB.1 hB.2, Option.bind_some, spec_PairsBefore_l a c s m b w y0 z x e1 c1 (by omega) hx (2 * pw (b - 1)).toNat k (-pw (b - 1)) [] (by omega) (by omega) (by simp; omega) (by omega)]
  · have c1' : decide (b > 10) = true := decide_eq_true (by omega)
    simp only [c1', c1, decide_false, Bool.and_false, Bool.false_eq_true, if_false, spec_PairsBefore.j0, if_true]
    split <;> rfl

theorem impl_in_v (a b c : Int) : impl_in.f a b c = some (inR a b c) := inR_le a b c

theorem impl_isSample_v (x : Int) : impl_isSample.f x = some (inR x (-100000) 100000) := by simp only [impl_isSample.f, impl_in_v, Option.bind_some]

theorem impl_Word_ends_v (b : Int) (w : Bool) (h1 : 2 ≤ b) (h2 : b ≤ 16) : impl_Word_ends.f b w = some (-pw (b - 1), pw (b - 1) - 1) := by
  have := pw_pos (b - 1)
  have := pw_le (n := b - 1) (by omega)
  unfold impl_Word_ends.f
  rw [wrap_id (x := b - 1) (by omega) (by omega), if_pos (by omega), shl_one (by omega), wrap_id (x := -pw (b - 1)) (by omega) (by omega), wrap_id (x := pw (b - 1) - 1) (by omega) (by omega)]

theorem impl_Word_has_v (b : Int) (w : Bool) (x : Int) (h1 : 2 ≤ b) (h2 : b ≤ 16) : impl_Word_has.f b w x = some (inR x (-pw (b - 1)) (pw (b - 1) - 1)) := by
  unfold impl_Word_has.f
  simp only [impl_Word_ends_v b w h1 h2, impl_in_v, Option.bind_some]

theorem impl_isWord_v (a : Int) (b : Bool) : impl_isWord.f a b = some (inR a 2 16) := by simp [impl_isWord.f, impl_in_v]

theorem impl_isFactor_v (a : Int) : impl_isFactor.f a = some (inR a (-1024) 1024) := by
  simp only [impl_isFactor.f, impl_in_v, Option.bind_some]

theorem impl_isScale_v (s m : Int) : impl_isScale.f s m = some (inR s 0 10 && inR m 0 2) := by
  simp only [impl_isScale.f, impl_in_v, Option.bind_some, bind_and]

theorem impl_isSecond_v (a c s m b : Int) (w : Bool) : impl_isSecond.f a c s m b w = some (sdB a c s m b) := by
  simp only [impl_isSecond.f, impl_isFactor_v, impl_isScale_v, impl_isWord_v, Option.bind_some, bind_and]
  rw [sdB_impl]

theorem impl_Second_isAt_v (a c s m b : Int) (w : Bool) (y z : Int) : impl_Second_isAt.f a c s m b w y z = some (sdB a c s m b && (inR y (-pw (b - 1)) (pw (b - 1) - 1) && inR z (-pw (b - 1)) (pw (b - 1) - 1))) := by
  unfold impl_Second_isAt.f
  simp only [impl_isSecond_v, Option.bind_some]
  cases h : sdB a c s m b
  · simp
  · have := (sdB_true.mp h).2.2.2.2
    simp only [impl_Word_has_v b w _ this.1 this.2, Option.bind_some, bind_and, if_true, Bool.true_and]

theorem impl_mod_v (x p : Int) (h1 : 1 ≤ p) (h2 : p ≤ 4611686018427387904) : impl_mod.f x p = some (x % p) := by
  have ht := tmod_bd x p h1
  unfold impl_mod.f
  rw [if_neg (by omega), wrap_id (by omega) (by omega), tmod2 x p h1]

theorem impl_Word_fit_v (b : Int) (w : Bool) (x : Int) (h1 : 2 ≤ b) (h2 : b ≤ 16) (h3 : -1152921504606846976 ≤ x) (h4 : x ≤ 1152921504606846976) : impl_Word_fit.f b w x = some (fitM b w x) := by
  have hp := pw_pos (b - 1)
  have hp2 : pw (b - 1) ≤ 1048576 := pw20 (by omega)
  unfold impl_Word_fit.f fitM
  simp only [impl_Word_ends_v b w h1 h2, Option.bind_some]
  cases w
  · simp only [Bool.false_eq_true, if_false, mn_min, mx_max]
  · have hr := Int.emod_nonneg (x + pw (b - 1)) (show 2 * pw (b - 1) ≠ 0 by omega)
    have hr2 := Int.emod_lt_of_pos (x + pw (b - 1)) (show 0 < 2 * pw (b - 1) by omega)
    simp only [if_true]
    rw [show x - -pw (b - 1) = x + pw (b - 1) by omega, wrap_id (x := x + pw (b - 1)) (by omega) (by omega), show pw (b - 1) - 1 - -pw (b - 1) = 2 * pw (b - 1) - 1 by omega, wrap_id (x := 2 * pw (b - 1) - 1) (by omega) (by omega), show 2 * pw (b - 1) - 1 + 1 = 2 * pw (b - 1) by omega, wrap_id (x := 2 * pw (b - 1)) (by omega) (by omega), impl_mod_v _ _ (by omega) (by omega)]
    simp only [Option.bind_some]
    rw [show (x + pw (b - 1)) % (2 * pw (b - 1)) + -pw (b - 1) = (x + pw (b - 1)) % (2 * pw (b - 1)) - pw (b - 1) by omega, wrap_id (by omega) (by omega), wrap_mid x _ hp]

theorem impl_shifted_v (x s m : Int) (k : Nat) (h1 : -1152921504606846976 ≤ x) (h2 : x ≤ 1152921504606846976) (h3 : 0 ≤ s) (h4 : s ≤ 20) (h5 : 0 ≤ m) (h6 : m ≤ 2) (hk : 1 ≤ k) : impl_shifted.f k x s m = some (shf x s m) := by
  obtain ⟨k, rfl⟩ : ∃ j, k = j + 1 := ⟨k - 1, by omega⟩
  have hp := pw_pos (s - 1)
  have hp2 := pw20 (s := s - 1) (by omega)
  unfold impl_shifted.f shf
  by_cases m1 : m = 1
  · subst m1
    simp only [impl_shifted.j0, if_true]
    by_cases c : s > 0
    · simp only [c, decide_true, if_true]
      rw [wrap_id (x := s - 1) (by omega) (by omega), if_pos (by omega), if_pos h3, shl_one (by omega), wrap_id (by omega) (by omega), shr_eq (by omega)] <;> simp
    · have : s = 0 := by omega
      subst this
      simp [shr_eq, pw_zero]
  · simp only [if_neg m1, impl_shifted.j0]
    by_cases m2 : m = 2
    · subst m2
      by_cases c : x < 0
      · have hb := floor_bd (-x) (pw s) (pw_pos s) (by omega) (by omega)
        simp only [c, h3, if_true, wrap_id (x := -x) (by omega) (by omega), shr_eq (x := -x) (n := s) (by omega)]
        rw [wrap_id (x := -(-x / pw s)) (by omega) (by omega)] <;> simp
      · simp [c, h3, shr_eq (x := x) (n := s) (by omega)]
    · simp [m2, h3, shr_eq (x := x) (n := s) (by omega)]

theorem impl_Second_step_v (a c s m b : Int) (w : Bool) (y z x : Int) (k : Nat) (h : sdB a c s m b = true) (hy : -100000 ≤ y ∧ y ≤ 100000) (hz : -100000 ≤ z ∧ z ≤ 100000) (hx : -100000 ≤ x ∧ x ≤ 100000) (hk : 2 ≤ k) : impl_Second_step.f k a c s m b w y z x = some (sdStepM a c s m b w y z x, y) := by
  obtain ⟨ha, hc, hs, hm, hb⟩ := sdB_true.mp h
  have h1 := mul_bd (a := a) (c := y) (by omega) hy
  have h1' := mul_bd (a := c) (c := z) (by omega) hz
  have h2 := shf_bd2 (x := a * y + c * z) (s := s) (m := m) (by omega) (by omega) (by omega) (by omega)
  unfold impl_Second_step.f impl_Second_raw.f sdStepM
  rw [wrap_id (x := a * y) (by omega) (by omega), wrap_id (x := c * z) (by omega) (by omega), wrap_id (x := a * y + c * z) (by omega) (by omega), impl_shifted_v (a * y + c * z) s m k (by omega) (by omega) (by omega) (by omega) (by omega) (by omega) (by omega)]
  simp only [Option.bind_some]
  rw [wrap_id (x := shf (a * y + c * z) s m + x) (by omega) (by omega), impl_Word_fit_v b w _ (by omega) (by omega) (by omega) (by omega)]
  simp only [Option.bind_some]

theorem impl_PairsBefore_l (a c s m b : Int) (w : Bool) (y0 z x : Int) (h : sdB a c s m b = true) (hb : b ≤ 10) (hz : -100000 ≤ z ∧ z ≤ 100000) (hx : -100000 ≤ x ∧ x ≤ 100000) : ∀ (d k : Nat) (y : Int) (out : List Int), y + d = pw (b - 1) → -pw (b - 1) ≤ y → out.length + d ≤ 1099511627776 → d + 2 < k →
    impl_PairsBefore.l0 k a c s m b w z x y0 out y (pw (b - 1) - 1) = some (scanM (fun y => decide (sdStepM a c s m b w z y x = y0)) d y out)
  | 0, k, y, out, hy, h0, ho, hk => by
    obtain ⟨k, rfl⟩ := pred hk
    simp only [impl_PairsBefore.l0, scanM]
    rw [if_neg (by omega)]
  | d + 1, k, y, out, hy, h0, ho, hk => by
    obtain ⟨k, rfl⟩ := pred hk
    have hp := pw_ten hb
    simp only [impl_PairsBefore.l0, scanM]
    rw [if_pos (by omega), impl_Second_step_v a c s m b w z y x k h hz (by omega) hx (by omega)]
    simp only [Option.bind_some]
    rw [wrap_id (x := y + 1) (by omega) (by omega)]
    have ih := fun out ho => impl_PairsBefore_l a c s m b w y0 z x h hb hz hx d k (y + 1) out (by omega) (by omega) ho (by omega)
    by_cases c : sdStepM a c s m b w z y x = y0
    · simp only [if_pos c, decide_eq_true_eq]
      rw [if_pos (by omega)]
      exact ih _ (by simp; omega)
    · simp only [if_neg c, decide_eq_true_eq]
      exact ih _ (by omega)
theorem impl_PairsBefore_e (a c s m b : Int) (w : Bool) (y0 z x : Int) : Ev (fun k => impl_PairsBefore.f k a c s m b w y0 z x) (if ((sdB a c s m b && (inR y0 (-pw (b - 1)) (pw (b - 1) - 1) && inR z (-pw (b - 1)) (pw (b - 1) - 1))) && (inR x (-100000) 100000 && decide (b ≤ 10))) = true then (scanM (fun y => decide (sdStepM a c s m b w z y x = y0)) (2 * pw (b - 1)).toNat (-pw (b - 1)) [], true) else ([], false)) := by
  refine ⟨2000, fun k hk => ?_⟩
  show impl_PairsBefore.f k a c s m b w y0 z x = _
  unfold impl_PairsBefore.f
  simp only [impl_Second_isAt_v, Option.bind_some]
  cases e1 : sdB a c s m b
  · simp
  cases e2 : inR y0 (-pw (b - 1)) (pw (b - 1) - 1)
  · simp
  cases e3 : inR z (-pw (b - 1)) (pw (b - 1) - 1)
  · simp
  simp only [impl_isSample_v, Option.bind_some, Bool.and_self, if_true, Bool.true_and]
  cases e4 : inR x (-100000) 100000
  · simp
  by_cases c1 : b ≤ 10
  · have hB := (sdB_true.mp e1).2.2.2.2
    have hp := pw_ten c1
    have hq := pw_pos (b - 1)
    have hz := inR_true.mp e3
    have hx := inR_true.mp e4
    simp only [if_true, c1, decide_true, Bool.true_and]
    rw [if_neg (by omega)]
    simp only [impl_Word_ends_v b w hB.1 hB.2, Option.bind_some, impl_PairsBefore_l a c s m b w y0 z x e1 c1 (by omega) hx (2 * pw (b - 1)).toNat k (-pw (b - 1)) [] (by omega) (by omega) (by simp; omega) (by omega)]
  · simp only [if_true, c1, decide_false, Bool.and_false, Bool.false_eq_true, if_false]
    rw [if_pos (by omega)]

-- import Scan
theorem FnExactPairsBefore : laws_FnExactPairsBefore.Pure := by
  intro a c s m b w y z x _ _ _ _ _ _ _ _
  obtain ⟨v, ⟨K1, e1⟩, ⟨K2, e2⟩, hv⟩ := both4 (spec_PairsBefore_e a c s m b w y z x) (impl_PairsBefore_e a c s m b w y z x) (scan_if_len _ _ _ _ (fun h => by simp only [Bool.and_eq_true, decide_eq_true_eq] at h; have := pw_ten h.2.2; omega))
  obtain ⟨K3, e3⟩ := laws_eqIntS_same v.1 (by omega)
  obtain ⟨K4, e4⟩ := laws_markIntS_e v.1 1 (by omega) (by omega) (by omega)
  obtain ⟨K5, e5⟩ := laws_heldIntS_e v.1.length 1 (by omega) (by omega) (by omega)
  obtain ⟨K, hK⟩ : ∃ K, K = K1 + K2 + K3 + K4 + K5 := ⟨_, rfl⟩
  refine ⟨K + 2, ?_⟩
  have a1_2 := e1 (K + 2) (by omega)
  have a2_2 := e2 (K + 2) (by omega)
  have a3_2 := e3 (K + 2) (by omega)
  have a4_2 := e4 (K + 2) (by omega)
  have a5_2 := e5 (K + 2) (by omega)
  have a1_1 := e1 (K + 1) (by omega)
  have a2_1 := e2 (K + 1) (by omega)
  have a3_1 := e3 (K + 1) (by omega)
  have a4_1 := e4 (K + 1) (by omega)
  have a5_1 := e5 (K + 1) (by omega)
  have a1_0 := e1 (K + 0) (by omega)
  have a2_0 := e2 (K + 0) (by omega)
  have a3_0 := e3 (K + 0) (by omega)
  have a4_0 := e4 (K + 0) (by omega)
  have a5_0 := e5 (K + 0) (by omega)
  have n0 : (1 + (v.1.length : Int) < 0) = False := eq_false (by omega)
  simp only [Nat.add_zero] at *
  simp only [laws_FnExactPairsBefore.f, laws_FnExactPairsBefore.j0, laws_FnExactPairsBefore.j1, laws_toSecond_v, a1_2, a2_2, a3_2, a4_2, a5_2, a1_1, a2_1, a3_1, a4_1, a5_1, a1_0, a2_0, a3_0, a4_0, a5_0, n0, Option.bind_some, bne_self_eq_false, Bool.false_eq_true, if_true, if_false]

end Go.Proofs.Ytepfkahbfnahmaa.Pure
