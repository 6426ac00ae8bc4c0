/- The plain statement behind the law FnExactFirstPeriod: its walk's numbers answer true. Conditions: the given statement's own (each number is an int; each slice within the reach). -/
import Derived.Test.YtepfkahbfnahmaaQFnExactFirstPeriodx0
import Derived.Test.YtepfkahbfnahmaaQFnExactFirstPeriodx1
import Derived.Test.YtepfkahbfnahmaaQFnExactFirstPeriodx2
import Derived.Test.YtepfkahbfnahmaaQFnExactFirstPeriodx3
import Derived.Test.YtepfkahbfnahmaaBase
namespace Go.Proofs.Ytepfkahbfnahmaa.Pure
open Go.RowKit Go.Proofs.Ytepfkahbfnahmaa.QFnExactFirstPeriod Go.Proofs.YtepfkahbfnahmaaW.PrintWords Go.Proofs.YtepfkahbfnahmaaW.PrintLast Go.Proofs.YtepfkahbfnahmaaW.PrintMore Go.Proofs.Ytepfkahbfnahmaa.Base
set_option linter.unusedVariables false
set_option linter.unusedSimpArgs false

theorem spec_l1In_v (a b c : Int) : spec_l1In.f a b c = some (inR a b c) := inR_ge a b c

theorem spec_wdLow_v (b : Int) (w : Bool) (h1 : 2 ≤ b) (h2 : b ≤ 16) : spec_wdLow.f b w = some (-pw (b - 1)) := by
  have := pw_pos (b - 1)
  have := pw_le (n := b - 1) (by omega)
  unfold spec_wdLow.f
  rw [wrap_id (x := b - 1) (by omega) (by omega), if_pos (by omega), shl_one (by omega), wrap_id (by omega) (by omega)]

theorem spec_wdHigh_v (b : Int) (w : Bool) (h1 : 2 ≤ b) (h2 : b ≤ 16) : spec_wdHigh.f b w = some (pw (b - 1) - 1) := by
  have := pw_pos (b - 1)
  have := pw_le (n := b - 1) (by omega)
  unfold spec_wdHigh.f
  rw [wrap_id (x := b - 1) (by omega) (by omega), if_pos (by omega), shl_one (by omega), wrap_id (by omega) (by omega)]

theorem spec_wdGood_v (a : Int) (b : Bool) : spec_wdGood.f a b = some (inR a 2 16) := by simp [spec_wdGood.f, spec_l1In_v]

theorem spec_wdIn_v (b : Int) (w : Bool) (x : Int) : spec_wdIn.f b w x = some (inR b 2 16 && inR x (-pw (b - 1)) (pw (b - 1) - 1)) := by
  unfold spec_wdIn.f
  simp only [spec_wdGood_v, Option.bind_some]
  cases h : inR b 2 16
  · simp
  · obtain ⟨h1, h2⟩ := inR_true.mp h
    simp [spec_wdLow_v b w h1 h2, spec_wdHigh_v b w h1 h2, spec_l1In_v]

theorem spec_wdMode_v (s m : Int) : spec_wdMode.f s m = some (inR s 0 20 && inR m 0 2) := by
  simp only [spec_wdMode.f, spec_l1In_v, Option.bind_some, bind_and]

theorem spec_foGood_v (a s m b : Int) (w : Bool) : spec_foGood.f a s m b w = some (foB a s m b) := by
  simp only [spec_foGood.f, spec_l1In_v, spec_wdMode_v, spec_wdGood_v, Option.bind_some, bind_and]
  rw [foB_spec]

theorem spec_foAsked_v (a s m b : Int) (w : Bool) (y x : Int) : spec_foAsked.f a s m b w y x = some (foB a s m b && (inR y (-pw (b - 1)) (pw (b - 1) - 1) && inR x (-100000) 100000)) := by
  unfold spec_foAsked.f
  simp only [spec_foGood_v, spec_wdIn_v, spec_l1In_v, Option.bind_some, bind_and]
  cases h : foB a s m b
  · simp
  · have := (foB_true.mp h).2.2.2
    simp [inR_true.mpr this]

theorem spec_l1Most_v (a b : Int) : spec_l1Most.f a b = some (max a b) := by
  unfold spec_l1Most.f
  split <;> (congr 1; omega)

theorem spec_l1Least_v (a b : Int) : spec_l1Least.f a b = some (min a b) := by
  unfold spec_l1Least.f
  split <;> (congr 1; omega)

theorem spec_wdFit_v (b : Int) (w : Bool) (x : Int) (h1 : 2 ≤ b) (h2 : b ≤ 16) (h3 : -1152921504606846976 ≤ x) (h4 : x ≤ 1152921504606846976) : spec_wdFit.f b w x = some (fitM b w x) := by
  have hp := pw_pos (b - 1)
  have hp2 := pw_le (n := b) (by omega)
  have hp3 := pw_pred (n := b) (by omega)
  have ht := tmod_bd x (pw b) (by omega)
  have hr := Int.emod_nonneg x (show pw b ≠ 0 by omega)
  have hr2 := Int.emod_lt_of_pos x (show 0 < pw b by omega)
  unfold spec_wdFit.f fitM
  rw [← hp3]
  cases w
  · simp only [spec_wdHigh_v b false h1 h2, spec_wdLow_v b false h1 h2, spec_l1Most_v, spec_l1Least_v, Option.bind_some, if_false, Bool.false_eq_true]
    congr 1; omega
  · simp only [if_true, shl_one (n := b) (by omega), if_pos (show 0 ≤ b by omega), if_neg (show ¬ pw b = 0 by omega), spec_wdHigh_v b true h1 h2, Option.bind_some, wrap_id (x := Int.tmod x (pw b) + pw b) (by omega) (by omega), tmod2 x (pw b) (by omega), wrap_id (x := x % pw b - pw b) (by omega) (by omega)]
    split <;> rfl

theorem spec_wdShift_v (x s m : Int) (k : Nat) (h1 : -1152921504606846976 ≤ x) (h2 : x ≤ 1152921504606846976) (h3 : 0 ≤ s) (h4 : s ≤ 20) (h5 : 0 ≤ m) (h6 : m ≤ 2) (hk : 2 ≤ k) : spec_wdShift.f k x s m = some (shf x s m) := by
  obtain ⟨k, rfl⟩ : ∃ j, k = j + 2 := ⟨k - 2, by omega⟩
  have hp := pw_pos s
  have hp2 := pw20 h4
  have hd := Int.mul_ediv_add_emod x (pw s)
  have hr := Int.emod_nonneg x (show pw s ≠ 0 by omega)
  have hr2 := Int.emod_lt_of_pos x (show 0 < pw s by omega)
  have hb := floor_bd x (pw s) hp h1 h2
  unfold spec_wdShift.f
  rw [if_pos h3, shl_one (by omega), if_neg (by omega)]
  have key : ∀ d : Int, d = x / pw s → spec_wdShift.j0 (k + 2) x m (pw s) d = some (shf x s m) := by
    rintro d rfl
    simp only [spec_wdShift.j0, spec_wdShift.j1]
    have e1 : wrap64 (x / pw s * pw s) = x / pw s * pw s := wrap_id (by rw [Int.mul_comm]; omega) (by rw [Int.mul_comm]; omega)
    have e2 : x - x / pw s * pw s = x % pw s := by rw [Int.mul_comm]; omega
    rw [e1, e2, wrap_id (x := x % pw s) (by omega) (by omega), wrap_id (x := 2 * (x % pw s)) (by omega) (by omega), wrap_id (x := x / pw s + 1) (by omega) (by omega)]
    rw [shf_eq x s m h3 h4]
    by_cases m1 : m = 1
    · subst m1
      by_cases c1 : 2 * (x % pw s) ≥ pw s
      · by_cases c2 : x % pw s > 0
        · simp [c1, c2]
        · exfalso; omega
      · simp [c1]
    · by_cases m2 : m = 2
      · subst m2
        by_cases c1 : x < 0
        · by_cases c2 : x % pw s > 0 <;> simp [c1, c2]
        · simp [c1]
      · simp [m1, m2]
  have hb2 := td_bd x (pw s) hp h1 h2
  by_cases h : x < 0 ∧ x % pw s ≠ 0
  · rw [if_pos (by rw [tm_neg x (pw s) hp]; exact h)]
    exact key _ (by rw [wrap_id (x := Int.tdiv x (pw s)) (by omega) (by omega), td_low x (pw s) hp h, wrap_id (by omega) (by omega)])
  · rw [if_neg (by rw [tm_neg x (pw s) hp]; exact h)]
    exact key _ (by rw [wrap_id (x := Int.tdiv x (pw s)) (by omega) (by omega), td_high x (pw s) hp h])

theorem spec_foStep_v (a s m b : Int) (w : Bool) (y x : Int) (k : Nat) (h : foB a s m b = true) (hy : -100000 ≤ y ∧ y ≤ 100000) (hx : -100000 ≤ x ∧ x ≤ 100000) (hk : 2 ≤ k) : spec_foStep.f k a s m b w y x = some (foStepM a s m b w y x) := by
  obtain ⟨ha, hs, hm, hb⟩ := foB_true.mp h
  have h1 := mul_bd (a := a) (c := y) (by omega) hy
  have h2 := shf_bd2 (x := a * y) (s := s) (m := m) (by omega) (by omega) (by omega) (by omega)
  unfold spec_foStep.f spec_foRaw.f foStepM
  rw [wrap_id (x := a * y) (by omega) (by omega), spec_wdShift_v (a * y) s m k (by omega) (by omega) (by omega) (by omega) (by omega) (by omega) (by omega)]
  simp only [Option.bind_some]
  rw [wrap_id (x := shf (a * y) s m + x) (by omega) (by omega), spec_wdFit_v b w _ (by omega) (by omega) (by omega) (by omega)]
  simp only [Option.bind_some]

theorem laws_toWord_v (a : Int) (b : Bool) : laws_toWord.f a b = some (a, b) := rfl

theorem laws_toFirst_v (a s m b : Int) (w : Bool) : laws_toFirst.f a s m b w = some (a, s, m, b, w) := rfl

theorem impl_in_v (a b c : Int) : impl_in.f a b c = some (inR a b c) := inR_le a b c

theorem impl_Word_ends_v (b : Int) (w : Bool) (h1 : 2 ≤ b) (h2 : b ≤ 16) : impl_Word_ends.f b w = some (-pw (b - 1), pw (b - 1) - 1) := by
  have := pw_pos (b - 1)
  have := pw_le (n := b - 1) (by omega)
  unfold impl_Word_ends.f
  rw [wrap_id (x := b - 1) (by omega) (by omega), if_pos (by omega), shl_one (by omega), wrap_id (x := -pw (b - 1)) (by omega) (by omega), wrap_id (x := pw (b - 1) - 1) (by omega) (by omega)]

theorem impl_Word_has_v (b : Int) (w : Bool) (x : Int) (h1 : 2 ≤ b) (h2 : b ≤ 16) : impl_Word_has.f b w x = some (inR x (-pw (b - 1)) (pw (b - 1) - 1)) := by
  unfold impl_Word_has.f
  simp only [impl_Word_ends_v b w h1 h2, impl_in_v, Option.bind_some]

theorem impl_isWord_v (a : Int) (b : Bool) : impl_isWord.f a b = some (inR a 2 16) := by simp [impl_isWord.f, impl_in_v]

theorem impl_isFactor_v (a : Int) : impl_isFactor.f a = some (inR a (-1024) 1024) := by
  simp only [impl_isFactor.f, impl_in_v, Option.bind_some]

theorem impl_isScale_v (s m : Int) : impl_isScale.f s m = some (inR s 0 10 && inR m 0 2) := by
  simp only [impl_isScale.f, impl_in_v, Option.bind_some, bind_and]

theorem impl_isFirst_v (a s m b : Int) (w : Bool) : impl_isFirst.f a s m b w = some (foB a s m b) := by
  simp only [impl_isFirst.f, impl_isFactor_v, impl_isScale_v, impl_isWord_v, Option.bind_some, bind_and]
  rw [foB_impl]

theorem impl_First_isAt_v (a s m b : Int) (w : Bool) (y : Int) : impl_First_isAt.f a s m b w y = some (foB a s m b && inR y (-pw (b - 1)) (pw (b - 1) - 1)) := by
  unfold impl_First_isAt.f
  simp only [impl_isFirst_v, Option.bind_some]
  cases h : foB a s m b
  · simp
  · have := (foB_true.mp h).2.2.2
    simp [impl_Word_has_v b w y this.1 this.2]

theorem impl_isSample_v (x : Int) : impl_isSample.f x = some (inR x (-100000) 100000) := by simp only [impl_isSample.f, impl_in_v, Option.bind_some]

theorem impl_mod_v (x p : Int) (h1 : 1 ≤ p) (h2 : p ≤ 4611686018427387904) : impl_mod.f x p = some (x % p) := by
  have ht := tmod_bd x p h1
  unfold impl_mod.f
  rw [if_neg (by omega), wrap_id (by omega) (by omega), tmod2 x p h1]

theorem impl_Word_fit_v (b : Int) (w : Bool) (x : Int) (h1 : 2 ≤ b) (h2 : b ≤ 16) (h3 : -1152921504606846976 ≤ x) (h4 : x ≤ 1152921504606846976) : impl_Word_fit.f b w x = some (fitM b w x) := by
  have hp := pw_pos (b - 1)
  have hp2 : pw (b - 1) ≤ 1048576 := pw20 (by omega)
  unfold impl_Word_fit.f fitM
  simp only [impl_Word_ends_v b w h1 h2, Option.bind_some]
  cases w
  · simp only [Bool.false_eq_true, if_false, mn_min, mx_max]
  · have hr := Int.emod_nonneg (x + pw (b - 1)) (show 2 * pw (b - 1) ≠ 0 by omega)
    have hr2 := Int.emod_lt_of_pos (x + pw (b - 1)) (show 0 < 2 * pw (b - 1) by omega)
    simp only [if_true]
    rw [show x - -pw (b - 1) = x + pw (b - 1) by omega, wrap_id (x := x + pw (b - 1)) (by omega) (by omega), show pw (b - 1) - 1 - -pw (b - 1) = 2 * pw (b - 1) - 1 by omega, wrap_id (x := 2 * pw (b - 1) - 1) (by omega) (by omega), show 2 * pw (b - 1) - 1 + 1 = 2 * pw (b - 1) by omega, wrap_id (x := 2 * pw (b - 1)) (by omega) (by omega), impl_mod_v _ _ (by omega) (by omega)]
    simp only [Option.bind_some]
    rw [show (x + pw (b - 1)) % (2 * pw (b - 1)) + -pw (b - 1) = (x + pw (b - 1)) % (2 * pw (b - 1)) - pw (b - 1) by omega, wrap_id (by omega) (by omega), wrap_mid x _ hp]

theorem impl_shifted_v (x s m : Int) (k : Nat) (h1 : -1152921504606846976 ≤ x) (h2 : x ≤ 1152921504606846976) (h3 : 0 ≤ s) (h4 : s ≤ 20) (h5 : 0 ≤ m) (h6 : m ≤ 2) (hk : 1 ≤ k) : impl_shifted.f k x s m = some (shf x s m) := by
  obtain ⟨k, rfl⟩ : ∃ j, k = j + 1 := ⟨k - 1, by omega⟩
  have hp := pw_pos (s - 1)
  have hp2 := pw20 (s := s - 1) (by omega)
  unfold impl_shifted.f shf
  by_cases m1 : m = 1
  · subst m1
    simp only [impl_shifted.j0, if_true]
    by_cases c : s > 0
    · simp only [c, decide_true, if_true]
      rw [wrap_id (x := s - 1) (by omega) (by omega), if_pos (by omega), if_pos h3, shl_one (by omega), wrap_id (by omega) (by omega), shr_eq (by omega)] <;> simp
    · have : s = 0 := by omega
      subst this
      simp [shr_eq, pw_zero]
  · simp only [if_neg m1, impl_shifted.j0]
    by_cases m2 : m = 2
    · subst m2
      by_cases c : x < 0
      · have hb := floor_bd (-x) (pw s) (pw_pos s) (by omega) (by omega)
        simp only [c, h3, if_true, wrap_id (x := -x) (by omega) (by omega), shr_eq (x := -x) (n := s) (by omega)]
        rw [wrap_id (x := -(-x / pw s)) (by omega) (by omega)] <;> simp
      · simp [c, h3, shr_eq (x := x) (n := s) (by omega)]
    · simp [m2, h3, shr_eq (x := x) (n := s) (by omega)]

theorem impl_First_step_v (a s m b : Int) (w : Bool) (y x : Int) (k : Nat) (h : foB a s m b = true) (hy : -100000 ≤ y ∧ y ≤ 100000) (hx : -100000 ≤ x ∧ x ≤ 100000) (hk : 2 ≤ k) : impl_First_step.f k a s m b w y x = some (foStepM a s m b w y x) := by
  obtain ⟨ha, hs, hm, hb⟩ := foB_true.mp h
  have h1 := mul_bd (a := a) (c := y) (by omega) hy
  have h2 := shf_bd2 (x := a * y) (s := s) (m := m) (by omega) (by omega) (by omega) (by omega)
  unfold impl_First_step.f impl_First_raw.f foStepM
  rw [wrap_id (x := a * y) (by omega) (by omega), impl_shifted_v (a * y) s m k (by omega) (by omega) (by omega) (by omega) (by omega) (by omega) (by omega)]
  simp only [Option.bind_some]
  rw [wrap_id (x := shf (a * y) s m + x) (by omega) (by omega), impl_Word_fit_v b w _ (by omega) (by omega) (by omega) (by omega)]
  simp only [Option.bind_some]

theorem count_less (l : List Int) (i : Nat) (v : Int) (h : i < l.length) (h0 : l.getD i 0 = 0) (hv : v ≠ 0) : (l.set i v).count 0 + 1 = l.count 0 := by
  have e : l[i] = 0 := by simpa [List.getD, h] using h0
  have hp : 0 < l.count 0 := List.count_pos_iff.mpr (e ▸ List.getElem_mem h)
  rw [List.count_set h]
  simp [e, hv]
  omega
theorem isMap_fold : ∀ (seen : List (Int × Int)) (D : DataW Unit), Maps.IsMap D → Maps.IsMap (seen.foldl (fun m p => m.put (.int .i64 p.1) (.lit (.int .i64 p.2))) D)
  | [], D, h => h
  | p :: r, D, h => isMap_fold r _ (h.put _ _)
theorem wf_small {y : Int} (h1 : -1000000 ≤ y) (h2 : y ≤ 1000000) : (Lit.int .i64 y).wf = true := by
  simp [Lit.wf, IntKind.min, IntKind.max, IntKind.signed, IntKind.bits]
  omega
theorem rd_set {l : List Int} {j : Nat} (hj : j < l.length) (v i : Int) (hi : 0 ≤ i) : rd (l.set j v) i = if i = j then v else rd l i := by
  unfold rd
  by_cases h : i = j
  · rw [if_pos h, h]; simp [List.getD, List.getElem?_set, hj]
  · rw [if_neg h]; simp only [List.getD]; rw [List.getElem?_set_ne (by omega)]
def perI (b : Int) (when_ : List Int) (seen : List (Int × Int)) (n : Nat) : Prop := ∀ z : Int, -pw (b - 1) ≤ z → z ≤ pw (b - 1) - 1 → (0 ≤ rd when_ (z + pw (b - 1)) ∧ rd when_ (z + pw (b - 1)) ≤ n) ∧ (rd when_ (z + pw (b - 1)) > 0 → Maps.has (impl_FirstPeriod.D seen) (.int .i64 z) = true ∧ impl_FirstPeriod.at_ seen z = rd when_ (z + pw (b - 1)) - 1) ∧ (rd when_ (z + pw (b - 1)) = 0 → Maps.has (impl_FirstPeriod.D seen) (.int .i64 z) = false)
theorem period_both (a s m b : Int) (w : Bool) (x : Int) (h : foB a s m b = true) (hx : -100000 ≤ x ∧ x ≤ 100000) : ∀ (c : Nat) (when_ : List Int) (seen : List (Int × Int)) (y : Int) (n : Nat), when_.count 0 = c → (when_.length : Int) = 2 * pw (b - 1) → seen.length = n → n + c ≤ 65536 → -pw (b - 1) ≤ y → y ≤ pw (b - 1) - 1 → perI b when_ seen n →
    ∃ v, Ev (fun k => spec_FirstPeriod.l0 k y x (-pw (b - 1)) when_ ((n : Int) + 1) a s m b w) v ∧ Ev (fun k => impl_FirstPeriod.l0 k a s m b w x y n seen) v := by
  intro c
  induction c with
  | zero =>
    intro when_ seen y n hc hl hs hn h1 h2 hI
    obtain ⟨ha, hsh, hm, hb⟩ := foB_true.mp h
    have hp15 : pw (b - 1) ≤ 32768 := Int.le_trans (pw_mono (show b - 1 ≤ 15 by omega)) (by decide)
    have hq := pw_pos (b - 1)
    obtain ⟨⟨i1, i2⟩, i3, i4⟩ := hI y h1 h2
    have hne : rd when_ (y + pw (b - 1)) ≠ 0 := by
      intro h0
      have := List.count_eq_zero.mp hc
      apply this
      have hlt : (y + pw (b - 1)).toNat < when_.length := by omega
      have e : when_[(y + pw (b - 1)).toNat] = 0 := by
        unfold rd at h0
        simpa [List.getD, hlt] using h0
      exact e ▸ List.getElem_mem hlt
    obtain ⟨g1, g2⟩ := i3 (by omega)
    refine ⟨(impl_FirstPeriod.at_ seen y, wrap64 ((n : Int) - impl_FirstPeriod.at_ seen y), true), ⟨1, fun k hk => ?_⟩, ⟨1, fun k hk => ?_⟩⟩
    · obtain ⟨k, rfl⟩ := pred (show 0 < k by omega)
      show spec_FirstPeriod.l0 (k + 1) y x (-pw (b - 1)) when_ ((n : Int) + 1) a s m b w = _
      simp only [spec_FirstPeriod.l0]
      rw [show y - -pw (b - 1) = y + pw (b - 1) by omega, wrap_id (x := y + pw (b - 1)) (by omega) (by omega), if_pos (by omega), if_pos (by omega), if_pos (by omega), g2, wrap_id (x := rd when_ (y + pw (b - 1)) - 1) (by omega) (by omega), show (n : Int) + 1 - rd when_ (y + pw (b - 1)) = n - (rd when_ (y + pw (b - 1)) - 1) by omega]
    · obtain ⟨k, rfl⟩ := pred (show 0 < k by omega)
      show impl_FirstPeriod.l0 (k + 1) a s m b w x y n seen = _
      simp only [impl_FirstPeriod.l0]
      rw [if_pos (wf_small (by omega) (by omega)), if_pos g1]
  | succ c ih =>
    intro when_ seen y n hc hl hs hn h1 h2 hI
    obtain ⟨ha, hsh, hm, hb⟩ := foB_true.mp h
    have hp15 : pw (b - 1) ≤ 32768 := Int.le_trans (pw_mono (show b - 1 ≤ 15 by omega)) (by decide)
    have hq := pw_pos (b - 1)
    obtain ⟨⟨i1, i2⟩, i3, i4⟩ := hI y h1 h2
    by_cases h0 : rd when_ (y + pw (b - 1)) = 0
    · have hh := i4 h0
      have hst := foStepM_bd a s m b w y x
      have hjl : (y + pw (b - 1)).toNat < when_.length := by omega
      have hset := rd_set hjl ((n : Int) + 1)
      have hcm : Maps.IsMap (impl_FirstPeriod.D seen) := isMap_fold seen (.map []) Maps.isMap_empty
      obtain ⟨v, ⟨K1, e1⟩, ⟨K2, e2⟩⟩ := ih (when_.set (y + pw (b - 1)).toNat ((n : Int) + 1)) (seen ++ [(y, (n : Int))]) (foStepM a s m b w y x) (n + 1) (by have := count_less when_ (y + pw (b - 1)).toNat ((n : Int) + 1) hjl h0 (by omega); omega) (by simpa using hl) (by simp [hs]) (by omega) hst.1 hst.2 (by
        intro z z1 z2
        obtain ⟨⟨j1, j2⟩, j3, j4⟩ := hI z z1 z2
        rw [hset _ (by omega)]
        unfold impl_FirstPeriod.at_
        rw [impl_FirstPeriod.D_snoc]
        by_cases e : z = y
        · subst e
          rw [if_pos (by omega), Maps.has_put_same hcm (show WideAt.IsKeyLit (Lit.int .i64 _) from trivial), Maps.atKey_put_same hcm (show WideAt.IsKeyLit (Lit.int .i64 _) from trivial)]
          refine ⟨⟨by omega, by omega⟩, fun _ => ⟨rfl, ?_⟩, fun h => by omega⟩
          simp only [impl_FirstPeriod.num]
          omega
        · have hne : Lit.int .i64 z ≠ Lit.int .i64 y := by intro e'; injection e' with _ e'; exact e e'
          rw [if_neg (by omega), Maps.has_put_other hne, Maps.atKey_put_other hne]
          exact ⟨⟨j1, by omega⟩, j3, j4⟩)
      refine ⟨v, ⟨K1 + 3, fun k hk => ?_⟩, ⟨K2 + 3, fun k hk => ?_⟩⟩
      · obtain ⟨k, rfl⟩ := pred (show K1 + 2 < k by omega)
        show spec_FirstPeriod.l0 (k + 1) y x (-pw (b - 1)) when_ ((n : Int) + 1) a s m b w = _
        have := e1 k (by omega)
        simp only [spec_FirstPeriod.l0]
        rw [show y - -pw (b - 1) = y + pw (b - 1) by omega, wrap_id (x := y + pw (b - 1)) (by omega) (by omega), if_pos (by omega), if_pos (by omega), if_neg (by omega), spec_foStep_v a s m b w y x k h (by omega) hx (by omega)]
        simp only [Option.bind_some]
        rw [wrap_id (x := (n : Int) + 1 + 1) (by omega) (by omega)]
        exact this
      · obtain ⟨k, rfl⟩ := pred (show K2 + 2 < k by omega)
        show impl_FirstPeriod.l0 (k + 1) a s m b w x y n seen = _
        have := e2 k (by omega)
        simp only [impl_FirstPeriod.l0]
        rw [if_pos (wf_small (by omega) (by omega)), if_neg (by rw [hh]; decide), if_pos (wf_small (by omega) (by omega)), if_pos (by omega), impl_First_step_v a s m b w y x k h (by omega) hx (by omega)]
        simp only [Option.bind_some]
        rw [wrap_id (x := (n : Int) + 1) (by omega) (by omega)]
        exact this
    · obtain ⟨g1, g2⟩ := i3 (by omega)
      refine ⟨(impl_FirstPeriod.at_ seen y, wrap64 ((n : Int) - impl_FirstPeriod.at_ seen y), true), ⟨1, fun k hk => ?_⟩, ⟨1, fun k hk => ?_⟩⟩
      · obtain ⟨k, rfl⟩ := pred (show 0 < k by omega)
        show spec_FirstPeriod.l0 (k + 1) y x (-pw (b - 1)) when_ ((n : Int) + 1) a s m b w = _
        simp only [spec_FirstPeriod.l0]
        rw [show y - -pw (b - 1) = y + pw (b - 1) by omega, wrap_id (x := y + pw (b - 1)) (by omega) (by omega), if_pos (by omega), if_pos (by omega), if_pos (by omega), g2, wrap_id (x := rd when_ (y + pw (b - 1)) - 1) (by omega) (by omega), show (n : Int) + 1 - rd when_ (y + pw (b - 1)) = n - (rd when_ (y + pw (b - 1)) - 1) by omega]
      · obtain ⟨k, rfl⟩ := pred (show 0 < k by omega)
        show impl_FirstPeriod.l0 (k + 1) a s m b w x y n seen = _
        simp only [impl_FirstPeriod.l0]
        rw [if_pos (wf_small (by omega) (by omega)), if_pos g1]
theorem period_e (a s m b : Int) (w : Bool) (y x : Int) : ∃ v, Ev (fun k => spec_FirstPeriod.f k a s m b w y x) v ∧ Ev (fun k => impl_FirstPeriod.f k a s m b w y x) v := by
  cases c : (foB a s m b && (inR y (-pw (b - 1)) (pw (b - 1) - 1) && inR x (-100000) 100000))
  · refine ⟨(0, 0, false), ⟨0, fun k hk => ?_⟩, ⟨0, fun k hk => ?_⟩⟩
    · show spec_FirstPeriod.f k a s m b w y x = _
      unfold spec_FirstPeriod.f
      simp only [spec_foAsked_v, Option.bind_some, c]
      rfl
    · show impl_FirstPeriod.f k a s m b w y x = _
      unfold impl_FirstPeriod.f
      simp only [impl_First_isAt_v, impl_isSample_v, Option.bind_some]
      rw [← Bool.and_assoc] at c
      cases c1 : (foB a s m b && inR y (-pw (b - 1)) (pw (b - 1) - 1))
      · simp
      · rw [c1, Bool.true_and] at c
        simp [c]
  · have c' := c
    simp only [Bool.and_eq_true, inR_true] at c
    obtain ⟨h, hy, hx⟩ := c
    obtain ⟨ha, hsh, hm, hb⟩ := foB_true.mp h
    have hp15 : pw (b - 1) ≤ 32768 := Int.le_trans (pw_mono (show b - 1 ≤ 15 by omega)) (by decide)
    have hq := pw_pos (b - 1)
    have hpb := pw_pred (n := b) (by omega)
    obtain ⟨v, ⟨K1, e1⟩, ⟨K2, e2⟩⟩ := period_both a s m b w x h hx (pw b).toNat (List.replicate (pw b).toNat 0) [] y 0 (by simp) (by simp; omega) rfl (by omega) hy.1 hy.2 (by
      intro z z1 z2
      have e : rd (List.replicate (pw b).toNat (0 : Int)) (z + pw (b - 1)) = 0 := by
        unfold rd
        simp only [List.getD, List.getElem?_replicate]
        split <;> rfl
      rw [e]
      exact ⟨⟨by omega, by omega⟩, fun h => by omega, fun _ => rfl⟩)
    refine ⟨v, ⟨K1, fun k hk => ?_⟩, ⟨K2, fun k hk => ?_⟩⟩
    · show spec_FirstPeriod.f k a s m b w y x = _
      unfold spec_FirstPeriod.f
      simp only [spec_foAsked_v, Option.bind_some, c', if_true, spec_wdLow_v b w hb.1 hb.2]
      rw [if_pos (by omega), shl_one (by omega), if_pos (by omega), if_pos (by omega)]
      exact e1 k hk
    · show impl_FirstPeriod.f k a s m b w y x = _
      unfold impl_FirstPeriod.f
      simp only [impl_First_isAt_v, impl_isSample_v, Option.bind_some]
      rw [inR_true.mpr hy, inR_true.mpr hx, h]
      simp only [Bool.and_self, if_true]
      exact e2 k hk

theorem FnExactFirstPeriod : laws_FnExactFirstPeriod.Pure := by
  intro a s m b w y x _ _ _ _ _ _
  obtain ⟨v, ⟨K1, e1⟩, ⟨K2, e2⟩⟩ := period_e a s m b w y x
  refine ⟨K1 + K2, ?_⟩
  simp [laws_FnExactFirstPeriod.f, laws_toFirst_v, e1 _ (show K1 ≤ K1 + K2 by omega), e2 _ (show K2 ≤ K1 + K2 by omega)]

end Go.Proofs.Ytepfkahbfnahmaa.Pure
