/- The plain statement behind the law FnExactFilterAtEnd: its walk's numbers answer true. Conditions: the given statement's own (each number is an int; each slice within the reach). -/
import Derived.Test.YtepfkahbfnahmaaQFnExactFilterAtEndx0
import Derived.Test.YtepfkahbfnahmaaQFnExactFilterAtEndx1
import Derived.Test.YtepfkahbfnahmaaQFnExactFilterAtEndx2
import Derived.Test.YtepfkahbfnahmaaQFnExactFilterAtEndx3
import Derived.Test.YtepfkahbfnahmaaQFnExactFilterAtEndx4
import Derived.Test.YtepfkahbfnahmaaQFnExactFilterAtEndx5
import Derived.Test.YtepfkahbfnahmaaQFnExactFilterAtEndx6
import Derived.Test.YtepfkahbfnahmaaQFnExactFilterAtEndx7
import Derived.Test.YtepfkahbfnahmaaQFnExactFilterAtEndx8
import Derived.Test.YtepfkahbfnahmaaBase
import Derived.Test.YtepfkahbfnahmaaAtEnd
namespace Go.Proofs.Ytepfkahbfnahmaa.Pure
open Go.RowKit Go.Proofs.Ytepfkahbfnahmaa.QFnExactFilterAtEnd Go.Proofs.YtepfkahbfnahmaaW.PrintWords Go.Proofs.YtepfkahbfnahmaaW.PrintLast Go.Proofs.YtepfkahbfnahmaaW.PrintMore Go.Proofs.Ytepfkahbfnahmaa.Base
set_option linter.unusedVariables false
set_option linter.unusedSimpArgs false

theorem laws_toIntS_l (xs : List Int) (hn : xs.length ≤ 1152921504606846976) : ∀ (r : List Int) (n k : Nat) (ys : List Int), xs.drop n = r → n ≤ xs.length → ys.length = xs.length → ys.take n = xs.take n → r.length < k → laws_toIntS.l0 k xs ys n = some xs
  | [], n, k, ys, hd, hx, hy, ht, hk => by
    obtain ⟨k, rfl⟩ := pred hk
    have := drop_nil hd
    simp only [laws_toIntS.l0]; rw [if_neg (by omega)]
    rw [List.take_of_length_le (by omega), List.take_of_length_le (by omega)] at ht
    rw [ht]
  | a :: r, n, k, ys, hd, hx, hy, ht, hk => by
    obtain ⟨k, rfl⟩ := pred hk
    obtain ⟨h1, h2, h3⟩ := drop_cons hd
    simp only [laws_toIntS.l0]
    rw [if_pos (by omega), if_pos (by omega), if_pos (by omega), wrap_nat h1 hn]
    refine laws_toIntS_l xs hn r (n + 1) k _ h3 (by omega) (by simpa using hy) ?_ (by simp at hk; omega)
    rw [show ((n : Int)).toNat = n by omega, rd_nat xs n h1]
    apply List.ext_getElem?
    intro i
    by_cases hi : i < n
    · have := congrArg (fun z => z[i]?) ht
      simp only [List.getElem?_take, hi, if_true] at this
      simp only [List.getElem?_take, show i < n + 1 by omega, if_true]
      rw [List.getElem?_set_ne (by omega)]
      exact this
    · by_cases he : i = n
      · subst he
        simp [List.getElem?_take, List.getElem?_set, hy, h1]
      · simp [List.getElem?_take, show ¬ i < n + 1 by omega]
theorem laws_toIntS_e (xs : List Int) (hn : xs.length ≤ 1048576) : Ev (fun k => laws_toIntS.f k xs) xs :=
  ⟨xs.length + 1, fun k hk => by
    show laws_toIntS.f k xs = some xs
    unfold laws_toIntS.f
    rw [if_pos (by omega), if_pos (by omega)]
    exact laws_toIntS_l xs (by omega) xs 0 k _ rfl (by omega) (by simp) (by simp) (by omega)⟩

theorem laws_eqIntS_l (xs : List Int) (hn : xs.length ≤ 1152921504606846976) : ∀ (r : List Int) (n k : Nat), xs.drop n = r → r.length < k → laws_eqIntS.l0 k xs xs n = some true
  | [], n, k, hd, hk => by
    obtain ⟨k, rfl⟩ := pred hk
    have := drop_nil hd
    simp only [laws_eqIntS.l0]; rw [if_neg (by omega)]
  | a :: r, n, k, hd, hk => by
    obtain ⟨k, rfl⟩ := pred hk
    obtain ⟨h1, h2, h3⟩ := drop_cons hd
    simp only [laws_eqIntS.l0]
    rw [if_pos (by omega), if_pos (by omega), if_pos (by omega), if_pos trivial, wrap_nat h1 hn]
    exact laws_eqIntS_l xs hn r (n + 1) k h3 (by simp at hk; omega)
theorem laws_eqIntS_same (xs : List Int) (hn : xs.length ≤ 1152921504606846976) : Ev (fun k => laws_eqIntS.f k xs xs) true :=
  ⟨xs.length + 1, fun k hk => by
    show laws_eqIntS.f k xs xs = some true
    unfold laws_eqIntS.f
    rw [if_pos rfl]
    exact laws_eqIntS_l xs hn xs 0 k rfl (by omega)⟩

theorem laws_markIntS_l (s : Int) (len : Nat) (hs : 0 ≤ s) (hs2 : s ≤ 1000000000000) (hn : len ≤ 1000000000000) : ∀ (d n k : Nat) (ys : List Int), n + d = len → ys.length = len → ys.take n = (marks s len).take n → d < k → laws_markIntS.l0 k ys (s + n) n = some (s + len, marks s len)
  | 0, n, k, ys, hd, hy, ht, hk => by
    obtain ⟨k, rfl⟩ := pred hk
    simp only [laws_markIntS.l0]; rw [if_neg (by omega)]
    rw [List.take_of_length_le (by omega), List.take_of_length_le (by rw [marks_length]; omega)] at ht
    rw [ht, show n = len by omega]
  | d + 1, n, k, ys, hd, hy, ht, hk => by
    obtain ⟨k, rfl⟩ := pred hk
    simp only [laws_markIntS.l0]
    rw [if_pos (by omega), if_pos (by omega), wrap_nat (m := len) (by omega) (by omega), wrap_id (x := s + n + 1) (by omega) (by omega), show s + (n : Int) + 1 = s + ((n + 1 : Nat) : Int) by omega, show ((n : Int)).toNat = n by omega]
    exact laws_markIntS_l s len hs hs2 hn d (n + 1) k _ (by omega) (by simpa using hy) (set_take (by rw [marks_length, hy]) (by rw [marks_length]; omega) ht (marks_get s len n (by omega))) (by omega)
theorem laws_markIntS_e (xs : List Int) (s : Int) (hs : 0 ≤ s) (hs2 : s ≤ 1000000000000) (hn : xs.length ≤ 1048576) : Ev (fun k => laws_markIntS.f k xs s) (s + xs.length, marks s xs.length) :=
  ⟨xs.length + 1, fun k hk => by
    have := laws_markIntS_l s xs.length hs hs2 (by omega) xs.length 0 k xs (by omega) rfl (by simp) (by omega)
    simpa [laws_markIntS.f] using this⟩

theorem laws_heldIntS_l (s : Int) (len : Nat) (hs : 0 ≤ s) (hs2 : s ≤ 1000000000000) (hn : len ≤ 1000000000000) : ∀ (d n k : Nat), n + d = len → d < k → laws_heldIntS.l0 k (marks s len) (s + n) n = some (s + len)
  | 0, n, k, hd, hk => by
    obtain ⟨k, rfl⟩ := pred hk
    simp only [laws_heldIntS.l0, marks_length]; rw [if_neg (by omega), show n = len by omega]
  | d + 1, n, k, hd, hk => by
    obtain ⟨k, rfl⟩ := pred hk
    simp only [laws_heldIntS.l0, marks_length]
    have hr : rd (marks s len) n = s + n := by simp [rd, List.getD, marks_get s len n (by omega)]
    rw [if_pos (by omega), if_pos (by omega), if_pos hr, wrap_nat (m := len) (by omega) (by omega), wrap_id (x := s + n + 1) (by omega) (by omega), show s + (n : Int) + 1 = s + ((n + 1 : Nat) : Int) by omega]
    exact laws_heldIntS_l s len hs hs2 hn d (n + 1) k (by omega) (by omega)
theorem laws_heldIntS_e (n : Nat) (s : Int) (hs : 0 ≤ s) (hs2 : s ≤ 1000000000000) (hn : n ≤ 1048576) : Ev (fun k => laws_heldIntS.f k (marks s n) s) (s + n) :=
  ⟨n + 1, fun k hk => by
    have := laws_heldIntS_l s n hs hs2 (by omega) n 0 k (by omega) (by omega)
    simpa [laws_heldIntS.f] using this⟩

theorem laws_toWord_v (a : Int) (b : Bool) : laws_toWord.f a b = some (a, b) := rfl

theorem spec_wdLow_v (b : Int) (w : Bool) (h1 : 2 ≤ b) (h2 : b ≤ 16) : spec_wdLow.f b w = some (-pw (b - 1)) := by
  have := pw_pos (b - 1)
  have := pw_le (n := b - 1) (by omega)
  unfold spec_wdLow.f
  rw [wrap_id (x := b - 1) (by omega) (by omega), if_pos (by omega), shl_one (by omega), wrap_id (by omega) (by omega)]

theorem spec_wdHigh_v (b : Int) (w : Bool) (h1 : 2 ≤ b) (h2 : b ≤ 16) : spec_wdHigh.f b w = some (pw (b - 1) - 1) := by
  have := pw_pos (b - 1)
  have := pw_le (n := b - 1) (by omega)
  unfold spec_wdHigh.f
  rw [wrap_id (x := b - 1) (by omega) (by omega), if_pos (by omega), shl_one (by omega), wrap_id (by omega) (by omega)]

theorem spec_l1In_v (a b c : Int) : spec_l1In.f a b c = some (inR a b c) := inR_ge a b c

theorem spec_l1All_l (lo hi : Int) (xs : List Int) (hn : xs.length ≤ 1152921504606846976) : ∀ (r : List Int) (n k : Nat), xs.drop n = r → r.length < k → spec_l1All.l0 k lo hi xs (xs.length : Int) n = some (r.all fun x => inR x lo hi)
  | [], n, k, hd, hk => by
    obtain ⟨k, rfl⟩ := pred hk
    have := drop_nil hd
    simp only [spec_l1All.l0]; rw [if_neg (by omega)]; rfl
  | a :: r, n, k, hd, hk => by
    obtain ⟨k, rfl⟩ := pred hk
    obtain ⟨h1, h2, h3⟩ := drop_cons hd
    simp only [spec_l1All.l0]
    rw [if_pos (by omega), if_pos (by omega), if_pos (by omega), h2, spec_l1In_v, wrap_nat h1 hn]; simp only [Option.bind_some, List.all_cons]
    cases h : inR a lo hi
    · simp
    · simp only [if_true, Bool.true_and]
      exact spec_l1All_l lo hi xs hn r (n + 1) k h3 (by simp at hk; omega)
theorem spec_l1All_e (lo hi : Int) (xs : List Int) (hn : xs.length ≤ 1152921504606846976) : Ev (fun k => spec_l1All.f k xs lo hi) (xs.all fun x => inR x lo hi) :=
  ⟨xs.length + 1, fun k hk => spec_l1All_l lo hi xs hn xs 0 k rfl (by omega)⟩

theorem spec_wdGood_v (a : Int) (b : Bool) : spec_wdGood.f a b = some (inR a 2 16) := by simp [spec_wdGood.f, spec_l1In_v]

theorem spec_wdSignal_e (xs : List Int) (hn : xs.length ≤ 1152921504606846976) : Ev (fun k => spec_wdSignal.f k xs) (sigB xs) := by
  obtain ⟨K, e⟩ := spec_l1All_e (-100000) 100000 xs hn
  refine ⟨K, fun k hk => ?_⟩
  show spec_wdSignal.f k xs = some (sigB xs)
  unfold spec_wdSignal.f sigB
  simp only [e k hk, Option.bind_some]
  by_cases h : xs.length ≤ 64
  · rw [if_pos (by omega)]; simp [h]
  · rw [if_neg (by omega)]; simp [h]

theorem spec_weGood_e (xs : List Int) (hn : xs.length ≤ 1152921504606846976) : Ev (fun k => spec_weGood.f k xs) (weB xs) := by
  obtain ⟨K, e⟩ := spec_l1All_e (-1000) 1000 xs hn
  refine ⟨K, fun k hk => ?_⟩
  show spec_weGood.f k xs = some (weB xs)
  unfold spec_weGood.f weB
  simp only [e k hk, spec_l1In_v, Option.bind_some, bind_and]

theorem spec_weAsked_e (h s : List Int) (hh : h.length ≤ 1048576) (hs : s.length ≤ 1048576) : Ev (fun k => spec_weAsked.f k h s) (weB h && sigB s) := by
  obtain ⟨K1, e1⟩ := spec_weGood_e h (by omega)
  obtain ⟨K2, e2⟩ := spec_wdSignal_e s (by omega)
  refine ⟨K1 + K2, fun k hk => ?_⟩
  show spec_weAsked.f k h s = _
  unfold spec_weAsked.f
  simp only [e1 k (by omega), e2 k (by omega), Option.bind_some, bind_and]

theorem spec_wdMode_v (s m : Int) : spec_wdMode.f s m = some (inR s 0 20 && inR m 0 2) := by
  simp only [spec_wdMode.f, spec_l1In_v, Option.bind_some, bind_and]

theorem spec_weInWord_e (b : Int) (w : Bool) (h S : List Int) (s m : Int) (hh : h.length ≤ 1048576) (hs : S.length ≤ 1048576) : Ev (fun k => spec_weInWord.f k b w h S s m) (wordB b s m h S) := by
  obtain ⟨K1, e1⟩ := spec_weAsked_e h S hh hs
  obtain ⟨K2, e2⟩ := spec_l1All_e (-pw (b - 1)) (pw (b - 1) - 1) h (by omega)
  obtain ⟨K3, e3⟩ := spec_l1All_e (-pw (b - 1)) (pw (b - 1) - 1) S (by omega)
  refine ⟨K1 + K2 + K3, fun k hk => ?_⟩
  show spec_weInWord.f k b w h S s m = _
  unfold spec_weInWord.f wordB
  simp only [spec_wdGood_v, Option.bind_some]
  cases c1 : inR b 2 16
  · simp
  have hB := inR_true.mp c1
  simp only [if_true, e1 k (by omega), Option.bind_some, spec_wdMode_v, spec_wdLow_v b w hB.1 hB.2, spec_wdHigh_v b w hB.1 hB.2, e2 k (by omega), e3 k (by omega), Bool.true_and]
  cases (weB h && sigB S)
  · simp
  cases (inR s 0 20 && inR m 0 2)
  · simp
  simp only [if_true, Bool.true_and, bind_and]

theorem spec_l1Most_v (a b : Int) : spec_l1Most.f a b = some (max a b) := by
  unfold spec_l1Most.f
  split <;> (congr 1; omega)

theorem spec_l1Least_v (a b : Int) : spec_l1Least.f a b = some (min a b) := by
  unfold spec_l1Least.f
  split <;> (congr 1; omega)

theorem spec_wdFit_v (b : Int) (w : Bool) (x : Int) (h1 : 2 ≤ b) (h2 : b ≤ 16) (h3 : -1152921504606846976 ≤ x) (h4 : x ≤ 1152921504606846976) : spec_wdFit.f b w x = some (fitM b w x) := by
  have hp := pw_pos (b - 1)
  have hp2 := pw_le (n := b) (by omega)
  have hp3 := pw_pred (n := b) (by omega)
  have ht := tmod_bd x (pw b) (by omega)
  have hr := Int.emod_nonneg x (show pw b ≠ 0 by omega)
  have hr2 := Int.emod_lt_of_pos x (show 0 < pw b by omega)
  unfold spec_wdFit.f fitM
  rw [← hp3]
  cases w
  · simp only [spec_wdHigh_v b false h1 h2, spec_wdLow_v b false h1 h2, spec_l1Most_v, spec_l1Least_v, Option.bind_some, if_false, Bool.false_eq_true]
    congr 1; omega
  · simp only [if_true, shl_one (n := b) (by omega), if_pos (show 0 ≤ b by omega), if_neg (show ¬ pw b = 0 by omega), spec_wdHigh_v b true h1 h2, Option.bind_some, wrap_id (x := Int.tmod x (pw b) + pw b) (by omega) (by omega), tmod2 x (pw b) (by omega), wrap_id (x := x % pw b - pw b) (by omega) (by omega)]
    split <;> rfl

theorem spec_wdShift_v (x s m : Int) (k : Nat) (h1 : -1152921504606846976 ≤ x) (h2 : x ≤ 1152921504606846976) (h3 : 0 ≤ s) (h4 : s ≤ 20) (h5 : 0 ≤ m) (h6 : m ≤ 2) (hk : 2 ≤ k) : spec_wdShift.f k x s m = some (shf x s m) := by
  obtain ⟨k, rfl⟩ : ∃ j, k = j + 2 := ⟨k - 2, by omega⟩
  have hp := pw_pos s
  have hp2 := pw20 h4
  have hd := Int.mul_ediv_add_emod x (pw s)
  have hr := Int.emod_nonneg x (show pw s ≠ 0 by omega)
  have hr2 := Int.emod_lt_of_pos x (show 0 < pw s by omega)
  have hb := floor_bd x (pw s) hp h1 h2
  unfold spec_wdShift.f
  rw [if_pos h3, shl_one (by omega), if_neg (by omega)]
  have key : ∀ d : Int, d = x / pw s → spec_wdShift.j0 (k + 2) x m (pw s) d = some (shf x s m) := by
    rintro d rfl
    simp only [spec_wdShift.j0, spec_wdShift.j1]
    have e1 : wrap64 (x / pw s * pw s) = x / pw s * pw s := wrap_id (by rw [Int.mul_comm]; omega) (by rw [Int.mul_comm]; omega)
    have e2 : x - x / pw s * pw s = x % pw s := by rw [Int.mul_comm]; omega
    rw [e1, e2, wrap_id (x := x % pw s) (by omega) (by omega), wrap_id (x := 2 * (x % pw s)) (by omega) (by omega), wrap_id (x := x / pw s + 1) (by omega) (by omega)]
    rw [shf_eq x s m h3 h4]
    by_cases m1 : m = 1
    · subst m1
      by_cases c1 : 2 * (x % pw s) ≥ pw s
      · by_cases c2 : x % pw s > 0
        · simp [c1, c2]
        · exfalso; omega
      · simp [c1]
    · by_cases m2 : m = 2
      · subst m2
        by_cases c1 : x < 0
        · by_cases c2 : x % pw s > 0 <;> simp [c1, c2]
        · simp [c1]
      · simp [m1, m2]
  have hb2 := td_bd x (pw s) hp h1 h2
  by_cases h : x < 0 ∧ x % pw s ≠ 0
  · rw [if_pos (by rw [tm_neg x (pw s) hp]; exact h)]
    exact key _ (by rw [wrap_id (x := Int.tdiv x (pw s)) (by omega) (by omega), td_low x (pw s) hp h, wrap_id (by omega) (by omega)])
  · rw [if_neg (by rw [tm_neg x (pw s) hp]; exact h)]
    exact key _ (by rw [wrap_id (x := Int.tdiv x (pw s)) (by omega) (by omega), td_high x (pw s) hp h])

theorem spec_FilterAtEnd_l1 (b : Int) (w : Bool) (s m : Int) (h S : List Int) (hb : 2 ≤ b ∧ b ≤ 16) (hs : 0 ≤ s ∧ s ≤ 20) (hm : 0 ≤ m ∧ m ≤ 2) (wh : weB h = true) (wS : sigB S = true) (n : Nat) (hn : n < S.length) (out : List Int) (ho : out.length < 17592186044416) (v : List Int × Bool) (N : Nat) (z : Int) (hz1 : -900000000 ≤ z ∧ z ≤ 900000000)
    (hv : ∀ k, N ≤ k → spec_FilterAtEnd.l0 k h S s m (out ++ [fitM b w (shf z s m)]) (S.length : Int) (wrap64 ((n : Int) + 1)) b w = some v) : ∀ (r : List Int) (j k : Nat) (acc : Int), h.drop j = r → j ≤ h.length → -100000000 * (j : Int) ≤ acc ∧ acc ≤ 100000000 * (j : Int) → acc + cv r S ((n : Int) - j) = z → r.length + N + 4 < k → spec_FilterAtEnd.l1 k h S s m out n acc j (S.length : Int) n b w = some v
  | [], j, k, acc, hd, hj, ha, hz, hk => by
    obtain ⟨k, rfl⟩ := pred hk
    have := drop_nil hd
    simp only [cv, Int.add_zero] at hz
    subst hz
    have h2 := shf_bd2 (x := acc) (s := s) (m := m) (by omega) (by omega) hs.1 hs.2
    simp only [spec_FilterAtEnd.l1]
    rw [if_neg (by omega), spec_wdShift_v acc s m k (by omega) (by omega) hs.1 hs.2 hm.1 hm.2 (by simp at hk; omega)]
    simp only [Option.bind_some]
    rw [spec_wdFit_v b w _ hb.1 hb.2 (by omega) (by omega)]
    simp only [Option.bind_some]
    rw [if_pos ho]
    exact hv k (by simp at hk; omega)
  | a :: r, j, k, acc, hd, hj, ha, hz, hk => by
    simp only [List.length_cons] at hk
    obtain ⟨k, rfl⟩ := pred hk
    obtain ⟨g1, g2, g3⟩ := drop_cons hd
    have wl := (weB_true wh).1
    have sl := (sigB_true wS).1
    simp only [spec_FilterAtEnd.l1]
    rw [if_pos (by omega)]
    by_cases c : (j : Int) ≤ n
    · have hx := atM_bd (sigB_true wS).2 ((n : Int) - j)
      have ham : -1000 ≤ a ∧ a ≤ 1000 := by
        apply (weB_true wh).2.1
        rw [← g2, rd_nat h j g1]
        exact List.getElem_mem g1
      have h1 := mul_bd2 ham hx
      rw [if_pos c, wrap_id (x := (n : Int) - j) (by omega) (by omega), if_pos (by omega), if_pos (by omega), if_pos (by omega), g2, rd_atM (by omega), wrap_id (x := a * atM S ((n : Int) - j)) (by omega) (by omega), wrap_id (x := acc + a * atM S ((n : Int) - j)) (by omega) (by omega), wrap_nat g1 (by omega)]
      simp only [cv] at hz
      refine spec_FilterAtEnd_l1 b w s m h S hb hs hm wh wS n hn out ho v N z hz1 hv r (j + 1) k _ g3 (by omega) (by omega) ?_ (by omega)
      rw [show (n : Int) - ((j + 1 : Nat) : Int) = (n : Int) - j - 1 by omega]
      omega
    · rw [cv_neg _ _ _ (by omega)] at hz
      have e : z = acc := by omega
      subst e
      have h2 := shf_bd2 (x := z) (s := s) (m := m) (by omega) (by omega) hs.1 hs.2
      rw [if_neg c, spec_wdShift_v z s m k (by omega) (by omega) hs.1 hs.2 hm.1 hm.2 (by omega)]
      simp only [Option.bind_some]
      rw [spec_wdFit_v b w _ hb.1 hb.2 (by omega) (by omega)]
      simp only [Option.bind_some]
      rw [if_pos ho]
      exact hv k (by omega)
theorem spec_FilterAtEnd_l0 (b : Int) (w : Bool) (s m : Int) (h S : List Int) (hb : 2 ≤ b ∧ b ≤ 16) (hs : 0 ≤ s ∧ s ≤ 20) (hm : 0 ≤ m ∧ m ≤ 2) (wh : weB h = true) (wS : sigB S = true) (z : List Int) : ∀ (d n k : Nat) (out : List Int), n + d = S.length → out.length = n → (out ++ (List.range' n d).map fun (n : Nat) => fitM b w (shf (cv h S n) s m)) = z → d * 40 < k →
    spec_FilterAtEnd.l0 k h S s m out (S.length : Int) n b w = some (z, true)
  | 0, n, k, out, hn, ho, hz, hk => by
    obtain ⟨k, rfl⟩ := pred hk
    simp only [List.range'_zero, List.map_nil, List.append_nil] at hz
    subst hz
    simp only [spec_FilterAtEnd.l0]
    rw [if_neg (by omega)]
  | d + 1, n, k, out, hn, ho, hz, hk => by
    obtain ⟨k, rfl⟩ := pred hk
    have sl := (sigB_true wS).1
    have wl := (weB_true wh).1
    have hc := cv_bd (sigB_true wS).2 h n (weB_true wh).2.1
    rw [List.range'_succ] at hz
    simp only [spec_FilterAtEnd.l0]
    rw [if_pos (by omega)]
    refine spec_FilterAtEnd_l1 b w s m h S hb hs hm wh wS n (by omega) out (by omega) _ (d * 40 + 1) (cv h S n) (by omega) ?_ h 0 k 0 rfl (by omega) (by omega) (by simp) (by omega)
    intro k hk
    rw [wrap_nat (m := S.length) (by omega) (by omega)]
    exact spec_FilterAtEnd_l0 b w s m h S hb hs hm wh wS z d (n + 1) k _ (by omega) (by simp; omega) (by simpa using hz) (by omega)
theorem spec_FilterAtEnd_e (b : Int) (w : Bool) (h S : List Int) (s m : Int) (hh : h.length ≤ 1048576) (hS : S.length ≤ 1048576) : Ev (fun k => spec_FilterAtEnd.f k b w h S s m) (if wordB b s m h S = true then (faeM b w s m h S, true) else ([], false)) := by
  obtain ⟨K1, e1⟩ := spec_weInWord_e b w h S s m hh hS
  cases c : wordB b s m h S
  · refine ⟨K1, fun k hk => ?_⟩
    show spec_FilterAtEnd.f k b w h S s m = _
    unfold spec_FilterAtEnd.f
    simp [e1 k (by omega), c]
  · obtain ⟨hb, wh, wS, hs, hm⟩ := wordB_true c
    have sl := (sigB_true wS).1
    refine ⟨K1 + 3000, fun k hk => ?_⟩
    show spec_FilterAtEnd.f k b w h S s m = _
    unfold spec_FilterAtEnd.f
    have := spec_FilterAtEnd_l0 b w s m h S hb hs hm wh wS (faeM b w s m h S) S.length 0 k [] (by omega) rfl (by simp [faeM, List.range_eq_range']) (by omega)
    simp only [e1 k (by omega), c, Option.bind_some, if_true]
    exact this

theorem impl_answer_in (s : List Int) (hs : s.length ≤ 1000) (k0 : Nat) (a : Int) (hk0 : k0 ≤ 1000) (h : List Int) (m : Int) : ∀ (r : List Int) (i k : Nat) (out : List Int), s.drop i = r → i + r.length = s.length → k0 + s.length ≤ out.length → r.length + 1 < k → impl_answer.l1 k s out k0 a h m k0 s (s.length : Int) i = impl_answer.l0 (k - r.length - 1) s (innerM k0 a out r i) h m (wrap64 (k0 + 1))
  | [], i, k, out, hd, hi, ho, hk => by
    obtain ⟨k, rfl⟩ := pred (show 0 < k by omega)
    have := drop_nil hd
    simp only [impl_answer.l1, innerM]; rw [if_neg (by omega)]; simp
  | x :: r, i, k, out, hd, hi, ho, hk => by
    obtain ⟨k, rfl⟩ := pred (show 0 < k by omega)
    obtain ⟨h1, h2, h3⟩ := drop_cons hd
    simp only [List.length_cons] at hk hi
    simp only [impl_answer.l1, innerM]
    rw [if_pos (by omega), if_pos (by omega), if_pos (by omega), wrap_id (x := (i : Int) + (k0 : Int)) (by omega) (by omega), if_pos (by omega), if_pos (by omega), h2, wrap_nat h1 (by omega), show ((i : Int) + (k0 : Int)).toNat = k0 + i by omega]
    rw [show rd out ((i : Int) + (k0 : Int)) = out.getD (k0 + i) 0 by unfold rd; rw [show ((i : Int) + (k0 : Int)).toNat = k0 + i by omega]]
    rw [impl_answer_in s hs k0 a hk0 h m r (i + 1) k _ h3 (by omega) (by simpa using ho) (by omega)]
    simp only [List.length_cons]
    congr 1; omega
theorem impl_answer_out (s : List Int) (hs : s.length ≤ 1000) (h : List Int) (hh : h.length ≤ 1000) : ∀ (r : List Int) (n k : Nat) (out : List Int), h.drop n = r → n + r.length = h.length → h.length + s.length ≤ out.length + 1 → 1 ≤ s.length → r.length * (s.length + 2) < k → impl_answer.l0 k s out h (h.length : Int) n = some (outerM s out r n)
  | [], n, k, out, hd, hi, ho, hs1, hk => by
    obtain ⟨k, rfl⟩ := pred (show 0 < k by omega)
    have := drop_nil hd
    simp only [impl_answer.l0, outerM]; rw [if_neg (by omega)]
  | a :: r, n, k, out, hd, hi, ho, hs1, hk => by
    obtain ⟨k, rfl⟩ := pred (show 0 < k by omega)
    obtain ⟨h1, h2, h3⟩ := drop_cons hd
    simp only [List.length_cons] at hk hi
    have e : (r.length + 1) * (s.length + 2) = r.length * (s.length + 2) + (s.length + 2) := by rw [Nat.add_mul, Nat.one_mul]
    simp only [impl_answer.l0, outerM]
    rw [if_pos (by omega), if_pos (by omega), if_pos (by omega), h2]
    have h4 := impl_answer_in s hs n a (by omega) h h.length s 0 k out rfl (by omega) (by omega) (by omega)
    rw [show ((0 : Nat) : Int) = 0 from rfl] at h4
    rw [h4, wrap_nat h1 (by omega)]
    exact impl_answer_out s hs h hh r (n + 1) _ _ h3 (by omega) (by rw [innerM_length]; omega) hs1 (by omega)
theorem impl_answer_e (h s : List Int) (hh : h.length ≤ 1000) (hs : s.length ≤ 1000) (hh1 : 1 ≤ h.length) : Ev (fun k => impl_answer.f k h s) (ansM h s) :=
  ⟨h.length * (s.length + 2) + 1, fun k hk => by
    show impl_answer.f k h s = _
    unfold impl_answer.f ansM
    by_cases h0 : s.length = 0
    · rw [if_pos (by omega), if_pos h0]
    · rw [if_neg (by omega), if_neg h0, wrap_id (x := (h.length : Int) + (s.length : Int)) (by omega) (by omega), wrap_id (x := (h.length : Int) + (s.length : Int) - 1) (by omega) (by omega), if_pos (by omega), if_pos (by omega), show ((h.length : Int) + (s.length : Int) - 1).toNat = h.length + s.length - 1 by omega]
      exact impl_answer_out s hs h hh h 0 k _ rfl (by omega) (by simp; omega) (by omega) (by omega)⟩

theorem impl_in_v (a b c : Int) : impl_in.f a b c = some (inR a b c) := inR_le a b c

theorem impl_isSignal_1_v (x : Int) : impl_isSignal_1.f x = some (!inR x (-100000) 100000) := by simp only [impl_isSignal_1.f, impl_in_v, Option.bind_some]
theorem index_isSignal_l (xs : List Int) (hn : xs.length ≤ 1152921504606846976) : ∀ (r : List Int) (n k : Nat), xs.drop n = r → r.length < k → ∃ v : Int, slices_IndexFunc_int_int_impl_isSignal_1.l0 k xs (xs.length : Int) n = some v ∧ decide (v ≥ 0) = !(r.all fun x => inR x (-100000) 100000)
  | [], n, k, hd, hk => by
    obtain ⟨k, rfl⟩ := pred hk
    have := drop_nil hd
    refine ⟨-1, ?_, by simp⟩
    simp only [slices_IndexFunc_int_int_impl_isSignal_1.l0]; rw [if_neg (by omega)]
  | a :: r, n, k, hd, hk => by
    obtain ⟨k, rfl⟩ := pred hk
    obtain ⟨h1, h2, h3⟩ := drop_cons hd
    simp only [slices_IndexFunc_int_int_impl_isSignal_1.l0]
    rw [if_pos (by omega), if_pos (by omega), if_pos (by omega), h2, impl_isSignal_1_v, wrap_nat h1 hn]; simp only [Option.bind_some, List.all_cons]
    cases h : inR a (-100000) 100000
    · exact ⟨n, by simp, by simp⟩
    · obtain ⟨v, e, hv⟩ := index_isSignal_l xs hn r (n + 1) k h3 (by simp at hk; omega)
      exact ⟨v, by simpa using e, by simpa using hv⟩
theorem contains_isSignal_e (xs : List Int) (hn : xs.length ≤ 1152921504606846976) : Ev (fun k => slices_ContainsFunc_int_int_impl_isSignal_1.f k xs) (!(xs.all fun x => inR x (-100000) 100000)) :=
  ⟨xs.length + 1, fun k hk => by
    show slices_ContainsFunc_int_int_impl_isSignal_1.f k xs = some _
    obtain ⟨v, e, hv⟩ := index_isSignal_l xs hn xs 0 k rfl (by omega)
    have e' : slices_IndexFunc_int_int_impl_isSignal_1.f k xs = some v := e
    unfold slices_ContainsFunc_int_int_impl_isSignal_1.f
    rw [e']; simp only [Option.bind_some, hv]⟩

theorem impl_isSignal_e (xs : List Int) (hn : xs.length ≤ 1152921504606846976) : Ev (fun k => impl_isSignal.f k xs) (sigB xs) := by
  obtain ⟨K, e⟩ := contains_isSignal_e xs hn
  refine ⟨K, fun k hk => ?_⟩
  show impl_isSignal.f k xs = some (sigB xs)
  unfold impl_isSignal.f sigB
  simp only [e k hk, Option.bind_some, Bool.not_not]
  by_cases h : xs.length ≤ 64
  · rw [if_pos (by omega)]; simp [h]
  · rw [if_neg (by omega)]; simp [h]
theorem impl_isSignal_k (xs : List Int) (k : Nat) (hn : xs.length ≤ 64) (hk : 66 ≤ k) : impl_isSignal.f k xs = some (sigB xs) := by
  obtain ⟨v, e, hv⟩ := index_isSignal_l xs (by omega) xs 0 k rfl (by omega)
  have e' : slices_IndexFunc_int_int_impl_isSignal_1.f k xs = some v := e
  unfold impl_isSignal.f slices_ContainsFunc_int_int_impl_isSignal_1.f sigB
  rw [e']; simp only [Option.bind_some, hv, Bool.not_not]
  rw [if_pos (by omega)]; simp [hn]

theorem impl_isWeights_1_v (x : Int) : impl_isWeights_1.f x = some (!inR x (-1000) 1000) := by simp only [impl_isWeights_1.f, impl_in_v, Option.bind_some]
theorem index_isWeights_l (xs : List Int) (hn : xs.length ≤ 1152921504606846976) : ∀ (r : List Int) (n k : Nat), xs.drop n = r → r.length < k → ∃ v : Int, slices_IndexFunc_int_int_impl_isWeights_1.l0 k xs (xs.length : Int) n = some v ∧ decide (v ≥ 0) = !(r.all fun x => inR x (-1000) 1000)
  | [], n, k, hd, hk => by
    obtain ⟨k, rfl⟩ := pred hk
    have := drop_nil hd
    refine ⟨-1, ?_, by simp⟩
    simp only [slices_IndexFunc_int_int_impl_isWeights_1.l0]; rw [if_neg (by omega)]
  | a :: r, n, k, hd, hk => by
    obtain ⟨k, rfl⟩ := pred hk
    obtain ⟨h1, h2, h3⟩ := drop_cons hd
    simp only [slices_IndexFunc_int_int_impl_isWeights_1.l0]
    rw [if_pos (by omega), if_pos (by omega), if_pos (by omega), h2, impl_isWeights_1_v, wrap_nat h1 hn]; simp only [Option.bind_some, List.all_cons]
    cases h : inR a (-1000) 1000
    · exact ⟨n, by simp, by simp⟩
    · obtain ⟨v, e, hv⟩ := index_isWeights_l xs hn r (n + 1) k h3 (by simp at hk; omega)
      exact ⟨v, by simpa using e, by simpa using hv⟩
theorem contains_isWeights_e (xs : List Int) (hn : xs.length ≤ 1152921504606846976) : Ev (fun k => slices_ContainsFunc_int_int_impl_isWeights_1.f k xs) (!(xs.all fun x => inR x (-1000) 1000)) :=
  ⟨xs.length + 1, fun k hk => by
    show slices_ContainsFunc_int_int_impl_isWeights_1.f k xs = some _
    obtain ⟨v, e, hv⟩ := index_isWeights_l xs hn xs 0 k rfl (by omega)
    have e' : slices_IndexFunc_int_int_impl_isWeights_1.f k xs = some v := e
    unfold slices_ContainsFunc_int_int_impl_isWeights_1.f
    rw [e']; simp only [Option.bind_some, hv]⟩

theorem impl_isWeights_e (xs : List Int) (hn : xs.length ≤ 1152921504606846976) : Ev (fun k => impl_isWeights.f k xs) (weB xs) := by
  obtain ⟨K, e⟩ := contains_isWeights_e xs hn
  refine ⟨K, fun k hk => ?_⟩
  show impl_isWeights.f k xs = some (weB xs)
  unfold impl_isWeights.f weB
  simp only [e k hk, impl_in_v, Option.bind_some, Bool.not_not, bind_and]

theorem impl_Word_ends_v (b : Int) (w : Bool) (h1 : 2 ≤ b) (h2 : b ≤ 16) : impl_Word_ends.f b w = some (-pw (b - 1), pw (b - 1) - 1) := by
  have := pw_pos (b - 1)
  have := pw_le (n := b - 1) (by omega)
  unfold impl_Word_ends.f
  rw [wrap_id (x := b - 1) (by omega) (by omega), if_pos (by omega), shl_one (by omega), wrap_id (x := -pw (b - 1)) (by omega) (by omega), wrap_id (x := pw (b - 1) - 1) (by omega) (by omega)]

theorem impl_Word_has_v (b : Int) (w : Bool) (x : Int) (h1 : 2 ≤ b) (h2 : b ≤ 16) : impl_Word_has.f b w x = some (inR x (-pw (b - 1)) (pw (b - 1) - 1)) := by
  unfold impl_Word_has.f
  simp only [impl_Word_ends_v b w h1 h2, impl_in_v, Option.bind_some]

theorem impl_isWord_v (a : Int) (b : Bool) : impl_isWord.f a b = some (inR a 2 16) := by simp [impl_isWord.f, impl_in_v]

theorem impl_isShift_v (s m : Int) : impl_isShift.f s m = some (inR s 0 20 && inR m 0 2) := by
  simp only [impl_isShift.f, impl_in_v, Option.bind_some, bind_and]

theorem inWord_l (b : Int) (p : Bool) (h1 : 2 ≤ b) (h2 : b ≤ 16) (xs : List Int) (hn : xs.length ≤ 1152921504606846976) : ∀ (r : List Int) (n k : Nat), xs.drop n = r → r.length < k → ∃ v : Int, impl_inWord.i0 k b p xs (xs.length : Int) n = some v ∧ decide (v ≥ 0) = !(r.all fun x => inR x (-pw (b - 1)) (pw (b - 1) - 1))
  | [], n, k, hd, hk => by
    obtain ⟨k, rfl⟩ := pred hk
    have := drop_nil hd
    refine ⟨-1, ?_, by simp⟩
    simp only [impl_inWord.i0]; rw [if_neg (by omega)]
  | a :: r, n, k, hd, hk => by
    obtain ⟨k, rfl⟩ := pred hk
    obtain ⟨g1, g2, g3⟩ := drop_cons hd
    simp only [impl_inWord.i0]
    rw [if_pos (by omega), if_pos (by omega), if_pos (by omega), g2, impl_Word_has_v b p a h1 h2, wrap_nat g1 hn]; simp only [Option.bind_some, List.all_cons]
    cases h : inR a (-pw (b - 1)) (pw (b - 1) - 1)
    · exact ⟨n, by simp, by simp⟩
    · obtain ⟨v, e, hv⟩ := inWord_l b p h1 h2 xs hn r (n + 1) k g3 (by simp at hk; omega)
      exact ⟨v, by simpa using e, by simpa using hv⟩
theorem impl_inWord_e (b : Int) (w : Bool) (h S : List Int) (s m : Int) (hh : h.length ≤ 1048576) (hs : S.length ≤ 1048576) : Ev (fun k => impl_inWord.f k b w h S s m) (wordB b s m h S) := by
  obtain ⟨K1, e1⟩ := impl_isWeights_e h (by omega)
  obtain ⟨K2, e2⟩ := impl_isSignal_e S (by omega)
  refine ⟨K1 + K2 + h.length + S.length + 1, fun k hk => ?_⟩
  show impl_inWord.f k b w h S s m = _
  unfold impl_inWord.f wordB
  simp only [impl_isWord_v, Option.bind_some]
  cases c1 : inR b 2 16
  · simp
  have hB := inR_true.mp c1
  obtain ⟨v1, i1, d1⟩ := inWord_l b w hB.1 hB.2 h (by omega) h 0 k rfl (by omega)
  obtain ⟨v2, i2, d2⟩ := inWord_l b w hB.1 hB.2 S (by omega) S 0 k rfl (by omega)
  have i1' : impl_inWord.i0 k b w h (h.length : Int) 0 = some v1 := i1
  have i2' : impl_inWord.i0 k b w S (S.length : Int) 0 = some v2 := i2
  simp only [if_true, e1 k (by omega), e2 k (by omega), Option.bind_some, impl_isShift_v, i1', i2', d2, Bool.true_and]
  cases weB h
  · simp
  cases sigB S
  · simp
  cases (inR s 0 20 && inR m 0 2)
  · simp
  simp only [if_true, Bool.true_and, Bool.not_not]
  cases c3 : h.all fun x => inR x (-pw (b - 1)) (pw (b - 1) - 1)
  · rw [c3] at d1
    rw [if_pos (of_decide_eq_true (by simpa using d1))]
    simp
  · rw [c3] at d1
    rw [if_neg (of_decide_eq_false (by simpa using d1))]
    simp

theorem impl_mod_v (x p : Int) (h1 : 1 ≤ p) (h2 : p ≤ 4611686018427387904) : impl_mod.f x p = some (x % p) := by
  have ht := tmod_bd x p h1
  unfold impl_mod.f
  rw [if_neg (by omega), wrap_id (by omega) (by omega), tmod2 x p h1]

theorem impl_Word_fit_v (b : Int) (w : Bool) (x : Int) (h1 : 2 ≤ b) (h2 : b ≤ 16) (h3 : -1152921504606846976 ≤ x) (h4 : x ≤ 1152921504606846976) : impl_Word_fit.f b w x = some (fitM b w x) := by
  have hp := pw_pos (b - 1)
  have hp2 : pw (b - 1) ≤ 1048576 := pw20 (by omega)
  unfold impl_Word_fit.f fitM
  simp only [impl_Word_ends_v b w h1 h2, Option.bind_some]
  cases w
  · simp only [Bool.false_eq_true, if_false, mn_min, mx_max]
  · have hr := Int.emod_nonneg (x + pw (b - 1)) (show 2 * pw (b - 1) ≠ 0 by omega)
    have hr2 := Int.emod_lt_of_pos (x + pw (b - 1)) (show 0 < 2 * pw (b - 1) by omega)
    simp only [if_true]
    rw [show x - -pw (b - 1) = x + pw (b - 1) by omega, wrap_id (x := x + pw (b - 1)) (by omega) (by omega), show pw (b - 1) - 1 - -pw (b - 1) = 2 * pw (b - 1) - 1 by omega, wrap_id (x := 2 * pw (b - 1) - 1) (by omega) (by omega), show 2 * pw (b - 1) - 1 + 1 = 2 * pw (b - 1) by omega, wrap_id (x := 2 * pw (b - 1)) (by omega) (by omega), impl_mod_v _ _ (by omega) (by omega)]
    simp only [Option.bind_some]
    rw [show (x + pw (b - 1)) % (2 * pw (b - 1)) + -pw (b - 1) = (x + pw (b - 1)) % (2 * pw (b - 1)) - pw (b - 1) by omega, wrap_id (by omega) (by omega), wrap_mid x _ hp]

theorem impl_shifted_v (x s m : Int) (k : Nat) (h1 : -1152921504606846976 ≤ x) (h2 : x ≤ 1152921504606846976) (h3 : 0 ≤ s) (h4 : s ≤ 20) (h5 : 0 ≤ m) (h6 : m ≤ 2) (hk : 1 ≤ k) : impl_shifted.f k x s m = some (shf x s m) := by
  obtain ⟨k, rfl⟩ : ∃ j, k = j + 1 := ⟨k - 1, by omega⟩
  have hp := pw_pos (s - 1)
  have hp2 := pw20 (s := s - 1) (by omega)
  unfold impl_shifted.f shf
  by_cases m1 : m = 1
  · subst m1
    simp only [impl_shifted.j0, if_true]
    by_cases c : s > 0
    · simp only [c, decide_true, if_true]
      rw [wrap_id (x := s - 1) (by omega) (by omega), if_pos (by omega), if_pos h3, shl_one (by omega), wrap_id (by omega) (by omega), shr_eq (by omega)] <;> simp
    · have : s = 0 := by omega
      subst this
      simp [shr_eq, pw_zero]
  · simp only [if_neg m1, impl_shifted.j0]
    by_cases m2 : m = 2
    · subst m2
      by_cases c : x < 0
      · have hb := floor_bd (-x) (pw s) (pw_pos s) (by omega) (by omega)
        simp only [c, h3, if_true, wrap_id (x := -x) (by omega) (by omega), shr_eq (x := -x) (n := s) (by omega)]
        rw [wrap_id (x := -(-x / pw s)) (by omega) (by omega)] <;> simp
      · simp [c, h3, shr_eq (x := x) (n := s) (by omega)]
    · simp [m2, h3, shr_eq (x := x) (n := s) (by omega)]

theorem impl_told_e (xs : List Int) (hn : xs.length ≤ 1152921504606846976) : Ev (fun k => impl_told.f k xs) (ifSig xs) := by
  obtain ⟨K, e⟩ := impl_isSignal_e xs hn
  refine ⟨K, fun k hk => ?_⟩
  show impl_told.f k xs = some (ifSig xs)
  unfold impl_told.f ifSig
  simp only [e k hk, Option.bind_some]
  split <;> rfl

theorem impl_FilterAtEnd_l (b : Int) (w : Bool) (s m : Int) (hb : 2 ≤ b ∧ b ≤ 16) (hs : 0 ≤ s ∧ s ≤ 20) (hm : 0 ≤ m ∧ m ≤ 2) (v : List Int × Bool) (K : Nat) (z : List Int) (hK : ∀ k, K ≤ k → impl_told.f k z = some v) (L : Nat) (hL : L ≤ 1000) : ∀ (R D : List Int) (k : Nat), (D ++ R).length = L → (∀ x ∈ R, -900000000 ≤ x ∧ x ≤ 900000000) → (D ++ R.map fun x => fitM b w (shf x s m)) = z → R.length + K + 3 < k → impl_FilterAtEnd.l0 k s m (D ++ R) (L : Int) (D.length : Int) b w = some v
  | [], D, k, hl, hR, hz, hk => by
    obtain ⟨k, rfl⟩ := pred hk
    simp only [List.append_nil, List.map_nil] at hl hz ⊢
    subst hz
    simp only [impl_FilterAtEnd.l0]
    rw [if_neg (by omega), hK k (by simp at hk; omega)]
    simp
  | x :: R, D, k, hl, hR, hz, hk => by
    simp only [List.length_cons] at hk
    obtain ⟨k, rfl⟩ := pred hk
    have hl' := hl
    rw [List.length_append, List.length_cons] at hl'
    have hx := hR x (by simp)
    have h2 := shf_bd2 (x := x) (s := s) (m := m) (by omega) (by omega) hs.1 hs.2
    have hr : rd (D ++ x :: R) (D.length : Int) = x := by rw [rd_nat _ _ (by simp)]; simp
    simp only [impl_FilterAtEnd.l0]
    rw [if_pos (by omega), if_pos (by omega), if_pos (by rw [hl]; omega), hr, impl_shifted_v x s m k (by omega) (by omega) hs.1 hs.2 hm.1 hm.2 (by omega)]
    simp only [Option.bind_some]
    rw [impl_Word_fit_v b w _ hb.1 hb.2 (by omega) (by omega)]
    simp only [Option.bind_some]
    rw [Int.toNat_natCast, List.set_append, if_neg (by omega), Nat.sub_self, List.set_cons_zero, wrap_id (x := (D.length : Int) + 1) (by omega) (by omega)]
    have ih := impl_FilterAtEnd_l b w s m hb hs hm v K z hK L hL R (D ++ [fitM b w (shf x s m)]) k (by simp; omega) (fun y hy => hR y (by simp [hy])) (by simpa using hz) (by omega)
    simpa using ih
theorem impl_FilterAtEnd_e (b : Int) (w : Bool) (h S : List Int) (s m : Int) (hh : h.length ≤ 1048576) (hS : S.length ≤ 1048576) : Ev (fun k => impl_FilterAtEnd.f k b w h S s m) (if wordB b s m h S = true then (faeM b w s m h S, true) else ([], false)) := by
  obtain ⟨K1, e1⟩ := impl_inWord_e b w h S s m hh hS
  cases c : wordB b s m h S
  · refine ⟨K1, fun k hk => ?_⟩
    show impl_FilterAtEnd.f k b w h S s m = _
    unfold impl_FilterAtEnd.f
    simp [e1 k (by omega), c]
  · obtain ⟨hb, wh, wS, hs, hm⟩ := wordB_true c
    have sl := (sigB_true wS).1
    have wl := (weB_true wh).1
    obtain ⟨K2, e2⟩ := impl_answer_e h S (by omega) (by omega) (by omega)
    obtain ⟨K3, e3⟩ := impl_told_e (faeM b w s m h S) (by simp [faeM]; omega)
    rw [fae_sig w c] at e3
    have hL := ansM_length h S
    have hL2 : S.length ≤ (ansM h S).length := by rw [hL]; split <;> omega
    have ht : ((ansM h S).take S.length).length = S.length := by rw [List.length_take]; omega
    refine ⟨K1 + K2 + K3 + 3000, fun k hk => ?_⟩
    show impl_FilterAtEnd.f k b w h S s m = _
    unfold impl_FilterAtEnd.f
    simp only [e1 k (by omega), c, Option.bind_some, if_true, e2 k (by omega), Int.toNat_natCast]
    rw [if_pos (by omega), if_pos (by omega), ht]
    refine impl_FilterAtEnd_l b w s m hb hs hm _ K3 (faeM b w s m h S) e3 S.length (by omega) ((ansM h S).take S.length) [] k (by simpa using ht) ?_ ?_ (by omega)
    · intro x hx
      rw [fae_take wh wS] at hx
      simp only [List.mem_map] at hx
      obtain ⟨n, _, rfl⟩ := hx
      have := cv_bd (sigB_true wS).2 h n (weB_true wh).2.1
      omega
    · rw [fae_take wh wS]
      simp [faeM]

-- import AtEnd
theorem FnExactFilterAtEnd : laws_FnExactFilterAtEnd.Pure := by
  intro b w h S s m _ _ hl hw _ hl2 hw2 _ _
  by_cases h00 : (h.length : Int) > 1048576
  · exact ⟨0, by simp [laws_FnExactFilterAtEnd.f, h00]⟩
  by_cases h01 : (S.length : Int) > 1048576
  · exact ⟨0, by simp [laws_FnExactFilterAtEnd.f, h00, h01]⟩
  obtain ⟨K1, e1⟩ := laws_toIntS_e h (by omega)
  obtain ⟨K2, e2⟩ := laws_eqIntS_same h (by omega)
  obtain ⟨K3, e3⟩ := laws_toIntS_e S (by omega)
  obtain ⟨K4, e4⟩ := laws_eqIntS_same S (by omega)
  obtain ⟨v, ⟨K5, e5⟩, ⟨K6, e6⟩, hv⟩ := both (spec_FilterAtEnd_e b w h S s m (by omega) (by omega)) (impl_FilterAtEnd_e b w h S s m (by omega) (by omega)) (fae_len _ w (fun h => h))
  obtain ⟨K7, e7⟩ := laws_eqIntS_same v.1 (by omega)
  obtain ⟨K8, e8⟩ := laws_markIntS_e h (1) (by omega) (by omega) (by omega)
  obtain ⟨K9, e9⟩ := laws_markIntS_e S (1 + h.length) (by omega) (by omega) (by omega)
  obtain ⟨K10, e10⟩ := laws_markIntS_e v.1 1 (by omega) (by omega) (by omega)
  obtain ⟨K11, e11⟩ := laws_heldIntS_e v.1.length 1 (by omega) (by omega) (by omega)
  obtain ⟨K, hK⟩ : ∃ K, K = K1 + K2 + K3 + K4 + K5 + K6 + K7 + K8 + K9 + K10 + K11 := ⟨_, rfl⟩
  refine ⟨K + 3, ?_⟩
  have a1_3 := e1 (K + 3) (by omega)
  have a2_3 := e2 (K + 3) (by omega)
  have a3_3 := e3 (K + 3) (by omega)
  have a4_3 := e4 (K + 3) (by omega)
  have a5_3 := e5 (K + 3) (by omega)
  have a6_3 := e6 (K + 3) (by omega)
  have a7_3 := e7 (K + 3) (by omega)
  have a8_3 := e8 (K + 3) (by omega)
  have a9_3 := e9 (K + 3) (by omega)
  have a10_3 := e10 (K + 3) (by omega)
  have a11_3 := e11 (K + 3) (by omega)
  have a1_2 := e1 (K + 2) (by omega)
  have a2_2 := e2 (K + 2) (by omega)
  have a3_2 := e3 (K + 2) (by omega)
  have a4_2 := e4 (K + 2) (by omega)
  have a5_2 := e5 (K + 2) (by omega)
  have a6_2 := e6 (K + 2) (by omega)
  have a7_2 := e7 (K + 2) (by omega)
  have a8_2 := e8 (K + 2) (by omega)
  have a9_2 := e9 (K + 2) (by omega)
  have a10_2 := e10 (K + 2) (by omega)
  have a11_2 := e11 (K + 2) (by omega)
  have a1_1 := e1 (K + 1) (by omega)
  have a2_1 := e2 (K + 1) (by omega)
  have a3_1 := e3 (K + 1) (by omega)
  have a4_1 := e4 (K + 1) (by omega)
  have a5_1 := e5 (K + 1) (by omega)
  have a6_1 := e6 (K + 1) (by omega)
  have a7_1 := e7 (K + 1) (by omega)
  have a8_1 := e8 (K + 1) (by omega)
  have a9_1 := e9 (K + 1) (by omega)
  have a10_1 := e10 (K + 1) (by omega)
  have a11_1 := e11 (K + 1) (by omega)
  have a1_0 := e1 K (by omega)
  have a2_0 := e2 K (by omega)
  have a3_0 := e3 K (by omega)
  have a4_0 := e4 K (by omega)
  have a5_0 := e5 K (by omega)
  have a6_0 := e6 K (by omega)
  have a7_0 := e7 K (by omega)
  have a8_0 := e8 K (by omega)
  have a9_0 := e9 K (by omega)
  have a10_0 := e10 K (by omega)
  have a11_0 := e11 K (by omega)
  have n0 : (1 + (h.length : Int) < 0) = False := eq_false (by omega)
  have n1 : (1 + (h.length : Int) + (S.length : Int) < 0) = False := eq_false (by omega)
  have n2 : (1 + (v.1.length : Int) < 0) = False := eq_false (by omega)
  simp only [laws_FnExactFilterAtEnd.f, laws_FnExactFilterAtEnd.j0, laws_FnExactFilterAtEnd.j1, laws_FnExactFilterAtEnd.j2, laws_toWord_v, if_neg h00, if_neg h01, a1_3, a2_3, a3_3, a4_3, a5_3, a6_3, a7_3, a8_3, a9_3, a10_3, a11_3, a1_2, a2_2, a3_2, a4_2, a5_2, a6_2, a7_2, a8_2, a9_2, a10_2, a11_2, a1_1, a2_1, a3_1, a4_1, a5_1, a6_1, a7_1, a8_1, a9_1, a10_1, a11_1, a1_0, a2_0, a3_0, a4_0, a5_0, a6_0, a7_0, a8_0, a9_0, a10_0, a11_0, n0, n1, n2, Option.bind_some, bne_self_eq_false, Bool.false_eq_true, if_true, if_false]

end Go.Proofs.Ytepfkahbfnahmaa.Pure
