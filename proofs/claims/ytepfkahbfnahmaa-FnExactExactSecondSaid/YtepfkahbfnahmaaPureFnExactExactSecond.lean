/- The plain statement behind the law FnExactExactSecond: its walk's numbers answer true. Conditions: the given statement's own (each number is an int; each slice within the reach). -/
import Derived.Test.YtepfkahbfnahmaaQFnExactExactSecondx0
import Derived.Test.YtepfkahbfnahmaaQFnExactExactSecondx1
import Derived.Test.YtepfkahbfnahmaaQFnExactExactSecondx2
import Derived.Test.YtepfkahbfnahmaaQFnExactExactSecondx3
import Derived.Test.YtepfkahbfnahmaaQFnExactExactSecondx4
import Derived.Test.YtepfkahbfnahmaaQFnExactExactSecondx5
import Derived.Test.YtepfkahbfnahmaaBase
import Derived.Test.YtepfkahbfnahmaaExact
namespace Go.Proofs.Ytepfkahbfnahmaa.Pure
open Go.RowKit Go.Proofs.Ytepfkahbfnahmaa.QFnExactExactSecond Go.Proofs.YtepfkahbfnahmaaW.PrintWords Go.Proofs.YtepfkahbfnahmaaW.PrintLast Go.Proofs.YtepfkahbfnahmaaW.PrintMore Go.Proofs.Ytepfkahbfnahmaa.Base
set_option linter.unusedVariables false
set_option linter.unusedSimpArgs false

theorem laws_toIntS_l (xs : List Int) (hn : xs.length ≤ 1152921504606846976) : ∀ (r : List Int) (n k : Nat) (ys : List Int), xs.drop n = r → n ≤ xs.length → ys.length = xs.length → ys.take n = xs.take n → r.length < k → laws_toIntS.l0 k xs ys n = some xs
  | [], n, k, ys, hd, hx, hy, ht, hk => by
    obtain ⟨k, rfl⟩ := pred hk
    have := drop_nil hd
    simp only [laws_toIntS.l0]; rw [if_neg (by omega)]
    rw [List.take_of_length_le (by omega), List.take_of_length_le (by omega)] at ht
    rw [ht]
  | a :: r, n, k, ys, hd, hx, hy, ht, hk => by
    obtain ⟨k, rfl⟩ := pred hk
    obtain ⟨h1, h2, h3⟩ := drop_cons hd
    simp only [laws_toIntS.l0]
    rw [if_pos (by omega), if_pos (by omega), if_pos (by omega), wrap_nat h1 hn]
    refine laws_toIntS_l xs hn r (n + 1) k _ h3 (by omega) (by simpa using hy) ?_ (by simp at hk; omega)
    rw [show ((n : Int)).toNat = n by omega, rd_nat xs n h1]
    apply List.ext_getElem?
    intro i
    by_cases hi : i < n
    · have := congrArg (fun z => z[i]?) ht
      simp only [List.getElem?_take, hi, if_true] at this
      simp only [List.getElem?_take, show i < n + 1 by omega, if_true]
      rw [List.getElem?_set_ne (by omega)]
      exact this
    · by_cases he : i = n
      · subst he
        simp [List.getElem?_take, List.getElem?_set, hy, h1]
      · simp [List.getElem?_take, show ¬ i < n + 1 by omega]
theorem laws_toIntS_e (xs : List Int) (hn : xs.length ≤ 1048576) : Ev (fun k => laws_toIntS.f k xs) xs :=
  ⟨xs.length + 1, fun k hk => by
    show laws_toIntS.f k xs = some xs
    unfold laws_toIntS.f
    rw [if_pos (by omega), if_pos (by omega)]
    exact laws_toIntS_l xs (by omega) xs 0 k _ rfl (by omega) (by simp) (by simp) (by omega)⟩

theorem laws_eqIntS_l (xs : List Int) (hn : xs.length ≤ 1152921504606846976) : ∀ (r : List Int) (n k : Nat), xs.drop n = r → r.length < k → laws_eqIntS.l0 k xs xs n = some true
  | [], n, k, hd, hk => by
    obtain ⟨k, rfl⟩ := pred hk
    have := drop_nil hd
    simp only [laws_eqIntS.l0]; rw [if_neg (by omega)]
  | a :: r, n, k, hd, hk => by
    obtain ⟨k, rfl⟩ := pred hk
    obtain ⟨h1, h2, h3⟩ := drop_cons hd
    simp only [laws_eqIntS.l0]
    rw [if_pos (by omega), if_pos (by omega), if_pos (by omega), if_pos trivial, wrap_nat h1 hn]
    exact laws_eqIntS_l xs hn r (n + 1) k h3 (by simp at hk; omega)
theorem laws_eqIntS_same (xs : List Int) (hn : xs.length ≤ 1152921504606846976) : Ev (fun k => laws_eqIntS.f k xs xs) true :=
  ⟨xs.length + 1, fun k hk => by
    show laws_eqIntS.f k xs xs = some true
    unfold laws_eqIntS.f
    rw [if_pos rfl]
    exact laws_eqIntS_l xs hn xs 0 k rfl (by omega)⟩

theorem laws_markIntS_l (s : Int) (len : Nat) (hs : 0 ≤ s) (hs2 : s ≤ 1000000000000) (hn : len ≤ 1000000000000) : ∀ (d n k : Nat) (ys : List Int), n + d = len → ys.length = len → ys.take n = (marks s len).take n → d < k → laws_markIntS.l0 k ys (s + n) n = some (s + len, marks s len)
  | 0, n, k, ys, hd, hy, ht, hk => by
    obtain ⟨k, rfl⟩ := pred hk
    simp only [laws_markIntS.l0]; rw [if_neg (by omega)]
    rw [List.take_of_length_le (by omega), List.take_of_length_le (by rw [marks_length]; omega)] at ht
    rw [ht, show n = len by omega]
  | d + 1, n, k, ys, hd, hy, ht, hk => by
    obtain ⟨k, rfl⟩ := pred hk
    simp only [laws_markIntS.l0]
    rw [if_pos (by omega), if_pos (by omega), wrap_nat (m := len) (by omega) (by omega), wrap_id (x := s + n + 1) (by omega) (by omega), show s + (n : Int) + 1 = s + ((n + 1 : Nat) : Int) by omega, show ((n : Int)).toNat = n by omega]
    exact laws_markIntS_l s len hs hs2 hn d (n + 1) k _ (by omega) (by simpa using hy) (set_take (by rw [marks_length, hy]) (by rw [marks_length]; omega) ht (marks_get s len n (by omega))) (by omega)
theorem laws_markIntS_e (xs : List Int) (s : Int) (hs : 0 ≤ s) (hs2 : s ≤ 1000000000000) (hn : xs.length ≤ 1048576) : Ev (fun k => laws_markIntS.f k xs s) (s + xs.length, marks s xs.length) :=
  ⟨xs.length + 1, fun k hk => by
    have := laws_markIntS_l s xs.length hs hs2 (by omega) xs.length 0 k xs (by omega) rfl (by simp) (by omega)
    simpa [laws_markIntS.f] using this⟩

theorem laws_heldIntS_l (s : Int) (len : Nat) (hs : 0 ≤ s) (hs2 : s ≤ 1000000000000) (hn : len ≤ 1000000000000) : ∀ (d n k : Nat), n + d = len → d < k → laws_heldIntS.l0 k (marks s len) (s + n) n = some (s + len)
  | 0, n, k, hd, hk => by
    obtain ⟨k, rfl⟩ := pred hk
    simp only [laws_heldIntS.l0, marks_length]; rw [if_neg (by omega), show n = len by omega]
  | d + 1, n, k, hd, hk => by
    obtain ⟨k, rfl⟩ := pred hk
    simp only [laws_heldIntS.l0, marks_length]
    have hr : rd (marks s len) n = s + n := by simp [rd, List.getD, marks_get s len n (by omega)]
    rw [if_pos (by omega), if_pos (by omega), if_pos hr, wrap_nat (m := len) (by omega) (by omega), wrap_id (x := s + n + 1) (by omega) (by omega), show s + (n : Int) + 1 = s + ((n + 1 : Nat) : Int) by omega]
    exact laws_heldIntS_l s len hs hs2 hn d (n + 1) k (by omega) (by omega)
theorem laws_heldIntS_e (n : Nat) (s : Int) (hs : 0 ≤ s) (hs2 : s ≤ 1000000000000) (hn : n ≤ 1048576) : Ev (fun k => laws_heldIntS.f k (marks s n) s) (s + n) :=
  ⟨n + 1, fun k hk => by
    have := laws_heldIntS_l s n hs hs2 (by omega) n 0 k (by omega) (by omega)
    simpa [laws_heldIntS.f] using this⟩

theorem spec_l1In_v (a b c : Int) : spec_l1In.f a b c = some (inR a b c) := inR_ge a b c

theorem spec_l1All_l (lo hi : Int) (xs : List Int) (hn : xs.length ≤ 1152921504606846976) : ∀ (r : List Int) (n k : Nat), xs.drop n = r → r.length < k → spec_l1All.l0 k lo hi xs (xs.length : Int) n = some (r.all fun x => inR x lo hi)
  | [], n, k, hd, hk => by
    obtain ⟨k, rfl⟩ := pred hk
    have := drop_nil hd
    simp only [spec_l1All.l0]; rw [if_neg (by omega)]; rfl
  | a :: r, n, k, hd, hk => by
    obtain ⟨k, rfl⟩ := pred hk
    obtain ⟨h1, h2, h3⟩ := drop_cons hd
    simp only [spec_l1All.l0]
    rw [if_pos (by omega), if_pos (by omega), if_pos (by omega), h2, spec_l1In_v, wrap_nat h1 hn]; simp only [Option.bind_some, List.all_cons]
    cases h : inR a lo hi
    · simp
    · simp only [if_true, Bool.true_and]
      exact spec_l1All_l lo hi xs hn r (n + 1) k h3 (by simp at hk; omega)
theorem spec_l1All_e (lo hi : Int) (xs : List Int) (hn : xs.length ≤ 1152921504606846976) : Ev (fun k => spec_l1All.f k xs lo hi) (xs.all fun x => inR x lo hi) :=
  ⟨xs.length + 1, fun k hk => spec_l1All_l lo hi xs hn xs 0 k rfl (by omega)⟩

theorem spec_wdSignal_e (xs : List Int) (hn : xs.length ≤ 1152921504606846976) : Ev (fun k => spec_wdSignal.f k xs) (sigB xs) := by
  obtain ⟨K, e⟩ := spec_l1All_e (-100000) 100000 xs hn
  refine ⟨K, fun k hk => ?_⟩
  show spec_wdSignal.f k xs = some (sigB xs)
  unfold spec_wdSignal.f sigB
  simp only [e k hk, Option.bind_some]
  by_cases h : xs.length ≤ 64
  · rw [if_pos (by omega)]; simp [h]
  · rw [if_neg (by omega)]; simp [h]

theorem spec_wdLow_v (b : Int) (w : Bool) (h1 : 2 ≤ b) (h2 : b ≤ 16) : spec_wdLow.f b w = some (-pw (b - 1)) := by
  have := pw_pos (b - 1)
  have := pw_le (n := b - 1) (by omega)
  unfold spec_wdLow.f
  rw [wrap_id (x := b - 1) (by omega) (by omega), if_pos (by omega), shl_one (by omega), wrap_id (by omega) (by omega)]

theorem spec_wdHigh_v (b : Int) (w : Bool) (h1 : 2 ≤ b) (h2 : b ≤ 16) : spec_wdHigh.f b w = some (pw (b - 1) - 1) := by
  have := pw_pos (b - 1)
  have := pw_le (n := b - 1) (by omega)
  unfold spec_wdHigh.f
  rw [wrap_id (x := b - 1) (by omega) (by omega), if_pos (by omega), shl_one (by omega), wrap_id (by omega) (by omega)]

theorem spec_wdGood_v (a : Int) (b : Bool) : spec_wdGood.f a b = some (inR a 2 16) := by simp [spec_wdGood.f, spec_l1In_v]

theorem spec_wdIn_v (b : Int) (w : Bool) (x : Int) : spec_wdIn.f b w x = some (inR b 2 16 && inR x (-pw (b - 1)) (pw (b - 1) - 1)) := by
  unfold spec_wdIn.f
  simp only [spec_wdGood_v, Option.bind_some]
  cases h : inR b 2 16
  · simp
  · obtain ⟨h1, h2⟩ := inR_true.mp h
    simp [spec_wdLow_v b w h1 h2, spec_wdHigh_v b w h1 h2, spec_l1In_v]

theorem spec_wdMode_v (s m : Int) : spec_wdMode.f s m = some (inR s 0 20 && inR m 0 2) := by
  simp only [spec_wdMode.f, spec_l1In_v, Option.bind_some, bind_and]

theorem spec_sdGood_v (a c s m b : Int) (w : Bool) : spec_sdGood.f a c s m b w = some (sdB a c s m b) := by
  simp only [spec_sdGood.f, spec_l1In_v, spec_wdMode_v, spec_wdGood_v, Option.bind_some, bind_and]
  rw [sdB_spec]

theorem spec_sdAsked_v (a c s m b : Int) (w : Bool) (y z x : Int) : spec_sdAsked.f a c s m b w y z x = some (sdB a c s m b && (inR y (-pw (b - 1)) (pw (b - 1) - 1) && (inR z (-pw (b - 1)) (pw (b - 1) - 1) && inR x (-100000) 100000))) := by
  unfold spec_sdAsked.f
  simp only [spec_sdGood_v, spec_wdIn_v, spec_l1In_v, Option.bind_some, bind_and]
  cases h : sdB a c s m b
  · simp
  · have := (sdB_true.mp h).2.2.2.2
    simp [inR_true.mpr this]

theorem spec_wdNumber_v (a : Int) : spec_wdNumber.f a = some (inR a (-1000000000000) 1000000000000) := by
  simp only [spec_wdNumber.f, spec_l1In_v, Option.bind_some]

def nxSec (a c s : Int) (n : Nat) (y l : Int) : Int := if n = 0 then wrap64 (wrap64 (a * y) + wrap64 (c * l)) else wrap64 (wrap64 (a * y) + wrap64 (shl .i64 c s * l))
theorem spec_ExactSecond_l (a c s m b : Int) (w : Bool) (S : List Int) (hS : S.length ≤ 64) (hc : -1024 ≤ c ∧ c ≤ 1024) (hs : 0 ≤ s ∧ s ≤ 10) : ∀ (r : List Int) (n k : Nat) (y l : Int) (out : List Int) (sc : Int), S.drop n = r → out.length = n → n ≤ S.length → (-1000000000000 ≤ y ∧ y ≤ 1000000000000) → (-1000000000000 ≤ l ∧ l ≤ 1000000000000) → r.length < k → spec_ExactSecond.l0 k y l out sc S (S.length : Int) n a c s m b w = some (exM (nxSec a c s) s r n y l out sc)
  | [], n, k, y, l, out, sc, hd, ho, hn, hy, hl, hk => by
    obtain ⟨k, rfl⟩ := pred hk
    have := drop_nil hd
    simp only [spec_ExactSecond.l0, exM]
    rw [if_neg (by omega)]
  | x :: r, n, k, y, l, out, sc, hd, ho, hn, hy, hl, hk => by
    obtain ⟨k, rfl⟩ := pred hk
    obtain ⟨g1, g2, g3⟩ := drop_cons hd
    simp only [List.length_cons] at hk
    simp only [spec_ExactSecond.l0, exM]
    rw [if_pos (by omega), if_pos (by omega), if_pos (by omega), if_pos hs.1, g2]
    by_cases c1 : shl .i64 sc s > 1000000000000
    · rw [if_pos c1, if_pos c1]
    · rw [if_neg c1, if_neg c1]
      by_cases c0 : n = 0
      · have e : nxSec a c s n y l = wrap64 (wrap64 (a * y) + wrap64 (c * l)) := by unfold nxSec; rw [if_pos c0]
        rw [if_pos (by omega), ← e, spec_wdNumber_v]
        simp only [Option.bind_some]
        cases c2 : inR (wrap64 (nxSec a c s n y l + wrap64 (x * shl .i64 sc s))) (-1000000000000) 1000000000000
        · simp
        · have hv := inR_true.mp c2
          simp only [if_true]
          rw [if_pos (by omega), wrap_nat g1 (by omega)]
          exact spec_ExactSecond_l a c s m b w S hS hc hs r (n + 1) k _ y _ _ g3 (by simp; omega) (by omega) hv hy (by omega)
      · have e : nxSec a c s n y l = wrap64 (wrap64 (a * y) + shl .i64 (wrap64 (c * l)) s) := by unfold nxSec; rw [if_neg c0, prod_shift hc hl hs.1 hs.2]
        rw [if_neg (by omega), ← e, spec_wdNumber_v]
        simp only [Option.bind_some]
        cases c2 : inR (wrap64 (nxSec a c s n y l + wrap64 (x * shl .i64 sc s))) (-1000000000000) 1000000000000
        · simp
        · have hv := inR_true.mp c2
          simp only [if_true]
          rw [if_pos (by omega), wrap_nat g1 (by omega)]
          exact spec_ExactSecond_l a c s m b w S hS hc hs r (n + 1) k _ y _ _ g3 (by simp; omega) (by omega) hv hy (by omega)
theorem spec_ExactSecond_e (a c s m b : Int) (w : Bool) (y z : Int) (S : List Int) (hS : S.length ≤ 1048576) : Ev (fun k => spec_ExactSecond.f k a c s m b w y z S) (if ((sdB a c s m b && (inR y (-pw (b - 1)) (pw (b - 1) - 1) && inR z (-pw (b - 1)) (pw (b - 1) - 1))) && sigB S) = true then exM (nxSec a c s) s S 0 y z [] 1 else ([], false)) := by
  obtain ⟨K1, e1⟩ := spec_wdSignal_e S (by omega)
  refine ⟨K1 + S.length + 2, fun k hk => ?_⟩
  obtain ⟨k, rfl⟩ := pred (show K1 + S.length + 1 < k by omega)
  show spec_ExactSecond.f (k + 1) a c s m b w y z S = _
  unfold spec_ExactSecond.f
  have h0 : inR 0 (-100000) 100000 = true := by decide
  simp only [spec_sdAsked_v, h0, Bool.and_true, Option.bind_some, e1 (k + 1) (by omega)]
  cases c1 : (sdB a c s m b && (inR y (-pw (b - 1)) (pw (b - 1) - 1) && inR z (-pw (b - 1)) (pw (b - 1) - 1)))
  · simp [spec_ExactSecond.j0]
  cases c2 : sigB S
  · simp [spec_ExactSecond.j0]
  simp only [Bool.and_eq_true] at c1
  obtain ⟨ha, hc, hs, hm, hb⟩ := sdB_true.mp c1.1
  have := spec_ExactSecond_l a c s m b w S (sigB_true c2).1 hc hs S 0 k y z [] 1 rfl rfl (by omega) (word_bd hb.2 c1.2.1) (word_bd hb.2 c1.2.2) (by omega)
  simp only [if_true, Bool.and_self, Bool.not_true, spec_ExactSecond.j0, Bool.false_eq_true, if_false]
  exact this

theorem laws_toWord_v (a : Int) (b : Bool) : laws_toWord.f a b = some (a, b) := rfl

theorem laws_toSecond_v (a c s m b : Int) (w : Bool) : laws_toSecond.f a c s m b w = some (a, c, s, m, b, w) := rfl

theorem impl_in_v (a b c : Int) : impl_in.f a b c = some (inR a b c) := inR_le a b c

theorem impl_isSignal_1_v (x : Int) : impl_isSignal_1.f x = some (!inR x (-100000) 100000) := by simp only [impl_isSignal_1.f, impl_in_v, Option.bind_some]
theorem index_isSignal_l (xs : List Int) (hn : xs.length ≤ 1152921504606846976) : ∀ (r : List Int) (n k : Nat), xs.drop n = r → r.length < k → ∃ v : Int, slices_IndexFunc_int_int_impl_isSignal_1.l0 k xs (xs.length : Int) n = some v ∧ decide (v ≥ 0) = !(r.all fun x => inR x (-100000) 100000)
  | [], n, k, hd, hk => by
    obtain ⟨k, rfl⟩ := pred hk
    have := drop_nil hd
    refine ⟨-1, ?_, by simp⟩
    simp only [slices_IndexFunc_int_int_impl_isSignal_1.l0]; rw [if_neg (by omega)]
  | a :: r, n, k, hd, hk => by
    obtain ⟨k, rfl⟩ := pred hk
    obtain ⟨h1, h2, h3⟩ := drop_cons hd
    simp only [slices_IndexFunc_int_int_impl_isSignal_1.l0]
    rw [if_pos (by omega), if_pos (by omega), if_pos (by omega), h2, impl_isSignal_1_v, wrap_nat h1 hn]; simp only [Option.bind_some, List.all_cons]
    cases h : inR a (-100000) 100000
    · exact ⟨n, by simp, by simp⟩
    · obtain ⟨v, e, hv⟩ := index_isSignal_l xs hn r (n + 1) k h3 (by simp at hk; omega)
      exact ⟨v, by simpa using e, by simpa using hv⟩
theorem contains_isSignal_e (xs : List Int) (hn : xs.length ≤ 1152921504606846976) : Ev (fun k => slices_ContainsFunc_int_int_impl_isSignal_1.f k xs) (!(xs.all fun x => inR x (-100000) 100000)) :=
  ⟨xs.length + 1, fun k hk => by
    show slices_ContainsFunc_int_int_impl_isSignal_1.f k xs = some _
    obtain ⟨v, e, hv⟩ := index_isSignal_l xs hn xs 0 k rfl (by omega)
    have e' : slices_IndexFunc_int_int_impl_isSignal_1.f k xs = some v := e
    unfold slices_ContainsFunc_int_int_impl_isSignal_1.f
    rw [e']; simp only [Option.bind_some, hv]⟩

theorem impl_isSignal_e (xs : List Int) (hn : xs.length ≤ 1152921504606846976) : Ev (fun k => impl_isSignal.f k xs) (sigB xs) := by
  obtain ⟨K, e⟩ := contains_isSignal_e xs hn
  refine ⟨K, fun k hk => ?_⟩
  show impl_isSignal.f k xs = some (sigB xs)
  unfold impl_isSignal.f sigB
  simp only [e k hk, Option.bind_some, Bool.not_not]
  by_cases h : xs.length ≤ 64
  · rw [if_pos (by omega)]; simp [h]
  · rw [if_neg (by omega)]; simp [h]
theorem impl_isSignal_k (xs : List Int) (k : Nat) (hn : xs.length ≤ 64) (hk : 66 ≤ k) : impl_isSignal.f k xs = some (sigB xs) := by
  obtain ⟨v, e, hv⟩ := index_isSignal_l xs (by omega) xs 0 k rfl (by omega)
  have e' : slices_IndexFunc_int_int_impl_isSignal_1.f k xs = some v := e
  unfold impl_isSignal.f slices_ContainsFunc_int_int_impl_isSignal_1.f sigB
  rw [e']; simp only [Option.bind_some, hv, Bool.not_not]
  rw [if_pos (by omega)]; simp [hn]

theorem impl_isNumber_v (a : Int) : impl_isNumber.f a = some (inR a (-1000000000000) 1000000000000) := by
  simp only [impl_isNumber.f, impl_in_v, Option.bind_some]

theorem impl_Word_ends_v (b : Int) (w : Bool) (h1 : 2 ≤ b) (h2 : b ≤ 16) : impl_Word_ends.f b w = some (-pw (b - 1), pw (b - 1) - 1) := by
  have := pw_pos (b - 1)
  have := pw_le (n := b - 1) (by omega)
  unfold impl_Word_ends.f
  rw [wrap_id (x := b - 1) (by omega) (by omega), if_pos (by omega), shl_one (by omega), wrap_id (x := -pw (b - 1)) (by omega) (by omega), wrap_id (x := pw (b - 1) - 1) (by omega) (by omega)]

theorem impl_Word_has_v (b : Int) (w : Bool) (x : Int) (h1 : 2 ≤ b) (h2 : b ≤ 16) : impl_Word_has.f b w x = some (inR x (-pw (b - 1)) (pw (b - 1) - 1)) := by
  unfold impl_Word_has.f
  simp only [impl_Word_ends_v b w h1 h2, impl_in_v, Option.bind_some]

theorem impl_isWord_v (a : Int) (b : Bool) : impl_isWord.f a b = some (inR a 2 16) := by simp [impl_isWord.f, impl_in_v]

theorem impl_isFactor_v (a : Int) : impl_isFactor.f a = some (inR a (-1024) 1024) := by
  simp only [impl_isFactor.f, impl_in_v, Option.bind_some]

theorem impl_isScale_v (s m : Int) : impl_isScale.f s m = some (inR s 0 10 && inR m 0 2) := by
  simp only [impl_isScale.f, impl_in_v, Option.bind_some, bind_and]

theorem impl_isSecond_v (a c s m b : Int) (w : Bool) : impl_isSecond.f a c s m b w = some (sdB a c s m b) := by
  simp only [impl_isSecond.f, impl_isFactor_v, impl_isScale_v, impl_isWord_v, Option.bind_some, bind_and]
  rw [sdB_impl]

theorem impl_Second_isAt_v (a c s m b : Int) (w : Bool) (y z : Int) : impl_Second_isAt.f a c s m b w y z = some (sdB a c s m b && (inR y (-pw (b - 1)) (pw (b - 1) - 1) && inR z (-pw (b - 1)) (pw (b - 1) - 1))) := by
  unfold impl_Second_isAt.f
  simp only [impl_isSecond_v, Option.bind_some]
  cases h : sdB a c s m b
  · simp
  · have := (sdB_true.mp h).2.2.2.2
    simp only [impl_Word_has_v b w _ this.1 this.2, Option.bind_some, bind_and, if_true, Bool.true_and]

theorem impl_ExactSecond_l (a c s m b : Int) (w : Bool) (S : List Int) (hS : S.length ≤ 64) (hs : 0 ≤ s ∧ s ≤ 10) : ∀ (r : List Int) (n k : Nat) (y l : Int) (out : List Int) (sc : Int), S.drop n = r → out.length = n → n ≤ S.length → 1 ≤ sc → sc ≤ 1000000000000 → r.length < k → impl_ExactSecond.l0 k a c s m b w S out sc y l n = some (exM (nxSec a c s) s r n y l out sc)
  | [], n, k, y, l, out, sc, hd, ho, hn, q1, q2, hk => by
    obtain ⟨k, rfl⟩ := pred hk
    have := drop_nil hd
    simp only [impl_ExactSecond.l0, exM]
    rw [if_neg (by omega)]
  | x :: r, n, k, y, l, out, sc, hd, ho, hn, q1, q2, hk => by
    obtain ⟨k, rfl⟩ := pred hk
    obtain ⟨g1, g2, g3⟩ := drop_cons hd
    simp only [List.length_cons] at hk
    have hb := scale_bd q1 q2 hs.1 hs.2
    have e : impl_ExactSecond.next a c s m b w (n : Int) y l = nxSec a c s n y l := by
      unfold impl_ExactSecond.next nxSec
      by_cases c0 : n = 0
      · rw [if_pos (by omega), if_pos c0]
      · rw [if_neg (by omega), if_neg c0]
    simp only [impl_ExactSecond.l0, exM, e]
    rw [if_pos (by omega), if_pos (by omega), if_pos hs.1, g2]
    simp only [impl_isNumber_v, scale_in hb.1, Option.bind_some]
    by_cases c1 : shl .i64 sc s > 1000000000000
    · rw [if_pos c1, decide_eq_true c1]
      simp
    · rw [if_neg c1, decide_eq_false c1]
      simp only [Bool.not_false, if_true]
      cases c2 : inR (wrap64 (nxSec a c s n y l + wrap64 (x * shl .i64 sc s))) (-1000000000000) 1000000000000
      · simp
      · simp only [if_true]
        rw [if_pos (by omega), wrap_nat g1 (by omega)]
        exact impl_ExactSecond_l a c s m b w S hS hs r (n + 1) k _ y _ _ g3 (by simp; omega) (by omega) hb.1 (by omega) (by omega)
theorem impl_ExactSecond_e (a c s m b : Int) (w : Bool) (y z : Int) (S : List Int) (hS : S.length ≤ 1048576) : Ev (fun k => impl_ExactSecond.f k a c s m b w y z S) (if ((sdB a c s m b && (inR y (-pw (b - 1)) (pw (b - 1) - 1) && inR z (-pw (b - 1)) (pw (b - 1) - 1))) && sigB S) = true then exM (nxSec a c s) s S 0 y z [] 1 else ([], false)) := by
  obtain ⟨K1, e1⟩ := impl_isSignal_e S (by omega)
  refine ⟨K1 + S.length + 1, fun k hk => ?_⟩
  show impl_ExactSecond.f k a c s m b w y z S = _
  unfold impl_ExactSecond.f
  simp only [impl_Second_isAt_v, Option.bind_some, e1 k (by omega)]
  cases c1 : (sdB a c s m b && (inR y (-pw (b - 1)) (pw (b - 1) - 1) && inR z (-pw (b - 1)) (pw (b - 1) - 1)))
  · simp
  cases c2 : sigB S
  · simp
  simp only [Bool.and_eq_true] at c1
  obtain ⟨ha, hc, hs, hm, hb⟩ := sdB_true.mp c1.1
  have := impl_ExactSecond_l a c s m b w S (sigB_true c2).1 hs S 0 k y z [] 1 rfl rfl (by omega) (by omega) (by omega) (by omega)
  simp only [if_true, Bool.and_self]
  exact this

-- import Exact
theorem FnExactExactSecond : laws_FnExactExactSecond.Pure := by
  intro a c s m b w y z S _ _ _ _ _ _ _ _ hl hw
  by_cases h00 : (S.length : Int) > 1048576
  · exact ⟨0, by simp [laws_FnExactExactSecond.f, h00]⟩
  obtain ⟨K1, e1⟩ := laws_toIntS_e S (by omega)
  obtain ⟨K2, e2⟩ := laws_eqIntS_same S (by omega)
  obtain ⟨v, ⟨K3, e3⟩, ⟨K4, e4⟩, hv⟩ := both (spec_ExactSecond_e a c s m b w y z S (by omega)) (impl_ExactSecond_e a c s m b w y z S (by omega)) (ex_if_len _ _ _ _ _ _ (fun h => by simp only [Bool.and_eq_true] at h; exact (sigB_true h.2).1))
  obtain ⟨K5, e5⟩ := laws_eqIntS_same v.1 (by omega)
  obtain ⟨K6, e6⟩ := laws_markIntS_e S (1) (by omega) (by omega) (by omega)
  obtain ⟨K7, e7⟩ := laws_markIntS_e v.1 1 (by omega) (by omega) (by omega)
  obtain ⟨K8, e8⟩ := laws_heldIntS_e v.1.length 1 (by omega) (by omega) (by omega)
  obtain ⟨K, hK⟩ : ∃ K, K = K1 + K2 + K3 + K4 + K5 + K6 + K7 + K8 := ⟨_, rfl⟩
  refine ⟨K + 3, ?_⟩
  have a1_3 := e1 (K + 3) (by omega)
  have a2_3 := e2 (K + 3) (by omega)
  have a3_3 := e3 (K + 3) (by omega)
  have a4_3 := e4 (K + 3) (by omega)
  have a5_3 := e5 (K + 3) (by omega)
  have a6_3 := e6 (K + 3) (by omega)
  have a7_3 := e7 (K + 3) (by omega)
  have a8_3 := e8 (K + 3) (by omega)
  have a1_2 := e1 (K + 2) (by omega)
  have a2_2 := e2 (K + 2) (by omega)
  have a3_2 := e3 (K + 2) (by omega)
  have a4_2 := e4 (K + 2) (by omega)
  have a5_2 := e5 (K + 2) (by omega)
  have a6_2 := e6 (K + 2) (by omega)
  have a7_2 := e7 (K + 2) (by omega)
  have a8_2 := e8 (K + 2) (by omega)
  have a1_1 := e1 (K + 1) (by omega)
  have a2_1 := e2 (K + 1) (by omega)
  have a3_1 := e3 (K + 1) (by omega)
  have a4_1 := e4 (K + 1) (by omega)
  have a5_1 := e5 (K + 1) (by omega)
  have a6_1 := e6 (K + 1) (by omega)
  have a7_1 := e7 (K + 1) (by omega)
  have a8_1 := e8 (K + 1) (by omega)
  have a1_0 := e1 K (by omega)
  have a2_0 := e2 K (by omega)
  have a3_0 := e3 K (by omega)
  have a4_0 := e4 K (by omega)
  have a5_0 := e5 K (by omega)
  have a6_0 := e6 K (by omega)
  have a7_0 := e7 K (by omega)
  have a8_0 := e8 K (by omega)
  have n0 : (1 + (S.length : Int) < 0) = False := eq_false (by omega)
  have n1 : (1 + (v.1.length : Int) < 0) = False := eq_false (by omega)
  simp only [laws_FnExactExactSecond.f, laws_FnExactExactSecond.j0, laws_FnExactExactSecond.j1, laws_FnExactExactSecond.j2, laws_toSecond_v, if_neg h00, a1_3, a2_3, a3_3, a4_3, a5_3, a6_3, a7_3, a8_3, a1_2, a2_2, a3_2, a4_2, a5_2, a6_2, a7_2, a8_2, a1_1, a2_1, a3_1, a4_1, a5_1, a6_1, a7_1, a8_1, a1_0, a2_0, a3_0, a4_0, a5_0, a6_0, a7_0, a8_0, n0, n1, Option.bind_some, bne_self_eq_false, Bool.false_eq_true, if_true, if_false]

end Go.Proofs.Ytepfkahbfnahmaa.Pure
