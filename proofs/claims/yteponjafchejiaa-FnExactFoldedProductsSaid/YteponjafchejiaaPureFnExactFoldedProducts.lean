/- The plain statement behind the law FnExactFoldedProducts: its walk's numbers answer true. Conditions: the given statement's own (each number is an int; each slice within the reach). -/
import Derived.Test.YteponjafchejiaaQFnExactFoldedProductsx0
import Derived.Test.YteponjafchejiaaQFnExactFoldedProductsx1
import Derived.Test.YteponjafchejiaaQFnExactFoldedProductsx2
import Derived.Test.YteponjafchejiaaBase
namespace Go.Proofs.Yteponjafchejiaa.Pure
open Go.RowKit Go.Proofs.Yteponjafchejiaa.QFnExactFoldedProducts Go.Proofs.YteponjafchejiaaW.PrintWords Go.Proofs.YteponjafchejiaaW.PrintLast Go.Proofs.YteponjafchejiaaW.PrintMore Go.Proofs.Yteponjafchejiaa.Base
set_option linter.unusedVariables false
set_option linter.unusedSimpArgs false

theorem laws_toIntS_l (xs : List Int) (hn : xs.length ≤ 1152921504606846976) : ∀ (r : List Int) (n k : Nat) (ys : List Int), xs.drop n = r → n ≤ xs.length → ys.length = xs.length → ys.take n = xs.take n → r.length < k → laws_toIntS.l0 k xs ys n = some xs
  | [], n, k, ys, hd, hx, hy, ht, hk => by
    obtain ⟨k, rfl⟩ := pred hk
    have := drop_nil hd
    simp only [laws_toIntS.l0]; rw [if_neg (by omega)]
    rw [List.take_of_length_le (by omega), List.take_of_length_le (by omega)] at ht
    rw [ht]
  | a :: r, n, k, ys, hd, hx, hy, ht, hk => by
    obtain ⟨k, rfl⟩ := pred hk
    obtain ⟨h1, h2, h3⟩ := drop_cons hd
    simp only [laws_toIntS.l0]
    rw [if_pos (by omega), if_pos (by omega), if_pos (by omega), wrap_nat h1 hn]
    refine laws_toIntS_l xs hn r (n + 1) k _ h3 (by omega) (by simpa using hy) ?_ (by simp at hk; omega)
    rw [show ((n : Int)).toNat = n by omega, rd_nat xs n h1]
    apply List.ext_getElem?
    intro i
    by_cases hi : i < n
    · have := congrArg (fun z => z[i]?) ht
      simp only [List.getElem?_take, hi, if_true] at this
      simp only [List.getElem?_take, show i < n + 1 by omega, if_true]
      rw [List.getElem?_set_ne (by omega)]
      exact this
    · by_cases he : i = n
      · subst he
        simp [List.getElem?_take, List.getElem?_set, hy, h1]
      · simp [List.getElem?_take, show ¬ i < n + 1 by omega]
theorem laws_toIntS_e (xs : List Int) (hn : xs.length ≤ 1048576) : Ev (fun k => laws_toIntS.f k xs) xs :=
  ⟨xs.length + 1, fun k hk => by
    show laws_toIntS.f k xs = some xs
    unfold laws_toIntS.f
    rw [if_pos (by omega), if_pos (by omega)]
    exact laws_toIntS_l xs (by omega) xs 0 k _ rfl (by omega) (by simp) (by simp) (by omega)⟩

theorem laws_eqIntS_l (xs : List Int) (hn : xs.length ≤ 1152921504606846976) : ∀ (r : List Int) (n k : Nat), xs.drop n = r → r.length < k → laws_eqIntS.l0 k xs xs n = some true
  | [], n, k, hd, hk => by
    obtain ⟨k, rfl⟩ := pred hk
    have := drop_nil hd
    simp only [laws_eqIntS.l0]; rw [if_neg (by omega)]
  | a :: r, n, k, hd, hk => by
    obtain ⟨k, rfl⟩ := pred hk
    obtain ⟨h1, h2, h3⟩ := drop_cons hd
    simp only [laws_eqIntS.l0]
    rw [if_pos (by omega), if_pos (by omega), if_pos (by omega), if_pos trivial, wrap_nat h1 hn]
    exact laws_eqIntS_l xs hn r (n + 1) k h3 (by simp at hk; omega)
theorem laws_eqIntS_same (xs : List Int) (hn : xs.length ≤ 1152921504606846976) : Ev (fun k => laws_eqIntS.f k xs xs) true :=
  ⟨xs.length + 1, fun k hk => by
    show laws_eqIntS.f k xs xs = some true
    unfold laws_eqIntS.f
    rw [if_pos rfl]
    exact laws_eqIntS_l xs hn xs 0 k rfl (by omega)⟩

theorem spec_l1In_v (a b c : Int) : spec_l1In.f a b c = some (inR a b c) := inR_ge a b c

theorem spec_l1All_l (lo hi : Int) (xs : List Int) (hn : xs.length ≤ 1152921504606846976) : ∀ (r : List Int) (n k : Nat), xs.drop n = r → r.length < k → spec_l1All.l0 k lo hi xs (xs.length : Int) n = some (r.all fun x => inR x lo hi)
  | [], n, k, hd, hk => by
    obtain ⟨k, rfl⟩ := pred hk
    have := drop_nil hd
    simp only [spec_l1All.l0]; rw [if_neg (by omega)]; rfl
  | a :: r, n, k, hd, hk => by
    obtain ⟨k, rfl⟩ := pred hk
    obtain ⟨h1, h2, h3⟩ := drop_cons hd
    simp only [spec_l1All.l0]
    rw [if_pos (by omega), if_pos (by omega), if_pos (by omega), h2, spec_l1In_v, wrap_nat h1 hn]; simp only [Option.bind_some, List.all_cons]
    cases h : inR a lo hi
    · simp
    · simp only [if_true, Bool.true_and]
      exact spec_l1All_l lo hi xs hn r (n + 1) k h3 (by simp at hk; omega)
theorem spec_l1All_e (lo hi : Int) (xs : List Int) (hn : xs.length ≤ 1152921504606846976) : Ev (fun k => spec_l1All.f k xs lo hi) (xs.all fun x => inR x lo hi) :=
  ⟨xs.length + 1, fun k hk => spec_l1All_l lo hi xs hn xs 0 k rfl (by omega)⟩

theorem spec_weGood_e (xs : List Int) (hn : xs.length ≤ 1152921504606846976) : Ev (fun k => spec_weGood.f k xs) (weB xs) := by
  obtain ⟨K, e⟩ := spec_l1All_e (-1000) 1000 xs hn
  refine ⟨K, fun k hk => ?_⟩
  show spec_weGood.f k xs = some (weB xs)
  unfold spec_weGood.f weB
  simp only [e k hk, spec_l1In_v, Option.bind_some, bind_and]

theorem spec_l1Has_l (L : List Int) (t : Int) (hn : L.length ≤ 1152921504606846976) : ∀ (r : List Int) (n k : Nat), L.drop n = r → r.length < k → spec_l1Has.l0 k t L (L.length : Int) n = some (r.any fun y => decide (y = t))
  | [], n, k, hd, hk => by
    obtain ⟨k, rfl⟩ := pred hk
    have := drop_nil hd
    simp only [spec_l1Has.l0]; rw [if_neg (by omega)]; rfl
  | a :: r, n, k, hd, hk => by
    obtain ⟨k, rfl⟩ := pred hk
    obtain ⟨h1, h2, h3⟩ := drop_cons hd
    simp only [spec_l1Has.l0]
    rw [if_pos (by omega), if_pos (by omega), if_pos (by omega), h2]
    by_cases c : a = t
    · rw [if_pos c]; simp [c]
    · rw [if_neg c, wrap_nat h1 hn, spec_l1Has_l L t hn r (n + 1) k h3 (by simp at hk; omega)]; simp [c]
theorem spec_l1Has_e (L : List Int) (t : Int) (hn : L.length ≤ 1048576) : Ev (fun k => spec_l1Has.f k L t) (L.any fun y => decide (y = t)) :=
  ⟨L.length + 1, fun k hk => spec_l1Has_l L t (by omega) L 0 k rfl (by omega)⟩

theorem spec_l1Most_v (a b : Int) : spec_l1Most.f a b = some (max a b) := by
  unfold spec_l1Most.f
  split <;> (congr 1; omega)

theorem spec_l1Abs_v (a : Int) (h : -9223372036854775807 ≤ a) (h2 : a ≤ 9223372036854775807) : spec_l1Abs.f a = some (absM a) := by
  simp only [spec_l1Abs.f, spec_l1Most_v, Option.bind_some]
  rw [wrap_id (by omega) (by omega)]; rfl

def addI (L : List Int) (x : Int) : List Int := if (L.any fun y => decide (y = x)) = true then L else L ++ [x]
def foldedM : List Int → List Int → List Int
  | L, [] => L
  | L, x :: r => if x = 0 then foldedM L r else foldedM (addI L (absM x)) r
theorem spec_FoldedProducts_l (S : List Int) (hS : S.length ≤ 9) (hb : ∀ x ∈ S, -1000 ≤ x ∧ x ≤ 1000) : ∀ (r : List Int) (n : Nat) (L : List Int), S.drop n = r → n ≤ S.length → L.length ≤ n → Ev (fun k => spec_FoldedProducts.l0 k L S (S.length : Int) n) (((foldedM L r).length : Int), true)
  | [], n, L, hd, hn, hL => by
    refine ⟨1, fun k hk => ?_⟩
    obtain ⟨k, rfl⟩ := pred (show 0 < k by omega)
    have := drop_nil hd
    show spec_FoldedProducts.l0 (k + 1) L S (S.length : Int) n = _
    simp only [spec_FoldedProducts.l0, foldedM]
    rw [if_neg (by omega)]
  | x :: r, n, L, hd, hn, hL => by
    obtain ⟨g1, g2, g3⟩ := drop_cons hd
    have hx : -1000 ≤ x ∧ x ≤ 1000 := by
      apply hb
      rw [← g2, rd_nat S n g1]
      exact List.getElem_mem g1
    by_cases c : x = 0
    · obtain ⟨K, e⟩ := spec_FoldedProducts_l S hS hb r (n + 1) L g3 (by omega) (by omega)
      refine ⟨K + 1, fun k hk => ?_⟩
      obtain ⟨k, rfl⟩ := pred (show K < k by omega)
      show spec_FoldedProducts.l0 (k + 1) L S (S.length : Int) n = _
      have := e k (by omega)
      simp only [spec_FoldedProducts.l0, foldedM]
      rw [if_pos (by omega), if_pos (by omega), if_pos (by omega), g2, if_pos c, if_pos c, wrap_nat g1 (by omega)]
      exact this
    · obtain ⟨K1, e1⟩ := spec_l1Has_e L (absM x) (by omega)
      obtain ⟨K, e⟩ := spec_FoldedProducts_l S hS hb r (n + 1) (addI L (absM x)) g3 (by omega) (by unfold addI; split; { omega }; { rw [List.length_append, List.length_singleton]; omega })
      refine ⟨K + K1 + 1, fun k hk => ?_⟩
      obtain ⟨k, rfl⟩ := pred (show K + K1 < k by omega)
      show spec_FoldedProducts.l0 (k + 1) L S (S.length : Int) n = _
      have := e k (by omega)
      simp only [spec_FoldedProducts.l0, foldedM]
      rw [if_pos (by omega), if_pos (by omega), if_pos (by omega), g2, if_neg c, if_neg c, spec_l1Abs_v x (by omega) (by omega)]
      simp only [Option.bind_some, e1 k (by omega)]
      rw [wrap_nat g1 (by omega)]
      unfold addI at this ⊢
      cases c2 : L.any fun y => decide (y = absM x)
      · rw [c2] at this
        simp only [Bool.false_eq_true, if_false] at this ⊢
        rw [if_pos (by omega)]
        exact this
      · rw [c2] at this
        simp only [if_true] at this ⊢
        exact this
theorem spec_FoldedProducts_e (xs : List Int) (hn : xs.length ≤ 1048576) : Ev (fun k => spec_FoldedProducts.f k xs) (if weB xs = true then (((foldedM [] xs).length : Int), true) else (0, false)) := by
  obtain ⟨K1, e1⟩ := spec_weGood_e xs (by omega)
  cases c : weB xs
  · refine ⟨K1, fun k hk => ?_⟩
    show spec_FoldedProducts.f k xs = _
    unfold spec_FoldedProducts.f
    simp [e1 k (by omega), c]
  · have wl := weB_true c
    obtain ⟨K2, e2⟩ := spec_FoldedProducts_l xs wl.1.2 wl.2.1 xs 0 [] rfl (by omega) (by simp)
    refine ⟨K1 + K2, fun k hk => ?_⟩
    show spec_FoldedProducts.f k xs = _
    unfold spec_FoldedProducts.f
    simp only [e1 k (by omega), c, Option.bind_some, if_true]
    exact e2 k (by omega)

theorem impl_in_v (a b c : Int) : impl_in.f a b c = some (inR a b c) := inR_le a b c

theorem impl_isWeights_1_v (x : Int) : impl_isWeights_1.f x = some (!inR x (-1000) 1000) := by simp only [impl_isWeights_1.f, impl_in_v, Option.bind_some]
theorem index_isWeights_l (xs : List Int) (hn : xs.length ≤ 1152921504606846976) : ∀ (r : List Int) (n k : Nat), xs.drop n = r → r.length < k → ∃ v : Int, slices_IndexFunc_int_int_impl_isWeights_1.l0 k xs (xs.length : Int) n = some v ∧ decide (v ≥ 0) = !(r.all fun x => inR x (-1000) 1000)
  | [], n, k, hd, hk => by
    obtain ⟨k, rfl⟩ := pred hk
    have := drop_nil hd
    refine ⟨-1, ?_, by simp⟩
    simp only [slices_IndexFunc_int_int_impl_isWeights_1.l0]; rw [if_neg (by omega)]
  | a :: r, n, k, hd, hk => by
    obtain ⟨k, rfl⟩ := pred hk
    obtain ⟨h1, h2, h3⟩ := drop_cons hd
    simp only [slices_IndexFunc_int_int_impl_isWeights_1.l0]
    rw [if_pos (by omega), if_pos (by omega), if_pos (by omega), h2, impl_isWeights_1_v, wrap_nat h1 hn]; simp only [Option.bind_some, List.all_cons]
    cases h : inR a (-1000) 1000
    · exact ⟨n, by simp, by simp⟩
    · obtain ⟨v, e, hv⟩ := index_isWeights_l xs hn r (n + 1) k h3 (by simp at hk; omega)
      exact ⟨v, by simpa using e, by simpa using hv⟩
theorem contains_isWeights_e (xs : List Int) (hn : xs.length ≤ 1152921504606846976) : Ev (fun k => slices_ContainsFunc_int_int_impl_isWeights_1.f k xs) (!(xs.all fun x => inR x (-1000) 1000)) :=
  ⟨xs.length + 1, fun k hk => by
    show slices_ContainsFunc_int_int_impl_isWeights_1.f k xs = some _
    obtain ⟨v, e, hv⟩ := index_isWeights_l xs hn xs 0 k rfl (by omega)
    have e' : slices_IndexFunc_int_int_impl_isWeights_1.f k xs = some v := e
    unfold slices_ContainsFunc_int_int_impl_isWeights_1.f
    rw [e']; simp only [Option.bind_some, hv]⟩

theorem impl_isWeights_e (xs : List Int) (hn : xs.length ≤ 1152921504606846976) : Ev (fun k => impl_isWeights.f k xs) (weB xs) := by
  obtain ⟨K, e⟩ := contains_isWeights_e xs hn
  refine ⟨K, fun k hk => ?_⟩
  show impl_isWeights.f k xs = some (weB xs)
  unfold impl_isWeights.f weB
  simp only [e k hk, impl_in_v, Option.bind_some, Bool.not_not, bind_and]

theorem impl_size_v (a : Int) (h : -9223372036854775807 ≤ a) (h2 : a ≤ 9223372036854775807) : impl_size.f a = some (absM a) := by
  simp only [impl_size.f]
  rw [wrap_id (by omega) (by omega), mx_max]; rfl

def accM : List Int → List Int → List Int
  | acc, [] => acc
  | acc, x :: r => if x = 0 then accM acc r else accM (acc ++ [absM x]) r
theorem acc_folded : ∀ (r acc : List Int), (accM acc r).foldl addI [] = foldedM (acc.foldl addI []) r
  | [], acc => rfl
  | x :: r, acc => by
    simp only [accM, foldedM]
    split
    · exact acc_folded r acc
    · rw [acc_folded r (acc ++ [absM x]), List.foldl_append]
      rfl
theorem same_int (a b : Int) : (Lit.int .i64 a).sameKey (.int .i64 b) = decide (a = b) := by
  by_cases h : a = b
  · subst h; simp [Lit.sameKey]
  · rw [Maps.sameKey_ne (by intro e; injection e with _ e; exact h e)]; simp [h]
theorem fold_keys : ∀ (acc L : List Int), (acc.map fun x => Lit.int .i64 x).foldl Maps.addKey (L.map fun x => Lit.int .i64 x) = (acc.foldl addI L).map fun x => Lit.int .i64 x
  | [], L => rfl
  | a :: acc, L => by
    have e : Maps.addKey (L.map fun x => Lit.int .i64 x) (.int .i64 a) = (addI L a).map fun x => Lit.int .i64 x := by
      unfold Maps.addKey addI
      have : ((L.map fun x => Lit.int .i64 x).any fun y => y.sameKey (.int .i64 a)) = L.any fun y => decide (y = a) := by
        rw [List.any_map]
        congr 1
        funext y
        exact same_int y a
      rw [this]
      split <;> simp
    simp only [List.map_cons, List.foldl_cons]
    rw [e, fold_keys acc (addI L a)]
theorem size_D (acc : List Int) : Maps.size (impl_FoldedProducts.D acc) = (acc.foldl addI []).length := by
  unfold impl_FoldedProducts.D
  rw [Maps.size_setOf _ _ (by intro x hx; simp only [List.mem_map] at hx; obtain ⟨y, _, rfl⟩ := hx; trivial)]
  have := fold_keys acc []
  simp only [List.map_nil] at this
  rw [this]
  simp
theorem impl_FoldedProducts_l (S : List Int) (hS : S.length ≤ 9) (hb : ∀ x ∈ S, -1000 ≤ x ∧ x ≤ 1000) : ∀ (r : List Int) (n k : Nat) (acc : List Int), S.drop n = r → n ≤ S.length → acc.length ≤ n → r.length < k → impl_FoldedProducts.l0 k S acc n = some (accM acc r)
  | [], n, k, acc, hd, hn, hL, hk => by
    obtain ⟨k, rfl⟩ := pred hk
    have := drop_nil hd
    simp only [impl_FoldedProducts.l0, accM]
    rw [if_neg (by omega)]
  | x :: r, n, k, acc, hd, hn, hL, hk => by
    obtain ⟨k, rfl⟩ := pred hk
    obtain ⟨g1, g2, g3⟩ := drop_cons hd
    simp only [List.length_cons] at hk
    have hx : -1000 ≤ x ∧ x ≤ 1000 := by
      apply hb
      rw [← g2, rd_nat S n g1]
      exact List.getElem_mem g1
    simp only [impl_FoldedProducts.l0, accM]
    rw [if_pos (by omega), if_pos (by omega), g2, wrap_nat g1 (by omega)]
    by_cases c : x = 0
    · rw [if_pos c, if_pos c]
      exact impl_FoldedProducts_l S hS hb r (n + 1) k acc g3 (by omega) (by omega) (by omega)
    · have hw : (Lit.int .i64 (absM x)).wf = true := by
        simp [Lit.wf, IntKind.min, IntKind.max, IntKind.signed, IntKind.bits, absM]
        omega
      rw [if_neg c, if_neg c, impl_size_v x (by omega) (by omega)]
      simp only [Option.bind_some]
      rw [if_pos hw, if_pos (by omega)]
      exact impl_FoldedProducts_l S hS hb r (n + 1) k _ g3 (by omega) (by simp; omega) (by omega)
theorem impl_FoldedProducts_e (xs : List Int) (hn : xs.length ≤ 1048576) : Ev (fun k => impl_FoldedProducts.f k xs) (if weB xs = true then (((foldedM [] xs).length : Int), true) else (0, false)) := by
  obtain ⟨K1, e1⟩ := impl_isWeights_e xs (by omega)
  refine ⟨K1 + xs.length + 1, fun k hk => ?_⟩
  show impl_FoldedProducts.f k xs = _
  unfold impl_FoldedProducts.f
  simp only [e1 k (by omega), Option.bind_some]
  cases c : weB xs
  · simp
  · have wl := weB_true c
    have := impl_FoldedProducts_l xs wl.1.2 wl.2.1 xs 0 k [] rfl (by omega) (by simp) (by omega)
    have e : impl_FoldedProducts.l0 k xs [] 0 = some (accM [] xs) := this
    simp only [if_true, e, Option.bind_some, size_D, acc_folded]
    rfl

theorem FnExactFoldedProducts : laws_FnExactFoldedProducts.Pure := by
  intro l _ hl hw
  by_cases h0 : (l.length : Int) > 1048576
  · exact ⟨0, by simp [laws_FnExactFoldedProducts.f, h0]⟩
  obtain ⟨K1, e1⟩ := laws_toIntS_e l (by omega)
  obtain ⟨K2, e2⟩ := laws_eqIntS_same l (by omega)
  obtain ⟨K3, e3⟩ := spec_FoldedProducts_e l (by omega)
  obtain ⟨K4, e4⟩ := impl_FoldedProducts_e l (by omega)
  refine ⟨K1 + K2 + K3 + K4 + 1, ?_⟩
  simp only [laws_FnExactFoldedProducts.f, if_neg h0, e1 _ (show K1 ≤ K1 + K2 + K3 + K4 + 1 by omega), e3 _ (show K3 ≤ K1 + K2 + K3 + K4 + 1 by omega), e4 _ (show K4 ≤ K1 + K2 + K3 + K4 + 1 by omega), Option.bind_some]
  simp [laws_FnExactFoldedProducts.j0, e1 _ (show K1 ≤ K1 + K2 + K3 + K4 by omega), e2 _ (show K2 ≤ K1 + K2 + K3 + K4 by omega)]

end Go.Proofs.Yteponjafchejiaa.Pure
