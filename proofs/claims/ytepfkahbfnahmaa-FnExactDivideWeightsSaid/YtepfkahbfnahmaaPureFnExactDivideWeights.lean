/- The plain statement behind the law FnExactDivideWeights: its walk's numbers answer true. Conditions: the given statement's own (each number is an int; each slice within the reach). -/
import Derived.Test.YtepfkahbfnahmaaQFnExactDivideWeightsx0
import Derived.Test.YtepfkahbfnahmaaQFnExactDivideWeightsx1
import Derived.Test.YtepfkahbfnahmaaQFnExactDivideWeightsx2
import Derived.Test.YtepfkahbfnahmaaQFnExactDivideWeightsx3
import Derived.Test.YtepfkahbfnahmaaQFnExactDivideWeightsx4
import Derived.Test.YtepfkahbfnahmaaQFnExactDivideWeightsx5
import Derived.Test.YtepfkahbfnahmaaBase
import Derived.Test.YtepfkahbfnahmaaDivide
namespace Go.Proofs.Ytepfkahbfnahmaa.Pure
open Go.RowKit Go.Proofs.Ytepfkahbfnahmaa.QFnExactDivideWeights Go.Proofs.YtepfkahbfnahmaaW.PrintWords Go.Proofs.YtepfkahbfnahmaaW.PrintLast Go.Proofs.YtepfkahbfnahmaaW.PrintMore Go.Proofs.Ytepfkahbfnahmaa.Base
set_option linter.unusedVariables false
set_option linter.unusedSimpArgs false

theorem laws_toIntS_l (xs : List Int) (hn : xs.length ≤ 1152921504606846976) : ∀ (r : List Int) (n k : Nat) (ys : List Int), xs.drop n = r → n ≤ xs.length → ys.length = xs.length → ys.take n = xs.take n → r.length < k → laws_toIntS.l0 k xs ys n = some xs
  | [], n, k, ys, hd, hx, hy, ht, hk => by
    obtain ⟨k, rfl⟩ := pred hk
    have := drop_nil hd
    simp only [laws_toIntS.l0]; rw [if_neg (by omega)]
    rw [List.take_of_length_le (by omega), List.take_of_length_le (by omega)] at ht
    rw [ht]
  | a :: r, n, k, ys, hd, hx, hy, ht, hk => by
    obtain ⟨k, rfl⟩ := pred hk
    obtain ⟨h1, h2, h3⟩ := drop_cons hd
    simp only [laws_toIntS.l0]
    rw [if_pos (by omega), if_pos (by omega), if_pos (by omega), wrap_nat h1 hn]
    refine laws_toIntS_l xs hn r (n + 1) k _ h3 (by omega) (by simpa using hy) ?_ (by simp at hk; omega)
    rw [show ((n : Int)).toNat = n by omega, rd_nat xs n h1]
    apply List.ext_getElem?
    intro i
    by_cases hi : i < n
    · have := congrArg (fun z => z[i]?) ht
      simp only [List.getElem?_take, hi, if_true] at this
      simp only [List.getElem?_take, show i < n + 1 by omega, if_true]
      rw [List.getElem?_set_ne (by omega)]
      exact this
    · by_cases he : i = n
      · subst he
        simp [List.getElem?_take, List.getElem?_set, hy, h1]
      · simp [List.getElem?_take, show ¬ i < n + 1 by omega]
theorem laws_toIntS_e (xs : List Int) (hn : xs.length ≤ 1048576) : Ev (fun k => laws_toIntS.f k xs) xs :=
  ⟨xs.length + 1, fun k hk => by
    show laws_toIntS.f k xs = some xs
    unfold laws_toIntS.f
    rw [if_pos (by omega), if_pos (by omega)]
    exact laws_toIntS_l xs (by omega) xs 0 k _ rfl (by omega) (by simp) (by simp) (by omega)⟩

theorem laws_eqIntS_l (xs : List Int) (hn : xs.length ≤ 1152921504606846976) : ∀ (r : List Int) (n k : Nat), xs.drop n = r → r.length < k → laws_eqIntS.l0 k xs xs n = some true
  | [], n, k, hd, hk => by
    obtain ⟨k, rfl⟩ := pred hk
    have := drop_nil hd
    simp only [laws_eqIntS.l0]; rw [if_neg (by omega)]
  | a :: r, n, k, hd, hk => by
    obtain ⟨k, rfl⟩ := pred hk
    obtain ⟨h1, h2, h3⟩ := drop_cons hd
    simp only [laws_eqIntS.l0]
    rw [if_pos (by omega), if_pos (by omega), if_pos (by omega), if_pos trivial, wrap_nat h1 hn]
    exact laws_eqIntS_l xs hn r (n + 1) k h3 (by simp at hk; omega)
theorem laws_eqIntS_same (xs : List Int) (hn : xs.length ≤ 1152921504606846976) : Ev (fun k => laws_eqIntS.f k xs xs) true :=
  ⟨xs.length + 1, fun k hk => by
    show laws_eqIntS.f k xs xs = some true
    unfold laws_eqIntS.f
    rw [if_pos rfl]
    exact laws_eqIntS_l xs hn xs 0 k rfl (by omega)⟩

theorem laws_markIntS_l (s : Int) (len : Nat) (hs : 0 ≤ s) (hs2 : s ≤ 1000000000000) (hn : len ≤ 1000000000000) : ∀ (d n k : Nat) (ys : List Int), n + d = len → ys.length = len → ys.take n = (marks s len).take n → d < k → laws_markIntS.l0 k ys (s + n) n = some (s + len, marks s len)
  | 0, n, k, ys, hd, hy, ht, hk => by
    obtain ⟨k, rfl⟩ := pred hk
    simp only [laws_markIntS.l0]; rw [if_neg (by omega)]
    rw [List.take_of_length_le (by omega), List.take_of_length_le (by rw [marks_length]; omega)] at ht
    rw [ht, show n = len by omega]
  | d + 1, n, k, ys, hd, hy, ht, hk => by
    obtain ⟨k, rfl⟩ := pred hk
    simp only [laws_markIntS.l0]
    rw [if_pos (by omega), if_pos (by omega), wrap_nat (m := len) (by omega) (by omega), wrap_id (x := s + n + 1) (by omega) (by omega), show s + (n : Int) + 1 = s + ((n + 1 : Nat) : Int) by omega, show ((n : Int)).toNat = n by omega]
    exact laws_markIntS_l s len hs hs2 hn d (n + 1) k _ (by omega) (by simpa using hy) (set_take (by rw [marks_length, hy]) (by rw [marks_length]; omega) ht (marks_get s len n (by omega))) (by omega)
theorem laws_markIntS_e (xs : List Int) (s : Int) (hs : 0 ≤ s) (hs2 : s ≤ 1000000000000) (hn : xs.length ≤ 1048576) : Ev (fun k => laws_markIntS.f k xs s) (s + xs.length, marks s xs.length) :=
  ⟨xs.length + 1, fun k hk => by
    have := laws_markIntS_l s xs.length hs hs2 (by omega) xs.length 0 k xs (by omega) rfl (by simp) (by omega)
    simpa [laws_markIntS.f] using this⟩

theorem laws_heldIntS_l (s : Int) (len : Nat) (hs : 0 ≤ s) (hs2 : s ≤ 1000000000000) (hn : len ≤ 1000000000000) : ∀ (d n k : Nat), n + d = len → d < k → laws_heldIntS.l0 k (marks s len) (s + n) n = some (s + len)
  | 0, n, k, hd, hk => by
    obtain ⟨k, rfl⟩ := pred hk
    simp only [laws_heldIntS.l0, marks_length]; rw [if_neg (by omega), show n = len by omega]
  | d + 1, n, k, hd, hk => by
    obtain ⟨k, rfl⟩ := pred hk
    simp only [laws_heldIntS.l0, marks_length]
    have hr : rd (marks s len) n = s + n := by simp [rd, List.getD, marks_get s len n (by omega)]
    rw [if_pos (by omega), if_pos (by omega), if_pos hr, wrap_nat (m := len) (by omega) (by omega), wrap_id (x := s + n + 1) (by omega) (by omega), show s + (n : Int) + 1 = s + ((n + 1 : Nat) : Int) by omega]
    exact laws_heldIntS_l s len hs hs2 hn d (n + 1) k (by omega) (by omega)
theorem laws_heldIntS_e (n : Nat) (s : Int) (hs : 0 ≤ s) (hs2 : s ≤ 1000000000000) (hn : n ≤ 1048576) : Ev (fun k => laws_heldIntS.f k (marks s n) s) (s + n) :=
  ⟨n + 1, fun k hk => by
    have := laws_heldIntS_l s n hs hs2 (by omega) n 0 k (by omega) (by omega)
    simpa [laws_heldIntS.f] using this⟩

theorem spec_l1In_v (a b c : Int) : spec_l1In.f a b c = some (inR a b c) := inR_ge a b c

theorem spec_l1All_l (lo hi : Int) (xs : List Int) (hn : xs.length ≤ 1152921504606846976) : ∀ (r : List Int) (n k : Nat), xs.drop n = r → r.length < k → spec_l1All.l0 k lo hi xs (xs.length : Int) n = some (r.all fun x => inR x lo hi)
  | [], n, k, hd, hk => by
    obtain ⟨k, rfl⟩ := pred hk
    have := drop_nil hd
    simp only [spec_l1All.l0]; rw [if_neg (by omega)]; rfl
  | a :: r, n, k, hd, hk => by
    obtain ⟨k, rfl⟩ := pred hk
    obtain ⟨h1, h2, h3⟩ := drop_cons hd
    simp only [spec_l1All.l0]
    rw [if_pos (by omega), if_pos (by omega), if_pos (by omega), h2, spec_l1In_v, wrap_nat h1 hn]; simp only [Option.bind_some, List.all_cons]
    cases h : inR a lo hi
    · simp
    · simp only [if_true, Bool.true_and]
      exact spec_l1All_l lo hi xs hn r (n + 1) k h3 (by simp at hk; omega)
theorem spec_l1All_e (lo hi : Int) (xs : List Int) (hn : xs.length ≤ 1152921504606846976) : Ev (fun k => spec_l1All.f k xs lo hi) (xs.all fun x => inR x lo hi) :=
  ⟨xs.length + 1, fun k hk => spec_l1All_l lo hi xs hn xs 0 k rfl (by omega)⟩

theorem spec_weGood_e (xs : List Int) (hn : xs.length ≤ 1152921504606846976) : Ev (fun k => spec_weGood.f k xs) (weB xs) := by
  obtain ⟨K, e⟩ := spec_l1All_e (-1000) 1000 xs hn
  refine ⟨K, fun k hk => ?_⟩
  show spec_weGood.f k xs = some (weB xs)
  unfold spec_weGood.f weB
  simp only [e k hk, spec_l1In_v, Option.bind_some, bind_and]

theorem spec_l1Own_v (l : List Int) (h : l.length < 1048577) : spec_l1Own.f l = some l := by
  unfold spec_l1Own.f
  simp only [Option.bind_some, List.length_nil, List.nil_append]
  rw [if_pos (by omega)]

theorem spec_l1Most_v (a b : Int) : spec_l1Most.f a b = some (max a b) := by
  unfold spec_l1Most.f
  split <;> (congr 1; omega)

theorem spec_l1Abs_v (a : Int) (h : -9223372036854775807 ≤ a) (h2 : a ≤ 9223372036854775807) : spec_l1Abs.f a = some (absM a) := by
  simp only [spec_l1Abs.f, spec_l1Most_v, Option.bind_some]
  rw [wrap_id (by omega) (by omega)]; rfl

theorem spec_wdPeak_l (xs : List Int) (hn : xs.length ≤ 1152921504606846976) : ∀ (r : List Int) (n k : Nat) (m : Int), xs.drop n = r → (∀ x ∈ r, -9223372036854775807 ≤ x ∧ x ≤ 9223372036854775807) → r.length < k → spec_wdPeak.l0 k m xs (xs.length : Int) n = some (pk m r)
  | [], n, k, m, hd, hb, hk => by
    obtain ⟨k, rfl⟩ := pred hk
    have := drop_nil hd
    simp only [spec_wdPeak.l0]; rw [if_neg (by omega)]; simp [pk]
  | a :: r, n, k, m, hd, hb, hk => by
    obtain ⟨k, rfl⟩ := pred hk
    obtain ⟨h1, h2, h3⟩ := drop_cons hd
    have b1 := hb a (by simp)
    simp only [List.length_cons] at hk
    simp only [spec_wdPeak.l0]
    rw [if_pos (by omega), if_pos (by omega), if_pos (by omega), h2, wrap_nat h1 hn, spec_l1Abs_v a (by omega) (by omega)]
    simp only [Option.bind_some, spec_l1Most_v]
    rw [spec_wdPeak_l xs hn r (n + 1) k _ h3 (fun x hx => hb x (by simp [hx])) (by omega)]
    rfl
theorem spec_wdPeak_e (xs : List Int) (hn : xs.length ≤ 1048576) (hb : ∀ x ∈ xs, -9223372036854775807 ≤ x ∧ x ≤ 9223372036854775807) : Ev (fun k => spec_wdPeak.f k xs) (pk 0 xs) :=
  ⟨xs.length + 1, fun k hk => by
    show spec_wdPeak.f k xs = _
    have := spec_wdPeak_l xs (by omega) xs 0 k 0 rfl hb (by omega)
    simpa [spec_wdPeak.f] using this⟩

theorem spec_weIf_e (xs : List Int) (hn : xs.length ≤ 1152921504606846976) : Ev (fun k => spec_weIf.f k xs) (ifWe xs) := by
  obtain ⟨K, e⟩ := spec_weGood_e xs hn
  refine ⟨K, fun k hk => ?_⟩
  show spec_weIf.f k xs = some (ifWe xs)
  unfold spec_weIf.f ifWe
  simp only [e k hk, Option.bind_some]
  split <;> rfl

theorem spec_DivideWeights_l1 (a b : List Int) (bb : ∀ x ∈ b, -1000 ≤ x ∧ x ≤ 1000) (hb : b.length ≤ 9) (q : List Int) (hq : q.length ≤ 9) (n : Nat) (hn : n ≤ 9) (w : Int) (hw : -1000 ≤ w ∧ w ≤ 1000) (v : List Int × Bool) (N : Nat) (z : List Int)
    (hv : ∀ k, N ≤ k → spec_DivideWeights.l0 k a b z (q ++ [w]) (wrap64 ((n : Int) + 1)) = some v) : ∀ (r : List Int) (j k : Nat) (left : List Int), b.drop j = r → n + j + r.length ≤ left.length → (∀ i : Int, (n + j : Nat) ≤ i → -100000000 ≤ atM left i ∧ atM left i ≤ 100000000) → subM n w left r j = z → r.length + N + 1 < k → spec_DivideWeights.l1 k a b left q n w b (b.length : Int) j = some v
  | [], j, k, left, hd, hl, hL, hz, hk => by
    obtain ⟨k, rfl⟩ := pred hk
    have := drop_nil hd
    simp only [subM] at hz
    subst hz
    simp only [spec_DivideWeights.l1]
    rw [if_neg (by omega), if_pos (by omega)]
    exact hv k (by simp at hk; omega)
  | x :: r, j, k, left, hd, hl, hL, hz, hk => by
    simp only [List.length_cons] at hk hl
    obtain ⟨k, rfl⟩ := pred hk
    obtain ⟨g1, g2, g3⟩ := drop_cons hd
    have hx : -1000 ≤ x ∧ x ≤ 1000 := by
      apply bb
      rw [← g2, rd_nat b j g1]
      exact List.getElem_mem g1
    have h1 := mul_bd4 hw hx
    have e : (n : Int) + (j : Int) = ((n + j : Nat) : Int) := by omega
    have h2 := hL ((n + j : Nat) : Int) (by omega)
    have hr : rd left ((n + j : Nat) : Int) = atM left ((n + j : Nat) : Int) := by unfold atM rd; rw [if_pos (by omega)]
    simp only [spec_DivideWeights.l1]
    rw [e, wrap_id (x := ((n + j : Nat) : Int)) (by omega) (by omega), if_pos (by omega), if_pos (by omega), if_pos (by omega), if_pos (by omega), if_pos (by omega), g2, hr, wrap_id (x := w * x) (by omega) (by omega), wrap_id (x := atM left ((n + j : Nat) : Int) - w * x) (by omega) (by omega), Int.toNat_natCast, wrap_nat g1 (by omega)]
    refine spec_DivideWeights_l1 a b bb hb q hq n hn w hw v N z hv r (j + 1) k _ g3 (by simp; omega) ?_ hz (by omega)
    intro i hi
    rw [atM_set (by omega), if_neg (by omega)]
    exact hL i (by omega)
theorem spec_DivideWeights_l0 (a b : List Int) (wa : weB a = true) (wb : weB b = true) (hab : b.length ≤ a.length) (h0 : rd b 0 ≠ 0) : ∀ (d : Nat) (q left : List Int), q.length + d + b.length = a.length + 1 → (∀ x ∈ q, -1000 ≤ x ∧ x ≤ 1000) → left.length = a.length → (∀ i : Int, i < a.length → atM left i = atM a i - cv q b i) →
    Ev (fun k => spec_DivideWeights.l0 k a b left q (q.length : Int)) (divM a b d q)
  | 0, q, left, hd, hq, hl, hi => by
    have wla := (weB_true wa)
    have wlb := (weB_true wb)
    obtain ⟨K1, e1⟩ := spec_wdPeak_e left (by omega) (by
      intro x hx
      obtain ⟨i, h1, rfl⟩ := atM_mem hx
      have := hi i (by omega)
      have := cv_bd4 wlb.2.1 q i hq
      have := atM_bd3 wla.2.1 i
      omega)
    obtain ⟨K2, e2⟩ := spec_weIf_e q (by omega)
    have hz := left_zero hl (by omega) (by omega) (by omega) hq wlb.2.1 (fun i h => hi i (by omega))
    refine ⟨K1 + K2 + 1, fun k hk => ?_⟩
    obtain ⟨k, rfl⟩ := pred (show K1 + K2 < k by omega)
    show spec_DivideWeights.l0 (k + 1) a b left q (q.length : Int) = _
    simp only [spec_DivideWeights.l0, divM]
    rw [wrap_id (x := (q.length : Int) + b.length) (by omega) (by omega), if_neg (by omega)]
    simp only [e1 k (by omega), Option.bind_some, e2 k (by omega)]
    by_cases c : ansM q b = a
    · rw [if_neg (by rw [hz]; simpa using c), if_pos c]
    · rw [if_pos (hz.mpr c), if_neg c]
  | d + 1, q, left, hd, hq, hl, hi => by
    have wla := (weB_true wa)
    have wlb := (weB_true wb)
    have hc := cv_bd4 wlb.2.1 q (q.length : Int) hq
    have ha := atM_bd3 wla.2.1 (q.length : Int)
    have hr : rd left (q.length : Int) = atM a q.length - cv q b q.length := by rw [rd_atM' (by omega)]; exact hi _ (by omega)
    have htd := tdiv_bd (x := atM a q.length - cv q b q.length) (y := rd b 0) (by omega)
    have ih := fun w (hw : -1000 ≤ w ∧ w ≤ 1000) => spec_DivideWeights_l0 a b wa wb hab h0 d (q ++ [w]) (subM q.length w left b 0) (by simp; omega) (Rd.snoc hq hw) (by rw [subM_length]; omega) (by
      intro i h
      rw [subM_get _ _ _ _ _ (by omega), hi i h, cv_snoc, Nat.add_zero]
      omega)
    by_cases c1 : Int.tmod (atM a q.length - cv q b q.length) (rd b 0) = 0
    · cases c2 : inR (Int.tdiv (atM a q.length - cv q b q.length) (rd b 0)) (-1000) 1000
      · refine ⟨1, fun k hk => ?_⟩
        obtain ⟨k, rfl⟩ := pred (show 0 < k by omega)
        show spec_DivideWeights.l0 (k + 1) a b left q (q.length : Int) = _
        simp only [spec_DivideWeights.l0, divM]
        rw [wrap_id (x := (q.length : Int) + b.length) (by omega) (by omega), if_pos (by omega), if_pos (by omega), if_pos (by omega), if_pos (by omega), if_neg h0, hr, if_pos c1, wrap_id (by omega) (by omega), spec_l1In_v, if_pos c1, c2]
        simp
      · obtain ⟨K, e⟩ := ih _ (inR_true.mp c2)
        refine ⟨K + b.length + 30, fun k hk => ?_⟩
        obtain ⟨k, rfl⟩ := pred (show K + b.length + 29 < k by omega)
        show spec_DivideWeights.l0 (k + 1) a b left q (q.length : Int) = _
        simp only [spec_DivideWeights.l0, divM]
        rw [wrap_id (x := (q.length : Int) + b.length) (by omega) (by omega), if_pos (by omega), if_pos (by omega), if_pos (by omega), if_pos (by omega), if_neg h0, hr, if_pos c1, wrap_id (by omega) (by omega), spec_l1In_v, if_pos c1, c2]
        simp only [Option.bind_some, if_true]
        refine spec_DivideWeights_l1 a b wlb.2.1 (by omega) q (by omega) q.length (by omega) _ (inR_true.mp c2) _ K (subM q.length _ left b 0) ?_ b 0 k left rfl (by omega) ?_ rfl (by omega)
        · intro k hk
          rw [wrap_id (x := (q.length : Int) + 1) (by omega) (by omega)]
          have := e k hk
          simp only [List.length_append, List.length_singleton] at this
          exact this
        · intro i h
          by_cases h' : i < a.length
          · rw [hi i h']
            have := cv_bd4 wlb.2.1 q i hq
            have := atM_bd3 wla.2.1 i
            omega
          · rw [atM_past (by omega)]; omega
    · refine ⟨1, fun k hk => ?_⟩
      obtain ⟨k, rfl⟩ := pred (show 0 < k by omega)
      show spec_DivideWeights.l0 (k + 1) a b left q (q.length : Int) = _
      simp only [spec_DivideWeights.l0, divM]
      rw [wrap_id (x := (q.length : Int) + b.length) (by omega) (by omega), if_pos (by omega), if_pos (by omega), if_pos (by omega), if_pos (by omega), if_neg h0, hr, if_neg c1, if_neg c1]
theorem spec_DivideWeights_e (a b : List Int) (ha : a.length ≤ 1048576) (hb : b.length ≤ 1048576) : Ev (fun k => spec_DivideWeights.f k a b) (if divB a b = true then divM a b (a.length - b.length + 1) [] else ([], false)) := by
  obtain ⟨K1, e1⟩ := spec_weGood_e a (by omega)
  obtain ⟨K2, e2⟩ := spec_weGood_e b (by omega)
  have fail : ∀ k, spec_DivideWeights.j0 (k + 1) a b true = some ([], false) := fun k => by simp [spec_DivideWeights.j0]
  cases c1 : weB a
  · refine ⟨K1 + 1, fun k hk => ?_⟩
    obtain ⟨k, rfl⟩ := pred (show K1 < k by omega)
    show spec_DivideWeights.f (k + 1) a b = _
    unfold spec_DivideWeights.f divB
    simp [e1 (k + 1) (by omega), c1, fail]
  cases c2 : weB b
  · refine ⟨K1 + K2 + 1, fun k hk => ?_⟩
    obtain ⟨k, rfl⟩ := pred (show K1 + K2 < k by omega)
    show spec_DivideWeights.f (k + 1) a b = _
    unfold spec_DivideWeights.f divB
    simp [e1 (k + 1) (by omega), e2 (k + 1) (by omega), c1, c2, fail]
  have wla := (weB_true c1)
  have wlb := (weB_true c2)
  by_cases h0 : rd b 0 = 0
  · refine ⟨K1 + K2 + 1, fun k hk => ?_⟩
    obtain ⟨k, rfl⟩ := pred (show K1 + K2 < k by omega)
    show spec_DivideWeights.f (k + 1) a b = _
    unfold spec_DivideWeights.f divB
    simp only [e1 (k + 1) (by omega), e2 (k + 1) (by omega), c1, c2, Option.bind_some, if_true, h0, fail]
    rw [if_pos (by omega)]
    simp
  by_cases hab : b.length ≤ a.length
  · obtain ⟨K3, e3⟩ := spec_DivideWeights_l0 a b c1 c2 hab h0 (a.length - b.length + 1) [] a (by simp; omega) (by simp) rfl (by simp [cv])
    refine ⟨K1 + K2 + K3 + 1, fun k hk => ?_⟩
    obtain ⟨k, rfl⟩ := pred (show K1 + K2 + K3 < k by omega)
    show spec_DivideWeights.f (k + 1) a b = _
    unfold spec_DivideWeights.f divB
    have := e3 k (by omega)
    simp only [List.length_nil] at this
    simp only [e1 (k + 1) (by omega), e2 (k + 1) (by omega), c1, c2, Option.bind_some, if_true]
    rw [if_pos (by omega), if_neg h0, decide_eq_false (by omega)]
    simp only [spec_DivideWeights.j0, Bool.false_eq_true, if_false, spec_l1Own_v a (by omega), Option.bind_some]
    rw [if_pos (by simp [h0, hab])]
    exact this
  · refine ⟨K1 + K2 + 1, fun k hk => ?_⟩
    obtain ⟨k, rfl⟩ := pred (show K1 + K2 < k by omega)
    show spec_DivideWeights.f (k + 1) a b = _
    unfold spec_DivideWeights.f divB
    simp only [e1 (k + 1) (by omega), e2 (k + 1) (by omega), c1, c2, Option.bind_some, if_true]
    rw [if_pos (by omega), if_neg h0, decide_eq_true (by omega), fail]
    simp [hab]

theorem impl_in_v (a b c : Int) : impl_in.f a b c = some (inR a b c) := inR_le a b c

theorem impl_isWeights_1_v (x : Int) : impl_isWeights_1.f x = some (!inR x (-1000) 1000) := by simp only [impl_isWeights_1.f, impl_in_v, Option.bind_some]
theorem index_isWeights_l (xs : List Int) (hn : xs.length ≤ 1152921504606846976) : ∀ (r : List Int) (n k : Nat), xs.drop n = r → r.length < k → ∃ v : Int, slices_IndexFunc_int_int_impl_isWeights_1.l0 k xs (xs.length : Int) n = some v ∧ decide (v ≥ 0) = !(r.all fun x => inR x (-1000) 1000)
  | [], n, k, hd, hk => by
    obtain ⟨k, rfl⟩ := pred hk
    have := drop_nil hd
    refine ⟨-1, ?_, by simp⟩
    simp only [slices_IndexFunc_int_int_impl_isWeights_1.l0]; rw [if_neg (by omega)]
  | a :: r, n, k, hd, hk => by
    obtain ⟨k, rfl⟩ := pred hk
    obtain ⟨h1, h2, h3⟩ := drop_cons hd
    simp only [slices_IndexFunc_int_int_impl_isWeights_1.l0]
    rw [if_pos (by omega), if_pos (by omega), if_pos (by omega), h2, impl_isWeights_1_v, wrap_nat h1 hn]; simp only [Option.bind_some, List.all_cons]
    cases h : inR a (-1000) 1000
    · exact ⟨n, by simp, by simp⟩
    · obtain ⟨v, e, hv⟩ := index_isWeights_l xs hn r (n + 1) k h3 (by simp at hk; omega)
      exact ⟨v, by simpa using e, by simpa using hv⟩
theorem contains_isWeights_e (xs : List Int) (hn : xs.length ≤ 1152921504606846976) : Ev (fun k => slices_ContainsFunc_int_int_impl_isWeights_1.f k xs) (!(xs.all fun x => inR x (-1000) 1000)) :=
  ⟨xs.length + 1, fun k hk => by
    show slices_ContainsFunc_int_int_impl_isWeights_1.f k xs = some _
    obtain ⟨v, e, hv⟩ := index_isWeights_l xs hn xs 0 k rfl (by omega)
    have e' : slices_IndexFunc_int_int_impl_isWeights_1.f k xs = some v := e
    unfold slices_ContainsFunc_int_int_impl_isWeights_1.f
    rw [e']; simp only [Option.bind_some, hv]⟩

theorem impl_isWeights_e (xs : List Int) (hn : xs.length ≤ 1152921504606846976) : Ev (fun k => impl_isWeights.f k xs) (weB xs) := by
  obtain ⟨K, e⟩ := contains_isWeights_e xs hn
  refine ⟨K, fun k hk => ?_⟩
  show impl_isWeights.f k xs = some (weB xs)
  unfold impl_isWeights.f weB
  simp only [e k hk, impl_in_v, Option.bind_some, Bool.not_not, bind_and]

theorem impl_at_v (l : List Int) (i : Int) (hl : l.length ≤ 1152921504606846976) : impl_at.f l i = some (atM l i) := by
  unfold impl_at.f atM
  rw [wrap_id (x := (l.length : Int) - 1) (by omega) (by omega), impl_in_v]
  simp only [Option.bind_some]
  cases h : inR i 0 ((l.length : Int) - 1)
  · have := inR_false.mp h
    simp only [Bool.false_eq_true, if_false]
    by_cases h0 : 0 ≤ i
    · rw [if_pos h0]; simp [List.getD, show l.length ≤ i.toNat by omega]
    · rw [if_neg h0]
  · have := inR_true.mp h
    simp only [if_true]
    rw [if_pos (by omega), if_pos (by omega), if_pos (by omega)]; rfl

theorem impl_size_v (a : Int) (h : -9223372036854775807 ≤ a) (h2 : a ≤ 9223372036854775807) : impl_size.f a = some (absM a) := by
  simp only [impl_size.f]
  rw [wrap_id (by omega) (by omega), mx_max]; rfl

theorem slices_Equal_int_int_l (a b : List Int) (hn : a.length ≤ 1152921504606846976) (hl : a.length = b.length) : ∀ (r : List Int) (n k : Nat), a.drop n = r → r.length < k → slices_Equal_int_int.l0 k a b (a.length : Int) n = some (decide (r = b.drop n))
  | [], n, k, hd, hk => by
    obtain ⟨k, rfl⟩ := pred hk
    have := drop_nil hd
    simp only [slices_Equal_int_int.l0]; rw [if_neg (by omega)]
    have : b.drop n = [] := List.drop_eq_nil_of_le (by omega)
    simp [this]
  | x :: r, n, k, hd, hk => by
    obtain ⟨k, rfl⟩ := pred hk
    obtain ⟨h1, h2, h3⟩ := drop_cons hd
    have hb : b.drop n = b[n] :: b.drop (n + 1) := List.drop_eq_getElem_cons (by omega)
    obtain ⟨g1, g2, g3⟩ := drop_cons hb
    simp only [slices_Equal_int_int.l0]
    rw [if_pos (by omega), if_pos (by omega), if_pos (by omega), if_pos (by omega), h2, g2, wrap_nat h1 hn, hb]
    by_cases c : x = b[n]
    · rw [if_pos c, slices_Equal_int_int_l a b hn hl r (n + 1) k h3 (by simp at hk; omega)]; congr 1; exact decide_eq_decide.mpr ⟨fun h => by rw [h, c], fun h => (List.cons.inj h).2⟩
    · rw [if_neg c, decide_eq_false (fun h => c (List.cons.inj h).1)]
theorem slices_Equal_int_int_e (a b : List Int) (hn : a.length ≤ 1152921504606846976) : Ev (fun k => slices_Equal_int_int.f k a b) (decide (a = b)) :=
  ⟨a.length + 1, fun k hk => by
    show slices_Equal_int_int.f k a b = _
    unfold slices_Equal_int_int.f
    by_cases hl : a.length = b.length
    · rw [if_pos (by omega)]
      have := slices_Equal_int_int_l a b hn hl a 0 k rfl (by omega)
      rw [show ((0 : Nat) : Int) = 0 from rfl] at this
      simpa using this
    · rw [if_neg (by omega)]
      have : a ≠ b := fun h => hl (by rw [h])
      simp [this]⟩

theorem impl_answer_in (s : List Int) (hs : s.length ≤ 1000) (k0 : Nat) (a : Int) (hk0 : k0 ≤ 1000) (h : List Int) (m : Int) : ∀ (r : List Int) (i k : Nat) (out : List Int), s.drop i = r → i + r.length = s.length → k0 + s.length ≤ out.length → r.length + 1 < k → impl_answer.l1 k s out k0 a h m k0 s (s.length : Int) i = impl_answer.l0 (k - r.length - 1) s (innerM k0 a out r i) h m (wrap64 (k0 + 1))
  | [], i, k, out, hd, hi, ho, hk => by
    obtain ⟨k, rfl⟩ := pred (show 0 < k by omega)
    have := drop_nil hd
    simp only [impl_answer.l1, innerM]; rw [if_neg (by omega)]; simp
  | x :: r, i, k, out, hd, hi, ho, hk => by
    obtain ⟨k, rfl⟩ := pred (show 0 < k by omega)
    obtain ⟨h1, h2, h3⟩ := drop_cons hd
    simp only [List.length_cons] at hk hi
    simp only [impl_answer.l1, innerM]
    rw [if_pos (by omega), if_pos (by omega), if_pos (by omega), wrap_id (x := (i : Int) + (k0 : Int)) (by omega) (by omega), if_pos (by omega), if_pos (by omega), h2, wrap_nat h1 (by omega), show ((i : Int) + (k0 : Int)).toNat = k0 + i by omega]
    rw [show rd out ((i : Int) + (k0 : Int)) = out.getD (k0 + i) 0 by unfold rd; rw [show ((i : Int) + (k0 : Int)).toNat = k0 + i by omega]]
    rw [impl_answer_in s hs k0 a hk0 h m r (i + 1) k _ h3 (by omega) (by simpa using ho) (by omega)]
    simp only [List.length_cons]
    congr 1; omega
theorem impl_answer_out (s : List Int) (hs : s.length ≤ 1000) (h : List Int) (hh : h.length ≤ 1000) : ∀ (r : List Int) (n k : Nat) (out : List Int), h.drop n = r → n + r.length = h.length → h.length + s.length ≤ out.length + 1 → 1 ≤ s.length → r.length * (s.length + 2) < k → impl_answer.l0 k s out h (h.length : Int) n = some (outerM s out r n)
  | [], n, k, out, hd, hi, ho, hs1, hk => by
    obtain ⟨k, rfl⟩ := pred (show 0 < k by omega)
    have := drop_nil hd
    simp only [impl_answer.l0, outerM]; rw [if_neg (by omega)]
  | a :: r, n, k, out, hd, hi, ho, hs1, hk => by
    obtain ⟨k, rfl⟩ := pred (show 0 < k by omega)
    obtain ⟨h1, h2, h3⟩ := drop_cons hd
    simp only [List.length_cons] at hk hi
    have e : (r.length + 1) * (s.length + 2) = r.length * (s.length + 2) + (s.length + 2) := by rw [Nat.add_mul, Nat.one_mul]
    simp only [impl_answer.l0, outerM]
    rw [if_pos (by omega), if_pos (by omega), if_pos (by omega), h2]
    have h4 := impl_answer_in s hs n a (by omega) h h.length s 0 k out rfl (by omega) (by omega) (by omega)
    rw [show ((0 : Nat) : Int) = 0 from rfl] at h4
    rw [h4, wrap_nat h1 (by omega)]
    exact impl_answer_out s hs h hh r (n + 1) _ _ h3 (by omega) (by rw [innerM_length]; omega) hs1 (by omega)
theorem impl_answer_e (h s : List Int) (hh : h.length ≤ 1000) (hs : s.length ≤ 1000) (hh1 : 1 ≤ h.length) : Ev (fun k => impl_answer.f k h s) (ansM h s) :=
  ⟨h.length * (s.length + 2) + 1, fun k hk => by
    show impl_answer.f k h s = _
    unfold impl_answer.f ansM
    by_cases h0 : s.length = 0
    · rw [if_pos (by omega), if_pos h0]
    · rw [if_neg (by omega), if_neg h0, wrap_id (x := (h.length : Int) + (s.length : Int)) (by omega) (by omega), wrap_id (x := (h.length : Int) + (s.length : Int) - 1) (by omega) (by omega), if_pos (by omega), if_pos (by omega), show ((h.length : Int) + (s.length : Int) - 1).toNat = h.length + s.length - 1 by omega]
      exact impl_answer_out s hs h hh h 0 k _ rfl (by omega) (by simp; omega) (by omega) (by omega)⟩

theorem impl_weighed_e (xs : List Int) (hn : xs.length ≤ 1152921504606846976) : Ev (fun k => impl_weighed.f k xs) (ifWe xs) := by
  obtain ⟨K, e⟩ := impl_isWeights_e xs hn
  refine ⟨K, fun k hk => ?_⟩
  show impl_weighed.f k xs = some (ifWe xs)
  unfold impl_weighed.f ifWe
  simp only [e k hk, Option.bind_some]
  split <;> rfl

theorem impl_DivideWeights_l1 (a b : List Int) (bb : ∀ x ∈ b, -1000 ≤ x ∧ x ≤ 1000) (hb : b.length ≤ 9) (h0 : rd b 0 ≠ 0) (hb1 : 1 ≤ b.length) (q : List Int) (hq : q.length ≤ 9) (qb : ∀ x ∈ q, -1000 ≤ x ∧ x ≤ 1000) (n : Nat) (hn : n ≤ 9) (D : Int) (z : Int) (hz0 : -100000000 ≤ z ∧ z ≤ 100000000) : ∀ (r : List Int) (j k : Nat) (acc : Int), b.drop j = r → j ≤ b.length → -1000000 * (j : Int) ≤ acc ∧ acc ≤ 1000000 * (j : Int) → acc - cv r q ((n : Int) - j) = z → r.length + 1 < k →
    ∃ k', k ≤ k' + r.length + 1 ∧ impl_DivideWeights.l1 k a b q n acc j D n = (if Int.tmod z (rd b 0) = 0 then (if inR (Int.tdiv z (rd b 0)) (-1000) 1000 = true then impl_DivideWeights.l0 k' a b (q ++ [Int.tdiv z (rd b 0)]) D ((n : Int) + 1) else some ([], false)) else some ([], false))
  | [], j, k, acc, hd, hj, ha, hz, hk => by
    obtain ⟨k, rfl⟩ := pred hk
    have := drop_nil hd
    simp only [cv, Int.sub_zero] at hz
    subst hz
    refine ⟨k, by omega, ?_⟩
    have htd := tdiv_bd (y := rd b 0) hz0
    simp only [impl_DivideWeights.l1]
    rw [if_neg (by omega), if_pos (by omega), if_neg h0]
    by_cases c1 : Int.tmod acc (rd b 0) = 0
    · rw [if_pos c1, if_pos c1, wrap_id (x := Int.tdiv acc (rd b 0)) (by omega) (by omega), impl_size_v _ (by omega) (by omega)]
      simp only [Option.bind_some]
      cases c2 : inR (Int.tdiv acc (rd b 0)) (-1000) 1000
      · have := inR_false.mp c2
        rw [if_pos (by unfold absM; omega)]
        simp
      · have := inR_true.mp c2
        rw [if_neg (by unfold absM; omega), if_pos (by omega), wrap_id (x := (n : Int) + 1) (by omega) (by omega)]
        simp
    · rw [if_neg c1, if_neg c1]
  | x :: r, j, k, acc, hd, hj, ha, hz, hk => by
    simp only [List.length_cons] at hk
    obtain ⟨k, rfl⟩ := pred hk
    obtain ⟨g1, g2, g3⟩ := drop_cons hd
    have hx : -1000 ≤ x ∧ x ≤ 1000 := by
      apply bb
      rw [← g2, rd_nat b j g1]
      exact List.getElem_mem g1
    have h1 := mul_bd4 hx (atM_bd3 qb ((n : Int) - j))
    simp only [cv] at hz
    simp only [impl_DivideWeights.l1]
    rw [if_pos (by omega), if_pos (by omega), wrap_id (x := (n : Int) - j) (by omega) (by omega), impl_at_v q _ (by omega)]
    simp only [Option.bind_some]
    rw [g2, wrap_id (x := x * atM q ((n : Int) - j)) (by omega) (by omega), wrap_id (x := acc - x * atM q ((n : Int) - j)) (by omega) (by omega), wrap_nat g1 (by omega)]
    obtain ⟨k', h2, h3⟩ := impl_DivideWeights_l1 a b bb hb h0 hb1 q hq qb n hn D z hz0 r (j + 1) k (acc - x * atM q ((n : Int) - j)) g3 (by omega) (by omega) (by rw [show (n : Int) - ((j + 1 : Nat) : Int) = (n : Int) - j - 1 by omega]; omega) (by omega)
    exact ⟨k', by simp only [List.length_cons]; omega, h3⟩
theorem impl_DivideWeights_l0 (a b : List Int) (wa : weB a = true) (wb : weB b = true) (hab : b.length ≤ a.length) (h0 : rd b 0 ≠ 0) (D : Int) (hD : D = (a.length : Int) - b.length + 1) : ∀ (d : Nat) (q : List Int), q.length + d + b.length = a.length + 1 → (∀ x ∈ q, -1000 ≤ x ∧ x ≤ 1000) →
    Ev (fun k => impl_DivideWeights.l0 k a b q D (q.length : Int)) (divM a b d q)
  | 0, q, hd, hq => by
    have wla := (weB_true wa)
    have wlb := (weB_true wb)
    obtain ⟨K1, e1⟩ := impl_answer_e q b (by omega) (by omega) (by omega)
    obtain ⟨K2, e2⟩ := slices_Equal_int_int_e (ansM q b) a (by rw [ansM_length]; split <;> omega)
    obtain ⟨K3, e3⟩ := impl_weighed_e q (by omega)
    refine ⟨K1 + K2 + K3 + 1, fun k hk => ?_⟩
    obtain ⟨k, rfl⟩ := pred (show K1 + K2 + K3 < k by omega)
    show impl_DivideWeights.l0 (k + 1) a b q D (q.length : Int) = _
    simp only [impl_DivideWeights.l0, divM]
    rw [if_neg (by omega)]
    simp only [e1 k (by omega), Option.bind_some, e2 k (by omega), e3 k (by omega), decide_eq_true_eq]
    split <;> rfl
  | d + 1, q, hd, hq => by
    have wla := (weB_true wa)
    have wlb := (weB_true wb)
    have hc := cv_bd4 wlb.2.1 q (q.length : Int) hq
    have ha := atM_bd3 wla.2.1 (q.length : Int)
    have hr : rd a (q.length : Int) = atM a q.length := rd_atM' (by omega)
    have key : ∀ k, b.length + 3 < k → ∃ k', k ≤ k' + b.length + 2 ∧ impl_DivideWeights.l0 k a b q D (q.length : Int) = (if Int.tmod (atM a q.length - cv q b q.length) (rd b 0) = 0 then (if inR (Int.tdiv (atM a q.length - cv q b q.length) (rd b 0)) (-1000) 1000 = true then impl_DivideWeights.l0 k' a b (q ++ [Int.tdiv (atM a q.length - cv q b q.length) (rd b 0)]) D ((q.length : Int) + 1) else some ([], false)) else some ([], false)) := by
      intro k hk
      obtain ⟨k, rfl⟩ := pred hk
      have hz : atM a q.length - cv (b.drop 1) q ((q.length : Int) - (1 : Nat)) = atM a q.length - cv q b q.length := by
        rw [cv_comm q b]
        cases b with
        | nil => simp at wlb
        | cons x r =>
          simp only [List.drop_succ_cons, List.drop_zero, cv]
          rw [atM_past (l := q) (by omega)]
          simp
      obtain ⟨k', h1, h2⟩ := impl_DivideWeights_l1 a b wlb.2.1 (by omega) h0 (by omega) q (by omega) hq q.length (by omega) D _ (by omega) (b.drop 1) 1 k (atM a q.length) rfl (by omega) (by omega) hz (by simp; omega)
      refine ⟨k', by simp at h1; omega, ?_⟩
      simp only [impl_DivideWeights.l0]
      rw [if_pos (by omega), if_pos (by omega), if_pos (by omega), hr]
      exact h2
    by_cases c1 : Int.tmod (atM a q.length - cv q b q.length) (rd b 0) = 0
    · cases c2 : inR (Int.tdiv (atM a q.length - cv q b q.length) (rd b 0)) (-1000) 1000
      · refine ⟨b.length + 4, fun k hk => ?_⟩
        show impl_DivideWeights.l0 k a b q D (q.length : Int) = _
        obtain ⟨k', _, h2⟩ := key k (by omega)
        rw [h2, if_pos c1, c2]
        simp only [divM]
        rw [if_pos c1, c2]
        simp
      · obtain ⟨K, e⟩ := impl_DivideWeights_l0 a b wa wb hab h0 D hD d (q ++ [Int.tdiv (atM a q.length - cv q b q.length) (rd b 0)]) (by simp; omega) (Rd.snoc hq (inR_true.mp c2))
        refine ⟨K + b.length + 4, fun k hk => ?_⟩
        show impl_DivideWeights.l0 k a b q D (q.length : Int) = _
        obtain ⟨k', h1, h2⟩ := key k (by omega)
        have := e k' (by omega)
        simp only [List.length_append, List.length_singleton] at this
        rw [h2, if_pos c1, c2]
        simp only [divM]
        rw [if_pos c1, c2]
        simp only [if_true]
        exact this
    · refine ⟨b.length + 4, fun k hk => ?_⟩
      show impl_DivideWeights.l0 k a b q D (q.length : Int) = _
      obtain ⟨k', _, h2⟩ := key k (by omega)
      rw [h2, if_neg c1]
      simp only [divM]
      rw [if_neg c1]
theorem impl_DivideWeights_e (a b : List Int) (ha : a.length ≤ 1048576) (hb : b.length ≤ 1048576) : Ev (fun k => impl_DivideWeights.f k a b) (if divB a b = true then divM a b (a.length - b.length + 1) [] else ([], false)) := by
  obtain ⟨K1, e1⟩ := impl_isWeights_e a (by omega)
  obtain ⟨K2, e2⟩ := impl_isWeights_e b (by omega)
  have fail : ∀ k, impl_DivideWeights.j0 (k + 1) a b true = some ([], false) := fun k => by simp [impl_DivideWeights.j0]
  cases c1 : weB a
  · refine ⟨K1 + 1, fun k hk => ?_⟩
    obtain ⟨k, rfl⟩ := pred (show K1 < k by omega)
    show impl_DivideWeights.f (k + 1) a b = _
    unfold impl_DivideWeights.f divB
    simp [e1 (k + 1) (by omega), c1, fail]
  cases c2 : weB b
  · refine ⟨K1 + K2 + 1, fun k hk => ?_⟩
    obtain ⟨k, rfl⟩ := pred (show K1 + K2 < k by omega)
    show impl_DivideWeights.f (k + 1) a b = _
    unfold impl_DivideWeights.f divB
    simp [e1 (k + 1) (by omega), e2 (k + 1) (by omega), c1, c2, fail]
  have wla := (weB_true c1)
  have wlb := (weB_true c2)
  by_cases h0 : rd b 0 = 0
  · refine ⟨K1 + K2 + 1, fun k hk => ?_⟩
    obtain ⟨k, rfl⟩ := pred (show K1 + K2 < k by omega)
    show impl_DivideWeights.f (k + 1) a b = _
    unfold impl_DivideWeights.f divB
    simp only [e1 (k + 1) (by omega), e2 (k + 1) (by omega), c1, c2, Option.bind_some, if_true, h0, fail]
    rw [if_pos (by omega)]
    simp
  by_cases hab : b.length ≤ a.length
  · obtain ⟨K3, e3⟩ := impl_DivideWeights_l0 a b c1 c2 hab h0 ((a.length : Int) - b.length + 1) rfl (a.length - b.length + 1) [] (by simp; omega) (by simp)
    refine ⟨K1 + K2 + K3 + 1, fun k hk => ?_⟩
    obtain ⟨k, rfl⟩ := pred (show K1 + K2 + K3 < k by omega)
    show impl_DivideWeights.f (k + 1) a b = _
    unfold impl_DivideWeights.f divB
    have := e3 k (by omega)
    simp only [List.length_nil] at this
    simp only [e1 (k + 1) (by omega), e2 (k + 1) (by omega), c1, c2, Option.bind_some, if_true]
    rw [if_pos (by omega), if_neg h0, decide_eq_false (by omega)]
    simp only [impl_DivideWeights.j0, Bool.false_eq_true, if_false]
    rw [if_pos (by simp [h0, hab]), wrap_id (x := (a.length : Int) - b.length) (by omega) (by omega), wrap_id (x := (a.length : Int) - b.length + 1) (by omega) (by omega)]
    exact this
  · refine ⟨K1 + K2 + 1, fun k hk => ?_⟩
    obtain ⟨k, rfl⟩ := pred (show K1 + K2 < k by omega)
    show impl_DivideWeights.f (k + 1) a b = _
    unfold impl_DivideWeights.f divB
    simp only [e1 (k + 1) (by omega), e2 (k + 1) (by omega), c1, c2, Option.bind_some, if_true]
    rw [if_pos (by omega), if_neg h0, decide_eq_true (by omega), fail]
    simp [hab]

-- import Divide
theorem FnExactDivideWeights : laws_FnExactDivideWeights.Pure := by
  intro a b _ hl hw _ hl2 hw2
  by_cases h00 : (a.length : Int) > 1048576
  · exact ⟨0, by simp [laws_FnExactDivideWeights.f, h00]⟩
  by_cases h01 : (b.length : Int) > 1048576
  · exact ⟨0, by simp [laws_FnExactDivideWeights.f, h00, h01]⟩
  obtain ⟨K1, e1⟩ := laws_toIntS_e a (by omega)
  obtain ⟨K2, e2⟩ := laws_eqIntS_same a (by omega)
  obtain ⟨K3, e3⟩ := laws_toIntS_e b (by omega)
  obtain ⟨K4, e4⟩ := laws_eqIntS_same b (by omega)
  obtain ⟨v, ⟨K5, e5⟩, ⟨K6, e6⟩, hv⟩ := both (spec_DivideWeights_e a b (by omega) (by omega)) (impl_DivideWeights_e a b (by omega) (by omega)) (Nat.le_trans (div_if_len _ _ _ _) (by omega))
  obtain ⟨K7, e7⟩ := laws_eqIntS_same v.1 (by omega)
  obtain ⟨K8, e8⟩ := laws_markIntS_e a (1) (by omega) (by omega) (by omega)
  obtain ⟨K9, e9⟩ := laws_markIntS_e b (1 + a.length) (by omega) (by omega) (by omega)
  obtain ⟨K10, e10⟩ := laws_markIntS_e v.1 1 (by omega) (by omega) (by omega)
  obtain ⟨K11, e11⟩ := laws_heldIntS_e v.1.length 1 (by omega) (by omega) (by omega)
  obtain ⟨K, hK⟩ : ∃ K, K = K1 + K2 + K3 + K4 + K5 + K6 + K7 + K8 + K9 + K10 + K11 := ⟨_, rfl⟩
  refine ⟨K + 3, ?_⟩
  have a1_3 := e1 (K + 3) (by omega)
  have a2_3 := e2 (K + 3) (by omega)
  have a3_3 := e3 (K + 3) (by omega)
  have a4_3 := e4 (K + 3) (by omega)
  have a5_3 := e5 (K + 3) (by omega)
  have a6_3 := e6 (K + 3) (by omega)
  have a7_3 := e7 (K + 3) (by omega)
  have a8_3 := e8 (K + 3) (by omega)
  have a9_3 := e9 (K + 3) (by omega)
  have a10_3 := e10 (K + 3) (by omega)
  have a11_3 := e11 (K + 3) (by omega)
  have a1_2 := e1 (K + 2) (by omega)
  have a2_2 := e2 (K + 2) (by omega)
  have a3_2 := e3 (K + 2) (by omega)
  have a4_2 := e4 (K + 2) (by omega)
  have a5_2 := e5 (K + 2) (by omega)
  have a6_2 := e6 (K + 2) (by omega)
  have a7_2 := e7 (K + 2) (by omega)
  have a8_2 := e8 (K + 2) (by omega)
  have a9_2 := e9 (K + 2) (by omega)
  have a10_2 := e10 (K + 2) (by omega)
  have a11_2 := e11 (K + 2) (by omega)
  have a1_1 := e1 (K + 1) (by omega)
  have a2_1 := e2 (K + 1) (by omega)
  have a3_1 := e3 (K + 1) (by omega)
  have a4_1 := e4 (K + 1) (by omega)
  have a5_1 := e5 (K + 1) (by omega)
  have a6_1 := e6 (K + 1) (by omega)
  have a7_1 := e7 (K + 1) (by omega)
  have a8_1 := e8 (K + 1) (by omega)
  have a9_1 := e9 (K + 1) (by omega)
  have a10_1 := e10 (K + 1) (by omega)
  have a11_1 := e11 (K + 1) (by omega)
  have a1_0 := e1 K (by omega)
  have a2_0 := e2 K (by omega)
  have a3_0 := e3 K (by omega)
  have a4_0 := e4 K (by omega)
  have a5_0 := e5 K (by omega)
  have a6_0 := e6 K (by omega)
  have a7_0 := e7 K (by omega)
  have a8_0 := e8 K (by omega)
  have a9_0 := e9 K (by omega)
  have a10_0 := e10 K (by omega)
  have a11_0 := e11 K (by omega)
  have n0 : (1 + (a.length : Int) < 0) = False := eq_false (by omega)
  have n1 : (1 + (a.length : Int) + (b.length : Int) < 0) = False := eq_false (by omega)
  have n2 : (1 + (v.1.length : Int) < 0) = False := eq_false (by omega)
  simp only [laws_FnExactDivideWeights.f, laws_FnExactDivideWeights.j0, laws_FnExactDivideWeights.j1, laws_FnExactDivideWeights.j2, if_neg h00, if_neg h01, a1_3, a2_3, a3_3, a4_3, a5_3, a6_3, a7_3, a8_3, a9_3, a10_3, a11_3, a1_2, a2_2, a3_2, a4_2, a5_2, a6_2, a7_2, a8_2, a9_2, a10_2, a11_2, a1_1, a2_1, a3_1, a4_1, a5_1, a6_1, a7_1, a8_1, a9_1, a10_1, a11_1, a1_0, a2_0, a3_0, a4_0, a5_0, a6_0, a7_0, a8_0, a9_0, a10_0, a11_0, n0, n1, n2, Option.bind_some, bne_self_eq_false, Bool.false_eq_true, if_true, if_false]

end Go.Proofs.Ytepfkahbfnahmaa.Pure
