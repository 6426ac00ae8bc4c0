/- The plain statement behind the law FnWeightsMirrored: its walk's numbers answer true. Conditions: the given statement's own (each number is an int; each slice within the reach). -/
import Derived.Test.YtgancmcbldmjaaaQFnWeightsMirroredx0
import Derived.Test.YtgancmcbldmjaaaQFnWeightsMirroredx1
import Derived.Test.YtgancmcbldmjaaaQFnWeightsMirroredx2
import Derived.Test.YtgancmcbldmjaaaQFnWeightsMirroredx3
import Derived.Test.YtgancmcbldmjaaaQFnWeightsMirroredx4
import Derived.Test.YtgancmcbldmjaaaQFnWeightsMirroredx5
import Derived.Test.YtgancmcbldmjaaaQFnWeightsMirroredx6
import Derived.Test.YtgancmcbldmjaaaQFnWeightsMirroredx7
import Derived.Test.YtgancmcbldmjaaaQFnWeightsMirroredx8
import Derived.Test.YtgancmcbldmjaaaQFnWeightsMirroredx9
import Derived.Test.YtgancmcbldmjaaaQFnWeightsMirroredx10
import Derived.Test.YtgancmcbldmjaaaQFnWeightsMirroredx11
import Derived.Test.YtgancmcbldmjaaaQFnWeightsMirroredx12
import Derived.Test.YtgancmcbldmjaaaQFnWeightsMirroredx13
import Derived.Test.YtgancmcbldmjaaaQFnWeightsMirroredx14
import Derived.Test.YtgancmcbldmjaaaQFnWeightsMirroredx15
import Derived.Test.YtgancmcbldmjaaaQFnWeightsMirroredx16
import Derived.Test.YtgancmcbldmjaaaQFnWeightsMirroredx17
import Derived.Test.YtgancmcbldmjaaaBase
import Derived.Test.YtgancmcbldmjaaaMirror
namespace Go.Proofs.Ytgancmcbldmjaaa.Pure
open Go.RowKit Go.Proofs.Ytgancmcbldmjaaa.QFnWeightsMirrored Go.Proofs.YtgancmcbldmjaaaW.PrintWords Go.Proofs.YtgancmcbldmjaaaW.PrintLast Go.Proofs.YtgancmcbldmjaaaW.PrintMore Go.Proofs.Ytgancmcbldmjaaa.Base
set_option linter.unusedVariables false
set_option linter.unusedSimpArgs false

theorem spec_l1In_v (a b c : Int) : spec_l1In.f a b c = some (inR a b c) := inR_ge a b c

theorem spec_l1All_l (lo hi : Int) (xs : List Int) (hn : xs.length ≤ 1152921504606846976) : ∀ (r : List Int) (n k : Nat), xs.drop n = r → r.length < k → spec_l1All.l0 k lo hi xs (xs.length : Int) n = some (r.all fun x => inR x lo hi)
  | [], n, k, hd, hk => by
    obtain ⟨k, rfl⟩ := pred hk
    have := drop_nil hd
    simp only [spec_l1All.l0]; rw [if_neg (by omega)]; rfl
  | a :: r, n, k, hd, hk => by
    obtain ⟨k, rfl⟩ := pred hk
    obtain ⟨h1, h2, h3⟩ := drop_cons hd
    simp only [spec_l1All.l0]
    rw [if_pos (by omega), if_pos (by omega), if_pos (by omega), h2, spec_l1In_v, wrap_nat h1 hn]; simp only [Option.bind_some, List.all_cons]
    cases h : inR a lo hi
    · simp
    · simp only [if_true, Bool.true_and]
      exact spec_l1All_l lo hi xs hn r (n + 1) k h3 (by simp at hk; omega)
theorem spec_l1All_e (lo hi : Int) (xs : List Int) (hn : xs.length ≤ 1152921504606846976) : Ev (fun k => spec_l1All.f k xs lo hi) (xs.all fun x => inR x lo hi) :=
  ⟨xs.length + 1, fun k hk => spec_l1All_l lo hi xs hn xs 0 k rfl (by omega)⟩

theorem spec_weGood_e (xs : List Int) (hn : xs.length ≤ 1152921504606846976) : Ev (fun k => spec_weGood.f k xs) (weB xs) := by
  obtain ⟨K, e⟩ := spec_l1All_e (-1000) 1000 xs hn
  refine ⟨K, fun k hk => ?_⟩
  show spec_weGood.f k xs = some (weB xs)
  unfold spec_weGood.f weB
  simp only [e k hk, spec_l1In_v, Option.bind_some, bind_and]

theorem spec_GainAtHalf_l (xs : List Int) (hn : xs.length ≤ 1152921504606846976) : ∀ (r : List Int) (n k : Nat) (acc : Int), xs.drop n = r → Bd r → -4611686018427387904 ≤ acc - 100000 * r.length → acc + 100000 * r.length ≤ 4611686018427387904 → r.length < k → spec_GainAtHalf.l0 k acc xs (xs.length : Int) n = some (acc + alt (n % 2 == 0) r, true)
  | [], n, k, acc, hd, hb, ha, ha2, hk => by
    obtain ⟨k, rfl⟩ := pred hk
    have := drop_nil hd
    simp only [spec_GainAtHalf.l0]; rw [if_neg (by omega)]; cases (n % 2 == 0) <;> simp [alt]
  | a :: r, n, k, acc, hd, hb, ha, ha2, hk => by
    obtain ⟨k, rfl⟩ := pred hk
    obtain ⟨h1, h2, h3⟩ := drop_cons hd
    obtain ⟨b1, b2⟩ := hb.cons
    simp only [List.length_cons] at hk ha ha2
    simp only [spec_GainAtHalf.l0]
    rw [if_pos (by omega), if_pos (by omega), if_pos (by omega), h2, wrap_nat h1 hn, Int.tmod_eq_emod_of_nonneg (by omega : (0 : Int) ≤ n), wrap_id (x := (n : Int) % 2 * 2) (by omega) (by omega), wrap_id (x := 1 - (n : Int) % 2 * 2) (by omega) (by omega)]
    by_cases hp : n % 2 = 0
    · rw [show 1 - (n : Int) % 2 * 2 = 1 by omega, Int.mul_one, wrap_id (x := a) (by omega) (by omega), wrap_id (x := acc + a) (by omega) (by omega), spec_GainAtHalf_l xs hn r (n + 1) k (acc + a) h3 b2 (by omega) (by omega) (by omega)]
      rw [show (n % 2 == 0) = true by simpa using hp, show ((n + 1) % 2 == 0) = false by rw [beq_eq_false_iff_ne]; omega]
      simp [alt, Int.add_assoc]
    · rw [show 1 - (n : Int) % 2 * 2 = -1 by omega, show a * -1 = -a by omega, wrap_id (x := -a) (by omega) (by omega), wrap_id (x := acc + -a) (by omega) (by omega), spec_GainAtHalf_l xs hn r (n + 1) k (acc + -a) h3 b2 (by omega) (by omega) (by omega)]
      rw [show (n % 2 == 0) = false by rw [beq_eq_false_iff_ne]; exact hp, show ((n + 1) % 2 == 0) = true by rw [beq_iff_eq]; omega]
      simp [alt, Int.add_assoc]
theorem spec_GainAtHalf_e (xs : List Int) (hn : xs.length ≤ 1048576) : Ev (fun k => spec_GainAtHalf.f k xs) (if weB xs = true then (alt true xs, true) else (0, false)) := by
  obtain ⟨K1, e1⟩ := spec_weGood_e xs (by omega)
  cases h : weB xs
  · refine ⟨K1, fun k hk => ?_⟩
    show spec_GainAtHalf.f k xs = _
    unfold spec_GainAtHalf.f
    simp [e1 k hk, h]
  · have hb := weB_true h
    refine ⟨K1 + xs.length + 1, fun k hk => ?_⟩
    show spec_GainAtHalf.f k xs = _
    unfold spec_GainAtHalf.f
    have := spec_GainAtHalf_l xs (by omega) xs 0 k 0 rfl hb.2.2 (by omega) (by omega) (by omega)
    simp only [e1 k (by omega), h, Option.bind_some, if_true]
    simpa using this

theorem spec_weBack_l (xs : List Int) (hn : xs.length ≤ 1048576) : ∀ (n k : Nat) (out : List Int), n ≤ xs.length → out = (xs.drop n).reverse → n < k → spec_weBack.l0 k xs out ((n : Int) - 1) = some xs.reverse
  | 0, k, out, h1, ho, hk => by
    obtain ⟨k, rfl⟩ := pred hk
    simp only [spec_weBack.l0]; rw [if_neg (by omega), ho]; simp
  | n + 1, k, out, h1, ho, hk => by
    obtain ⟨k, rfl⟩ := pred hk
    have hl : out.length ≤ xs.length := by rw [ho]; simp
    simp only [spec_weBack.l0]
    rw [if_pos (by omega), if_pos (by omega), if_pos (by omega), if_pos (by omega), wrap_id (by omega) (by omega), show ((n + 1 : Nat) : Int) - 1 = (n : Int) by omega, rd_nat xs n (by omega)]
    refine spec_weBack_l xs hn n k _ (by omega) ?_ (by omega)
    rw [ho, List.drop_eq_getElem_cons (show n < xs.length by omega), List.reverse_cons]
theorem spec_weBack_e (xs : List Int) (hn : xs.length ≤ 1048576) : Ev (fun k => spec_weBack.f k xs) xs.reverse :=
  ⟨xs.length + 1, fun k hk => by
    show spec_weBack.f k xs = _
    unfold spec_weBack.f
    rw [wrap_id (by omega) (by omega)]
    exact spec_weBack_l xs hn xs.length k [] (by omega) (by simp) (by omega)⟩

theorem spec_wdScale_l (xs : List Int) (c : Int) (hc : -1000 ≤ c ∧ c ≤ 1000) (hn : xs.length ≤ 1152921504606846976) : ∀ (r : List Int) (n k : Nat) (out : List Int), xs.drop n = r → Bd r → out.length + r.length ≤ 1099511627776 → r.length < k → spec_wdScale.l0 k c out xs (xs.length : Int) n = some (out ++ r.map fun x => x * c)
  | [], n, k, out, hd, hb, ho, hk => by
    obtain ⟨k, rfl⟩ := pred hk
    have := drop_nil hd
    simp only [spec_wdScale.l0]; rw [if_neg (by omega)]; simp
  | a :: r, n, k, out, hd, hb, ho, hk => by
    obtain ⟨k, rfl⟩ := pred hk
    obtain ⟨h1, h2, h3⟩ := drop_cons hd
    obtain ⟨b1, b2⟩ := hb.cons
    simp only [List.length_cons] at hk ho
    have hm := mul_bd b1 (show -100000 ≤ c ∧ c ≤ 100000 by omega)
    simp only [spec_wdScale.l0]
    rw [if_pos (by omega), if_pos (by omega), if_pos (by omega), if_pos (by omega), h2, wrap_nat h1 hn, Int.mul_comm c a, wrap_id (x := a * c) (by omega) (by omega)]
    rw [spec_wdScale_l xs c hc hn r (n + 1) k _ h3 b2 (by simp; omega) (by omega)]
    simp
theorem spec_wdScale_e (xs : List Int) (c : Int) (hc : -1000 ≤ c ∧ c ≤ 1000) (hn : xs.length ≤ 1048576) (hb : Bd xs) : Ev (fun k => spec_wdScale.f k xs c) (xs.map fun x => x * c) :=
  ⟨xs.length + 1, fun k hk => by
    have := spec_wdScale_l xs c hc (by omega) xs 0 k [] rfl hb (by simp; omega) (by omega)
    simpa [spec_wdScale.f] using this⟩

/-- Bytes: what a list of u8 holds. -/
def Bytes (l : List Int) : Prop := ∀ x ∈ l, 0 ≤ x ∧ x ≤ 255
theorem rd_bytes {l : List Int} (h : Bytes l) (i : Int) : 0 ≤ rd l i ∧ rd l i ≤ 255 := by
  unfold rd
  by_cases hi : i.toNat < l.length
  · rw [show l.getD i.toNat 0 = l[i.toNat] by simp [List.getD, hi]]; exact h _ (List.getElem_mem hi)
  · rw [show l.getD i.toNat 0 = 0 by simp [List.getD, show l.length ≤ i.toNat by omega]]; omega
theorem u64_wrap_bd (x : Int) : 0 ≤ IntKind.u64.wrap x ∧ IntKind.u64.wrap x < 18446744073709551616 := by
  rw [show IntKind.u64.wrap x = x % 18446744073709551616 from by simp [IntKind.wrap, IntKind.signed, IntKind.bits]]
  exact ⟨Int.emod_nonneg _ (by omega), Int.emod_lt_of_pos _ (by omega)⟩
theorem high_byte (x : Int) : 0 ≤ wrap64 (Go.bits .and .u64 ((IntKind.u64.wrap x) / 1099511627776) 255) := by
  have h := u64_wrap_bd x
  generalize IntKind.u64.wrap x = y at h
  have h1 : 0 ≤ y / 1099511627776 := Int.ediv_nonneg h.1 (by omega)
  have h2 : y / 1099511627776 < 18446744073709551616 := by omega
  rw [Go.u64_and (y / 1099511627776) 255 h1 h2 (by omega) (by omega), show (255 : Int).toNat = 255 from rfl]
  have h3 : (y / 1099511627776).toNat &&& (255 : Nat) ≤ 255 := Nat.and_le_right
  rw [wrap_id (by omega) (by omega)]
  omega
theorem spec_l1Cur_next_v (l : List Int) (hl : Bytes l) (hn : l.length ≤ 1152921504606846976) (s1 s2 : Int) (h0 : 0 ≤ s1) (h1 : s1 ≤ 1000000000000) : ∃ v s2', spec_l1Cur_next.f l s1 s2 = some (v, s1 + 1, s2') ∧ 0 ≤ v := by
  have e : wrap64 (s1 + 1) = s1 + 1 := wrap_id (by omega) (by omega)
  unfold spec_l1Cur_next.f
  rw [e]
  by_cases c1 : s1 < (l.length : Int)
  · rw [if_pos c1, if_pos h0, if_pos (by omega)]
    have hr := rd_bytes hl s1
    exact ⟨_, _, rfl, by rw [wrap_id (by omega) (by omega)]; exact hr.1⟩
  · rw [if_neg c1]
    by_cases c2 : s1 + 1 ≤ (l.length : Int)
    · omega
    · rw [if_neg c2]
      exact ⟨_, _, rfl, high_byte _⟩

theorem tmod_small {v n : Int} (hv : 0 ≤ v) (hn : 0 < n) : 0 ≤ Int.tmod v n ∧ Int.tmod v n < n := by
  rw [Int.tmod_eq_emod_of_nonneg hv]
  exact ⟨Int.emod_nonneg _ (by omega), Int.emod_lt_of_pos _ hn⟩
theorem spec_l1Cur_pick_v (l : List Int) (hl : Bytes l) (hn : l.length ≤ 1152921504606846976) (s1 s2 n : Int) (h0 : 0 ≤ s1) (h1 : s1 ≤ 1000000000000) (n1 : 2 ≤ n) (n2 : n ≤ 200) : ∃ v s2', spec_l1Cur_pick.f l s1 s2 n = some (v, s1 + 1, s2') ∧ 0 ≤ v ∧ v < n := by
  obtain ⟨v, s2', e, hv⟩ := spec_l1Cur_next_v l hl hn s1 s2 h0 h1
  refine ⟨Int.tmod v n, s2', ?_, tmod_small hv (by omega)⟩
  unfold spec_l1Cur_pick.f
  rw [if_neg (by omega), e]
  simp only [Option.bind_some]
  rw [if_neg (by omega), if_neg (by omega)]

theorem spec_l1Cur_among_v (l : List Int) (hl : Bytes l) (hn : l.length ≤ 1152921504606846976) (s1 s2 : Int) (xs : List Int) (h0 : 0 ≤ s1) (h1 : s1 ≤ 1000000000000) (n1 : 2 ≤ xs.length) (n2 : xs.length ≤ 200) : ∃ v s2', spec_l1Cur_among.f l s1 s2 xs = some (v, s1 + 1, s2') := by
  obtain ⟨v, s2', e, b1, b2⟩ := spec_l1Cur_pick_v l hl hn s1 s2 (xs.length : Int) h0 h1 (by omega) (by omega)
  refine ⟨rd xs v, s2', ?_⟩
  unfold spec_l1Cur_among.f
  rw [e]
  simp only [Option.bind_some]
  rw [if_pos b1, if_pos b2]

theorem spec_l1Cur_one_v (l : List Int) (hl : Bytes l) (hn : l.length ≤ 1152921504606846976) (s1 s2 n : Int) (h0 : 0 ≤ s1) (h1 : s1 ≤ 1000000000000) (n1 : 2 ≤ n) (n2 : n ≤ 200) : ∃ b s2', spec_l1Cur_one.f l s1 s2 n = some (b, s1 + 1, s2') := by
  obtain ⟨v, s2', e, _⟩ := spec_l1Cur_pick_v l hl hn s1 s2 n h0 h1 n1 n2
  exact ⟨_, s2', by unfold spec_l1Cur_one.f; rw [e]; rfl⟩

theorem spec_l1Cur_among2_v (l : List Int) (hl : Bytes l) (hn : l.length ≤ 1152921504606846976) (s1 s2 : Int) (a b : List Int) (h0 : 0 ≤ s1) (h1 : s1 ≤ 1000000000000) : ∃ v s2', spec_l1Cur_among2.f l s1 s2 a b = some (v, s1 + 1, s2') ∧ (v = a ∨ v = b) := by
  obtain ⟨c, s2', e⟩ := spec_l1Cur_one_v l hl hn s1 s2 2 h0 h1 (by omega) (by omega)
  unfold spec_l1Cur_among2.f
  rw [e]
  cases c
  · exact ⟨b, s2', by simp, .inr rfl⟩
  · exact ⟨a, s2', by simp, .inl rfl⟩

theorem spec_l1Cur_weights_l (l : List Int) (hl : Bytes l) (hn : l.length ≤ 1048576) : ∀ (d : Nat) (out : List Int) (s1 s2 : Int), out.length + d ≤ 20 → Bd out → 0 ≤ s1 → s1 + d ≤ 1000 →
    ∃ (v : List Int) (t1 t2 : Int), Ev (fun k => spec_l1Cur_weights.l0 k out d l s1 s2) (v, t1, t2) ∧ v.length ≤ 50 ∧ 0 ≤ t1 ∧ t1 ≤ 1010
  | 0, out, s1, s2, ho, hb, h0, h1 => by
    obtain ⟨p, q2, e, b1, b2⟩ := spec_l1Cur_pick_v l hl (by omega) s1 s2 16 h0 (by omega) (by omega) (by omega)
    obtain ⟨KB, eB⟩ := spec_weBack_e out (by omega)
    dsimp only at eB
    have hbr : Bd out.reverse := fun x hx => hb x (by simpa using hx)
    obtain ⟨KS, eS⟩ := spec_wdScale_e out.reverse (-1) (by omega) (by simp; omega) hbr
    dsimp only at eS
    have key : ∃ (v : List Int) (t1 t2 : Int), (∀ k, KB + KS ≤ k → spec_l1Cur_weights.l0 (k + 1) out ((0 : Nat) : Int) l s1 s2 = some (v, t1, t2)) ∧ v.length ≤ 50 ∧ 0 ≤ t1 ∧ t1 ≤ 1010 := by
      simp only [spec_l1Cur_weights.l0, e, Option.bind_some]
      have z0 : ¬ ((0 : Nat) : Int) > 0 := by omega
      by_cases c0 : p = 0
      · obtain ⟨v, r2, e2, hv⟩ := spec_l1Cur_among2_v l hl (by omega) (s1 + 1) q2 out [] (by omega) (by omega)
        refine ⟨v, s1 + 1 + 1, r2, fun k hk => ?_, ?_, by omega, by omega⟩
        · rw [if_neg z0, if_pos c0, e2]; rfl
        · rcases hv with rfl | rfl
          · omega
          · simp
      by_cases c1 : p = 1
      · obtain ⟨v, r2, e2⟩ := spec_l1Cur_among_v l hl (by omega) (s1 + 1) q2 [1000, (-1000), 1001, 4611686018427387904] (by omega) (by omega) (by simp) (by simp)
        refine ⟨out ++ [v], s1 + 1 + 1, r2, fun k hk => ?_, by simp; omega, by omega, by omega⟩
        rw [if_neg z0, if_neg c0, if_pos c1, e2]
        simp only [Option.bind_some]
        rw [if_pos (by omega)]
      by_cases c2 : p = 2
      · obtain ⟨v, r2, e2, b3, b4⟩ := spec_l1Cur_pick_v l hl (by omega) (s1 + 1) q2 2 (by omega) (by omega) (by omega) (by omega)
        refine ⟨List.replicate (9 + v).toNat 0, s1 + 1 + 1, r2, fun k hk => ?_, by simp; omega, by omega, by omega⟩
        rw [if_neg z0, if_neg c0, if_neg c1, if_pos c2, e2]
        simp only [Option.bind_some]
        rw [wrap_id (x := 9 + v) (by omega) (by omega), if_pos (by omega), if_pos (by omega)]
      by_cases c3 : p = 3
      · refine ⟨out.reverse ++ out, s1 + 1, q2, fun k hk => ?_, by simp; omega, by omega, by omega⟩
        rw [if_neg z0, if_neg c0, if_neg c1, if_neg c2, if_pos c3, eB k (by omega)]
        simp only [Option.bind_some]
        rw [if_pos (by simp; omega)]
      by_cases c4 : p = 4
      · refine ⟨(out.reverse.map fun x => x * (-1)) ++ out, s1 + 1, q2, fun k hk => ?_, by simp; omega, by omega, by omega⟩
        rw [if_neg z0, if_neg c0, if_neg c1, if_neg c2, if_neg c3, if_pos c4, eB k (by omega)]
        simp only [Option.bind_some]
        rw [eS k (by omega)]
        simp only [Option.bind_some]
        rw [if_pos (by simp; omega)]
      · refine ⟨out, s1 + 1, q2, fun k hk => ?_, by omega, by omega, by omega⟩
        rw [if_neg z0, if_neg c0, if_neg c1, if_neg c2, if_neg c3, if_neg c4]
    obtain ⟨v, t1, t2, hk, r⟩ := key
    refine ⟨v, t1, t2, ⟨KB + KS + 1, fun k h => ?_⟩, r⟩
    obtain ⟨k, rfl⟩ := pred (show KB + KS < k by omega)
    exact hk k (by omega)
  | d + 1, out, s1, s2, ho, hb, h0, h1 => by
    obtain ⟨p, q2, e, b1, b2⟩ := spec_l1Cur_pick_v l hl (by omega) s1 s2 9 h0 (by omega) (by omega) (by omega)
    obtain ⟨v, t1, t2, ⟨K, hk⟩, r⟩ := spec_l1Cur_weights_l l hl hn d (out ++ [p - 4]) (s1 + 1) q2 (by simp; omega) (hb.snoc (by omega)) (by omega) (by omega)
    dsimp only at hk
    refine ⟨v, t1, t2, ⟨K + 1, fun k h => ?_⟩, r⟩
    obtain ⟨k, rfl⟩ := pred (show K < k by omega)
    show spec_l1Cur_weights.l0 (k + 1) out ((d + 1 : Nat) : Int) l s1 s2 = _
    have := hk k (by omega)
    simp only [spec_l1Cur_weights.l0]
    rw [if_pos (by omega), e]
    simp only [Option.bind_some]
    rw [if_pos (by omega), wrap_id (x := p - 4) (by omega) (by omega), wrap_id (x := ((d + 1 : Nat) : Int) - 1) (by omega) (by omega), show ((d + 1 : Nat) : Int) - 1 = (d : Int) by omega]
    exact this
theorem spec_l1Cur_weights_e (l : List Int) (hl : Bytes l) (hn : l.length ≤ 1048576) : ∃ (v : List Int) (t1 t2 : Int), Ev (fun k => spec_l1Cur_weights.f k l 0 0) (v, t1, t2) ∧ v.length ≤ 50 ∧ 0 ≤ t1 ∧ t1 ≤ 1010 := by
  obtain ⟨p, q2, e, b1, b2⟩ := spec_l1Cur_pick_v l hl (by omega) 0 0 5 (by omega) (by omega) (by omega) (by omega)
  obtain ⟨v, t1, t2, ⟨K, hk⟩, r⟩ := spec_l1Cur_weights_l l hl hn (1 + p).toNat [] (0 + 1) q2 (by simp; omega) (fun x hx => by cases hx) (by omega) (by omega)
  dsimp only at hk
  refine ⟨v, t1, t2, ⟨K, fun k h => ?_⟩, r⟩
  show spec_l1Cur_weights.f k l 0 0 = _
  have := hk k h
  unfold spec_l1Cur_weights.f
  rw [e]
  simp only [Option.bind_some]
  rw [wrap_id (x := 1 + p) (by omega) (by omega)]
  rw [show (((1 + p).toNat : Nat) : Int) = 1 + p by omega] at this
  exact this

theorem spec_DrawIsWeights_e (l : List Int) (hl : Bytes l) (hn : l.length ≤ 1048576) : ∃ v : List Int, Ev (fun k => spec_DrawIsWeights.f k l) v ∧ v.length ≤ 50 := by
  obtain ⟨v, t1, t2, ⟨K, e⟩, h, _⟩ := spec_l1Cur_weights_e l hl hn
  dsimp only at e
  exact ⟨v, ⟨K, fun k hk => by show spec_DrawIsWeights.f k l = _; unfold spec_DrawIsWeights.f; rw [e k hk]; rfl⟩, h⟩

theorem spec_DrawIsSymmetric_e (l : List Int) (hl : Bytes l) (hn : l.length ≤ 1048576) : ∃ v : List Int, Ev (fun k => spec_DrawIsSymmetric.f k l) v ∧ v.length ≤ 50 := by
  obtain ⟨v, ⟨K, e⟩, h⟩ := spec_DrawIsWeights_e l hl hn
  dsimp only at e
  exact ⟨v, ⟨K, fun k hk => by show spec_DrawIsSymmetric.f k l = _; unfold spec_DrawIsSymmetric.f; rw [e k hk]; rfl⟩, h⟩

theorem spec_weSame_l (a b : List Int) (hn : a.length ≤ 1152921504606846976) (hl : a.length = b.length) : ∀ (r : List Int) (n k : Nat), a.drop n = r → r.length < k → spec_weSame.l0 k a b (a.length : Int) n = some (decide (r = b.drop n))
  | [], n, k, hd, hk => by
    obtain ⟨k, rfl⟩ := pred hk
    have := drop_nil hd
    simp only [spec_weSame.l0]; rw [if_neg (by omega)]
    have : b.drop n = [] := List.drop_eq_nil_of_le (by omega)
    simp [this]
  | x :: r, n, k, hd, hk => by
    obtain ⟨k, rfl⟩ := pred hk
    obtain ⟨h1, h2, h3⟩ := drop_cons hd
    have hb : b.drop n = b[n] :: b.drop (n + 1) := List.drop_eq_getElem_cons (by omega)
    obtain ⟨g1, g2, g3⟩ := drop_cons hb
    simp only [spec_weSame.l0]
    rw [if_pos (by omega), if_pos (by omega), if_pos (by omega), if_pos (by omega), h2, g2, wrap_nat h1 hn, hb]
    by_cases c : x = b[n]
    · rw [if_pos c, spec_weSame_l a b hn hl r (n + 1) k h3 (by simp at hk; omega)]; congr 1; exact decide_eq_decide.mpr ⟨fun h => by rw [h, c], fun h => (List.cons.inj h).2⟩
    · rw [if_neg c, decide_eq_false (fun h => c (List.cons.inj h).1)]
theorem spec_weSame_e (a b : List Int) (hn : a.length ≤ 1152921504606846976) : Ev (fun k => spec_weSame.f k a b) (decide (a = b)) :=
  ⟨a.length + 1, fun k hk => by
    show spec_weSame.f k a b = _
    unfold spec_weSame.f
    by_cases hl : a.length = b.length
    · rw [if_pos (by omega)]
      have := spec_weSame_l a b hn hl a 0 k rfl (by omega)
      rw [show ((0 : Nat) : Int) = 0 from rfl] at this
      simpa using this
    · rw [if_neg (by omega)]
      have : a ≠ b := fun h => hl (by rw [h])
      simp [this]⟩

theorem spec_IsSymmetric_e (xs : List Int) (hn : xs.length ≤ 1048576) : Ev (fun k => spec_IsSymmetric.f k xs) (if weB xs = true then (decide (xs.reverse = xs), true) else (false, false)) := by
  obtain ⟨K1, e1⟩ := spec_weGood_e xs (by omega)
  obtain ⟨K2, e2⟩ := spec_weBack_e xs hn
  obtain ⟨K3, e3⟩ := spec_weSame_e xs xs.reverse (by omega)
  refine ⟨K1 + K2 + K3, fun k hk => ?_⟩
  show spec_IsSymmetric.f k xs = _
  unfold spec_IsSymmetric.f
  cases h : weB xs
  · simp [e1 k (by omega), h]
  · simp only [e1 k (by omega), e2 k (by omega), e3 k (by omega), h, Option.bind_some, if_true]
    rw [show decide (xs = xs.reverse) = decide (xs.reverse = xs) from decide_eq_decide.mpr eq_comm]

theorem Bd_rev {l : List Int} (h : Bd l) : Bd l.reverse := fun x hx => h x (List.mem_reverse.mp hx)
theorem spec_IsMirrored_e (xs : List Int) (hn : xs.length ≤ 1048576) : Ev (fun k => spec_IsMirrored.f k xs) (if weB xs = true then (decide ((xs.reverse.map fun x => x * -1) = xs), true) else (false, false)) := by
  obtain ⟨K1, e1⟩ := spec_weGood_e xs (by omega)
  cases h : weB xs
  · refine ⟨K1, fun k hk => ?_⟩
    show spec_IsMirrored.f k xs = _
    unfold spec_IsMirrored.f
    simp [e1 k (by omega), h]
  · obtain ⟨K2, e2⟩ := spec_weBack_e xs hn
    obtain ⟨K3, e3⟩ := spec_wdScale_e xs.reverse (-1) (by omega) (by simp; omega) (Bd_rev (weB_true h).2.2)
    obtain ⟨K4, e4⟩ := spec_weSame_e xs (xs.reverse.map fun x => x * -1) (by omega)
    refine ⟨K1 + K2 + K3 + K4, fun k hk => ?_⟩
    show spec_IsMirrored.f k xs = _
    unfold spec_IsMirrored.f
    simp only [e1 k (by omega), e2 k (by omega), e3 k (by omega), e4 k (by omega), h, Option.bind_some, if_true]
    rw [show decide (xs = xs.reverse.map fun x => x * -1) = decide ((xs.reverse.map fun x => x * -1) = xs) from decide_eq_decide.mpr eq_comm]

theorem spec_BackWeights_e (xs : List Int) (hn : xs.length ≤ 1048576) : Ev (fun k => spec_BackWeights.f k xs) (if weB xs = true then (xs.reverse, true) else ([], false)) := by
  obtain ⟨K1, e1⟩ := spec_weGood_e xs (by omega)
  obtain ⟨K2, e2⟩ := spec_weBack_e xs hn
  refine ⟨K1 + K2, fun k hk => ?_⟩
  show spec_BackWeights.f k xs = _
  unfold spec_BackWeights.f
  cases h : weB xs <;> simp [e1 k (by omega), e2 k (by omega), h]

theorem spec_wdSum_l (xs : List Int) (hn : xs.length ≤ 1152921504606846976) : ∀ (r : List Int) (n k : Nat) (acc : Int), xs.drop n = r → Bd r → -4611686018427387904 ≤ acc - 100000 * r.length → acc + 100000 * r.length ≤ 4611686018427387904 → r.length < k → spec_wdSum.l0 k acc xs (xs.length : Int) n = some (acc + r.sum)
  | [], n, k, acc, hd, hb, ha, ha2, hk => by
    obtain ⟨k, rfl⟩ := pred hk
    have := drop_nil hd
    simp only [spec_wdSum.l0]; rw [if_neg (by omega)]; simp
  | a :: r, n, k, acc, hd, hb, ha, ha2, hk => by
    obtain ⟨k, rfl⟩ := pred hk
    obtain ⟨h1, h2, h3⟩ := drop_cons hd
    obtain ⟨b1, b2⟩ := hb.cons
    simp only [List.length_cons] at hk ha ha2
    simp only [spec_wdSum.l0]
    rw [if_pos (by omega), if_pos (by omega), if_pos (by omega), h2, wrap_nat h1 hn, wrap_id (x := acc + a) (by omega) (by omega)]
    rw [spec_wdSum_l xs hn r (n + 1) k (acc + a) h3 b2 (by omega) (by omega) (by omega)]
    simp [Int.add_assoc]
theorem spec_wdSum_e (xs : List Int) (hn : xs.length ≤ 1048576) (hb : Bd xs) : Ev (fun k => spec_wdSum.f k xs) xs.sum :=
  ⟨xs.length + 1, fun k hk => by
    show spec_wdSum.f k xs = some xs.sum
    have := spec_wdSum_l xs (by omega) xs 0 k 0 rfl hb (by omega) (by omega) (by omega)
    simpa [spec_wdSum.f] using this⟩

theorem spec_GainOf_e (xs : List Int) (hn : xs.length ≤ 1048576) : Ev (fun k => spec_GainOf.f k xs) (if weB xs = true then (xs.sum, true) else (0, false)) := by
  obtain ⟨K1, e1⟩ := spec_weGood_e xs (by omega)
  cases h : weB xs
  · refine ⟨K1, fun k hk => ?_⟩
    show spec_GainOf.f k xs = _
    unfold spec_GainOf.f
    simp [e1 k hk, h]
  · obtain ⟨K2, e2⟩ := spec_wdSum_e xs hn (weB_true h).2.2
    refine ⟨K1 + K2, fun k hk => ?_⟩
    show spec_GainOf.f k xs = _
    unfold spec_GainOf.f
    simp [e1 k (by omega), e2 k (by omega), h]

theorem spec_l1Most_v (a b : Int) : spec_l1Most.f a b = some (max a b) := by
  unfold spec_l1Most.f
  split <;> (congr 1; omega)

theorem spec_l1Abs_v (a : Int) (h : -9223372036854775807 ≤ a) (h2 : a ≤ 9223372036854775807) : spec_l1Abs.f a = some (absM a) := by
  simp only [spec_l1Abs.f, spec_l1Most_v, Option.bind_some]
  rw [wrap_id (by omega) (by omega)]; rfl

theorem spec_weSize_l (xs : List Int) (hn : xs.length ≤ 1152921504606846976) : ∀ (r : List Int) (n k : Nat) (acc : Int), xs.drop n = r → Bd r → 0 ≤ acc → acc + 100000 * r.length ≤ 4611686018427387904 → r.length < k → spec_weSize.l0 k acc xs (xs.length : Int) n = some (acc + absSum r)
  | [], n, k, acc, hd, hb, ha, ha2, hk => by
    obtain ⟨k, rfl⟩ := pred hk
    have := drop_nil hd
    simp only [spec_weSize.l0]; rw [if_neg (by omega)]; simp [absSum]
  | a :: r, n, k, acc, hd, hb, ha, ha2, hk => by
    obtain ⟨k, rfl⟩ := pred hk
    obtain ⟨h1, h2, h3⟩ := drop_cons hd
    obtain ⟨b1, b2⟩ := hb.cons
    have s1 : 0 ≤ absM a ∧ absM a ≤ 100000 := by unfold absM; omega
    simp only [List.length_cons] at hk ha ha2
    simp only [spec_weSize.l0]
    rw [if_pos (by omega), if_pos (by omega), if_pos (by omega), h2, wrap_nat h1 hn, spec_l1Abs_v a (by omega) (by omega)]
    simp only [Option.bind_some]
    rw [wrap_id (x := acc + absM a) (by omega) (by omega), spec_weSize_l xs hn r (n + 1) k (acc + absM a) h3 b2 (by omega) (by omega) (by omega)]
    simp [absSum, Int.add_assoc]
theorem spec_weSize_e (xs : List Int) (hn : xs.length ≤ 1048576) (hb : Bd xs) : Ev (fun k => spec_weSize.f k xs) (absSum xs) :=
  ⟨xs.length + 1, fun k hk => by
    show spec_weSize.f k xs = _
    have := spec_weSize_l xs (by omega) xs 0 k 0 rfl hb (by omega) (by omega) (by omega)
    simpa [spec_weSize.f] using this⟩

theorem spec_SizeGain_e (xs : List Int) (hn : xs.length ≤ 1048576) : Ev (fun k => spec_SizeGain.f k xs) (if weB xs = true then (absSum xs, true) else (0, false)) := by
  obtain ⟨K1, e1⟩ := spec_weGood_e xs (by omega)
  cases h : weB xs
  · refine ⟨K1, fun k hk => ?_⟩
    show spec_SizeGain.f k xs = _
    unfold spec_SizeGain.f
    simp [e1 k hk, h]
  · obtain ⟨K2, e2⟩ := spec_weSize_e xs hn (weB_true h).2.2
    refine ⟨K1 + K2, fun k hk => ?_⟩
    show spec_SizeGain.f k xs = _
    unfold spec_SizeGain.f
    simp [e1 k (by omega), e2 k (by omega), h]

theorem spec_l1Has_l (L : List Int) (t : Int) (hn : L.length ≤ 1152921504606846976) : ∀ (r : List Int) (n k : Nat), L.drop n = r → r.length < k → spec_l1Has.l0 k t L (L.length : Int) n = some (r.any fun y => decide (y = t))
  | [], n, k, hd, hk => by
    obtain ⟨k, rfl⟩ := pred hk
    have := drop_nil hd
    simp only [spec_l1Has.l0]; rw [if_neg (by omega)]; rfl
  | a :: r, n, k, hd, hk => by
    obtain ⟨k, rfl⟩ := pred hk
    obtain ⟨h1, h2, h3⟩ := drop_cons hd
    simp only [spec_l1Has.l0]
    rw [if_pos (by omega), if_pos (by omega), if_pos (by omega), h2]
    by_cases c : a = t
    · rw [if_pos c]; simp [c]
    · rw [if_neg c, wrap_nat h1 hn, spec_l1Has_l L t hn r (n + 1) k h3 (by simp at hk; omega)]; simp [c]
theorem spec_l1Has_e (L : List Int) (t : Int) (hn : L.length ≤ 1048576) : Ev (fun k => spec_l1Has.f k L t) (L.any fun y => decide (y = t)) :=
  ⟨L.length + 1, fun k hk => spec_l1Has_l L t (by omega) L 0 k rfl (by omega)⟩

def addI (L : List Int) (x : Int) : List Int := if (L.any fun y => decide (y = x)) = true then L else L ++ [x]
def foldedM : List Int → List Int → List Int
  | L, [] => L
  | L, x :: r => if x = 0 then foldedM L r else foldedM (addI L (absM x)) r
theorem spec_FoldedProducts_l (S : List Int) (hS : S.length ≤ 9) (hb : ∀ x ∈ S, -1000 ≤ x ∧ x ≤ 1000) : ∀ (r : List Int) (n : Nat) (L : List Int), S.drop n = r → n ≤ S.length → L.length ≤ n → Ev (fun k => spec_FoldedProducts.l0 k L S (S.length : Int) n) (((foldedM L r).length : Int), true)
  | [], n, L, hd, hn, hL => by
    refine ⟨1, fun k hk => ?_⟩
    obtain ⟨k, rfl⟩ := pred (show 0 < k by omega)
    have := drop_nil hd
    show spec_FoldedProducts.l0 (k + 1) L S (S.length : Int) n = _
    simp only [spec_FoldedProducts.l0, foldedM]
    rw [if_neg (by omega)]
  | x :: r, n, L, hd, hn, hL => by
    obtain ⟨g1, g2, g3⟩ := drop_cons hd
    have hx : -1000 ≤ x ∧ x ≤ 1000 := by
      apply hb
      rw [← g2, rd_nat S n g1]
      exact List.getElem_mem g1
    by_cases c : x = 0
    · obtain ⟨K, e⟩ := spec_FoldedProducts_l S hS hb r (n + 1) L g3 (by omega) (by omega)
      refine ⟨K + 1, fun k hk => ?_⟩
      obtain ⟨k, rfl⟩ := pred (show K < k by omega)
      show spec_FoldedProducts.l0 (k + 1) L S (S.length : Int) n = _
      have := e k (by omega)
      simp only [spec_FoldedProducts.l0, foldedM]
      rw [if_pos (by omega), if_pos (by omega), if_pos (by omega), g2, if_pos c, if_pos c, wrap_nat g1 (by omega)]
      exact this
    · obtain ⟨K1, e1⟩ := spec_l1Has_e L (absM x) (by omega)
      obtain ⟨K, e⟩ := spec_FoldedProducts_l S hS hb r (n + 1) (addI L (absM x)) g3 (by omega) (by unfold addI; split; { omega }; { rw [List.length_append, List.length_singleton]; omega })
      refine ⟨K + K1 + 1, fun k hk => ?_⟩
      obtain ⟨k, rfl⟩ := pred (show K + K1 < k by omega)
      show spec_FoldedProducts.l0 (k + 1) L S (S.length : Int) n = _
      have := e k (by omega)
      simp only [spec_FoldedProducts.l0, foldedM]
      rw [if_pos (by omega), if_pos (by omega), if_pos (by omega), g2, if_neg c, if_neg c, spec_l1Abs_v x (by omega) (by omega)]
      simp only [Option.bind_some, e1 k (by omega)]
      rw [wrap_nat g1 (by omega)]
      unfold addI at this ⊢
      cases c2 : L.any fun y => decide (y = absM x)
      · rw [c2] at this
        simp only [Bool.false_eq_true, if_false] at this ⊢
        rw [if_pos (by omega)]
        exact this
      · rw [c2] at this
        simp only [if_true] at this ⊢
        exact this
theorem spec_FoldedProducts_e (xs : List Int) (hn : xs.length ≤ 1048576) : Ev (fun k => spec_FoldedProducts.f k xs) (if weB xs = true then (((foldedM [] xs).length : Int), true) else (0, false)) := by
  obtain ⟨K1, e1⟩ := spec_weGood_e xs (by omega)
  cases c : weB xs
  · refine ⟨K1, fun k hk => ?_⟩
    show spec_FoldedProducts.f k xs = _
    unfold spec_FoldedProducts.f
    simp [e1 k (by omega), c]
  · have wl := weB_true c
    obtain ⟨K2, e2⟩ := spec_FoldedProducts_l xs wl.1.2 wl.2.1 xs 0 [] rfl (by omega) (by simp)
    refine ⟨K1 + K2, fun k hk => ?_⟩
    show spec_FoldedProducts.f k xs = _
    unfold spec_FoldedProducts.f
    simp only [e1 k (by omega), c, Option.bind_some, if_true]
    exact e2 k (by omega)

theorem spec_IsWeights_e (xs : List Int) (hn : xs.length ≤ 1152921504606846976) : Ev (fun k => spec_IsWeights.f k xs) (weB xs) := by
  obtain ⟨K, e⟩ := spec_weGood_e xs hn
  dsimp only at e
  exact ⟨K, fun k hk => by show spec_IsWeights.f k xs = _; unfold spec_IsWeights.f; rw [e k hk]; rfl⟩

theorem spec_DrawInverseAnswer_g (l : List Int) (hl : Bytes l) (hn : l.length ≤ 1048576) (h : List Int) (s1 s2 : Int) (h0 : 0 ≤ s1) (h1 : s1 ≤ 2000) : ∃ n : Int, spec_DrawInverseAnswer.g l h s1 s2 = some (h, n) := by
  obtain ⟨b, q2, e⟩ := spec_l1Cur_one_v l hl (by omega) s1 s2 8 h0 (by omega) (by omega) (by omega)
  unfold spec_DrawInverseAnswer.g
  rw [e]
  cases b
  · obtain ⟨v, r2, e2, _⟩ := spec_l1Cur_pick_v l hl (by omega) (s1 + 1) q2 10 (by omega) (by omega) (by omega) (by omega)
    exact ⟨v, by simp [e2]⟩
  · obtain ⟨v, r2, e2⟩ := spec_l1Cur_among_v l hl (by omega) (s1 + 1) q2 [(-1), 0, 64, 65] (by omega) (by omega) (by simp) (by simp)
    exact ⟨v, by simp [e2]⟩
theorem spec_DrawInverseAnswer_e (l : List Int) (hl : Bytes l) (hn : l.length ≤ 1048576) : ∃ (h : List Int) (n : Int), Ev (fun k => spec_DrawInverseAnswer.f k l) (h, n) ∧ h.length ≤ 50 := by
  obtain ⟨v, t1, t2, ⟨K, e⟩, hv, b1, b2⟩ := spec_l1Cur_weights_e l hl hn
  dsimp only at e
  by_cases c : 0 < v.length
  · obtain ⟨b, q2, e1⟩ := spec_l1Cur_one_v l hl (by omega) t1 t2 6 b1 (by omega) (by omega) (by omega)
    cases b
    · obtain ⟨p, r2, e2, _⟩ := spec_l1Cur_pick_v l hl (by omega) (t1 + 1) q2 2 (by omega) (by omega) (by omega) (by omega)
      obtain ⟨n, eg⟩ := spec_DrawInverseAnswer_g l hl hn (v.set 0 (wrap64 (1 - wrap64 (2 * p)))) (t1 + 1 + 1) r2 (by omega) (by omega)
      refine ⟨v.set 0 (wrap64 (1 - wrap64 (2 * p))), n, ⟨K, fun k hk => ?_⟩, by simpa using hv⟩
      show spec_DrawInverseAnswer.f k l = _
      unfold spec_DrawInverseAnswer.f
      rw [e k hk]
      simp only [Option.bind_some]
      rw [if_pos c, e1]
      simp only [Option.bind_some, Bool.false_eq_true, if_false, e2]
      exact eg
    · obtain ⟨n, eg⟩ := spec_DrawInverseAnswer_g l hl hn v (t1 + 1) q2 (by omega) (by omega)
      refine ⟨_, n, ⟨K, fun k hk => ?_⟩, hv⟩
      show spec_DrawInverseAnswer.f k l = _
      unfold spec_DrawInverseAnswer.f
      rw [e k hk]
      simp only [Option.bind_some]
      rw [if_pos c, e1]
      simp only [Option.bind_some, if_true]
      exact eg
  · obtain ⟨n, eg⟩ := spec_DrawInverseAnswer_g l hl hn v t1 t2 (by omega) (by omega)
    refine ⟨_, n, ⟨K, fun k hk => ?_⟩, hv⟩
    show spec_DrawInverseAnswer.f k l = _
    unfold spec_DrawInverseAnswer.f
    rw [e k hk]
    simp only [Option.bind_some]
    rw [if_neg c]
    exact eg

theorem spec_InverseAnswer_l1 (h out : List Int) (n : Int) (i : Nat) (Kc : Nat) (V : List Int × Bool) (hh : h.length ≤ 1000) (hi : i ≤ 1000) (ho : out.length = i) (bo : Bd out) (bh : ∀ x ∈ h, -1000 ≤ x ∧ x ≤ 1000) (s : Int)
    (hC : ∀ k, Kc ≤ k → (if 0 < (h.length : Int) then ((spec_l1In.f (wrap64 (s * (rd h 0))) (-100000) 100000).bind fun t => (if t = true then (if out.length < 17592186044416 then (spec_InverseAnswer.l0 k h n (out ++ [wrap64 (s * (rd h 0))]) (wrap64 ((i : Int) + 1))) else (none)) else (some (([] : List Int), false)))) else (none)) = some V) :
    ∀ (r : List Int) (k0 k : Nat) (acc : Int), h.drop k0 = r → 1 ≤ k0 → k0 + r.length ≤ 2000 → restM out i acc r k0 = s → -100000000000 ≤ acc - 100000000 * r.length → acc + 100000000 * r.length ≤ 100000000000 → r.length + Kc < k → spec_InverseAnswer.l1 k h n out i acc k0 = some V
  | [], k0, k, acc, hd, h1, h2, hs, a1, a2, hk => by
    obtain ⟨k, rfl⟩ := pred (show 0 < k by omega)
    have := drop_nil hd
    simp only [restM] at hs
    simp only [List.length_nil] at hk
    simp only [spec_InverseAnswer.l1]
    rw [if_neg (by omega), hs]
    exact hC k (by omega)
  | a :: r, k0, k, acc, hd, h1, h2, hs, a1, a2, hk => by
    obtain ⟨k, rfl⟩ := pred (show 0 < k by omega)
    obtain ⟨g1, g2, g3⟩ := drop_cons hd
    simp only [List.length_cons] at hk a1 a2 h2
    have ba := bh a (by rw [← List.take_append_drop k0 h, hd]; simp)
    simp only [spec_InverseAnswer.l1]
    rw [if_pos (by omega)]
    by_cases hki : (k0 : Int) ≤ (i : Int)
    · have bx := atM_bd bo ((i : Int) - k0)
      have bm := mul_bd2 ba bx
      have er : rd out ((i : Int) - (k0 : Int)) = atM out ((i : Int) - k0) := by unfold atM; rw [if_pos (by omega)]; rfl
      rw [if_pos hki, if_pos (by omega), wrap_id (x := (i : Int) - (k0 : Int)) (by omega) (by omega), if_pos (by omega), if_pos (by omega), g2, er, wrap_id (x := a * atM out ((i : Int) - k0)) (by omega) (by omega), wrap_id (x := acc - a * atM out ((i : Int) - k0)) (by omega) (by omega), wrap_nat (m := 3000) (by omega) (by omega)]
      exact spec_InverseAnswer_l1 h out n i Kc V hh hi ho bo bh s hC r (k0 + 1) k _ g3 (by omega) (by omega) hs (by omega) (by omega) (by omega)
    · rw [restM_past out i (a :: r) acc k0 (by omega)] at hs
      rw [if_neg hki, hs]
      exact hC k (by omega)
theorem restM_bd (h out : List Int) (i : Nat) (bo : Bd out) : ∀ (r : List Int) (acc : Int) (k : Nat), (∀ x ∈ r, -1000 ≤ x ∧ x ≤ 1000) → acc - 100000000 * r.length ≤ restM out i acc r k ∧ restM out i acc r k ≤ acc + 100000000 * r.length
  | [], acc, k, hb => by simp [restM]
  | a :: r, acc, k, hb => by
    have bm := mul_bd2 (hb a (by simp)) (atM_bd bo ((i : Int) - k))
    have := restM_bd h out i bo r (acc - a * atM out ((i : Int) - k)) (k + 1) (fun x hx => hb x (by simp [hx]))
    simp only [restM, List.length_cons]
    omega
theorem spec_InverseAnswer_l (h : List Int) (hh1 : 1 ≤ h.length) (hh : h.length ≤ 9) (bh : ∀ x ∈ h, -1000 ≤ x ∧ x ≤ 1000) (n : Nat) (hn : n ≤ 64) : ∀ (d i k : Nat) (out : List Int), i + d = n → out.length = i → Bd out → d * 20 < k → spec_InverseAnswer.l0 k h n out i = some (invM h d i out)
  | 0, i, k, out, hd, ho, bo, hk => by
    obtain ⟨k, rfl⟩ := pred (show 0 < k by omega)
    simp only [spec_InverseAnswer.l0, invM]; rw [if_neg (by omega)]
  | d + 1, i, k, out, hd, ho, bo, hk => by
    obtain ⟨k, rfl⟩ := pred (show 0 < k by omega)
    obtain ⟨k, rfl⟩ := pred (show 0 < k by omega)
    have b0 : -1000 ≤ h.getD 0 0 ∧ h.getD 0 0 ≤ 1000 := by
      rw [show h.getD 0 0 = h[0] by simp [List.getD, show 0 < h.length by omega]]; exact bh _ (List.getElem_mem _)
    have hl : (h.drop 1).length ≤ 8 := by simp; omega
    have bt : ∀ x ∈ h.drop 1, -1000 ≤ x ∧ x ≤ 1000 := fun x hx => bh x (List.mem_of_mem_drop hx)
    have key : ∀ s0 : Int, (s0 = if i = 0 then 1 else 0) → spec_InverseAnswer.l1 k h n out i s0 1 = some (invM h (d + 1) i out) := by
      intro s0 hs0
      have h01 : 0 ≤ s0 ∧ s0 ≤ 1 := by rw [hs0]; split <;> omega
      have rb := restM_bd h out i bo (h.drop 1) s0 1 bt
      refine spec_InverseAnswer_l1 h out n i (d * 20 + 1) _ (by omega) (by omega) ho bo bh (restM out i s0 (h.drop 1) 1) ?_ (h.drop 1) 1 k s0 rfl (by omega) (by omega) rfl (by omega) (by omega) (by omega)
      intro k hk
      have hm : -10000000000000 ≤ restM out i s0 (h.drop 1) 1 * h.getD 0 0 ∧ restM out i s0 (h.drop 1) 1 * h.getD 0 0 ≤ 10000000000000 := mul_bd3 (by omega) b0
      rw [if_pos (by omega), show rd h 0 = h.getD 0 0 from rfl, wrap_id (x := restM out i s0 (h.drop 1) 1 * h.getD 0 0) (by omega) (by omega), spec_l1In_v, wrap_nat (m := 100) (by omega) (by omega)]
      simp only [Option.bind_some, invM, ← hs0]
      cases hr : inR (restM out i s0 (h.drop 1) 1 * h.getD 0 0) (-100000) 100000
      · simp
      · simp only [if_true]
        rw [if_pos (by omega)]
        exact spec_InverseAnswer_l h hh1 hh bh n hn d (i + 1) k _ (by omega) (by simp [ho]) (bo.snoc (inR_true.mp hr)) (by omega)
    simp only [spec_InverseAnswer.l0]
    rw [if_pos (by omega)]
    by_cases h0 : i = 0
    · rw [if_pos (by omega)]; simp only [spec_InverseAnswer.j2]; exact key 1 (by rw [if_pos h0])
    · rw [if_neg (by omega)]; simp only [spec_InverseAnswer.j2]; exact key 0 (by rw [if_neg h0])
theorem spec_InverseAnswer_e (h : List Int) (n : Int) (hn : h.length ≤ 1048576) : Ev (fun k => spec_InverseAnswer.f k h n) (if (weB h && (inR n 0 64 && (h.getD 0 0 == 1 || h.getD 0 0 == -1))) = true then invM h n.toNat 0 [] else ([], false)) := by
  obtain ⟨K1, e1⟩ := spec_weGood_e h (by omega)
  refine ⟨K1 + 2000, fun k hk => ?_⟩
  obtain ⟨k, rfl⟩ := pred (show 0 < k by omega)
  show spec_InverseAnswer.f (k + 1) h n = _
  unfold spec_InverseAnswer.f
  simp only [e1 (k + 1) (by omega), spec_l1In_v, Option.bind_some, show rd h 0 = h.getD 0 0 from rfl]
  cases hc : weB h
  · simp [spec_InverseAnswer.j0]
  cases hn2 : inR n 0 64
  · simp [spec_InverseAnswer.j0]
  have w1 := weB_true hc
  have n1 := inR_true.mp hn2
  have key := spec_InverseAnswer_l h (by omega) (by omega) w1.2.1 n.toNat (by omega) n.toNat 0 k [] (by omega) rfl (by intro x hx; cases hx) (by omega)
  rw [show ((n.toNat : Nat) : Int) = n by omega, show ((0 : Nat) : Int) = 0 from rfl] at key
  simp only [if_true, if_pos (show (0 : Int) < (h.length : Int) by omega), spec_InverseAnswer.j0]
  generalize h.getD 0 0 = z
  by_cases c1 : z = 1
  · simp [c1, key]
  · by_cases c2 : z = -1
    · simp [c2, key]
    · simp [c1, c2]

theorem spec_DrawSpreadWeights_e (l : List Int) (hl : Bytes l) (hn : l.length ≤ 1048576) : ∃ (h : List Int) (n : Int), Ev (fun k => spec_DrawSpreadWeights.f k l) (h, n) ∧ h.length ≤ 50 ∧ 0 ≤ n ∧ n ≤ 6 := by
  obtain ⟨v, t1, t2, ⟨K, e⟩, hv, b1, b2⟩ := spec_l1Cur_weights_e l hl hn
  dsimp only at e
  obtain ⟨p, r2, e2, p1, p2⟩ := spec_l1Cur_pick_v l hl (by omega) t1 t2 6 b1 (by omega) (by omega) (by omega)
  refine ⟨v, p, ⟨K, fun k hk => ?_⟩, hv, p1, by omega⟩
  show spec_DrawSpreadWeights.f k l = _
  unfold spec_DrawSpreadWeights.f
  rw [e k hk]
  simp only [Option.bind_some, e2]

theorem spec_weIf_e (xs : List Int) (hn : xs.length ≤ 1152921504606846976) : Ev (fun k => spec_weIf.f k xs) (ifWe xs) := by
  obtain ⟨K, e⟩ := spec_weGood_e xs hn
  refine ⟨K, fun k hk => ?_⟩
  show spec_weIf.f k xs = some (ifWe xs)
  unfold spec_weIf.f ifWe
  simp only [e k hk, Option.bind_some]
  split <;> rfl

/-- What stands behind some of the weights, each behind so many zeros. -/
def sprM (g : Nat) : List Int → List Int → Nat → List Int
  | out, [], _ => out
  | out, a :: r, n => sprM g ((if n = 0 then out else out ++ List.replicate g 0) ++ [a]) r (n + 1)
theorem sprM_len (g : Nat) : ∀ (r : List Int) (out : List Int) (n : Nat), (sprM g out r n).length ≤ out.length + r.length * (g + 1)
  | [], out, n => by simp [sprM]
  | a :: r, out, n => by
    have := sprM_len g r ((if n = 0 then out else out ++ List.replicate g 0) ++ [a]) (n + 1)
    simp only [sprM, List.length_cons, Nat.add_mul, Nat.one_mul]
    refine Nat.le_trans this ?_
    split <;> simp <;> omega
theorem spec_SpreadWeights_l1 (xs : List Int) (c : Int) (n : Nat) (a : Int) (hn : 0 < n) (v : List Int × Bool) (N : Nat) : ∀ (d : Nat) (j : Int) (out : List Int) (k : Nat), j + d = c → -1000 ≤ j → c ≤ 1000 → out.length + d < 1099511627776 →
    (∀ k, N ≤ k → spec_SpreadWeights.l0 k c (out ++ List.replicate d 0 ++ [a]) xs (xs.length : Int) (wrap64 ((n : Int) + 1)) = some v) → d + N < k → spec_SpreadWeights.l1 k c out n a j xs (xs.length : Int) n = some v
  | 0, j, out, k, hj, h1, h2, ho, hv, hk => by
    obtain ⟨k, rfl⟩ := pred hk
    simp only [spec_SpreadWeights.l1]
    rw [if_neg (by omega), if_pos (by omega)]
    simpa using hv k (by omega)
  | d + 1, j, out, k, hj, h1, h2, ho, hv, hk => by
    obtain ⟨k, rfl⟩ := pred hk
    simp only [spec_SpreadWeights.l1]
    rw [if_pos (by omega), if_pos (by omega), if_pos (by omega), wrap_id (x := j + 1) (by omega) (by omega)]
    refine spec_SpreadWeights_l1 xs c n a hn v N d (j + 1) (out ++ [0]) k (by omega) (by omega) h2 (by simp; omega) ?_ (by omega)
    intro k hk
    have := hv k hk
    rw [List.replicate_succ] at this
    simpa using this
theorem spec_SpreadWeights_l (xs : List Int) (c : Int) (hc : 1 ≤ c ∧ c ≤ 4) (hn : xs.length ≤ 1152921504606846976) (v : List Int × Bool) (K : Nat) (z : List Int) (hK : ∀ k, K ≤ k → spec_weIf.f k z = some v) : ∀ (r : List Int) (n k : Nat) (out : List Int), xs.drop n = r → out.length + r.length * 5 ≤ 109951162777 → sprM (c - 1).toNat out r n = z → r.length * 8 + K < k → spec_SpreadWeights.l0 k c out xs (xs.length : Int) n = some v
  | [], n, k, out, hd, ho, hv, hk => by
    obtain ⟨k, rfl⟩ := pred hk
    have := drop_nil hd
    simp only [sprM] at hv
    simp only [List.length_nil] at hk
    simp only [spec_SpreadWeights.l0]; rw [if_neg (by omega), hv, hK k (by omega)]; simp
  | a :: r, n, k, out, hd, ho, hv, hk => by
    obtain ⟨k, rfl⟩ := pred hk
    obtain ⟨h1, h2, h3⟩ := drop_cons hd
    simp only [List.length_cons] at hk ho
    simp only [spec_SpreadWeights.l0]
    rw [if_pos (by omega), if_pos (by omega), if_pos (by omega), h2]
    by_cases h0 : n = 0
    · subst h0
      obtain ⟨k, rfl⟩ := pred (show r.length * 8 + K + 1 < k by omega)
      simp only [spec_SpreadWeights.l1]
      have ih := spec_SpreadWeights_l xs c hc hn v K z hK r 1 k (out ++ [a]) h3 (by simp; omega) (by simpa [sprM] using hv) (by omega)
      have e : wrap64 (((0 : Nat) : Int) + 1) = ((1 : Nat) : Int) := by rw [wrap_id (by omega) (by omega)]; rfl
      split
      · rw [if_neg (by omega), if_pos (by omega), e]; exact ih
      · rw [if_pos (by omega), e]; exact ih
    · refine spec_SpreadWeights_l1 xs c n a (by omega) v (r.length * 8 + K + 1) (c - 1).toNat 1 out k (by omega) (by omega) (by omega) (by omega) ?_ (by omega)
      intro k hk
      rw [wrap_nat h1 hn]
      refine spec_SpreadWeights_l xs c hc hn v K z hK r (n + 1) k _ h3 (by simp; omega) ?_ (by omega)
      simpa [sprM, h0] using hv
theorem spec_SpreadWeights_e (xs : List Int) (c : Int) (hn : xs.length ≤ 1048576) : Ev (fun k => spec_SpreadWeights.f k xs c) (if (weB xs && inR c 1 4) = true then ifWe (sprM (c - 1).toNat [] xs 0) else ([], false)) := by
  obtain ⟨K1, e1⟩ := spec_weGood_e xs (by omega)
  cases h : weB xs
  · refine ⟨K1 + 1, fun k hk => ?_⟩
    obtain ⟨k, rfl⟩ := pred (show K1 < k by omega)
    show spec_SpreadWeights.f (k + 1) xs c = _
    unfold spec_SpreadWeights.f
    simp [e1 (k + 1) (by omega), h, spec_SpreadWeights.j0]
  · cases h2 : inR c 1 4
    · refine ⟨K1 + 1, fun k hk => ?_⟩
      obtain ⟨k, rfl⟩ := pred (show K1 < k by omega)
      show spec_SpreadWeights.f (k + 1) xs c = _
      unfold spec_SpreadWeights.f
      simp [e1 (k + 1) (by omega), h, h2, spec_l1In_v, spec_SpreadWeights.j0]
    · have hc := inR_true.mp h2
      have hw := (weB_true h).1
      have hl := sprM_len (c - 1).toNat xs [] 0
      have hl2 : xs.length * ((c - 1).toNat + 1) ≤ 9 * 4 := Nat.mul_le_mul hw.2 (by omega)
      simp only [List.length_nil] at hl
      obtain ⟨K3, e3⟩ := spec_weIf_e (sprM (c - 1).toNat [] xs 0) (by omega)
      refine ⟨K1 + K3 + xs.length * 8 + 2, fun k hk => ?_⟩
      obtain ⟨k, rfl⟩ := pred (show K1 + K3 + xs.length * 8 + 1 < k by omega)
      show spec_SpreadWeights.f (k + 1) xs c = _
      unfold spec_SpreadWeights.f
      have := spec_SpreadWeights_l xs c hc (by omega) _ K3 _ e3 xs 0 k [] rfl (by simp; omega) rfl (by omega)
      simp [e1 (k + 1) (by omega), h, h2, spec_l1In_v, spec_SpreadWeights.j0]
      simpa using this

theorem impl_in_v (a b c : Int) : impl_in.f a b c = some (inR a b c) := inR_le a b c

theorem impl_isWeights_1_v (x : Int) : impl_isWeights_1.f x = some (!inR x (-1000) 1000) := by simp only [impl_isWeights_1.f, impl_in_v, Option.bind_some]
theorem index_isWeights_l (xs : List Int) (hn : xs.length ≤ 1152921504606846976) : ∀ (r : List Int) (n k : Nat), xs.drop n = r → r.length < k → ∃ v : Int, slices_IndexFunc_int_int_impl_isWeights_1.l0 k xs (xs.length : Int) n = some v ∧ decide (v ≥ 0) = !(r.all fun x => inR x (-1000) 1000)
  | [], n, k, hd, hk => by
    obtain ⟨k, rfl⟩ := pred hk
    have := drop_nil hd
    refine ⟨-1, ?_, by simp⟩
    simp only [slices_IndexFunc_int_int_impl_isWeights_1.l0]; rw [if_neg (by omega)]
  | a :: r, n, k, hd, hk => by
    obtain ⟨k, rfl⟩ := pred hk
    obtain ⟨h1, h2, h3⟩ := drop_cons hd
    simp only [slices_IndexFunc_int_int_impl_isWeights_1.l0]
    rw [if_pos (by omega), if_pos (by omega), if_pos (by omega), h2, impl_isWeights_1_v, wrap_nat h1 hn]; simp only [Option.bind_some, List.all_cons]
    cases h : inR a (-1000) 1000
    · exact ⟨n, by simp, by simp⟩
    · obtain ⟨v, e, hv⟩ := index_isWeights_l xs hn r (n + 1) k h3 (by simp at hk; omega)
      exact ⟨v, by simpa using e, by simpa using hv⟩
theorem contains_isWeights_e (xs : List Int) (hn : xs.length ≤ 1152921504606846976) : Ev (fun k => slices_ContainsFunc_int_int_impl_isWeights_1.f k xs) (!(xs.all fun x => inR x (-1000) 1000)) :=
  ⟨xs.length + 1, fun k hk => by
    show slices_ContainsFunc_int_int_impl_isWeights_1.f k xs = some _
    obtain ⟨v, e, hv⟩ := index_isWeights_l xs hn xs 0 k rfl (by omega)
    have e' : slices_IndexFunc_int_int_impl_isWeights_1.f k xs = some v := e
    unfold slices_ContainsFunc_int_int_impl_isWeights_1.f
    rw [e']; simp only [Option.bind_some, hv]⟩

theorem impl_isWeights_e (xs : List Int) (hn : xs.length ≤ 1152921504606846976) : Ev (fun k => impl_isWeights.f k xs) (weB xs) := by
  obtain ⟨K, e⟩ := contains_isWeights_e xs hn
  refine ⟨K, fun k hk => ?_⟩
  show impl_isWeights.f k xs = some (weB xs)
  unfold impl_isWeights.f weB
  simp only [e k hk, impl_in_v, Option.bind_some, Bool.not_not, bind_and]

theorem impl_GainAtHalf_l (xs : List Int) (hn : xs.length ≤ 1152921504606846976) : ∀ (r : List Int) (n k : Nat) (acc : Int) (s : Bool), xs.drop n = r → Bd r → -4611686018427387904 ≤ acc - 100000 * r.length → acc + 100000 * r.length ≤ 4611686018427387904 → r.length < k → impl_GainAtHalf.l0 k acc (if s = true then 1 else -1) xs (xs.length : Int) n = some (acc + alt s r, true)
  | [], n, k, acc, s, hd, hb, ha, ha2, hk => by
    obtain ⟨k, rfl⟩ := pred hk
    have := drop_nil hd
    simp only [impl_GainAtHalf.l0]; rw [if_neg (by omega)]; cases s <;> simp [alt]
  | a :: r, n, k, acc, s, hd, hb, ha, ha2, hk => by
    obtain ⟨k, rfl⟩ := pred hk
    obtain ⟨h1, h2, h3⟩ := drop_cons hd
    obtain ⟨b1, b2⟩ := hb.cons
    simp only [List.length_cons] at hk ha ha2
    simp only [impl_GainAtHalf.l0]
    rw [if_pos (by omega), if_pos (by omega), if_pos (by omega), h2, wrap_nat h1 hn]
    cases s
    · have := impl_GainAtHalf_l xs hn r (n + 1) k (acc + -a) true h3 b2 (by omega) (by omega) (by omega)
      simp only [if_true] at this
      simp only [Bool.false_eq_true, if_false]
      rw [show -1 * a = -a by omega, wrap_id (x := -a) (by omega) (by omega), wrap_id (x := acc + -a) (by omega) (by omega), show - -1 = (1 : Int) by omega, wrap_id (x := 1) (by omega) (by omega), this]
      simp [alt, Int.add_assoc]
    · have := impl_GainAtHalf_l xs hn r (n + 1) k (acc + a) false h3 b2 (by omega) (by omega) (by omega)
      simp only [Bool.false_eq_true, if_false] at this
      simp only [if_true]
      rw [show 1 * a = a by omega, wrap_id (x := a) (by omega) (by omega), wrap_id (x := acc + a) (by omega) (by omega), wrap_id (x := -1) (by omega) (by omega), this]
      simp [alt, Int.add_assoc]
theorem impl_GainAtHalf_e (xs : List Int) (hn : xs.length ≤ 1048576) : Ev (fun k => impl_GainAtHalf.f k xs) (if weB xs = true then (alt true xs, true) else (0, false)) := by
  obtain ⟨K1, e1⟩ := impl_isWeights_e xs (by omega)
  cases h : weB xs
  · refine ⟨K1, fun k hk => ?_⟩
    show impl_GainAtHalf.f k xs = _
    unfold impl_GainAtHalf.f
    simp [e1 k hk, h]
  · have hb := weB_true h
    refine ⟨K1 + xs.length + 1, fun k hk => ?_⟩
    show impl_GainAtHalf.f k xs = _
    unfold impl_GainAtHalf.f
    have := impl_GainAtHalf_l xs (by omega) xs 0 k 0 true rfl hb.2.2 (by omega) (by omega) (by omega)
    simp only [e1 k (by omega), h, Option.bind_some, if_true]
    simpa using this

theorem laws_big_v (a b : List Int) (hb : b.length ≤ 1152921504606846976) : ∃ t, laws_big.f a b = some t ∧ (t = false → a.length ≤ 1048576 ∧ b.length ≤ 1048576) := by
  unfold laws_big.f
  by_cases c : (a.length : Int) > 1048576
  · exact ⟨true, by rw [if_pos c], fun h => by cases h⟩
  · rw [if_neg c, wrap_id (x := 1048576 - (a.length : Int)) (by omega) (by omega)]
    refine ⟨_, rfl, fun h => ?_⟩
    have := of_decide_eq_false h
    omega

theorem slices_Equal_int_int_l (a b : List Int) (hn : a.length ≤ 1152921504606846976) (hl : a.length = b.length) : ∀ (r : List Int) (n k : Nat), a.drop n = r → r.length < k → slices_Equal_int_int.l0 k a b (a.length : Int) n = some (decide (r = b.drop n))
  | [], n, k, hd, hk => by
    obtain ⟨k, rfl⟩ := pred hk
    have := drop_nil hd
    simp only [slices_Equal_int_int.l0]; rw [if_neg (by omega)]
    have : b.drop n = [] := List.drop_eq_nil_of_le (by omega)
    simp [this]
  | x :: r, n, k, hd, hk => by
    obtain ⟨k, rfl⟩ := pred hk
    obtain ⟨h1, h2, h3⟩ := drop_cons hd
    have hb : b.drop n = b[n] :: b.drop (n + 1) := List.drop_eq_getElem_cons (by omega)
    obtain ⟨g1, g2, g3⟩ := drop_cons hb
    simp only [slices_Equal_int_int.l0]
    rw [if_pos (by omega), if_pos (by omega), if_pos (by omega), if_pos (by omega), h2, g2, wrap_nat h1 hn, hb]
    by_cases c : x = b[n]
    · rw [if_pos c, slices_Equal_int_int_l a b hn hl r (n + 1) k h3 (by simp at hk; omega)]; congr 1; exact decide_eq_decide.mpr ⟨fun h => by rw [h, c], fun h => (List.cons.inj h).2⟩
    · rw [if_neg c, decide_eq_false (fun h => c (List.cons.inj h).1)]
theorem slices_Equal_int_int_e (a b : List Int) (hn : a.length ≤ 1152921504606846976) : Ev (fun k => slices_Equal_int_int.f k a b) (decide (a = b)) :=
  ⟨a.length + 1, fun k hk => by
    show slices_Equal_int_int.f k a b = _
    unfold slices_Equal_int_int.f
    by_cases hl : a.length = b.length
    · rw [if_pos (by omega)]
      have := slices_Equal_int_int_l a b hn hl a 0 k rfl (by omega)
      rw [show ((0 : Nat) : Int) = 0 from rfl] at this
      simpa using this
    · rw [if_neg (by omega)]
      have : a ≠ b := fun h => hl (by rw [h])
      simp [this]⟩

theorem slices_Reverse_int_int_l (xs : List Int) (hn : xs.length ≤ 1048576) : ∀ (d i k : Nat) (ys : List Int), xs.length ≤ 2 * i + d → i ≤ xs.length → ys.length = xs.length → (∀ j, j < xs.length → ys[j]? = if j < i ∨ xs.length ≤ j + i then xs.reverse[j]? else xs[j]?) → d < k → slices_Reverse_int_int.l0 k ys i ((xs.length : Int) - 1 - i) = some xs.reverse
  | d, i, 0, ys, hd, hi, hy, hj, hk => by omega
  | d, i, k + 1, ys, hd, hi, hy, hj, hk => by
    simp only [slices_Reverse_int_int.l0]
    by_cases c : (i : Int) < (xs.length : Int) - 1 - i
    · have e3 : ((xs.length : Int) - 1 - i).toNat = xs.length - 1 - i := by omega
      obtain ⟨d, rfl⟩ : ∃ d', d = d' + 1 := ⟨d - 1, by omega⟩
      have r1 : rd ys i = xs[i] := by
        have := hj i (by omega)
        rw [if_neg (by omega), List.getElem?_eq_getElem (by omega), List.getElem?_eq_getElem (by omega)] at this
        rw [rd_nat ys i (by omega)]
        exact Option.some.inj this
      have r2 : rd ys ((xs.length : Int) - 1 - i) = xs[xs.length - 1 - i] := by
        have := hj (xs.length - 1 - i) (by omega)
        rw [if_neg (by omega), List.getElem?_eq_getElem (by omega), List.getElem?_eq_getElem (by omega)] at this
        rw [show (xs.length : Int) - 1 - i = ((xs.length - 1 - i : Nat) : Int) by omega, rd_nat ys _ (by omega)]
        exact Option.some.inj this
      rw [if_pos c, if_pos (by omega), if_pos (by omega), if_pos (by omega), if_pos (by omega), wrap_nat (m := xs.length) (by omega) (by omega), wrap_id (by omega) (by omega), e3, r1, r2, show ((i : Int)).toNat = i by omega, show (xs.length : Int) - 1 - (i : Int) - 1 = (xs.length : Int) - 1 - ((i + 1 : Nat) : Int) by omega]
      refine slices_Reverse_int_int_l xs hn d (i + 1) k _ (by omega) (by omega) (by simpa using hy) ?_ (by omega)
      intro j hjl
      rw [List.getElem?_set, List.getElem?_set]
      have hjj := hj j hjl
      by_cases a1 : xs.length - 1 - i = j
      · rw [if_pos a1, if_pos (by simp; omega), if_pos (by omega), List.getElem?_reverse (by omega)]
        rw [List.getElem?_eq_getElem (by omega)]
        congr 2; omega
      · rw [if_neg a1]
        by_cases a2 : i = j
        · rw [if_pos a2, if_pos (by omega), if_pos (by omega), List.getElem?_reverse (by omega), List.getElem?_eq_getElem (by omega)]
          congr 2; omega
        · rw [if_neg a2, hjj]
          by_cases a3 : j < i ∨ xs.length ≤ j + i
          · rw [if_pos a3, if_pos (by omega)]
          · rw [if_neg a3, if_neg (by omega)]
    · rw [if_neg c]
      congr 1
      apply List.ext_getElem?
      intro j
      by_cases hjl : j < xs.length
      · rw [hj j hjl]
        split
        · rfl
        · next h =>
          rw [List.getElem?_reverse (by omega)]
          congr 1; omega
      · rw [List.getElem?_eq_none (by omega), List.getElem?_eq_none (by simp; omega)]
theorem slices_Reverse_int_int_e (xs : List Int) (hn : xs.length ≤ 1048576) : Ev (fun k => slices_Reverse_int_int.f k xs) xs.reverse :=
  ⟨xs.length + 1, fun k hk => by
    show slices_Reverse_int_int.f k xs = _
    unfold slices_Reverse_int_int.f
    rw [wrap_id (by omega) (by omega)]
    have := slices_Reverse_int_int_l xs hn xs.length 0 k xs (by omega) (by omega) rfl (by intro j hj; rw [if_neg (by omega)]) (by omega)
    rw [show ((0 : Nat) : Int) = 0 from rfl, Int.sub_zero] at this
    exact this⟩

theorem impl_backwards_e (xs : List Int) (hn : xs.length ≤ 1048576) : Ev (fun k => impl_backwards.f k xs) xs.reverse := by
  obtain ⟨K, e⟩ := slices_Reverse_int_int_e xs hn
  refine ⟨K, fun k hk => ?_⟩
  show impl_backwards.f k xs = _
  unfold impl_backwards.f slices_Clone_int_int.f
  rw [if_pos (by omega)]
  simp only [Option.bind_some, e k hk]

theorem impl_IsSymmetric_e (xs : List Int) (hn : xs.length ≤ 1048576) : Ev (fun k => impl_IsSymmetric.f k xs) (if weB xs = true then (decide (xs.reverse = xs), true) else (false, false)) := by
  obtain ⟨K1, e1⟩ := impl_isWeights_e xs (by omega)
  obtain ⟨K2, e2⟩ := impl_backwards_e xs hn
  obtain ⟨K3, e3⟩ := slices_Equal_int_int_e xs.reverse xs (by simp; omega)
  refine ⟨K1 + K2 + K3, fun k hk => ?_⟩
  show impl_IsSymmetric.f k xs = _
  unfold impl_IsSymmetric.f
  cases h : weB xs
  · simp [e1 k (by omega), h]
  · simp only [e1 k (by omega), e2 k (by omega), e3 k (by omega), h, Option.bind_some, if_true]

theorem impl_times_l (xs : List Int) (c : Int) (hc : -1000 ≤ c ∧ c ≤ 1000) (hn : xs.length ≤ 1152921504606846976) : ∀ (r : List Int) (n k : Nat) (out : List Int), xs.drop n = r → Bd r → out.length + r.length ≤ 1099511627776 → r.length < k → impl_times.l0 k c out xs (xs.length : Int) n = some (out ++ r.map fun x => x * c)
  | [], n, k, out, hd, hb, ho, hk => by
    obtain ⟨k, rfl⟩ := pred hk
    have := drop_nil hd
    simp only [impl_times.l0]; rw [if_neg (by omega)]; simp
  | a :: r, n, k, out, hd, hb, ho, hk => by
    obtain ⟨k, rfl⟩ := pred hk
    obtain ⟨h1, h2, h3⟩ := drop_cons hd
    obtain ⟨b1, b2⟩ := hb.cons
    simp only [List.length_cons] at hk ho
    have hm := mul_bd b1 (show -100000 ≤ c ∧ c ≤ 100000 by omega)
    simp only [impl_times.l0]
    rw [if_pos (by omega), if_pos (by omega), if_pos (by omega), if_pos (by omega), h2, wrap_nat h1 hn, wrap_id (x := a * c) (by omega) (by omega)]
    rw [impl_times_l xs c hc hn r (n + 1) k _ h3 b2 (by simp; omega) (by omega)]
    simp
theorem impl_times_e (xs : List Int) (c : Int) (hc : -1000 ≤ c ∧ c ≤ 1000) (hn : xs.length ≤ 1048576) (hb : Bd xs) : Ev (fun k => impl_times.f k xs c) (xs.map fun x => x * c) :=
  ⟨xs.length + 1, fun k hk => by
    have := impl_times_l xs c hc (by omega) xs 0 k [] rfl hb (by simp; omega) (by omega)
    simpa [impl_times.f] using this⟩

theorem Bd_rev' {l : List Int} (h : Bd l) : Bd l.reverse := fun x hx => h x (List.mem_reverse.mp hx)
theorem impl_IsMirrored_e (xs : List Int) (hn : xs.length ≤ 1048576) : Ev (fun k => impl_IsMirrored.f k xs) (if weB xs = true then (decide ((xs.reverse.map fun x => x * -1) = xs), true) else (false, false)) := by
  obtain ⟨K1, e1⟩ := impl_isWeights_e xs (by omega)
  cases h : weB xs
  · refine ⟨K1, fun k hk => ?_⟩
    show impl_IsMirrored.f k xs = _
    unfold impl_IsMirrored.f
    simp [e1 k (by omega), h]
  · obtain ⟨K2, e2⟩ := impl_backwards_e xs hn
    obtain ⟨K3, e3⟩ := impl_times_e xs.reverse (-1) (by omega) (by simp; omega) (Bd_rev' (weB_true h).2.2)
    obtain ⟨K4, e4⟩ := slices_Equal_int_int_e (xs.reverse.map fun x => x * -1) xs (by simp; omega)
    refine ⟨K1 + K2 + K3 + K4, fun k hk => ?_⟩
    show impl_IsMirrored.f k xs = _
    unfold impl_IsMirrored.f
    simp only [e1 k (by omega), e2 k (by omega), e3 k (by omega), e4 k (by omega), h, Option.bind_some, if_true]

theorem impl_BackWeights_e (xs : List Int) (hn : xs.length ≤ 1048576) : Ev (fun k => impl_BackWeights.f k xs) (if weB xs = true then (xs.reverse, true) else ([], false)) := by
  obtain ⟨K1, e1⟩ := impl_isWeights_e xs (by omega)
  obtain ⟨K2, e2⟩ := impl_backwards_e xs hn
  refine ⟨K1 + K2, fun k hk => ?_⟩
  show impl_BackWeights.f k xs = _
  unfold impl_BackWeights.f
  cases h : weB xs <;> simp [e1 k (by omega), e2 k (by omega), h]

theorem impl_sum_l (xs : List Int) (hn : xs.length ≤ 1152921504606846976) : ∀ (r : List Int) (n k : Nat) (acc : Int), xs.drop n = r → Bd r → -4611686018427387904 ≤ acc - 100000 * r.length → acc + 100000 * r.length ≤ 4611686018427387904 → r.length < k → impl_sum.l0 k acc xs (xs.length : Int) n = some (acc + r.sum)
  | [], n, k, acc, hd, hb, ha, ha2, hk => by
    obtain ⟨k, rfl⟩ := pred hk
    have := drop_nil hd
    simp only [impl_sum.l0]; rw [if_neg (by omega)]; simp
  | a :: r, n, k, acc, hd, hb, ha, ha2, hk => by
    obtain ⟨k, rfl⟩ := pred hk
    obtain ⟨h1, h2, h3⟩ := drop_cons hd
    obtain ⟨b1, b2⟩ := hb.cons
    simp only [List.length_cons] at hk ha ha2
    simp only [impl_sum.l0]
    rw [if_pos (by omega), if_pos (by omega), if_pos (by omega), h2, wrap_nat h1 hn, wrap_id (x := acc + a) (by omega) (by omega)]
    rw [impl_sum_l xs hn r (n + 1) k (acc + a) h3 b2 (by omega) (by omega) (by omega)]
    simp [Int.add_assoc]
theorem impl_sum_e (xs : List Int) (hn : xs.length ≤ 1048576) (hb : Bd xs) : Ev (fun k => impl_sum.f k xs) xs.sum :=
  ⟨xs.length + 1, fun k hk => by
    show impl_sum.f k xs = some xs.sum
    have := impl_sum_l xs (by omega) xs 0 k 0 rfl hb (by omega) (by omega) (by omega)
    simpa [impl_sum.f] using this⟩

theorem impl_GainOf_e (xs : List Int) (hn : xs.length ≤ 1048576) : Ev (fun k => impl_GainOf.f k xs) (if weB xs = true then (xs.sum, true) else (0, false)) := by
  obtain ⟨K1, e1⟩ := impl_isWeights_e xs (by omega)
  cases h : weB xs
  · refine ⟨K1, fun k hk => ?_⟩
    show impl_GainOf.f k xs = _
    unfold impl_GainOf.f
    simp [e1 k hk, h]
  · obtain ⟨K2, e2⟩ := impl_sum_e xs hn (weB_true h).2.2
    refine ⟨K1 + K2, fun k hk => ?_⟩
    show impl_GainOf.f k xs = _
    unfold impl_GainOf.f
    simp [e1 k (by omega), e2 k (by omega), h]

theorem impl_size_v (a : Int) (h : -9223372036854775807 ≤ a) (h2 : a ≤ 9223372036854775807) : impl_size.f a = some (absM a) := by
  simp only [impl_size.f]
  rw [wrap_id (by omega) (by omega), mx_max]; rfl

theorem impl_SizeGain_l (xs : List Int) (hn : xs.length ≤ 1152921504606846976) : ∀ (r : List Int) (n k : Nat) (acc : Int), xs.drop n = r → Bd r → 0 ≤ acc → acc + 100000 * r.length ≤ 4611686018427387904 → r.length < k → impl_SizeGain.l0 k acc xs (xs.length : Int) n = some (acc + absSum r, true)
  | [], n, k, acc, hd, hb, ha, ha2, hk => by
    obtain ⟨k, rfl⟩ := pred hk
    have := drop_nil hd
    simp only [impl_SizeGain.l0]; rw [if_neg (by omega)]; simp [absSum]
  | a :: r, n, k, acc, hd, hb, ha, ha2, hk => by
    obtain ⟨k, rfl⟩ := pred hk
    obtain ⟨h1, h2, h3⟩ := drop_cons hd
    obtain ⟨b1, b2⟩ := hb.cons
    have s1 : 0 ≤ absM a ∧ absM a ≤ 100000 := by unfold absM; omega
    simp only [List.length_cons] at hk ha ha2
    simp only [impl_SizeGain.l0]
    rw [if_pos (by omega), if_pos (by omega), if_pos (by omega), h2, wrap_nat h1 hn, impl_size_v a (by omega) (by omega)]
    simp only [Option.bind_some]
    rw [wrap_id (x := acc + absM a) (by omega) (by omega), impl_SizeGain_l xs hn r (n + 1) k (acc + absM a) h3 b2 (by omega) (by omega) (by omega)]
    simp [absSum, Int.add_assoc]
theorem impl_SizeGain_e (xs : List Int) (hn : xs.length ≤ 1048576) : Ev (fun k => impl_SizeGain.f k xs) (if weB xs = true then (absSum xs, true) else (0, false)) := by
  obtain ⟨K1, e1⟩ := impl_isWeights_e xs (by omega)
  cases h : weB xs
  · refine ⟨K1, fun k hk => ?_⟩
    show impl_SizeGain.f k xs = _
    unfold impl_SizeGain.f
    simp [e1 k hk, h]
  · have hb := weB_true h
    refine ⟨K1 + xs.length + 1, fun k hk => ?_⟩
    show impl_SizeGain.f k xs = _
    unfold impl_SizeGain.f
    have := impl_SizeGain_l xs (by omega) xs 0 k 0 rfl hb.2.2 (by omega) (by omega) (by omega)
    simp only [e1 k (by omega), h, Option.bind_some, if_true]
    simpa using this

def accM : List Int → List Int → List Int
  | acc, [] => acc
  | acc, x :: r => if x = 0 then accM acc r else accM (acc ++ [absM x]) r
theorem acc_folded : ∀ (r acc : List Int), (accM acc r).foldl addI [] = foldedM (acc.foldl addI []) r
  | [], acc => rfl
  | x :: r, acc => by
    simp only [accM, foldedM]
    split
    · exact acc_folded r acc
    · rw [acc_folded r (acc ++ [absM x]), List.foldl_append]
      rfl
theorem same_int (a b : Int) : (Lit.int .i64 a).sameKey (.int .i64 b) = decide (a = b) := by
  by_cases h : a = b
  · subst h; simp [Lit.sameKey]
  · rw [Maps.sameKey_ne (by intro e; injection e with _ e; exact h e)]; simp [h]
theorem fold_keys : ∀ (acc L : List Int), (acc.map fun x => Lit.int .i64 x).foldl Maps.addKey (L.map fun x => Lit.int .i64 x) = (acc.foldl addI L).map fun x => Lit.int .i64 x
  | [], L => rfl
  | a :: acc, L => by
    have e : Maps.addKey (L.map fun x => Lit.int .i64 x) (.int .i64 a) = (addI L a).map fun x => Lit.int .i64 x := by
      unfold Maps.addKey addI
      have : ((L.map fun x => Lit.int .i64 x).any fun y => y.sameKey (.int .i64 a)) = L.any fun y => decide (y = a) := by
        rw [List.any_map]
        congr 1
        funext y
        exact same_int y a
      rw [this]
      split <;> simp
    simp only [List.map_cons, List.foldl_cons]
    rw [e, fold_keys acc (addI L a)]
theorem size_D (acc : List Int) : Maps.size (impl_FoldedProducts.D acc) = (acc.foldl addI []).length := by
  unfold impl_FoldedProducts.D
  rw [Maps.size_setOf _ _ (by intro x hx; simp only [List.mem_map] at hx; obtain ⟨y, _, rfl⟩ := hx; trivial)]
  have := fold_keys acc []
  simp only [List.map_nil] at this
  rw [this]
  simp
theorem impl_FoldedProducts_l (S : List Int) (hS : S.length ≤ 9) (hb : ∀ x ∈ S, -1000 ≤ x ∧ x ≤ 1000) : ∀ (r : List Int) (n k : Nat) (acc : List Int), S.drop n = r → n ≤ S.length → acc.length ≤ n → r.length < k → impl_FoldedProducts.l0 k S acc n = some (accM acc r)
  | [], n, k, acc, hd, hn, hL, hk => by
    obtain ⟨k, rfl⟩ := pred hk
    have := drop_nil hd
    simp only [impl_FoldedProducts.l0, accM]
    rw [if_neg (by omega)]
  | x :: r, n, k, acc, hd, hn, hL, hk => by
    obtain ⟨k, rfl⟩ := pred hk
    obtain ⟨g1, g2, g3⟩ := drop_cons hd
    simp only [List.length_cons] at hk
    have hx : -1000 ≤ x ∧ x ≤ 1000 := by
      apply hb
      rw [← g2, rd_nat S n g1]
      exact List.getElem_mem g1
    simp only [impl_FoldedProducts.l0, accM]
    rw [if_pos (by omega), if_pos (by omega), g2, wrap_nat g1 (by omega)]
    by_cases c : x = 0
    · rw [if_pos c, if_pos c]
      exact impl_FoldedProducts_l S hS hb r (n + 1) k acc g3 (by omega) (by omega) (by omega)
    · have hw : (Lit.int .i64 (absM x)).wf = true := by
        simp [Lit.wf, IntKind.min, IntKind.max, IntKind.signed, IntKind.bits, absM]
        omega
      rw [if_neg c, if_neg c, impl_size_v x (by omega) (by omega)]
      simp only [Option.bind_some]
      rw [if_pos hw, if_pos (by omega)]
      exact impl_FoldedProducts_l S hS hb r (n + 1) k _ g3 (by omega) (by simp; omega) (by omega)
theorem impl_FoldedProducts_e (xs : List Int) (hn : xs.length ≤ 1048576) : Ev (fun k => impl_FoldedProducts.f k xs) (if weB xs = true then (((foldedM [] xs).length : Int), true) else (0, false)) := by
  obtain ⟨K1, e1⟩ := impl_isWeights_e xs (by omega)
  refine ⟨K1 + xs.length + 1, fun k hk => ?_⟩
  show impl_FoldedProducts.f k xs = _
  unfold impl_FoldedProducts.f
  simp only [e1 k (by omega), Option.bind_some]
  cases c : weB xs
  · simp
  · have wl := weB_true c
    have := impl_FoldedProducts_l xs wl.1.2 wl.2.1 xs 0 k [] rfl (by omega) (by simp) (by omega)
    have e : impl_FoldedProducts.l0 k xs [] 0 = some (accM [] xs) := this
    simp only [if_true, e, Option.bind_some, size_D, acc_folded]
    rfl

theorem laws_iSame_l (a b : List Int) (hl : a.length = b.length) (ha : a.length ≤ 1152921504606846976) : ∀ (r : List Int) (n k : Nat), a.drop n = r → r.length < k → laws_iSame.l0 k a b (a.length : Int) n = some (decide (a.drop n = b.drop n))
  | [], n, k, hd, hk => by
    obtain ⟨k, rfl⟩ := pred (show 0 < k by omega)
    have := drop_nil hd
    simp only [laws_iSame.l0]
    rw [if_neg (by omega), hd]
    simp [show b.length ≤ n by omega]
  | x :: r, n, k, hd, hk => by
    obtain ⟨k, rfl⟩ := pred (show 0 < k by omega)
    obtain ⟨h1, h2, h3⟩ := drop_cons hd
    simp only [List.length_cons] at hk
    have hbn : n < b.length := by omega
    have hbd : b.drop n = rd b n :: b.drop (n + 1) := by rw [rd_nat b n hbn]; exact List.drop_eq_getElem_cons hbn
    simp only [laws_iSame.l0]
    rw [if_pos (by omega), if_pos (by omega), if_pos (by omega), if_pos (by omega), h2, hd, hbd]
    by_cases c : x = rd b n
    · rw [if_pos c, wrap_nat h1 (by omega), laws_iSame_l a b hl ha r (n + 1) k h3 (by omega), h3, ← c]
      simp
    · rw [if_neg c]
      simp [c]
theorem laws_iSame_e (a b : List Int) (ha : a.length ≤ 1048576) : Ev (fun k => laws_iSame.f k a b) (decide (a = b)) :=
  ⟨a.length + 1, fun k hk => by
    show laws_iSame.f k a b = _
    unfold laws_iSame.f
    by_cases c : a.length = b.length
    · rw [if_pos (by omega)]
      have := laws_iSame_l a b c (by omega) a 0 k rfl (by omega)
      rw [show ((0 : Nat) : Int) = 0 from rfl] at this
      simpa using this
    · rw [if_neg (by omega)]
      have : a ≠ b := fun e => c (by rw [e])
      simp [this]⟩

theorem impl_IsWeights_e (xs : List Int) (hn : xs.length ≤ 1152921504606846976) : Ev (fun k => impl_IsWeights.f k xs) (weB xs) := by
  obtain ⟨K, e⟩ := impl_isWeights_e xs hn
  dsimp only at e
  exact ⟨K, fun k hk => by show impl_IsWeights.f k xs = _; unfold impl_IsWeights.f; rw [e k hk]; rfl⟩

theorem laws_iSize_v (a : Int) (h : -1000000000000 ≤ a ∧ a ≤ 1000000000000) : laws_iSize.f a = some (absM a) := by
  unfold laws_iSize.f absM
  by_cases c : a < 0
  · rw [if_pos c, wrap_id (by omega) (by omega)]; congr 1; omega
  · rw [if_neg c]; congr 1; omega

theorem impl_weighed_e (xs : List Int) (hn : xs.length ≤ 1152921504606846976) : Ev (fun k => impl_weighed.f k xs) (ifWe xs) := by
  obtain ⟨K, e⟩ := impl_isWeights_e xs hn
  refine ⟨K, fun k hk => ?_⟩
  show impl_weighed.f k xs = some (ifWe xs)
  unfold impl_weighed.f ifWe
  simp only [e k hk, Option.bind_some]
  split <;> rfl

theorem impl_answer_in (s : List Int) (hs : s.length ≤ 1000) (k0 : Nat) (a : Int) (hk0 : k0 ≤ 1000) (h : List Int) (m : Int) : ∀ (r : List Int) (i k : Nat) (out : List Int), s.drop i = r → i + r.length = s.length → k0 + s.length ≤ out.length → r.length + 1 < k → impl_answer.l1 k s out k0 a h m k0 s (s.length : Int) i = impl_answer.l0 (k - r.length - 1) s (innerM k0 a out r i) h m (wrap64 (k0 + 1))
  | [], i, k, out, hd, hi, ho, hk => by
    obtain ⟨k, rfl⟩ := pred (show 0 < k by omega)
    have := drop_nil hd
    simp only [impl_answer.l1, innerM]; rw [if_neg (by omega)]; simp
  | x :: r, i, k, out, hd, hi, ho, hk => by
    obtain ⟨k, rfl⟩ := pred (show 0 < k by omega)
    obtain ⟨h1, h2, h3⟩ := drop_cons hd
    simp only [List.length_cons] at hk hi
    simp only [impl_answer.l1, innerM]
    rw [if_pos (by omega), if_pos (by omega), if_pos (by omega), wrap_id (x := (i : Int) + (k0 : Int)) (by omega) (by omega), if_pos (by omega), if_pos (by omega), h2, wrap_nat h1 (by omega), show ((i : Int) + (k0 : Int)).toNat = k0 + i by omega]
    rw [show rd out ((i : Int) + (k0 : Int)) = out.getD (k0 + i) 0 by unfold rd; rw [show ((i : Int) + (k0 : Int)).toNat = k0 + i by omega]]
    rw [impl_answer_in s hs k0 a hk0 h m r (i + 1) k _ h3 (by omega) (by simpa using ho) (by omega)]
    simp only [List.length_cons]
    congr 1; omega
theorem impl_answer_out (s : List Int) (hs : s.length ≤ 1000) (h : List Int) (hh : h.length ≤ 1000) : ∀ (r : List Int) (n k : Nat) (out : List Int), h.drop n = r → n + r.length = h.length → h.length + s.length ≤ out.length + 1 → 1 ≤ s.length → r.length * (s.length + 2) < k → impl_answer.l0 k s out h (h.length : Int) n = some (outerM s out r n)
  | [], n, k, out, hd, hi, ho, hs1, hk => by
    obtain ⟨k, rfl⟩ := pred (show 0 < k by omega)
    have := drop_nil hd
    simp only [impl_answer.l0, outerM]; rw [if_neg (by omega)]
  | a :: r, n, k, out, hd, hi, ho, hs1, hk => by
    obtain ⟨k, rfl⟩ := pred (show 0 < k by omega)
    obtain ⟨h1, h2, h3⟩ := drop_cons hd
    simp only [List.length_cons] at hk hi
    have e : (r.length + 1) * (s.length + 2) = r.length * (s.length + 2) + (s.length + 2) := by rw [Nat.add_mul, Nat.one_mul]
    simp only [impl_answer.l0, outerM]
    rw [if_pos (by omega), if_pos (by omega), if_pos (by omega), h2]
    have h4 := impl_answer_in s hs n a (by omega) h h.length s 0 k out rfl (by omega) (by omega) (by omega)
    rw [show ((0 : Nat) : Int) = 0 from rfl] at h4
    rw [h4, wrap_nat h1 (by omega)]
    exact impl_answer_out s hs h hh r (n + 1) _ _ h3 (by omega) (by rw [innerM_length]; omega) hs1 (by omega)
theorem impl_answer_e (h s : List Int) (hh : h.length ≤ 1000) (hs : s.length ≤ 1000) (hh1 : 1 ≤ h.length) : Ev (fun k => impl_answer.f k h s) (ansM h s) :=
  ⟨h.length * (s.length + 2) + 1, fun k hk => by
    show impl_answer.f k h s = _
    unfold impl_answer.f ansM
    by_cases h0 : s.length = 0
    · rw [if_pos (by omega), if_pos h0]
    · rw [if_neg (by omega), if_neg h0, wrap_id (x := (h.length : Int) + (s.length : Int)) (by omega) (by omega), wrap_id (x := (h.length : Int) + (s.length : Int) - 1) (by omega) (by omega), if_pos (by omega), if_pos (by omega), show ((h.length : Int) + (s.length : Int) - 1).toNat = h.length + s.length - 1 by omega]
      exact impl_answer_out s hs h hh h 0 k _ rfl (by omega) (by simp; omega) (by omega) (by omega)⟩

theorem impl_TimesWeights_e (h s : List Int) (hh : h.length ≤ 1048576) (hs : s.length ≤ 1048576) : Ev (fun k => impl_TimesWeights.f k h s) (if (weB h && weB s) = true then ifWe (ansM h s) else ([], false)) := by
  obtain ⟨K1, e1⟩ := impl_isWeights_e h (by omega)
  obtain ⟨K2, e2⟩ := impl_isWeights_e s (by omega)
  cases hc : weB h
  · refine ⟨K1 + 1, fun k hk => ?_⟩
    obtain ⟨k, rfl⟩ := pred (show K1 < k by omega)
    show impl_TimesWeights.f (k + 1) h s = _
    unfold impl_TimesWeights.f
    simp [e1 (k + 1) (by omega), hc, impl_TimesWeights.j0]
  cases hc2 : weB s
  · refine ⟨K1 + K2 + 1, fun k hk => ?_⟩
    obtain ⟨k, rfl⟩ := pred (show K1 + K2 < k by omega)
    show impl_TimesWeights.f (k + 1) h s = _
    unfold impl_TimesWeights.f
    simp [e1 (k + 1) (by omega), e2 (k + 1) (by omega), hc, hc2, impl_TimesWeights.j0]
  have w1 := weB_true hc
  have w2 := weB_true hc2
  obtain ⟨K3, e3⟩ := impl_answer_e h s (by omega) (by omega) (by omega)
  obtain ⟨K4, e4⟩ := impl_weighed_e (ansM h s) (by rw [ansM_length]; split <;> omega)
  refine ⟨K1 + K2 + K3 + K4 + 1, fun k hk => ?_⟩
  obtain ⟨k, rfl⟩ := pred (show K1 + K2 + K3 + K4 < k by omega)
  show impl_TimesWeights.f (k + 1) h s = _
  unfold impl_TimesWeights.f
  simp [e1 (k + 1) (by omega), e2 (k + 1) (by omega), e3 k (by omega), e4 k (by omega), hc, hc2, impl_TimesWeights.j0]

theorem impl_isSignal_1_v (x : Int) : impl_isSignal_1.f x = some (!inR x (-100000) 100000) := by simp only [impl_isSignal_1.f, impl_in_v, Option.bind_some]
theorem index_isSignal_l (xs : List Int) (hn : xs.length ≤ 1152921504606846976) : ∀ (r : List Int) (n k : Nat), xs.drop n = r → r.length < k → ∃ v : Int, slices_IndexFunc_int_int_impl_isSignal_1.l0 k xs (xs.length : Int) n = some v ∧ decide (v ≥ 0) = !(r.all fun x => inR x (-100000) 100000)
  | [], n, k, hd, hk => by
    obtain ⟨k, rfl⟩ := pred hk
    have := drop_nil hd
    refine ⟨-1, ?_, by simp⟩
    simp only [slices_IndexFunc_int_int_impl_isSignal_1.l0]; rw [if_neg (by omega)]
  | a :: r, n, k, hd, hk => by
    obtain ⟨k, rfl⟩ := pred hk
    obtain ⟨h1, h2, h3⟩ := drop_cons hd
    simp only [slices_IndexFunc_int_int_impl_isSignal_1.l0]
    rw [if_pos (by omega), if_pos (by omega), if_pos (by omega), h2, impl_isSignal_1_v, wrap_nat h1 hn]; simp only [Option.bind_some, List.all_cons]
    cases h : inR a (-100000) 100000
    · exact ⟨n, by simp, by simp⟩
    · obtain ⟨v, e, hv⟩ := index_isSignal_l xs hn r (n + 1) k h3 (by simp at hk; omega)
      exact ⟨v, by simpa using e, by simpa using hv⟩
theorem contains_isSignal_e (xs : List Int) (hn : xs.length ≤ 1152921504606846976) : Ev (fun k => slices_ContainsFunc_int_int_impl_isSignal_1.f k xs) (!(xs.all fun x => inR x (-100000) 100000)) :=
  ⟨xs.length + 1, fun k hk => by
    show slices_ContainsFunc_int_int_impl_isSignal_1.f k xs = some _
    obtain ⟨v, e, hv⟩ := index_isSignal_l xs hn xs 0 k rfl (by omega)
    have e' : slices_IndexFunc_int_int_impl_isSignal_1.f k xs = some v := e
    unfold slices_ContainsFunc_int_int_impl_isSignal_1.f
    rw [e']; simp only [Option.bind_some, hv]⟩

theorem impl_isSignal_e (xs : List Int) (hn : xs.length ≤ 1152921504606846976) : Ev (fun k => impl_isSignal.f k xs) (sigB xs) := by
  obtain ⟨K, e⟩ := contains_isSignal_e xs hn
  refine ⟨K, fun k hk => ?_⟩
  show impl_isSignal.f k xs = some (sigB xs)
  unfold impl_isSignal.f sigB
  simp only [e k hk, Option.bind_some, Bool.not_not]
  by_cases h : xs.length ≤ 64
  · rw [if_pos (by omega)]; simp [h]
  · rw [if_neg (by omega)]; simp [h]
theorem impl_isSignal_k (xs : List Int) (k : Nat) (hn : xs.length ≤ 64) (hk : 66 ≤ k) : impl_isSignal.f k xs = some (sigB xs) := by
  obtain ⟨v, e, hv⟩ := index_isSignal_l xs (by omega) xs 0 k rfl (by omega)
  have e' : slices_IndexFunc_int_int_impl_isSignal_1.f k xs = some v := e
  unfold impl_isSignal.f slices_ContainsFunc_int_int_impl_isSignal_1.f sigB
  rw [e']; simp only [Option.bind_some, hv, Bool.not_not]
  rw [if_pos (by omega)]; simp [hn]

theorem impl_at_v (l : List Int) (i : Int) (hl : l.length ≤ 1152921504606846976) : impl_at.f l i = some (atM l i) := by
  unfold impl_at.f atM
  rw [wrap_id (x := (l.length : Int) - 1) (by omega) (by omega), impl_in_v]
  simp only [Option.bind_some]
  cases h : inR i 0 ((l.length : Int) - 1)
  · have := inR_false.mp h
    simp only [Bool.false_eq_true, if_false]
    by_cases h0 : 0 ≤ i
    · rw [if_pos h0]; simp [List.getD, show l.length ≤ i.toNat by omega]
    · rw [if_neg h0]
  · have := inR_true.mp h
    simp only [if_true]
    rw [if_pos (by omega), if_pos (by omega), if_pos (by omega)]; rfl

theorem impl_InverseAnswer_l1 (h out : List Int) (n : Int) (i : Nat) (Kc : Nat) (V : List Int × Bool) (hh : h.length ≤ 1000) (hi : i ≤ 1000) (ho : out.length = i) (bo : Bd out) (bh : ∀ x ∈ h, -1000 ≤ x ∧ x ≤ 1000) (s : Int)
    (hC : ∀ k, Kc ≤ k → (if 0 < (h.length : Int) then (if out.length < 17592186044416 then ((some (out ++ [wrap64 (s * (rd h 0))] : List Int)).bind fun y => ((impl_isSignal.f k y).bind fun t => (if t = true then (impl_InverseAnswer.l0 k h y n (wrap64 ((i : Int) + 1))) else (some (([] : List Int), false))))) else (none)) else (none)) = some V) :
    ∀ (r : List Int) (k0 k : Nat) (acc : Int), h.drop k0 = r → 1 ≤ k0 → k0 + r.length ≤ 2000 → restM out i acc r k0 = s → -100000000000 ≤ acc - 100000000 * r.length → acc + 100000000 * r.length ≤ 100000000000 → r.length + Kc < k → impl_InverseAnswer.l1 k h out i acc k0 n i = some V
  | [], k0, k, acc, hd, h1, h2, hs, a1, a2, hk => by
    obtain ⟨k, rfl⟩ := pred (show 0 < k by omega)
    have := drop_nil hd
    simp only [restM] at hs
    simp only [List.length_nil] at hk
    simp only [impl_InverseAnswer.l1]
    rw [if_neg (by omega), hs]
    exact hC k (by omega)
  | a :: r, k0, k, acc, hd, h1, h2, hs, a1, a2, hk => by
    obtain ⟨k, rfl⟩ := pred (show 0 < k by omega)
    obtain ⟨g1, g2, g3⟩ := drop_cons hd
    simp only [List.length_cons] at hk a1 a2 h2
    have ba := bh a (by rw [← List.take_append_drop k0 h, hd]; simp)
    have bx := atM_bd bo ((i : Int) - k0)
    have bm := mul_bd2 ba bx
    simp only [impl_InverseAnswer.l1]
    rw [if_pos (by omega), if_pos (by omega), wrap_id (x := (i : Int) - (k0 : Int)) (by omega) (by omega), impl_at_v out _ (by omega)]
    simp only [Option.bind_some]
    rw [g2, wrap_id (x := a * atM out ((i : Int) - k0)) (by omega) (by omega), wrap_id (x := acc - a * atM out ((i : Int) - k0)) (by omega) (by omega), wrap_nat (m := 3000) (by omega) (by omega)]
    exact impl_InverseAnswer_l1 h out n i Kc V hh hi ho bo bh s hC r (k0 + 1) k _ g3 (by omega) (by omega) hs (by omega) (by omega) (by omega)
theorem restM_bd' (h out : List Int) (i : Nat) (bo : Bd out) : ∀ (r : List Int) (acc : Int) (k : Nat), (∀ x ∈ r, -1000 ≤ x ∧ x ≤ 1000) → acc - 100000000 * r.length ≤ restM out i acc r k ∧ restM out i acc r k ≤ acc + 100000000 * r.length
  | [], acc, k, hb => by simp [restM]
  | a :: r, acc, k, hb => by
    have bm := mul_bd2 (hb a (by simp)) (atM_bd bo ((i : Int) - k))
    have := restM_bd' h out i bo r (acc - a * atM out ((i : Int) - k)) (k + 1) (fun x hx => hb x (by simp [hx]))
    simp only [restM, List.length_cons]
    omega
theorem sigB_snoc {l : List Int} {v : Int} (hl : l.length < 64) (h : Bd l) : sigB (l ++ [v]) = inR v (-100000) 100000 := by
  cases hv : inR v (-100000) 100000
  · simp [sigB, hv]
  · exact sigB_mk (by simp; omega) (h.snoc (inR_true.mp hv))
theorem impl_InverseAnswer_l (h : List Int) (hh1 : 1 ≤ h.length) (hh : h.length ≤ 9) (bh : ∀ x ∈ h, -1000 ≤ x ∧ x ≤ 1000) (n : Nat) (hn : n ≤ 64) (KS : Nat) (hS : ∀ (l : List Int) (k : Nat), l.length ≤ 64 → KS ≤ k → impl_isSignal.f k l = some (sigB l)) : ∀ (d i k : Nat) (out : List Int), i + d = n → out.length = i → Bd out → d * 20 + KS < k → impl_InverseAnswer.l0 k h out n i = some (invM h d i out)
  | 0, i, k, out, hd, ho, bo, hk => by
    obtain ⟨k, rfl⟩ := pred (show 0 < k by omega)
    simp only [impl_InverseAnswer.l0, invM]; rw [if_neg (by omega)]
  | d + 1, i, k, out, hd, ho, bo, hk => by
    obtain ⟨k, rfl⟩ := pred (show 0 < k by omega)
    obtain ⟨k, rfl⟩ := pred (show 0 < k by omega)
    have b0 : -1000 ≤ h.getD 0 0 ∧ h.getD 0 0 ≤ 1000 := by
      rw [show h.getD 0 0 = h[0] by simp [List.getD, show 0 < h.length by omega]]; exact bh _ (List.getElem_mem _)
    have hl : (h.drop 1).length ≤ 8 := by simp; omega
    have bt : ∀ x ∈ h.drop 1, -1000 ≤ x ∧ x ≤ 1000 := fun x hx => bh x (List.mem_of_mem_drop hx)
    have key : ∀ s0 : Int, (s0 = if i = 0 then 1 else 0) → impl_InverseAnswer.l1 k h out i s0 1 n i = some (invM h (d + 1) i out) := by
      intro s0 hs0
      have h01 : 0 ≤ s0 ∧ s0 ≤ 1 := by rw [hs0]; split <;> omega
      have rb := restM_bd' h out i bo (h.drop 1) s0 1 bt
      refine impl_InverseAnswer_l1 h out n i (d * 20 + KS + 1) _ (by omega) (by omega) ho bo bh (restM out i s0 (h.drop 1) 1) ?_ (h.drop 1) 1 k s0 rfl (by omega) (by omega) rfl (by omega) (by omega) (by omega)
      intro k hk
      have hm : -10000000000000 ≤ restM out i s0 (h.drop 1) 1 * h.getD 0 0 ∧ restM out i s0 (h.drop 1) 1 * h.getD 0 0 ≤ 10000000000000 := mul_bd3 (by omega) b0
      rw [if_pos (by omega), if_pos (by omega), show rd h 0 = h.getD 0 0 from rfl, wrap_id (x := restM out i s0 (h.drop 1) 1 * h.getD 0 0) (by omega) (by omega), wrap_nat (m := 100) (by omega) (by omega)]
      simp only [Option.bind_some]
      rw [hS _ k (by simp; omega) (by omega), sigB_snoc (by omega) bo]
      simp only [Option.bind_some, invM, ← hs0]
      cases hr : inR (restM out i s0 (h.drop 1) 1 * h.getD 0 0) (-100000) 100000
      · simp
      · simp only [if_true]
        exact impl_InverseAnswer_l h hh1 hh bh n hn KS hS d (i + 1) k _ (by omega) (by simp [ho]) (bo.snoc (inR_true.mp hr)) (by omega)
    simp only [impl_InverseAnswer.l0]
    rw [if_pos (by omega)]
    by_cases h0 : i = 0
    · rw [if_pos (by omega)]; simp only [impl_InverseAnswer.j2]; exact key 1 (by rw [if_pos h0])
    · rw [if_neg (by omega)]; simp only [impl_InverseAnswer.j2]; exact key 0 (by rw [if_neg h0])
theorem impl_InverseAnswer_e (h : List Int) (n : Int) (hn : h.length ≤ 1048576) : Ev (fun k => impl_InverseAnswer.f k h n) (if (weB h && (inR n 0 64 && (h.getD 0 0 == 1 || h.getD 0 0 == -1))) = true then invM h n.toNat 0 [] else ([], false)) := by
  obtain ⟨K1, e1⟩ := impl_isWeights_e h (by omega)
  refine ⟨K1 + 3000, fun k hk => ?_⟩
  obtain ⟨k, rfl⟩ := pred (show 0 < k by omega)
  show impl_InverseAnswer.f (k + 1) h n = _
  unfold impl_InverseAnswer.f
  simp only [e1 (k + 1) (by omega), impl_in_v, Option.bind_some, show rd h 0 = h.getD 0 0 from rfl]
  cases hc : weB h
  · simp [impl_InverseAnswer.j0]
  cases hn2 : inR n 0 64
  · simp [impl_InverseAnswer.j0]
  have w1 := weB_true hc
  have n1 := inR_true.mp hn2
  have b0 : -1000 ≤ h.getD 0 0 ∧ h.getD 0 0 ≤ 1000 := by
    rw [show h.getD 0 0 = h[0] by simp [List.getD, show 0 < h.length by omega]]; exact w1.2.1 _ (List.getElem_mem _)
  have key := impl_InverseAnswer_l h (by omega) (by omega) w1.2.1 n.toNat (by omega) 66 (fun l k h1 h2 => impl_isSignal_k l k h1 (by omega)) n.toNat 0 k [] (by omega) rfl (by intro x hx; cases hx) (by omega)
  rw [show ((n.toNat : Nat) : Int) = n by omega, show ((0 : Nat) : Int) = 0 from rfl] at key
  simp only [if_true, if_pos (show (0 : Int) < (h.length : Int) by omega), impl_size_v (h.getD 0 0) (by omega) (by omega), Option.bind_some, impl_InverseAnswer.j0, key]
  generalize h.getD 0 0 = z at b0 ⊢
  by_cases c1 : z = 1
  · simp [c1, show absM 1 = 1 by unfold absM; omega]
  · by_cases c2 : z = -1
    · simp [c2, show absM (-1) = 1 by unfold absM; omega]
    · have : absM (z) ≠ 1 := by unfold absM; omega
      simp [c1, c2, this]

theorem impl_told_e (xs : List Int) (hn : xs.length ≤ 1152921504606846976) : Ev (fun k => impl_told.f k xs) (ifSig xs) := by
  obtain ⟨K, e⟩ := impl_isSignal_e xs hn
  refine ⟨K, fun k hk => ?_⟩
  show impl_told.f k xs = some (ifSig xs)
  unfold impl_told.f ifSig
  simp only [e k hk, Option.bind_some]
  split <;> rfl

theorem impl_FilterShort_e (h s : List Int) (hh : h.length ≤ 1048576) (hs : s.length ≤ 1048576) : Ev (fun k => impl_FilterShort.f k h s) (if (weB h && sigB s) = true then ifSig ((ansM h s).take s.length) else ([], false)) := by
  obtain ⟨K1, e1⟩ := impl_isWeights_e h (by omega)
  obtain ⟨K2, e2⟩ := impl_isSignal_e s (by omega)
  cases hc : weB h
  · refine ⟨K1 + 1, fun k hk => ?_⟩
    obtain ⟨k, rfl⟩ := pred (show K1 < k by omega)
    show impl_FilterShort.f (k + 1) h s = _
    unfold impl_FilterShort.f
    simp [e1 (k + 1) (by omega), hc, impl_FilterShort.j0]
  cases hc2 : sigB s
  · refine ⟨K1 + K2 + 1, fun k hk => ?_⟩
    obtain ⟨k, rfl⟩ := pred (show K1 + K2 < k by omega)
    show impl_FilterShort.f (k + 1) h s = _
    unfold impl_FilterShort.f
    simp [e1 (k + 1) (by omega), e2 (k + 1) (by omega), hc, hc2, impl_FilterShort.j0]
  have w1 := weB_true hc
  have w2 := sigB_true hc2
  obtain ⟨K3, e3⟩ := impl_answer_e h s (by omega) (by omega) (by omega)
  obtain ⟨K4, e4⟩ := impl_told_e ((ansM h s).take s.length) (by simp; omega)
  refine ⟨K1 + K2 + K3 + K4 + 1, fun k hk => ?_⟩
  obtain ⟨k, rfl⟩ := pred (show K1 + K2 + K3 + K4 < k by omega)
  have hl : s.length ≤ (ansM h s).length := by rw [ansM_length]; split <;> omega
  show impl_FilterShort.f (k + 1) h s = _
  unfold impl_FilterShort.f
  simp only [e1 (k + 1) (by omega), e2 (k + 1) (by omega), hc, hc2, Option.bind_some, Bool.and_self, if_true, impl_FilterShort.j0, Bool.not_true, Bool.false_eq_true, if_false, e3 k (by omega), if_pos (show (0 : Int) ≤ (s.length : Int) by omega), if_pos (show (s.length : Int) ≤ ((ansM h s).length : Int) by omega), show ((s.length : Int)).toNat = s.length by omega, e4 k (by omega)]

theorem set_behind (X : List Int) (g m : Nat) (a : Int) : (X ++ List.replicate (g + (m + 1)) 0).set (X.length + g) a = (X ++ List.replicate g 0 ++ [a]) ++ List.replicate m 0 := by
  rw [List.set_append, if_neg (by omega), show X.length + g - X.length = g by omega, ← List.replicate_append_replicate, List.set_append, if_neg (by simp)]
  simp [List.replicate_succ]
/-- The list with its zeros laid ahead: 'out' is what stands there, with zeros behind it. -/
theorem impl_SpreadWeights_l (xs : List Int) (c : Nat) (hc : 1 ≤ c ∧ c ≤ 4) (hx : xs.length ≤ 9) (v : List Int × Bool) (K : Nat) (z : List Int) (hK : ∀ k, K ≤ k → impl_weighed.f k z = some v) : ∀ (r : List Int) (n k : Nat) (X : List Int), 1 ≤ n → n ≤ xs.length → xs.drop n = r → X.length = (n - 1) * c + 1 → sprM (c - 1) X r n = z → r.length + K < k → impl_SpreadWeights.l0 k c (X ++ List.replicate (r.length * c) 0) xs (xs.length : Int) n = some v
  | [], n, k, X, hn, hn2, hd, hX, hv, hk => by
    obtain ⟨k, rfl⟩ := pred hk
    have := drop_nil hd
    simp only [sprM] at hv
    simp only [List.length_nil] at hk
    simp only [impl_SpreadWeights.l0]; rw [if_neg (by omega)]; simp [hv, hK k (by omega)]
  | a :: r, n, k, X, hn, hn2, hd, hX, hv, hk => by
    obtain ⟨k, rfl⟩ := pred hk
    obtain ⟨h1, h2, h3⟩ := drop_cons hd
    simp only [List.length_cons] at hk
    have hnc : n * c ≤ 9 * 4 := Nat.mul_le_mul (by omega) hc.2
    have e1 : n * c = X.length + (c - 1) := by
      rw [hX]
      have : n * c = (n - 1) * c + c := by rw [← Nat.succ_mul]; congr 1; omega
      omega
    have e2 : (r.length + 1) * c = (c - 1) + (r.length * c + 1) := by rw [Nat.succ_mul]; omega
    have e3 : ((n : Int) * (c : Int)) = ((n * c : Nat) : Int) := by simp
    simp only [impl_SpreadWeights.l0, List.length_cons]
    rw [e3, wrap_id (x := ((n * c : Nat) : Int)) (by omega) (by omega)]
    rw [if_pos (by omega), if_pos (by omega), if_pos (by omega), if_pos (by omega), if_pos (by rw [List.length_append, List.length_replicate, e2]; omega), h2, Int.toNat_natCast, e1, e2, set_behind, wrap_nat h1 (by omega)]
    refine impl_SpreadWeights_l xs c hc hx v K z hK r (n + 1) k _ (by omega) (by omega) h3 ?_ ?_ (by omega)
    · simp only [List.length_append, List.length_replicate, List.length_singleton]
      rw [show n + 1 - 1 = n by omega, e1]
    · simpa [sprM, show n ≠ 0 by omega] using hv
theorem impl_SpreadWeights_e (xs : List Int) (c : Int) (hn : xs.length ≤ 1048576) : Ev (fun k => impl_SpreadWeights.f k xs c) (if (weB xs && inR c 1 4) = true then ifWe (sprM (c - 1).toNat [] xs 0) else ([], false)) := by
  obtain ⟨K1, e1⟩ := impl_isWeights_e xs (by omega)
  cases h : weB xs
  · refine ⟨K1 + 1, fun k hk => ?_⟩
    obtain ⟨k, rfl⟩ := pred (show K1 < k by omega)
    show impl_SpreadWeights.f (k + 1) xs c = _
    unfold impl_SpreadWeights.f
    simp [e1 (k + 1) (by omega), h, impl_SpreadWeights.j0]
  · cases h2 : inR c 1 4
    · refine ⟨K1 + 1, fun k hk => ?_⟩
      obtain ⟨k, rfl⟩ := pred (show K1 < k by omega)
      show impl_SpreadWeights.f (k + 1) xs c = _
      unfold impl_SpreadWeights.f
      simp [e1 (k + 1) (by omega), h, h2, impl_in_v, impl_SpreadWeights.j0]
    · have hc := inR_true.mp h2
      obtain ⟨c, rfl⟩ : ∃ d : Nat, c = d := ⟨c.toNat, by omega⟩
      have hw := (weB_true h).1
      have hl := sprM_len ((c : Int) - 1).toNat xs [] 0
      have hl2 : xs.length * (((c : Int) - 1).toNat + 1) ≤ 9 * 4 := Nat.mul_le_mul hw.2 (by omega)
      simp only [List.length_nil] at hl
      obtain ⟨K3, e3⟩ := impl_weighed_e (sprM ((c : Int) - 1).toNat [] xs 0) (by omega)
      have hlc : (xs.length - 1) * c ≤ 9 * 4 := Nat.mul_le_mul (by omega) (by omega)
      refine ⟨K1 + K3 + xs.length + 3, fun k hk => ?_⟩
      obtain ⟨k, rfl⟩ := pred (show K1 + K3 + xs.length + 2 < k by omega)
      obtain ⟨k, rfl⟩ := pred (show K1 + K3 + xs.length + 1 < k by omega)
      show impl_SpreadWeights.f (k + 1 + 1) xs c = _
      unfold impl_SpreadWeights.f
      have e4 : wrap64 (wrap64 (wrap64 ((xs.length : Int) - 1) * (c : Int)) + 1) = (((xs.length - 1) * c + 1 : Nat) : Int) := by
        have e5 : ((xs.length : Int) - 1) * (c : Int) = (((xs.length - 1) * c : Nat) : Int) := by
          rw [show (xs.length : Int) - 1 = ((xs.length - 1 : Nat) : Int) by omega]; simp
        rw [wrap_id (x := (xs.length : Int) - 1) (by omega) (by omega), e5, wrap_id (x := (((xs.length - 1) * c : Nat) : Int)) (by omega) (by omega), wrap_id (by omega) (by omega)]
        omega
      simp only [e1 (k + 1 + 1) (by omega), h, h2, impl_in_v, Option.bind_some, if_true, Bool.not_true, Bool.and_self]
      simp only [impl_SpreadWeights.j0, e4, Bool.false_eq_true, if_false]
      rw [if_pos (by omega), if_pos (by omega), Int.toNat_natCast]
      cases xs with
      | nil => simp at hw
      | cons a r =>
        have h0 : impl_SpreadWeights.l0 (k + 1) (c : Int) (List.replicate (((a :: r).length - 1) * c + 1) 0) (a :: r) ((a :: r).length : Int) 0 = impl_SpreadWeights.l0 k (c : Int) ([a] ++ List.replicate (r.length * c) 0) (a :: r) ((a :: r).length : Int) ((1 : Nat) : Int) := by
          simp only [impl_SpreadWeights.l0, List.length_cons, Nat.add_sub_cancel, Int.zero_mul]
          have w0 : wrap64 0 = 0 := wrap_id (by omega) (by omega)
          have w1 : wrap64 (0 + 1) = ((1 : Nat) : Int) := by rw [wrap_id (by omega) (by omega)]; rfl
          simp only [w0, w1]
          rw [if_pos (by omega), if_pos (by omega), if_pos (by omega), if_pos (by omega), if_pos (by rw [List.length_replicate]; omega)]
          rw [show (0 : Int).toNat = 0 from rfl, List.replicate_succ]
          rfl
        rw [h0]
        refine impl_SpreadWeights_l (a :: r) c (by omega) hw.2 _ K3 _ e3 r 1 k [a] (by omega) (by simp) rfl (by simp) ?_ (by simp at hk; omega)
        simp [sprM, show ((c : Int) - 1).toNat = c - 1 by omega]

theorem laws_iSum_l (a : List Int) (ha : a.length ≤ 1000) (hb : Bd a) : ∀ (r : List Int) (n k : Nat) (acc : Int), a.drop n = r → n + r.length = a.length → -1000000000000 + 100000 * (r.length : Int) ≤ acc → acc ≤ 1000000000000 - 100000 * (r.length : Int) → r.length < k → laws_iSum.l0 k acc a (a.length : Int) n = some (acc + r.sum) := by
  intro r
  induction r with
  | nil =>
    intro n k acc hd hn h1 h2 hk
    obtain ⟨k, rfl⟩ := pred hk
    have := drop_nil hd
    simp only [laws_iSum.l0]
    rw [if_neg (by omega)]
    simp
  | cons x r ih =>
    intro n k acc hd hn h1 h2 hk
    obtain ⟨k, rfl⟩ := pred (Nat.lt_of_le_of_lt (Nat.zero_le _) hk)
    obtain ⟨g1, g2, g3⟩ := drop_cons hd
    simp only [List.length_cons] at hk h1 h2 hn
    have hx : -100000 ≤ x ∧ x ≤ 100000 := hb x (by rw [← List.take_append_drop n a, hd]; simp)
    simp only [laws_iSum.l0]
    rw [if_pos (by omega), if_pos (by omega), if_pos (by omega), g2, wrap_id (x := acc + x) (by omega) (by omega), wrap_nat g1 (by omega), ih (n + 1) k (acc + x) g3 (by omega) (by omega) (by omega) (by omega), List.sum_cons]
    congr 1; omega
theorem laws_iSum_e (a : List Int) (ha : a.length ≤ 1000) (hb : Bd a) : Ev (fun k => laws_iSum.f k a) a.sum :=
  ⟨a.length + 1, fun k hk => by
    show laws_iSum.f k a = _
    unfold laws_iSum.f
    have := laws_iSum_l a ha hb a 0 k 0 rfl (by omega) (by omega) (by omega) (by omega)
    rw [show ((0 : Nat) : Int) = 0 from rfl, Int.zero_add] at this
    exact this⟩

-- import Mirror
-- spec first
theorem foldedM_len : ∀ (r L : List Int), (foldedM L r).length ≤ L.length + r.length
  | [], L => by simp [foldedM]
  | x :: r, L => by
    simp only [foldedM, List.length_cons]
    split
    · have := foldedM_len r L; omega
    · have := foldedM_len r (addI L (absM x))
      have : (addI L (absM x)).length ≤ L.length + 1 := by unfold addI; split <;> simp
      omega
theorem foldedM_grows : ∀ (r L : List Int), L.length ≤ (foldedM L r).length
  | [], L => by simp [foldedM]
  | x :: r, L => by
    simp only [foldedM]
    split
    · exact foldedM_grows r L
    · have := foldedM_grows r (addI L (absM x))
      have : L.length ≤ (addI L (absM x)).length := by unfold addI; split <;> simp
      omega
theorem foldedM_zero : ∀ (r : List Int), (foldedM [] r).length = 0 ↔ absSum r = 0
  | [] => by simp [foldedM, absSum]
  | x :: r => by
    simp only [foldedM]
    rw [absSum_cons]
    have h1 := absSum_nonneg r
    have h2 := absM_nonneg x
    split
    · next h => subst h; rw [foldedM_zero r]; simp [absM]
    · next h =>
      have h3 := foldedM_grows r (addI [] (absM x))
      have h4 : (addI [] (absM x)).length = 1 := by simp [addI]
      have h5 : absM x ≠ 0 := by unfold absM; omega
      constructor <;> intro h6 <;> omega
/-! ### weights apart -/
theorem sprM_all (g : Nat) : ∀ (r out : List Int) (n : Nat), 1 ≤ n → out.length = (n - 1) * (g + 1) + 1 →
    (sprM g out r n).length = (n + r.length - 1) * (g + 1) + 1 ∧ (sprM g out r n).sum = out.sum + r.sum ∧ (∀ j, j < out.length → (sprM g out r n).getD j 0 = out.getD j 0) ∧ ∀ j, j < r.length → (sprM g out r n).getD ((n + j) * (g + 1)) 0 = r.getD j 0
  | [], out, n, hn, ho => by simp [sprM, ho]
  | a :: r, out, n, hn, ho => by
    simp only [sprM]
    rw [if_neg (by omega)]
    have hz : (List.replicate g (0 : Int)).sum = 0 := by induction g with | zero => rfl | succ g ih => simp [List.replicate_succ]
    have e : (n + 1 - 1) * (g + 1) = (n - 1) * (g + 1) + (g + 1) := by rw [← Nat.succ_mul]; congr 1; omega
    have hl : (out ++ List.replicate g 0 ++ [a]).length = (n + 1 - 1) * (g + 1) + 1 := by
      rw [e]; simp [ho]; omega
    obtain ⟨h1, h2, h3, h4⟩ := sprM_all g r (out ++ List.replicate g 0 ++ [a]) (n + 1) (by omega) hl
    refine ⟨?_, ?_, ?_, ?_⟩
    · rw [h1, List.length_cons, show n + 1 + r.length - 1 = n + (r.length + 1) - 1 by omega]
    · rw [h2]; simp only [List.sum_append, List.sum_cons, List.sum_nil, hz]; omega
    · intro j hj
      rw [h3 j (by simp; omega)]
      simp only [List.getD, List.append_assoc]
      rw [List.getElem?_append_left hj]
    · intro j hj
      cases j with
      | zero =>
        rw [h3 _ (by rw [hl]; simp)]
        rw [Nat.add_zero]
        have : n * (g + 1) = (out ++ List.replicate g (0 : Int)).length := by
          simp only [List.length_append, List.length_replicate, ho]
          have : n + 1 - 1 = n := by omega
          rw [this] at e
          omega
        rw [this]
        simp [List.getD]
      | succ j =>
        have := h4 j (by simpa using hj)
        rw [show n + (j + 1) = n + 1 + j by omega, this]
        simp [List.getD]
theorem sprM_nil (g : Nat) (xs : List Int) (h : 1 ≤ xs.length) : (sprM g [] xs 0).length = (xs.length - 1) * (g + 1) + 1 ∧ (sprM g [] xs 0).sum = xs.sum ∧ ∀ j, j < xs.length → (sprM g [] xs 0).getD (j * (g + 1)) 0 = xs.getD j 0 := by
  cases xs with
  | nil => simp at h
  | cons a r =>
    simp only [sprM, if_true]
    obtain ⟨h1, h2, h3, h4⟩ := sprM_all g r ([] ++ [a]) (0 + 1) (by omega) (by simp)
    refine ⟨?_, ?_, ?_⟩
    · rw [h1]; simp only [List.length_cons]; congr 2; omega
    · rw [h2]; simp
    · intro j hj
      cases j with
      | zero => rw [Nat.zero_mul, h3 0 (by simp)]; simp
      | succ j =>
        rw [show j + 1 = 0 + 1 + j by omega, h4 j (by simpa using hj)]
        simp [List.getD, show 0 + 1 + j = j + 1 by omega]
theorem weB_rev (h : List Int) : weB h.reverse = weB h := by
  unfold weB
  simp
theorem absSum_bd {l : List Int} (h : ∀ x ∈ l, -1000 ≤ x ∧ x ≤ 1000) : absSum l ≤ 1000 * (l.length : Int) := by
  induction l with
  | nil => simp [absSum]
  | cons a r ih =>
    rw [absSum_cons]
    have h1 := ih (fun x hx => h x (by simp [hx]))
    have h2 := h a (by simp)
    simp only [List.length_cons]
    unfold absM
    omega
theorem wm_l1 (c : Nat) (g sp : List Int) (hc : c ≤ 4) (hg : g.length ≤ 9) (hs : sp.length = (g.length - 1) * c + 1) (hv : ∀ j, j < g.length → sp.getD (j * c) 0 = g.getD j 0) : ∀ (r : List Int) (n k : Nat), g.drop n = r → r.length < k → laws_FnWeightsMirrored.l1 k (c : Int) sp g (g.length : Int) n = some true
  | [], n, k, hd, hk => by
    obtain ⟨k, rfl⟩ := pred (show 0 < k by omega)
    have := drop_nil hd
    simp only [laws_FnWeightsMirrored.l1]
    rw [if_neg (by omega)]
  | a :: r, n, k, hd, hk => by
    obtain ⟨k, rfl⟩ := pred (show 0 < k by omega)
    obtain ⟨h1, h2, h3⟩ := drop_cons hd
    simp only [List.length_cons] at hk
    have hm : n * c ≤ (g.length - 1) * c := Nat.mul_le_mul (by omega) (Nat.le_refl _)
    have hm2 : (g.length - 1) * c ≤ 8 * 4 := Nat.mul_le_mul (by omega) hc
    have e1 : (n : Int) * (c : Int) = ((n * c : Nat) : Int) := by simp
    have e2 : rd sp ((n * c : Nat) : Int) = rd g (n : Int) := by
      unfold rd
      rw [Int.toNat_natCast, Int.toNat_natCast]
      exact hv n h1
    simp only [laws_FnWeightsMirrored.l1]
    rw [if_pos (by omega), if_pos (by omega), if_pos (by omega), e1, wrap_id (x := ((n * c : Nat) : Int)) (by omega) (by omega), if_pos (by omega), if_pos (by omega), if_pos e2, wrap_nat h1 (by omega)]
    exact wm_l1 c g sp hc hg hs hv r (n + 1) k h3 (by omega)
theorem wm_j7 (g : List Int) (c : Int) (V : List Int × Bool) (hV : V = (if (weB g && inR c 1 4) = true then ifWe (sprM (c - 1).toNat [] g 0) else ([], false))) : Ev (fun k => laws_FnWeightsMirrored.j7 k g c V.1 V.2 false) true := by
  have no : V = ([], false) → Ev (fun k => laws_FnWeightsMirrored.j7 k g c V.1 V.2 false) true := by
    intro e
    subst e
    refine ⟨1, fun k hk => ?_⟩
    obtain ⟨k, rfl⟩ := pred (show 0 < k by omega)
    simp [laws_FnWeightsMirrored.j7]
  by_cases h : (weB g && inR c 1 4) = true
  · rw [if_pos h] at hV
    unfold ifWe at hV
    by_cases h2 : weB (sprM (c - 1).toNat [] g 0) = true
    · rw [if_pos h2] at hV
      simp only [Bool.and_eq_true] at h
      have w := weB_true h.1
      have hc := inR_true.mp h.2
      have w2 := weB_true h2
      obtain ⟨a1, a2, a3⟩ := sprM_nil (c - 1).toNat g w.1.1
      generalize sprM (c - 1).toNat [] g 0 = sp at *
      subst hV
      obtain ⟨C, rfl⟩ : ∃ d : Nat, c = d := ⟨c.toNat, by omega⟩
      rw [show ((C : Int) - 1).toNat + 1 = C by omega] at a1 a3
      obtain ⟨K1, e1⟩ := laws_iSum_e sp (by omega) w2.2.2
      try dsimp only at e1
      obtain ⟨K2, e2⟩ := laws_iSum_e g (by omega) w.2.2
      try dsimp only at e2
      have hm : (g.length - 1) * C ≤ 8 * 4 := Nat.mul_le_mul (by omega) (by omega)
      have e4 : wrap64 (wrap64 (wrap64 ((g.length : Int) - 1) * (C : Int)) + 1) = (((g.length - 1) * C + 1 : Nat) : Int) := by
        have e5 : ((g.length : Int) - 1) * (C : Int) = (((g.length - 1) * C : Nat) : Int) := by
          rw [show (g.length : Int) - 1 = ((g.length - 1 : Nat) : Int) by omega]; simp
        rw [wrap_id (x := (g.length : Int) - 1) (by omega) (by omega), e5, wrap_id (x := (((g.length - 1) * C : Nat) : Int)) (by omega) (by omega), wrap_id (by omega) (by omega)]
        omega
      refine ⟨K1 + K2 + g.length + 4, fun k hk => ?_⟩
      obtain ⟨k, rfl⟩ := pred (show K1 + K2 + g.length + 3 < k by omega)
      obtain ⟨k, rfl⟩ := pred (show K1 + K2 + g.length + 2 < k by omega)
      show laws_FnWeightsMirrored.j7 (k + 1 + 1) g C sp true false = _
      have f1 := e1 (k + 1) (by omega)
      have f2 := e2 (k + 1) (by omega)
      simp only [laws_FnWeightsMirrored.j7, e4]
      rw [if_neg (by decide), if_pos trivial, if_pos (by omega)]
      simp only [f1, f2, Option.bind_some, a2, bne_self_eq_false]
      simp only [laws_FnWeightsMirrored.j8]
      rw [if_neg (by decide)]
      exact wm_l1 C g sp (by omega) w.1.2 a1 a3 g 0 k rfl (by omega)
    · rw [if_neg h2] at hV
      exact no hV
  · rw [if_neg h] at hV
    exact no hV
theorem wm_j6 (l : List Int) (hl : Bytes l) (hn : l.length ≤ 1048576) : Ev (fun k => laws_FnWeightsMirrored.j6 k l) true := by
  obtain ⟨g, c, ⟨K1, e1⟩, hg, c0, c1⟩ := spec_DrawSpreadWeights_e l hl hn
  try dsimp only at e1
  obtain ⟨K2, e2⟩ := impl_SpreadWeights_e g c (by omega)
  try dsimp only at e2
  obtain ⟨K3, e3⟩ := spec_SpreadWeights_e g c (by omega)
  try dsimp only at e3
  have hlen : (if (weB g && inR c 1 4) = true then ifWe (sprM (c - 1).toNat [] g 0) else ([], false)).1.length ≤ 9 := we_if_len _
  obtain ⟨V, hV⟩ : ∃ V, V = (if (weB g && inR c 1 4) = true then ifWe (sprM (c - 1).toNat [] g 0) else ([], false)) := ⟨_, rfl⟩
  rw [← hV] at hlen e2 e3
  obtain ⟨K4, e4⟩ := laws_iSame_e V.1 V.1 (by omega)
  try dsimp only at e4
  obtain ⟨K5, e5⟩ := wm_j7 g c V hV
  try dsimp only at e5
  refine ⟨K1 + K2 + K3 + K4 + K5 + 1, fun k hk => ?_⟩
  obtain ⟨k, rfl⟩ := pred (show K1 + K2 + K3 + K4 + K5 < k by omega)
  show laws_FnWeightsMirrored.j6 (k + 1) l = _
  have f1 := e1 k (by omega)
  have f2 := e2 k (by omega)
  have f3 := e3 k (by omega)
  have f4 := e4 k (by omega)
  have f5 := e5 k (by omega)
  simp only [laws_FnWeightsMirrored.j6, f1, f2, f3, f4, Option.bind_some, bne_self_eq_false, Bool.false_eq_true, if_false, decide_true, Bool.not_true]
  exact f5
theorem wm_l0 (l : List Int) (K6 : Nat) (h6 : ∀ k, K6 ≤ k → laws_FnWeightsMirrored.j6 k l = some true) (out : List Int) (ho : out.length ≤ 1000) (hd : ∀ j, j < out.length → out.getD j 0 = if j = 0 then 1 else 0) : ∀ (r : List Int) (n k : Nat), out.drop n = r → r.length + K6 < k → laws_FnWeightsMirrored.l0 k l out (out.length : Int) n = some true
  | [], n, k, hr, hk => by
    obtain ⟨k, rfl⟩ := pred (show 0 < k by omega)
    have := drop_nil hr
    simp only [laws_FnWeightsMirrored.l0]
    simp only [List.length_nil] at hk
    rw [if_neg (by omega)]
    exact h6 k (by omega)
  | a :: r, n, k, hr, hk => by
    obtain ⟨k, rfl⟩ := pred (show 0 < k by omega)
    obtain ⟨h1, h2, h3⟩ := drop_cons hr
    simp only [List.length_cons] at hk
    have e : rd out (n : Int) = if n = 0 then 1 else 0 := hd n h1
    have ih := wm_l0 l K6 h6 out ho hd r (n + 1) k h3 (by omega)
    simp only [laws_FnWeightsMirrored.l0]
    rw [if_pos (by omega), if_pos (by omega), if_pos (by omega), e, wrap_nat h1 (by omega)]
    by_cases c : n = 0
    · subst c
      simp only [if_true]
      rw [if_pos (by omega), if_neg (by omega)]
      exact ih
    · rw [if_neg c, if_neg (by omega), if_pos (by omega), if_pos rfl]
      exact ih
theorem wm_j3 (l : List Int) (K6 : Nat) (h6 : ∀ k, K6 ≤ k → laws_FnWeightsMirrored.j6 k l = some true) (h : List Int) (n : Int) (V : List Int × Bool)
    (hV : V = (if (weB h && (inR n 0 64 && (h.getD 0 0 == 1 || h.getD 0 0 == -1))) = true then invM h n.toNat 0 [] else ([], false))) : Ev (fun k => laws_FnWeightsMirrored.j3 k l h n V.1 V.2 false) true := by
  obtain ⟨F, b⟩ := V
  cases b with
  | false =>
    refine ⟨K6 + 1, fun k hk => ?_⟩
    obtain ⟨k, rfl⟩ := pred (show K6 < k by omega)
    show laws_FnWeightsMirrored.j3 (k + 1) l h n F false false = _
    simp only [laws_FnWeightsMirrored.j3]
    rw [if_neg (by decide), if_neg (by decide)]
    exact h6 k (by omega)
  | true =>
    by_cases c : (weB h && (inR n 0 64 && (h.getD 0 0 == 1 || h.getD 0 0 == -1))) = true
    · rw [if_pos c] at hV
      simp only [Bool.and_eq_true, Bool.or_eq_true, beq_iff_eq] at c
      obtain ⟨cw, cn, c0⟩ := c
      have w := weB_true cw
      have hn := inR_true.mp cn
      obtain ⟨g1, g2, _, g4⟩ := invM_spec h w.1.1 c0 n.toNat 0 [] F rfl (fun x hx => by cases hx) hV.symm
      have hs : sigB F = true := sigB_mk (by omega) g2
      have hM : ∀ a ∈ h, ∀ x ∈ F, -10000000000 ≤ a * x ∧ a * x ≤ 10000000000 := fun a ha x hx => by have := mul_bd2 (w.2.1 a ha) (g2 x hx); omega
      have ht := inverse_take h F n.toNat (by omega) w.1.1 (by omega) hM (fun j hj => g4 j (by omega) (by omega))
      obtain ⟨K1, e1⟩ := impl_FilterShort_e h F (by omega) (by omega)
      try dsimp only at e1
      rw [cw, hs, Bool.and_self, if_pos rfl, ht] at e1
      obtain ⟨D, hD⟩ : ∃ D : List Int, D = (List.range n.toNat).map fun (j : Nat) => if j = 0 then (1 : Int) else 0 := ⟨_, rfl⟩
      rw [← hD] at e1
      have hDl : D.length = n.toNat := by rw [hD]; simp
      have hDv : ∀ j, j < D.length → D.getD j 0 = if j = 0 then 1 else 0 := by
        intro j hj
        rw [hDl] at hj
        rw [hD]
        simp [List.getD, hj]
      have hDb : sigB D = true := sigB_mk (by omega) (fun x hx => by
        rw [hD] at hx
        simp only [List.mem_map] at hx
        obtain ⟨j, _, rfl⟩ := hx
        split <;> omega)
      unfold ifSig at e1
      rw [if_pos hDb] at e1
      refine ⟨K1 + K6 + D.length + 4, fun k hk => ?_⟩
      obtain ⟨k, rfl⟩ := pred (show K1 + K6 + D.length + 3 < k by omega)
      obtain ⟨k, rfl⟩ := pred (show K1 + K6 + D.length + 2 < k by omega)
      show laws_FnWeightsMirrored.j3 (k + 1 + 1) l h n F true false = _
      have f1 := e1 (k + 1) (by omega)
      have f2 : ((F.length : Int) != n) = false := by simp; omega
      simp only [laws_FnWeightsMirrored.j3]
      rw [if_neg (by decide), if_pos trivial, f1]
      simp only [Option.bind_some, if_true, f2]
      simp only [laws_FnWeightsMirrored.j4]
      rw [if_neg (by decide)]
      exact wm_l0 l K6 h6 D (by omega) hDv D 0 k rfl (by omega)
    · rw [if_neg c] at hV
      cases hV
theorem wm_j2 (l : List Int) (hl : Bytes l) (hn : l.length ≤ 1048576) : Ev (fun k => laws_FnWeightsMirrored.j2 k l) true := by
  obtain ⟨K6, h6⟩ := wm_j6 l hl hn
  try dsimp only at h6
  obtain ⟨h, n, ⟨K1, e1⟩, hh⟩ := spec_DrawInverseAnswer_e l hl hn
  try dsimp only at e1
  obtain ⟨K2, e2⟩ := impl_InverseAnswer_e h n (by omega)
  try dsimp only at e2
  obtain ⟨K3, e3⟩ := spec_InverseAnswer_e h n (by omega)
  try dsimp only at e3
  have hlen : (if (weB h && (inR n 0 64 && (h.getD 0 0 == 1 || h.getD 0 0 == -1))) = true then invM h n.toNat 0 [] else ([], false)).1.length ≤ 64 := by
    split
    · next c =>
      simp only [Bool.and_eq_true] at c
      have := inR_true.mp c.2.1
      have := invM_len h n.toNat 0 []
      simp only [List.length_nil] at this
      omega
    · simp
  obtain ⟨V, hV⟩ : ∃ V, V = (if (weB h && (inR n 0 64 && (h.getD 0 0 == 1 || h.getD 0 0 == -1))) = true then invM h n.toNat 0 [] else ([], false)) := ⟨_, rfl⟩
  rw [← hV] at hlen e2 e3
  obtain ⟨K4, e4⟩ := laws_iSame_e V.1 V.1 (by omega)
  try dsimp only at e4
  obtain ⟨K5, e5⟩ := wm_j3 l K6 h6 h n V hV
  try dsimp only at e5
  refine ⟨K1 + K2 + K3 + K4 + K5 + 1, fun k hk => ?_⟩
  obtain ⟨k, rfl⟩ := pred (show K1 + K2 + K3 + K4 + K5 < k by omega)
  show laws_FnWeightsMirrored.j2 (k + 1) l = _
  have f1 := e1 k (by omega)
  have f2 := e2 k (by omega)
  have f3 := e3 k (by omega)
  have f4 := e4 k (by omega)
  have f5 := e5 k (by omega)
  simp only [laws_FnWeightsMirrored.j2, f1, f2, f3, f4, Option.bind_some, bne_self_eq_false, Bool.false_eq_true, if_false, decide_true, Bool.not_true]
  exact f5
theorem wm_j1 (l : List Int) (hl : Bytes l) (hn : l.length ≤ 1048576) (h : List Int) (hw : weB h = true) : Ev (fun k => laws_FnWeightsMirrored.j1 k l h h.reverse false) true := by
  obtain ⟨K2, e2⟩ := wm_j2 l hl hn
  try dsimp only at e2
  have w := weB_true hw
  obtain ⟨K1, e1⟩ := impl_TimesWeights_e h h.reverse (by omega) (by simp; omega)
  try dsimp only at e1
  rw [weB_rev, hw, Bool.and_self, if_pos rfl] at e1
  have hs := product_sym h w.1.1 (by omega) (fun a ha x hx => by
    have b1 := w.2.1 a ha
    have b2 := w.2.1 x hx
    have := mul_bd2 b1 (c := x) (by omega)
    omega)
  unfold ifWe at e1
  by_cases c : weB (ansM h h.reverse) = true
  · rw [if_pos c] at e1
    generalize ansM h h.reverse = P at *
    have wP := weB_true c
    obtain ⟨K3, e3⟩ := impl_IsSymmetric_e P (by omega)
    try dsimp only at e3
    rw [if_pos c, hs] at e3
    refine ⟨K1 + K2 + K3 + 1, fun k hk => ?_⟩
    obtain ⟨k, rfl⟩ := pred (show K1 + K2 + K3 < k by omega)
    show laws_FnWeightsMirrored.j1 (k + 1) l h h.reverse false = _
    have f1 := e1 k (by omega)
    have f2 := e2 k (by omega)
    have f3 := e3 k (by omega)
    simp only [laws_FnWeightsMirrored.j1, f1, f3, Option.bind_some, Bool.false_eq_true, if_false, if_true, decide_true]
    exact f2
  · rw [if_neg c] at e1
    refine ⟨K1 + K2 + 1, fun k hk => ?_⟩
    obtain ⟨k, rfl⟩ := pred (show K1 + K2 < k by omega)
    show laws_FnWeightsMirrored.j1 (k + 1) l h h.reverse false = _
    have f1 := e1 k (by omega)
    have f2 := e2 k (by omega)
    simp only [laws_FnWeightsMirrored.j1, f1, Option.bind_some, Bool.false_eq_true, if_false]
    exact f2
theorem wm_j0 (l : List Int) (hl : Bytes l) (hn : l.length ≤ 1048576) (h : List Int) (hw : weB h = true) :
    Ev (fun k => laws_FnWeightsMirrored.j0 k l h (decide (h.reverse = h)) true (decide ((h.reverse.map fun x => x * -1) = h)) h.reverse h.sum (alt true h) (absSum h) ((foldedM [] h).length : Int) false) true := by
  obtain ⟨K0, e0⟩ := wm_j1 l hl hn h hw
  try dsimp only at e0
  have w := weB_true hw
  have hrl : h.reverse.length ≤ 1048576 := by simp; omega
  obtain ⟨K1, e1⟩ := impl_BackWeights_e h.reverse hrl
  try dsimp only at e1
  rw [weB_rev, if_pos hw, List.reverse_reverse] at e1
  obtain ⟨K2, e2⟩ := impl_GainOf_e h.reverse hrl
  try dsimp only at e2
  rw [weB_rev, if_pos hw, sum_rev] at e2
  obtain ⟨K3, e3⟩ := laws_iSame_e h h (by omega)
  try dsimp only at e3
  obtain ⟨K4, e4⟩ := laws_iSame_e h.reverse h hrl
  try dsimp only at e4
  have b1 := sum_abs h
  have b2 := alt_abs h true
  have b3 := absSum_bd w.2.1
  have b4 := foldedM_len h []
  have b5 := foldedM_zero h
  have s1 := laws_iSize_v h.sum (by omega)
  have s2 := laws_iSize_v (alt true h) (by omega)
  have n1 : ¬ absM h.sum > absSum h := by unfold absM; omega
  have n2 : ¬ absM (alt true h) > absSum h := by unfold absM; omega
  have n3 : ¬ ((foldedM [] h).length : Int) > (h.length : Int) := by simp only [List.length_nil] at b4; omega
  have n4 : ((((foldedM [] h).length : Int) == 0) != (absSum h == 0)) = false := by
    by_cases c : absSum h = 0
    · have := b5.mpr c; simp [c, this]
    · have : ¬ (foldedM [] h).length = 0 := fun e => c (b5.mp e)
      have c' : (absSum h == 0) = false := by simpa using c
      have t' : (((foldedM [] h).length : Int) == 0) = false := by simp; intro e; rw [e] at this; exact this rfl
      rw [c', t']; rfl
  refine ⟨K0 + K1 + K2 + K3 + K4 + 1, fun k hk => ?_⟩
  obtain ⟨k, rfl⟩ := pred (show K0 + K1 + K2 + K3 + K4 < k by omega)
  have f0 := e0 k (by omega)
  have f1 := e1 k (by omega)
  have f2 := e2 k (by omega)
  have f3 := e3 k (by omega)
  have f4 := e4 k (by omega)
  simp only [laws_FnWeightsMirrored.j0]
  rw [if_neg (by decide), if_pos trivial, f1]
  simp only [Option.bind_some]
  rw [f2]
  simp only [Option.bind_some, if_true]
  rw [f3]
  simp only [Option.bind_some, decide_true, if_true]
  rw [f4]
  simp only [Option.bind_some, bne_self_eq_false, Bool.false_eq_true, if_false, s1, s2, if_neg n1, if_neg n2, if_neg n3, n4]
  by_cases cm : (h.reverse.map fun x => x * -1) = h
  · rw [if_pos (decide_eq_true cm), if_pos (mirrored_sum cm)]
    by_cases cs : h.reverse = h
    · rw [if_pos (decide_eq_true cs), if_pos (both_zero cs cm)]
      exact f0
    · rw [if_neg (by simpa using cs)]
      exact f0
  · rw [if_neg (by simpa using cm)]
    by_cases cs : h.reverse = h
    · rw [if_pos (decide_eq_true cs)]
      exact f0
    · rw [if_neg (by simpa using cs)]
      exact f0
theorem wm_j0n (l : List Int) (hl : Bytes l) (hn : l.length ≤ 1048576) (h back : List Int) (is mi : Bool) (a b c d : Int) : Ev (fun k => laws_FnWeightsMirrored.j0 k l h is false mi back a b c d false) true := by
  obtain ⟨K0, e0⟩ := wm_j2 l hl hn
  try dsimp only at e0
  refine ⟨K0 + 1, fun k hk => ?_⟩
  obtain ⟨k, rfl⟩ := pred (show K0 < k by omega)
  have f0 := e0 k (by omega)
  show laws_FnWeightsMirrored.j0 (k + 1) l h is false mi back a b c d false = _
  simp only [laws_FnWeightsMirrored.j0]
  rw [if_neg (by decide), if_neg (by decide)]
  exact f0
theorem bytes_of {l : List Int} (h : ∀ x ∈ l, (Lit.int .u8 x).wf = true) : Bytes l := by
  intro x hx
  have := h x hx
  simp [Lit.wf, IntKind.min, IntKind.max, IntKind.signed, IntKind.bits] at this
  omega
theorem FnWeightsMirrored : laws_FnWeightsMirrored.Pure := by
  intro a b ha ha2 hwa hb hb2 hwb
  have hab := bytes_of hwa
  have hbb := bytes_of hwb
  obtain ⟨t, et, ht⟩ := laws_big_v a b (by omega)
  cases t with
  | true => exact ⟨0, by simp [laws_FnWeightsMirrored.f, et]⟩
  | false =>
    obtain ⟨l1, l2⟩ := ht rfl
    obtain ⟨h, ⟨K1, e1⟩, hh⟩ := spec_DrawIsSymmetric_e a hab l1
    try dsimp only at e1
    have hl : h.length ≤ 1048576 := by omega
    obtain ⟨K2, e2⟩ := impl_IsSymmetric_e h hl
    try dsimp only at e2
    obtain ⟨K3, e3⟩ := spec_IsSymmetric_e h hl
    try dsimp only at e3
    obtain ⟨K4, e4⟩ := impl_IsMirrored_e h hl
    try dsimp only at e4
    obtain ⟨K5, e5⟩ := spec_IsMirrored_e h hl
    try dsimp only at e5
    obtain ⟨K6, e6⟩ := impl_BackWeights_e h hl
    try dsimp only at e6
    obtain ⟨K7, e7⟩ := spec_BackWeights_e h hl
    try dsimp only at e7
    obtain ⟨K8, e8⟩ := impl_GainOf_e h hl
    try dsimp only at e8
    obtain ⟨K9, e9⟩ := spec_GainOf_e h hl
    try dsimp only at e9
    obtain ⟨K10, e10⟩ := impl_GainAtHalf_e h hl
    try dsimp only at e10
    obtain ⟨K11, e11⟩ := spec_GainAtHalf_e h hl
    try dsimp only at e11
    obtain ⟨K12, e12⟩ := impl_SizeGain_e h hl
    try dsimp only at e12
    obtain ⟨K13, e13⟩ := spec_SizeGain_e h hl
    try dsimp only at e13
    obtain ⟨K14, e14⟩ := impl_FoldedProducts_e h hl
    try dsimp only at e14
    obtain ⟨K15, e15⟩ := spec_FoldedProducts_e h hl
    try dsimp only at e15
    obtain ⟨K16, e16⟩ := impl_IsWeights_e h (by omega)
    try dsimp only at e16
    obtain ⟨K17, e17⟩ := spec_IsWeights_e h (by omega)
    try dsimp only at e17
    obtain ⟨K18, e18⟩ := laws_iSame_e (if weB h = true then (h.reverse, true) else ([], false)).1 (if weB h = true then (h.reverse, true) else ([], false)).1 (by split <;> simp; omega)
    try dsimp only at e18
    obtain ⟨K19, e19⟩ : Ev (fun k => laws_FnWeightsMirrored.j0 k b h (if weB h = true then (decide (h.reverse = h), true) else (false, false)).1 (if weB h = true then (decide (h.reverse = h), true) else (false, false)).2 (if weB h = true then (decide ((h.reverse.map fun x => x * -1) = h), true) else (false, false)).1 (if weB h = true then (h.reverse, true) else ([], false)).1 (if weB h = true then (h.sum, true) else (0, false)).1 (if weB h = true then (alt true h, true) else (0, false)).1 (if weB h = true then (absSum h, true) else (0, false)).1 (if weB h = true then (((foldedM [] h).length : Int), true) else (0, false)).1 false) true := by
      by_cases c : weB h = true
      · simp only [if_pos c]
        exact wm_j0 b hbb l2 h c
      · simp only [if_neg c]
        exact wm_j0n b hbb l2 h [] false false 0 0 0 0
    obtain ⟨K, hK⟩ : ∃ K, K = K1 + K2 + K3 + K4 + K5 + K6 + K7 + K8 + K9 + K10 + K11 + K12 + K13 + K14 + K15 + K16 + K17 + K18 + K19 := ⟨_, rfl⟩
    try dsimp only at hK
    have f1 := e1 K (by omega)
    have f2 := e2 K (by omega)
    have f3 := e3 K (by omega)
    have f4 := e4 K (by omega)
    have f5 := e5 K (by omega)
    have f6 := e6 K (by omega)
    have f7 := e7 K (by omega)
    have f8 := e8 K (by omega)
    have f9 := e9 K (by omega)
    have f10 := e10 K (by omega)
    have f11 := e11 K (by omega)
    have f12 := e12 K (by omega)
    have f13 := e13 K (by omega)
    have f14 := e14 K (by omega)
    have f15 := e15 K (by omega)
    have f16 := e16 K (by omega)
    have f17 := e17 K (by omega)
    have f18 := e18 K (by omega)
    have f19 := e19 K (by omega)
    have g1 : (if weB h = true then (decide (h.reverse = h), true) else (false, false)).2 = weB h := by cases weB h <;> rfl
    have g2 : (if weB h = true then (decide ((h.reverse.map fun x => x * -1) = h), true) else (false, false)).2 = weB h := by cases weB h <;> rfl
    have g3 : (if weB h = true then (h.reverse, true) else (([] : List Int), false)).2 = weB h := by cases weB h <;> rfl
    have g4 : (if weB h = true then (h.sum, true) else (0, false)).2 = weB h := by cases weB h <;> rfl
    have g5 : (if weB h = true then (alt true h, true) else (0, false)).2 = weB h := by cases weB h <;> rfl
    have g6 : (if weB h = true then (absSum h, true) else (0, false)).2 = weB h := by cases weB h <;> rfl
    have g7 : (if weB h = true then (((foldedM [] h).length : Int), true) else (0, false)).2 = weB h := by cases weB h <;> rfl
    refine ⟨K, ?_⟩
    unfold laws_FnWeightsMirrored.f
    rw [et]
    simp only [Option.bind_some, Bool.false_eq_true, if_false]
    rw [f1]; simp only [Option.bind_some]
    rw [f2]; simp only [Option.bind_some]
    rw [f3]; simp only [Option.bind_some]
    rw [f4]; simp only [Option.bind_some]
    rw [f5]; simp only [Option.bind_some]
    rw [f6]; simp only [Option.bind_some]
    rw [f7]; simp only [Option.bind_some]
    rw [f8]; simp only [Option.bind_some]
    rw [f9]; simp only [Option.bind_some]
    rw [f10]; simp only [Option.bind_some]
    rw [f11]; simp only [Option.bind_some]
    rw [f12]; simp only [Option.bind_some]
    rw [f13]; simp only [Option.bind_some]
    rw [f14]; simp only [Option.bind_some]
    rw [f15]; simp only [Option.bind_some]
    rw [f18, f16, f17]
    rw [g1] at f19
    simp only [g1, g2, g3, g4, g5, g6, g7, bne_self_eq_false, Bool.false_eq_true, if_false, Option.bind_some, decide_true, if_true]
    exact f19

end Go.Proofs.Ytgancmcbldmjaaa.Pure
