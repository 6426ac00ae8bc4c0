/- The plain statement behind the law FnExactSignalText: its walk's numbers answer true. Conditions: the given statement's own (each number is an int; each slice within the reach). -/
import Derived.Test.YtljehmhiclccgaaDoorQFnExactSignalTextx0
import Derived.Test.YtljehmhiclccgaaDoorQFnExactSignalTextx1
import Derived.Test.YtljehmhiclccgaaDoorQFnExactSignalTextx2
import Derived.Test.YtljehmhiclccgaaDoorQFnExactSignalTextx3
import Derived.Test.YtljehmhiclccgaaDoorBase
import Derived.Test.YtljehmhiclccgaaDoorText
namespace Go.Proofs.YtljehmhiclccgaaDoor.Pure
open Go.RowKit Go.Proofs.YtljehmhiclccgaaDoor.QFnExactSignalText Go.Proofs.YtljehmhiclccgaaDoorW.PrintWords Go.Proofs.YtljehmhiclccgaaDoorW.PrintLast Go.Proofs.YtljehmhiclccgaaDoorW.PrintMore Go.Proofs.YtljehmhiclccgaaDoor.Base
set_option linter.unusedVariables false
set_option linter.unusedSimpArgs false

theorem spec_l1In_v (a b c : Int) : spec_l1In.f a b c = some (inR a b c) := inR_ge a b c

theorem spec_l1All_l (lo hi : Int) (xs : List Int) (hn : xs.length ≤ 1152921504606846976) : ∀ (r : List Int) (n k : Nat), xs.drop n = r → r.length < k → spec_l1All.l0 k lo hi xs (xs.length : Int) n = some (r.all fun x => inR x lo hi)
  | [], n, k, hd, hk => by
    obtain ⟨k, rfl⟩ := pred hk
    have := drop_nil hd
    simp only [spec_l1All.l0]; rw [if_neg (by omega)]; rfl
  | a :: r, n, k, hd, hk => by
    obtain ⟨k, rfl⟩ := pred hk
    obtain ⟨h1, h2, h3⟩ := drop_cons hd
    simp only [spec_l1All.l0]
    rw [if_pos (by omega), if_pos (by omega), if_pos (by omega), h2, spec_l1In_v, wrap_nat h1 hn]; simp only [Option.bind_some, List.all_cons]
    cases h : inR a lo hi
    · simp
    · simp only [if_true, Bool.true_and]
      exact spec_l1All_l lo hi xs hn r (n + 1) k h3 (by simp at hk; omega)
theorem spec_l1All_e (lo hi : Int) (xs : List Int) (hn : xs.length ≤ 1152921504606846976) : Ev (fun k => spec_l1All.f k xs lo hi) (xs.all fun x => inR x lo hi) :=
  ⟨xs.length + 1, fun k hk => spec_l1All_l lo hi xs hn xs 0 k rfl (by omega)⟩

theorem spec_wdSignal_e (xs : List Int) (hn : xs.length ≤ 1152921504606846976) : Ev (fun k => spec_wdSignal.f k xs) (sigB xs) := by
  obtain ⟨K, e⟩ := spec_l1All_e (-100000) 100000 xs hn
  refine ⟨K, fun k hk => ?_⟩
  show spec_wdSignal.f k xs = some (sigB xs)
  unfold spec_wdSignal.f sigB
  simp only [e k hk, Option.bind_some]
  by_cases h : xs.length ≤ 64
  · rw [if_pos (by omega)]; simp [h]
  · rw [if_neg (by omega)]; simp [h]

theorem str_one (x : Nat) (h : x < 10) : strOfNums [(wrap64 (48 + (x : Int))) % 256] = tx [UInt8.ofNat (48 + x)] := by
  rw [wrap_id (by omega) (by omega)]
  have e : ((48 + (x : Int)) % 256) = ((48 + x : Nat) : Int) := by omega
  rw [e]
  unfold strOfNums tx
  rfl
theorem spec_l1Num_v : ∀ (k u : Nat), u < 10 ^ (k + 1) → u ≤ 1000000 → spec_l1Num.f (k + 1) (u : Int) = some (tx (Lib.decDigits u))
  | k, u, h, hu => by
    simp only [spec_l1Num.f]
    by_cases c : u < 10
    · rw [if_pos (by omega), str_one u c, dec_small c]
    · rw [if_neg (by omega)]
      cases k with
      | zero => omega
      | succ k =>
        have e1 : Int.tdiv (u : Int) 10 = ((u / 10 : Nat) : Int) := by rw [Int.tdiv_eq_ediv_of_nonneg (by omega)]; omega
        have e2 : Int.tmod (u : Int) 10 = ((u % 10 : Nat) : Int) := by rw [Int.tmod_eq_emod_of_nonneg (by omega)]; omega
        have hp : u / 10 < 10 ^ (k + 1) := by rw [Nat.pow_succ] at h; omega
        have hl := dec_len 6 (u / 10) (by omega)
        rw [e1, wrap_id (x := ((u / 10 : Nat) : Int)) (by omega) (by omega), spec_l1Num_v k (u / 10) hp (by omega)]
        simp only [Option.bind_some]
        rw [e2, str_one (u % 10) (by omega), tx_size, tx_size, if_pos (by simp; omega), tx_append, ← dec_more c]

theorem spec_wdInt_v (x : Int) (hx : -100000 ≤ x ∧ x ≤ 100000) (k : Nat) (hk : 8 ≤ k) : spec_wdInt.f k x = some (tx (Lib.itoa x)) := by
  obtain ⟨k, rfl⟩ : ∃ m, k = m + 7 + 1 := ⟨k - 8, by omega⟩
  have hp : ∀ u : Nat, u ≤ 100000 → u < 10 ^ (k + 7 + 1) := by
    intro u hu
    have : 10 ^ 8 ≤ 10 ^ (k + 7 + 1) := Nat.pow_le_pow_right (by omega) (by omega)
    omega
  unfold spec_wdInt.f Lib.itoa
  by_cases c : x < 0
  · rw [if_pos c, if_pos c, wrap_id (x := -x) (by omega) (by omega), show -x = ((x.natAbs : Nat) : Int) by omega, spec_l1Num_v (k + 7) x.natAbs (hp _ (by omega)) (by omega)]
    simp only [Option.bind_some]
    have hl := dec_len 6 x.natAbs (by omega)
    rw [tx_size, if_pos (by omega)]
    exact congrArg some (tx_append [45] _)
  · obtain ⟨u, rfl⟩ : ∃ u : Nat, x = u := ⟨x.toNat, by omega⟩
    rw [if_neg c, if_neg c, spec_l1Num_v (k + 7) u (hp _ (by omega)) (by omega)]
    rfl

theorem spec_wdText_l (l : List Int) (hl : l.length ≤ 64) (hb : Bd l) : ∀ (r : List Int) (n k : Nat) (acc : List UInt8), l.drop n = r → 1 ≤ n → acc.length + 9 * r.length ≤ 10000 → r.length + 10 < k → spec_wdText.l0 k (tx acc) l (l.length : Int) n = some (tx (acc ++ r.flatMap fun y => 44 :: Lib.itoa y))
  | [], n, k, acc, hd, hn, ha, hk => by
    obtain ⟨k, rfl⟩ := pred (show 0 < k by omega)
    have := drop_nil hd
    simp only [spec_wdText.l0]
    rw [if_neg (by omega)]
    simp
  | x :: r, n, k, acc, hd, hn, ha, hk => by
    obtain ⟨k, rfl⟩ := pred (show 0 < k by omega)
    obtain ⟨g1, g2, g3⟩ := drop_cons hd
    simp only [List.length_cons] at ha hk
    have hx : -100000 ≤ x ∧ x ≤ 100000 := hb x (by rw [← List.take_append_drop n l, hd]; simp)
    have hi := itoa_len hx
    have e1 : tx acc ++ (⟨#[44]⟩ : ByteArray) = tx (acc ++ [44]) := tx_append acc [44]
    simp only [spec_wdText.l0]
    rw [if_pos (by omega), if_pos (by omega), if_pos (by omega), if_pos (by omega), tx_size, if_pos (by omega), g2, spec_wdInt_v x hx k (by omega)]
    simp only [Option.bind_some]
    rw [e1, tx_size, tx_size, if_pos (by simp; omega), tx_append, wrap_nat g1 (by omega), spec_wdText_l l hl hb r (n + 1) k _ g3 (by omega) (by simp; omega) (by omega)]
    simp [List.append_assoc]
theorem spec_wdText_e (l : List Int) (hl : l.length ≤ 64) (hb : Bd l) : Ev (fun k => spec_wdText.f k l) (if l.length = 0 then tx [45] else tx (listT l)) :=
  ⟨l.length + 20, fun k hk => by
    show spec_wdText.f k l = _
    unfold spec_wdText.f
    by_cases c : l.length = 0
    · rw [if_pos (by omega), if_pos c]; rfl
    · rw [if_neg (by omega), if_neg c]
      obtain ⟨k, rfl⟩ := pred (show 0 < k by omega)
      cases l with
      | nil => simp at c
      | cons x r =>
        have hx := hb x (by simp)
        have hi := itoa_len hx
        simp only [List.length_cons] at hk hl
        have key := spec_wdText_l (x :: r) (by simpa using hl) hb r 1 k (Lib.itoa x) rfl (by omega) (by omega) (by omega)
        simp only [spec_wdText.l0]
        rw [if_pos (by simp only [List.length_cons]; omega), if_pos (by omega), if_pos (by simp only [List.length_cons]; omega), if_neg (by omega), show rd (x :: r) 0 = x from rfl, spec_wdInt_v x hx k (by omega)]
        simp only [Option.bind_some]
        rw [tx_size, if_pos (by show 0 + _ ≤ _; omega), show (⟨#[]⟩ : ByteArray) ++ tx (Lib.itoa x) = tx (Lib.itoa x) from tx_append [] _, show wrap64 (0 + 1) = ((1 : Nat) : Int) from by rw [wrap_id (by omega) (by omega)]; rfl]
        exact key⟩

def textM (l : List Int) : ByteArray × Bool := if sigB l = true then (if l.length = 0 then tx [45] else tx (listT l), true) else (tx [], false)
theorem spec_SignalText_e (l : List Int) (hn : l.length ≤ 1048576) : Ev (fun k => spec_SignalText.f k l) (textM l) := by
  obtain ⟨K1, e1⟩ := spec_wdSignal_e l (by omega)
  cases c : sigB l
  · refine ⟨K1, fun k hk => ?_⟩
    show spec_SignalText.f k l = _
    unfold spec_SignalText.f textM
    simp [e1 k hk, c]
    rfl
  · obtain ⟨h1, h2⟩ := sigB_true c
    obtain ⟨K2, e2⟩ := spec_wdText_e l h1 h2
    refine ⟨K1 + K2, fun k hk => ?_⟩
    show spec_SignalText.f k l = _
    have f2 := e2 k (by omega)
    unfold spec_SignalText.f textM
    simp only [e1 k (by omega), c, Option.bind_some, if_true]
    rw [show spec_wdText.f k l = _ from f2]
    rfl

theorem laws_toIntS_l (xs : List Int) (hn : xs.length ≤ 1152921504606846976) : ∀ (r : List Int) (n k : Nat) (ys : List Int), xs.drop n = r → n ≤ xs.length → ys.length = xs.length → ys.take n = xs.take n → r.length < k → laws_toIntS.l0 k xs ys n = some xs
  | [], n, k, ys, hd, hx, hy, ht, hk => by
    obtain ⟨k, rfl⟩ := pred hk
    have := drop_nil hd
    simp only [laws_toIntS.l0]; rw [if_neg (by omega)]
    rw [List.take_of_length_le (by omega), List.take_of_length_le (by omega)] at ht
    rw [ht]
  | a :: r, n, k, ys, hd, hx, hy, ht, hk => by
    obtain ⟨k, rfl⟩ := pred hk
    obtain ⟨h1, h2, h3⟩ := drop_cons hd
    simp only [laws_toIntS.l0]
    rw [if_pos (by omega), if_pos (by omega), if_pos (by omega), wrap_nat h1 hn]
    refine laws_toIntS_l xs hn r (n + 1) k _ h3 (by omega) (by simpa using hy) ?_ (by simp at hk; omega)
    rw [show ((n : Int)).toNat = n by omega, rd_nat xs n h1]
    apply List.ext_getElem?
    intro i
    by_cases hi : i < n
    · have := congrArg (fun z => z[i]?) ht
      simp only [List.getElem?_take, hi, if_true] at this
      simp only [List.getElem?_take, show i < n + 1 by omega, if_true]
      rw [List.getElem?_set_ne (by omega)]
      exact this
    · by_cases he : i = n
      · subst he
        simp [List.getElem?_take, List.getElem?_set, hy, h1]
      · simp [List.getElem?_take, show ¬ i < n + 1 by omega]
theorem laws_toIntS_e (xs : List Int) (hn : xs.length ≤ 1048576) : Ev (fun k => laws_toIntS.f k xs) xs :=
  ⟨xs.length + 1, fun k hk => by
    show laws_toIntS.f k xs = some xs
    unfold laws_toIntS.f
    rw [if_pos (by omega), if_pos (by omega)]
    exact laws_toIntS_l xs (by omega) xs 0 k _ rfl (by omega) (by simp) (by simp) (by omega)⟩

theorem impl_in_v (a b c : Int) : impl_in.f a b c = some (inR a b c) := inR_le a b c

theorem impl_isSignal_1_v (x : Int) : impl_isSignal_1.f x = some (!inR x (-100000) 100000) := by simp only [impl_isSignal_1.f, impl_in_v, Option.bind_some]
theorem index_isSignal_l (xs : List Int) (hn : xs.length ≤ 1152921504606846976) : ∀ (r : List Int) (n k : Nat), xs.drop n = r → r.length < k → ∃ v : Int, slices_IndexFunc_int_int_impl_isSignal_1.l0 k xs (xs.length : Int) n = some v ∧ decide (v ≥ 0) = !(r.all fun x => inR x (-100000) 100000)
  | [], n, k, hd, hk => by
    obtain ⟨k, rfl⟩ := pred hk
    have := drop_nil hd
    refine ⟨-1, ?_, by simp⟩
    simp only [slices_IndexFunc_int_int_impl_isSignal_1.l0]; rw [if_neg (by omega)]
  | a :: r, n, k, hd, hk => by
    obtain ⟨k, rfl⟩ := pred hk
    obtain ⟨h1, h2, h3⟩ := drop_cons hd
    simp only [slices_IndexFunc_int_int_impl_isSignal_1.l0]
    rw [if_pos (by omega), if_pos (by omega), if_pos (by omega), h2, impl_isSignal_1_v, wrap_nat h1 hn]; simp only [Option.bind_some, List.all_cons]
    cases h : inR a (-100000) 100000
    · exact ⟨n, by simp, by simp⟩
    · obtain ⟨v, e, hv⟩ := index_isSignal_l xs hn r (n + 1) k h3 (by simp at hk; omega)
      exact ⟨v, by simpa using e, by simpa using hv⟩
theorem contains_isSignal_e (xs : List Int) (hn : xs.length ≤ 1152921504606846976) : Ev (fun k => slices_ContainsFunc_int_int_impl_isSignal_1.f k xs) (!(xs.all fun x => inR x (-100000) 100000)) :=
  ⟨xs.length + 1, fun k hk => by
    show slices_ContainsFunc_int_int_impl_isSignal_1.f k xs = some _
    obtain ⟨v, e, hv⟩ := index_isSignal_l xs hn xs 0 k rfl (by omega)
    have e' : slices_IndexFunc_int_int_impl_isSignal_1.f k xs = some v := e
    unfold slices_ContainsFunc_int_int_impl_isSignal_1.f
    rw [e']; simp only [Option.bind_some, hv]⟩

theorem impl_isSignal_e (xs : List Int) (hn : xs.length ≤ 1152921504606846976) : Ev (fun k => impl_isSignal.f k xs) (sigB xs) := by
  obtain ⟨K, e⟩ := contains_isSignal_e xs hn
  refine ⟨K, fun k hk => ?_⟩
  show impl_isSignal.f k xs = some (sigB xs)
  unfold impl_isSignal.f sigB
  simp only [e k hk, Option.bind_some, Bool.not_not]
  by_cases h : xs.length ≤ 64
  · rw [if_pos (by omega)]; simp [h]
  · rw [if_neg (by omega)]; simp [h]
theorem impl_isSignal_k (xs : List Int) (k : Nat) (hn : xs.length ≤ 64) (hk : 66 ≤ k) : impl_isSignal.f k xs = some (sigB xs) := by
  obtain ⟨v, e, hv⟩ := index_isSignal_l xs (by omega) xs 0 k rfl (by omega)
  have e' : slices_IndexFunc_int_int_impl_isSignal_1.f k xs = some v := e
  unfold impl_isSignal.f slices_ContainsFunc_int_int_impl_isSignal_1.f sigB
  rw [e']; simp only [Option.bind_some, hv, Bool.not_not]
  rw [if_pos (by omega)]; simp [hn]

theorem wf_sample {y : Int} (h : -100000 ≤ y ∧ y ≤ 100000) : (Lit.int .i64 y).wf = true := by
  simp [Lit.wf, IntKind.min, IntKind.max, IntKind.signed, IntKind.bits]
  omega
theorem impl_listText_l (l : List Int) (hl : l.length ≤ 64) (hb : Bd l) (h0 : l.length ≠ 0) : ∀ (r : List Int) (n k : Nat), l.drop n = r → n ≤ l.length → r.length < k → impl_listText.l0 k ((l.take n).map fun x => tx (Lib.itoa x)) l (l.length : Int) n = some (tx (listT l))
  | [], n, k, hd, hn, hk => by
    obtain ⟨k, rfl⟩ := pred (show 0 < k by omega)
    have := drop_nil hd
    have e : (((l.take n).map fun x => tx (Lib.itoa x)).map fun z => z.data.toList) = l.map Lib.itoa := by
      rw [List.take_of_length_le (by omega), List.map_map]
      exact List.map_congr_left fun x _ => tx_list _
    have hlen := listT_len hb
    simp only [impl_listText.l0]
    rw [if_neg (by omega)]
    unfold strings_Join.f
    rw [e, show (⟨#[44]⟩ : ByteArray).data.toList = [44] from rfl, join_itoa, if_pos ⟨by simp; omega, by omega⟩]
    rfl
  | x :: r, n, k, hd, hn, hk => by
    obtain ⟨k, rfl⟩ := pred (show 0 < k by omega)
    obtain ⟨g1, g2, g3⟩ := drop_cons hd
    simp only [List.length_cons] at hk
    have hx : -100000 ≤ x ∧ x ≤ 100000 := hb x (by rw [← List.take_append_drop n l, hd]; simp)
    have ih := impl_listText_l l hl hb h0 r (n + 1) k g3 (by omega) (by omega)
    rw [List.take_add_one, List.getElem?_eq_getElem g1, Option.toList_some, List.map_append, List.map_singleton, show l[n] = x by rw [← rd_nat l n g1]; exact g2] at ih
    simp only [impl_listText.l0]
    rw [if_pos (by omega), if_pos (by omega), if_pos (by omega), g2]
    unfold strconv_Itoa_17.f
    rw [if_pos (wf_sample hx)]
    simp only [Option.bind_some]
    rw [if_pos (by simp; omega), wrap_nat g1 (by omega)]
    exact ih
theorem impl_listText_e (l : List Int) (hl : l.length ≤ 64) (hb : Bd l) : Ev (fun k => impl_listText.f k l) (if l.length = 0 then tx [45] else tx (listT l)) :=
  ⟨l.length + 20, fun k hk => by
    show impl_listText.f k l = _
    unfold impl_listText.f
    by_cases c : l.length = 0
    · rw [if_pos (by omega), if_pos c]; rfl
    · rw [if_neg (by omega), if_neg c]
      exact impl_listText_l l hl hb c l 0 k rfl (by omega) (by omega)⟩

theorem impl_SignalText_e (l : List Int) (hn : l.length ≤ 1048576) : Ev (fun k => impl_SignalText.f k l) (textM l) := by
  obtain ⟨K1, e1⟩ := impl_isSignal_e l (by omega)
  cases c : sigB l
  · refine ⟨K1, fun k hk => ?_⟩
    show impl_SignalText.f k l = _
    unfold impl_SignalText.f textM
    simp [e1 k hk, c]
    rfl
  · obtain ⟨h1, h2⟩ := sigB_true c
    obtain ⟨K2, e2⟩ := impl_listText_e l h1 h2
    refine ⟨K1 + K2, fun k hk => ?_⟩
    show impl_SignalText.f k l = _
    have f2 := e2 k (by omega)
    unfold impl_SignalText.f textM
    simp only [e1 k (by omega), c, Option.bind_some, if_true]
    rw [show impl_listText.f k l = _ from f2]
    rfl

theorem laws_eqIntS_l (xs : List Int) (hn : xs.length ≤ 1152921504606846976) : ∀ (r : List Int) (n k : Nat), xs.drop n = r → r.length < k → laws_eqIntS.l0 k xs xs n = some true
  | [], n, k, hd, hk => by
    obtain ⟨k, rfl⟩ := pred hk
    have := drop_nil hd
    simp only [laws_eqIntS.l0]; rw [if_neg (by omega)]
  | a :: r, n, k, hd, hk => by
    obtain ⟨k, rfl⟩ := pred hk
    obtain ⟨h1, h2, h3⟩ := drop_cons hd
    simp only [laws_eqIntS.l0]
    rw [if_pos (by omega), if_pos (by omega), if_pos (by omega), if_pos trivial, wrap_nat h1 hn]
    exact laws_eqIntS_l xs hn r (n + 1) k h3 (by simp at hk; omega)
theorem laws_eqIntS_same (xs : List Int) (hn : xs.length ≤ 1152921504606846976) : Ev (fun k => laws_eqIntS.f k xs xs) true :=
  ⟨xs.length + 1, fun k hk => by
    show laws_eqIntS.f k xs xs = some true
    unfold laws_eqIntS.f
    rw [if_pos rfl]
    exact laws_eqIntS_l xs hn xs 0 k rfl (by omega)⟩

-- import Text
theorem FnExactSignalText : laws_FnExactSignalText.Pure := by
  intro l _ hl hw
  by_cases h00 : (l.length : Int) > 1048576
  · exact ⟨0, by simp [laws_FnExactSignalText.f, h00]⟩
  obtain ⟨K1, e1⟩ := laws_toIntS_e l (by omega)
  obtain ⟨K2, e2⟩ := laws_eqIntS_same l (by omega)
  obtain ⟨K3, e3⟩ := spec_SignalText_e l (by omega)
  obtain ⟨K4, e4⟩ := impl_SignalText_e l (by omega)
  obtain ⟨K, hK⟩ : ∃ K, K = K1 + K2 + K3 + K4 := ⟨_, rfl⟩
  refine ⟨K + 1, ?_⟩
  have a1 : laws_toIntS.f (K + 1) l = some l := e1 _ (by omega)
  have b1 : laws_toIntS.f K l = some l := e1 _ (by omega)
  have b2 : laws_eqIntS.f K l l = some true := e2 _ (by omega)
  have a3 : spec_SignalText.f (K + 1) l = some (textM l) := e3 _ (by omega)
  have a4 : impl_SignalText.f (K + 1) l = some (textM l) := e4 _ (by omega)
  simp only [laws_FnExactSignalText.f, if_neg h00, a1, a3, a4, Option.bind_some, bne_self_eq_false, if_true, laws_FnExactSignalText.j0, Bool.false_eq_true, if_false, b1, b2]

end Go.Proofs.YtljehmhiclccgaaDoor.Pure
