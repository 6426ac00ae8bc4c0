/- The plain statement behind the law FnExactParseSignal: its walk's numbers answer true. Conditions: the given statement's own (each number is an int; each slice within the reach). -/
import Derived.Test.YtgancmcbldmjaaaDoorQFnExactParseSignalx0
import Derived.Test.YtgancmcbldmjaaaDoorQFnExactParseSignalx1
import Derived.Test.YtgancmcbldmjaaaDoorQFnExactParseSignalx2
import Derived.Test.YtgancmcbldmjaaaDoorQFnExactParseSignalx3
import Derived.Test.YtgancmcbldmjaaaDoorQFnExactParseSignalx4
import Derived.Test.YtgancmcbldmjaaaDoorBase
import Derived.Test.YtgancmcbldmjaaaDoorText
import Derived.Test.YtgancmcbldmjaaaDoorParse
namespace Go.Proofs.YtgancmcbldmjaaaDoor.Pure
open Go.RowKit Go.Proofs.YtgancmcbldmjaaaDoor.QFnExactParseSignal Go.Proofs.YtgancmcbldmjaaaDoorW.PrintWords Go.Proofs.YtgancmcbldmjaaaDoorW.PrintLast Go.Proofs.YtgancmcbldmjaaaDoorW.PrintMore Go.Proofs.YtgancmcbldmjaaaDoor.Base
set_option linter.unusedVariables false
set_option linter.unusedSimpArgs false

theorem spec_l1In_v (a b c : Int) : spec_l1In.f a b c = some (inR a b c) := inR_ge a b c

theorem spec_l1All_l (lo hi : Int) (xs : List Int) (hn : xs.length ≤ 1152921504606846976) : ∀ (r : List Int) (n k : Nat), xs.drop n = r → r.length < k → spec_l1All.l0 k lo hi xs (xs.length : Int) n = some (r.all fun x => inR x lo hi)
  | [], n, k, hd, hk => by
    obtain ⟨k, rfl⟩ := pred hk
    have := drop_nil hd
    simp only [spec_l1All.l0]; rw [if_neg (by omega)]; rfl
  | a :: r, n, k, hd, hk => by
    obtain ⟨k, rfl⟩ := pred hk
    obtain ⟨h1, h2, h3⟩ := drop_cons hd
    simp only [spec_l1All.l0]
    rw [if_pos (by omega), if_pos (by omega), if_pos (by omega), h2, spec_l1In_v, wrap_nat h1 hn]; simp only [Option.bind_some, List.all_cons]
    cases h : inR a lo hi
    · simp
    · simp only [if_true, Bool.true_and]
      exact spec_l1All_l lo hi xs hn r (n + 1) k h3 (by simp at hk; omega)
theorem spec_l1All_e (lo hi : Int) (xs : List Int) (hn : xs.length ≤ 1152921504606846976) : Ev (fun k => spec_l1All.f k xs lo hi) (xs.all fun x => inR x lo hi) :=
  ⟨xs.length + 1, fun k hk => spec_l1All_l lo hi xs hn xs 0 k rfl (by omega)⟩

theorem spec_wdSignal_e (xs : List Int) (hn : xs.length ≤ 1152921504606846976) : Ev (fun k => spec_wdSignal.f k xs) (sigB xs) := by
  obtain ⟨K, e⟩ := spec_l1All_e (-100000) 100000 xs hn
  refine ⟨K, fun k hk => ?_⟩
  show spec_wdSignal.f k xs = some (sigB xs)
  unfold spec_wdSignal.f sigB
  simp only [e k hk, Option.bind_some]
  by_cases h : xs.length ≤ 64
  · rw [if_pos (by omega)]; simp [h]
  · rw [if_neg (by omega)]; simp [h]

theorem str_one (x : Nat) (h : x < 10) : strOfNums [(wrap64 (48 + (x : Int))) % 256] = tx [UInt8.ofNat (48 + x)] := by
  rw [wrap_id (by omega) (by omega)]
  have e : ((48 + (x : Int)) % 256) = ((48 + x : Nat) : Int) := by omega
  rw [e]
  unfold strOfNums tx
  rfl
theorem spec_l1Num_v : ∀ (k u : Nat), u < 10 ^ (k + 1) → u ≤ 1000000 → spec_l1Num.f (k + 1) (u : Int) = some (tx (Lib.decDigits u))
  | k, u, h, hu => by
    simp only [spec_l1Num.f]
    by_cases c : u < 10
    · rw [if_pos (by omega), str_one u c, dec_small c]
    · rw [if_neg (by omega)]
      cases k with
      | zero => omega
      | succ k =>
        have e1 : Int.tdiv (u : Int) 10 = ((u / 10 : Nat) : Int) := by rw [Int.tdiv_eq_ediv_of_nonneg (by omega)]; omega
        have e2 : Int.tmod (u : Int) 10 = ((u % 10 : Nat) : Int) := by rw [Int.tmod_eq_emod_of_nonneg (by omega)]; omega
        have hp : u / 10 < 10 ^ (k + 1) := by rw [Nat.pow_succ] at h; omega
        have hl := dec_len 6 (u / 10) (by omega)
        rw [e1, wrap_id (x := ((u / 10 : Nat) : Int)) (by omega) (by omega), spec_l1Num_v k (u / 10) hp (by omega)]
        simp only [Option.bind_some]
        rw [e2, str_one (u % 10) (by omega), tx_size, tx_size, if_pos (by simp; omega), tx_append, ← dec_more c]

theorem spec_wdInt_v (x : Int) (hx : -100000 ≤ x ∧ x ≤ 100000) (k : Nat) (hk : 8 ≤ k) : spec_wdInt.f k x = some (tx (Lib.itoa x)) := by
  obtain ⟨k, rfl⟩ : ∃ m, k = m + 7 + 1 := ⟨k - 8, by omega⟩
  have hp : ∀ u : Nat, u ≤ 100000 → u < 10 ^ (k + 7 + 1) := by
    intro u hu
    have : 10 ^ 8 ≤ 10 ^ (k + 7 + 1) := Nat.pow_le_pow_right (by omega) (by omega)
    omega
  unfold spec_wdInt.f Lib.itoa
  by_cases c : x < 0
  · rw [if_pos c, if_pos c, wrap_id (x := -x) (by omega) (by omega), show -x = ((x.natAbs : Nat) : Int) by omega, spec_l1Num_v (k + 7) x.natAbs (hp _ (by omega)) (by omega)]
    simp only [Option.bind_some]
    have hl := dec_len 6 x.natAbs (by omega)
    rw [tx_size, if_pos (by omega)]
    exact congrArg some (tx_append [45] _)
  · obtain ⟨u, rfl⟩ : ∃ u : Nat, x = u := ⟨x.toNat, by omega⟩
    rw [if_neg c, if_neg c, spec_l1Num_v (k + 7) u (hp _ (by omega)) (by omega)]
    rfl

theorem spec_wdText_l (l : List Int) (hl : l.length ≤ 64) (hb : Bd l) : ∀ (r : List Int) (n k : Nat) (acc : List UInt8), l.drop n = r → 1 ≤ n → acc.length + 9 * r.length ≤ 10000 → r.length + 10 < k → spec_wdText.l0 k (tx acc) l (l.length : Int) n = some (tx (acc ++ r.flatMap fun y => 44 :: Lib.itoa y))
  | [], n, k, acc, hd, hn, ha, hk => by
    obtain ⟨k, rfl⟩ := pred (show 0 < k by omega)
    have := drop_nil hd
    simp only [spec_wdText.l0]
    rw [if_neg (by omega)]
    simp
  | x :: r, n, k, acc, hd, hn, ha, hk => by
    obtain ⟨k, rfl⟩ := pred (show 0 < k by omega)
    obtain ⟨g1, g2, g3⟩ := drop_cons hd
    simp only [List.length_cons] at ha hk
    have hx : -100000 ≤ x ∧ x ≤ 100000 := hb x (by rw [← List.take_append_drop n l, hd]; simp)
    have hi := itoa_len hx
    have e1 : tx acc ++ (⟨#[44]⟩ : ByteArray) = tx (acc ++ [44]) := tx_append acc [44]
    simp only [spec_wdText.l0]
    rw [if_pos (by omega), if_pos (by omega), if_pos (by omega), if_pos (by omega), tx_size, if_pos (by omega), g2, spec_wdInt_v x hx k (by omega)]
    simp only [Option.bind_some]
    rw [e1, tx_size, tx_size, if_pos (by simp; omega), tx_append, wrap_nat g1 (by omega), spec_wdText_l l hl hb r (n + 1) k _ g3 (by omega) (by simp; omega) (by omega)]
    simp [List.append_assoc]
theorem spec_wdText_e (l : List Int) (hl : l.length ≤ 64) (hb : Bd l) : Ev (fun k => spec_wdText.f k l) (if l.length = 0 then tx [45] else tx (listT l)) :=
  ⟨l.length + 20, fun k hk => by
    show spec_wdText.f k l = _
    unfold spec_wdText.f
    by_cases c : l.length = 0
    · rw [if_pos (by omega), if_pos c]; rfl
    · rw [if_neg (by omega), if_neg c]
      obtain ⟨k, rfl⟩ := pred (show 0 < k by omega)
      cases l with
      | nil => simp at c
      | cons x r =>
        have hx := hb x (by simp)
        have hi := itoa_len hx
        simp only [List.length_cons] at hk hl
        have key := spec_wdText_l (x :: r) (by simpa using hl) hb r 1 k (Lib.itoa x) rfl (by omega) (by omega) (by omega)
        simp only [spec_wdText.l0]
        rw [if_pos (by simp only [List.length_cons]; omega), if_pos (by omega), if_pos (by simp only [List.length_cons]; omega), if_neg (by omega), show rd (x :: r) 0 = x from rfl, spec_wdInt_v x hx k (by omega)]
        simp only [Option.bind_some]
        rw [tx_size, if_pos (by show 0 + _ ≤ _; omega), show (⟨#[]⟩ : ByteArray) ++ tx (Lib.itoa x) = tx (Lib.itoa x) from tx_append [] _, show wrap64 (0 + 1) = ((1 : Nat) : Int) from by rw [wrap_id (by omega) (by omega)]; rfl]
        exact key⟩

theorem data_len (a : ByteArray) : a.data.toList.length = a.size := Array.length_toList
theorem bt_drop {a : ByteArray} {i : Nat} {b : UInt8} {r : List UInt8} (h : a.data.toList.drop i = b :: r) : i < a.size ∧ bt a (i : Int) = (b.toNat : Int) ∧ a.data.toList.drop (i + 1) = r := by
  have hl := congrArg List.length h
  rw [List.length_drop, data_len, List.length_cons] at hl
  have hi : i < a.size := by omega
  refine ⟨hi, ?_, ?_⟩
  · have h0 : a.data.toList[i]? = some b := by
      have := congrArg (fun l => l[0]?) h
      simpa using this
    have hi' : ((i : Int)).toNat < a.size := by simpa using hi
    unfold bt
    rw [dif_pos hi']
    have e : a[((i : Int)).toNat]'hi' = b := by
      have hlt : i < a.data.toList.length := by rw [data_len]; exact hi
      rw [List.getElem?_eq_getElem hlt, Option.some.injEq] at h0
      rw [← h0]
      rfl
    rw [e]
  · rw [← List.drop_drop, h]; rfl
theorem toList_tx (l : List UInt8) : (tx l).toList = l := by rw [ByteArray.toList_eq]; exact tx_list l
theorem wdParse_fin (a : ByteArray) (out : List Int) (ho : out.length ≤ 1000) : ∃ K, ∀ k, K ≤ k → ∀ (i n : Int) (neg : Bool) (d : Int), (a.size : Int) < i → spec_wdParse.l0 k a out n neg d i = some (finM a.data.toList out) := by
  obtain ⟨K1, e1⟩ := spec_wdSignal_e out (by omega)
  cases c : sigB out
  · refine ⟨K1 + 1, fun k hk i n neg d hi => ?_⟩
    obtain ⟨k, rfl⟩ := pred (show 0 < k by omega)
    simp only [spec_wdParse.l0]
    rw [if_neg (by omega), show spec_wdSignal.f k out = some (sigB out) from e1 k (by omega), c]
    simp [finM, c]
  · obtain ⟨h1, h2⟩ := sigB_true c
    obtain ⟨K2, e2⟩ := spec_wdText_e out h1 h2
    refine ⟨K1 + K2 + 1, fun k hk i n neg d hi => ?_⟩
    obtain ⟨k, rfl⟩ := pred (show 0 < k by omega)
    have et : (if out.length = 0 then tx [45] else tx (listT out)).toList = (if out.length = 0 then [45] else listT out) := by
      split <;> exact toList_tx _
    simp only [spec_wdParse.l0]
    rw [if_neg (by omega), show spec_wdSignal.f k out = some (sigB out) from e1 k (by omega), c]
    simp only [Option.bind_some, if_true]
    rw [show spec_wdText.f k out = _ from e2 k (by omega)]
    simp only [Option.bind_some]
    rw [et, ByteArray.toList_eq]
    unfold finM
    by_cases cc : (if out.length = 0 then [45] else listT out) = a.data.toList
    · rw [if_pos cc, if_pos ⟨c, cc⟩]
    · rw [if_neg cc, if_neg (fun h => cc h.2)]
/-- The reference's answer, of what its loop leaves. -/
def endM (T : List UInt8) : Option (List Int) → List Int × Bool
  | none => ([], false)
  | some out => finM T out
theorem spec_wdParse_l (a : ByteArray) (hA : a.size ≤ 512) : ∀ (r : List UInt8) (i : Nat) (out : List Int) (n : Int) (neg : Bool) (d : Nat), a.data.toList.drop i = r → i ≤ a.size → out.length ≤ i → d ≤ 7 → 0 ≤ n → n < ((10 ^ d : Nat) : Int) → ∃ K, ∀ k, K ≤ k → spec_wdParse.l0 k a out n neg d i = some (endM a.data.toList (goM r out n neg d))
  | [], i, out, n, neg, d, hd, hi, ho, hd7, hn, hn2 => by
    have hl := congrArg List.length hd
    rw [List.length_drop, data_len, List.length_nil] at hl
    have hp : (10 ^ d : Nat) ≤ 10 ^ 7 := Nat.pow_le_pow_right (by omega) hd7
    by_cases h0 : d = 0
    · refine ⟨2, fun k hk => ?_⟩
      obtain ⟨k, rfl⟩ : ∃ m, k = m + 2 := ⟨k - 2, by omega⟩
      simp only [spec_wdParse.l0, spec_wdParse.j1]
      rw [if_pos (by omega), if_pos (by omega), if_pos trivial, if_pos (by omega), goM, if_pos h0]
      rfl
    · obtain ⟨K, hK⟩ := wdParse_fin a (out ++ [if neg = true then -n else n]) (by simp; omega)
      refine ⟨K + 2, fun k hk => ?_⟩
      obtain ⟨k, rfl⟩ : ∃ m, k = m + 2 := ⟨k - 2, by omega⟩
      have hk' := hK k (by omega) (wrap64 ((i : Int) + 1)) 0 false 0 (by rw [wrap_id (by omega) (by omega)]; omega)
      simp only [spec_wdParse.l0, spec_wdParse.j1]
      rw [if_pos (by omega), if_pos (by omega), if_pos trivial, if_neg (by omega), goM, if_neg h0]
      cases neg
      · rw [if_neg (by decide), if_pos (by omega)]
        exact hk'
      · rw [if_pos rfl, if_pos (by omega), wrap_id (x := -n) (by omega) (by omega)]
        exact hk'
  | b :: r, i, out, n, neg, d, hd, hi, ho, hd7, hn, hn2 => by
    obtain ⟨g1, g2, g3⟩ := bt_drop hd
    have hp : (10 ^ d : Nat) ≤ 10 ^ 7 := Nat.pow_le_pow_right (by omega) hd7
    have hw : wrap64 ((i : Int) + 1) = ((i + 1 : Nat) : Int) := wrap_nat g1 (by omega)
    have hb := b.toNat_lt
    by_cases h44 : b.toNat = 44
    · have hj : ((bt a (i : Int)) == 44) = true := by rw [g2]; exact beq_iff_eq.2 (by omega)
      by_cases h0 : d = 0
      · refine ⟨2, fun k hk => ?_⟩
        obtain ⟨k, rfl⟩ : ∃ m, k = m + 2 := ⟨k - 2, by omega⟩
        simp only [spec_wdParse.l0, spec_wdParse.j1, hj]
        rw [if_pos (by omega), if_neg (by omega), if_pos (by omega), if_pos (by omega), if_pos trivial, if_pos (by omega), goM, if_pos h44, if_pos h0]
        rfl
      · obtain ⟨K, hK⟩ := spec_wdParse_l a hA r (i + 1) (out ++ [if neg = true then -n else n]) 0 false 0 g3 (by omega) (by simp; omega) (by omega) (by omega) (by decide)
        refine ⟨K + 2, fun k hk => ?_⟩
        obtain ⟨k, rfl⟩ : ∃ m, k = m + 2 := ⟨k - 2, by omega⟩
        have hk' := hK k (by omega)
        simp only [spec_wdParse.l0, spec_wdParse.j1, hj]
        rw [if_pos (by omega), if_neg (by omega), if_pos (by omega), if_pos (by omega), if_pos trivial, if_neg (by omega), goM, if_pos h44, if_neg h0, hw]
        cases neg
        · rw [if_neg (by decide), if_pos (by omega)]
          exact hk'
        · rw [if_pos rfl, if_pos (by omega), wrap_id (x := -n) (by omega) (by omega)]
          exact hk'
    · have hj : ((bt a (i : Int)) == 44) = false := by rw [g2]; exact beq_eq_false_iff_ne.2 (by omega)

      have dig : ∃ K, ∀ k, K ≤ k → spec_wdParse.j2 k a out n neg d i false = some (endM a.data.toList (if (48 ≤ b.toNat ∧ b.toNat ≤ 57) ∧ d < 7 then goM r out (10 * n + ((b.toNat : Int) - 48)) neg (d + 1) else none)) := by
        by_cases hc : (48 ≤ b.toNat ∧ b.toNat ≤ 57) ∧ d < 7
        · obtain ⟨⟨hc1, hc2⟩, hc3⟩ := hc
          have hs : (10 ^ (d + 1) : Nat) = 10 * 10 ^ d := by rw [Nat.pow_succ, Nat.mul_comm]
          obtain ⟨K, hK⟩ := spec_wdParse_l a hA r (i + 1) out (10 * n + ((b.toNat : Int) - 48)) neg (d + 1) g3 (by omega) (by omega) (by omega) (by omega) (by rw [hs]; omega)
          refine ⟨K + 1, fun k hk => ?_⟩
          obtain ⟨k, rfl⟩ := pred (show 0 < k by omega)
          have hk' := hK k (by omega)
          simp only [spec_wdParse.j2, g2]
          rw [if_neg (by decide), if_pos (by omega), if_pos (by omega), if_pos (by omega), if_pos (by omega), if_pos (by omega), if_pos ⟨⟨hc1, hc2⟩, hc3⟩, hw, wrap_id (x := 10 * n) (by omega) (by omega), show ((b.toNat : Int) - 48) % 256 = (b.toNat : Int) - 48 by omega, wrap_id (x := 10 * n + ((b.toNat : Int) - 48)) (by omega) (by omega), wrap_id (x := (d : Int) + 1) (by omega) (by omega)]
          exact hk'
        · refine ⟨1, fun k hk => ?_⟩
          obtain ⟨k, rfl⟩ := pred (show 0 < k by omega)
          simp only [spec_wdParse.j2, g2]
          rw [if_neg (by decide), if_pos (by omega), if_pos (by omega), if_neg hc]
          by_cases c1 : 48 ≤ b.toNat
          · rw [if_pos (by omega)]
            by_cases c2 : b.toNat ≤ 57
            · rw [if_pos (by omega), if_neg (by omega)]; rfl
            · rw [if_neg (by omega)]; rfl
          · rw [if_neg (by omega)]; rfl
      by_cases h45 : b.toNat = 45 ∧ d = 0 ∧ neg = false
      · obtain ⟨h45, h0, rfl⟩ := h45
        obtain ⟨K, hK⟩ := spec_wdParse_l a hA r (i + 1) out n true d g3 (by omega) (by omega) (by omega) (by omega) hn2
        refine ⟨K + 3, fun k hk => ?_⟩
        obtain ⟨k, rfl⟩ : ∃ m, k = m + 3 := ⟨k - 3, by omega⟩
        have hk' := hK k (by omega)
        simp only [spec_wdParse.l0, spec_wdParse.j1, spec_wdParse.j2, hj]
        rw [if_pos (by omega), if_neg (by omega), if_pos (by omega), if_pos (by omega), if_neg (by decide), if_pos (by omega), if_pos (by omega), if_pos (by omega), if_pos (by omega), if_pos (by rfl), goM, if_neg h44, if_pos ⟨h45, h0, rfl⟩, hw]
        exact hk'
      · obtain ⟨K, hK⟩ := dig
        refine ⟨K + 2, fun k hk => ?_⟩
        obtain ⟨k, rfl⟩ : ∃ m, k = m + 2 := ⟨k - 2, by omega⟩
        have hk' := hK k (by omega)
        simp only [spec_wdParse.l0, spec_wdParse.j1, hj]
        rw [if_pos (by omega), if_neg (by omega), if_pos (by omega), if_pos (by omega), if_neg (by decide), if_pos (by omega), if_pos (by omega), goM, if_neg h44, if_neg h45]
        by_cases c1 : b.toNat = 45
        · rw [if_pos (by omega)]
          by_cases c2 : d = 0
          · rw [if_pos (by omega)]
            cases neg
            · exact absurd ⟨c1, c2, rfl⟩ h45
            · exact hk'
          · rw [if_neg (by omega)]; exact hk'
        · rw [if_neg (by omega)]; exact hk'
/-- The reference's answer. -/
def parseS (T : List UInt8) : List Int × Bool := if T = [45] then ([], true) else specM T
theorem spec_wdParse_e (a : ByteArray) : Ev (fun k => spec_wdParse.f k a) (parseS a.data.toList) := by
  by_cases c : a.data.toList = [45]
  · refine ⟨0, fun k hk => ?_⟩
    show spec_wdParse.f k a = _
    unfold spec_wdParse.f parseS
    rw [ByteArray.toList_eq, if_pos c, if_pos c]
  · by_cases c2 : a.size > 512
    · refine ⟨0, fun k hk => ?_⟩
      show spec_wdParse.f k a = _
      unfold spec_wdParse.f parseS specM
      rw [ByteArray.toList_eq, if_neg c, if_neg c, if_pos (by omega), if_pos (by rw [data_len]; exact c2)]
    · obtain ⟨K, hK⟩ := spec_wdParse_l a (by omega) a.data.toList 0 [] 0 false 0 rfl (by omega) (by simp) (by omega) (by omega) (by decide)
      refine ⟨K, fun k hk => ?_⟩
      show spec_wdParse.f k a = _
      unfold spec_wdParse.f parseS specM
      rw [ByteArray.toList_eq, if_neg c, if_neg c, if_neg (by omega), if_neg (by rw [data_len]; exact c2)]
      have := hK k hk
      unfold endM at this
      exact this

theorem spec_ParseSignal_e (a : ByteArray) : Ev (fun k => spec_ParseSignal.f k a) (parseS a.data.toList) := by
  obtain ⟨K, e⟩ := spec_wdParse_e a
  refine ⟨K, fun k hk => ?_⟩
  show spec_ParseSignal.f k a = _
  unfold spec_ParseSignal.f
  rw [show spec_wdParse.f k a = _ from e k hk]
  rfl

theorem drop_consT {ws : List ByteArray} {n : Nat} {x : ByteArray} {r : List ByteArray} (h : ws.drop n = x :: r) : n < ws.length ∧ rdOf ByteArray.empty ws (n : Int) = x ∧ ws.drop (n + 1) = r := by
  have hl := congrArg List.length h
  rw [List.length_drop, List.length_cons] at hl
  have h0 : ws[n]? = some x := by
    have := congrArg (fun l => l[0]?) h
    simpa using this
  refine ⟨by omega, ?_, ?_⟩
  · simp [rdOf, List.getD, h0]
  · rw [← List.drop_drop, h]; rfl
/-- The program's list, of what the pieces say. -/
def endR (acc : List Int) : Option (List Int) → List Int × Bool
  | none => ([], false)
  | some s => (acc ++ s, true)
theorem wf_int {v : Int} (h : -9223372036854775808 ≤ v ∧ v ≤ 9223372036854775807) : (Lit.int .i64 v).wf = true := by
  simp [Lit.wf, IntKind.min, IntKind.max, IntKind.signed, IntKind.bits]
  omega
theorem impl_readList_l (ws : List ByteArray) (hw : ws.length ≤ 2000000) (hs : ∀ w ∈ ws, w.size ≤ 1048576) : ∀ (r : List ByteArray) (n k : Nat) (acc : List Int), ws.drop n = r → acc.length ≤ n → n ≤ ws.length → r.length < k → impl_readList.l0 k acc ws (ws.length : Int) n = some (endR acc (readM (r.map fun x => x.data.toList)))
  | [], n, k, acc, hd, ha, hn, hk => by
    obtain ⟨k, rfl⟩ := pred (show 0 < k by omega)
    have : ws.length ≤ n := by simpa using hd
    simp only [impl_readList.l0]
    rw [if_neg (by omega)]
    simp [readM, endR]
  | x :: r, n, k, acc, hd, ha, hn, hk => by
    obtain ⟨k, rfl⟩ := pred (show 0 < k by omega)
    obtain ⟨g1, g2, g3⟩ := drop_consT hd
    simp only [List.length_cons] at hk
    have hx : x.size ≤ 1048576 := hs x (by rw [← List.take_append_drop n ws, hd]; simp)
    simp only [impl_readList.l0]
    rw [if_pos (by omega), if_pos (by omega), if_pos (by omega), g2]
    unfold strconv_Atoi_15.f
    rw [if_pos hx, List.map_cons, readM]
    cases hv : Lib.atoiAll x.data.toList with
    | ok v =>
      have hb := Lib.atoiAll_bounds hv
      simp only [Option.bind_some, Option.isNone_none, if_true]
      unfold strconv_Itoa_16.f
      rw [if_pos (wf_int hb)]
      simp only [Option.bind_some]
      rw [show (⟨(Lib.itoa v).toArray⟩ : ByteArray) = tx (Lib.itoa v) from rfl, toList_tx, ByteArray.toList_eq]
      by_cases he : Lib.itoa v = x.data.toList
      · rw [if_pos he, if_pos he, if_pos (by omega), wrap_nat g1 (by omega), impl_readList_l ws hw hs r (n + 1) k _ g3 (by simp; omega) (by omega) (by omega)]
        cases readM (r.map fun x => x.data.toList) <;> simp [endR]
      · rw [if_neg he, if_neg he]; rfl
    | _ => rfl
theorem cut_piece : ∀ (T p : List UInt8), p ∈ cut T → p.length ≤ T.length
  | [], p, h => by simp [cut] at h; subst h; simp
  | b :: l, p, h => by
    have ih := cut_piece l
    unfold cut at h
    split at h
    · rcases List.mem_cons.1 h with rfl | h
      · simp
      · have := ih p h; simp; omega
    · split at h
      · next hc => simp at h; subst h; simp
      · next q qs hc =>
        rcases List.mem_cons.1 h with rfl | h
        · have := ih q (by rw [hc]; simp); simp; omega
        · have := ih p (by rw [hc]; simp [h]); simp; omega
theorem cut_count : ∀ T : List UInt8, (cut T).length ≤ T.length + 1
  | [] => by simp [cut]
  | b :: l => by
    have ih := cut_count l
    unfold cut
    split
    · simp; omega
    · split
      · simp
      · next hc => rw [hc] at ih; simp at ih ⊢; omega
def readV (T : List UInt8) : List Int × Bool := if T = [45] then ([], true) else endR [] (readM (cut T))
theorem impl_readList_e (a : ByteArray) (hA : a.size ≤ 1048576) : Ev (fun k => impl_readList.f k a) (readV a.data.toList) := by
  have hc := split_cut a
  have hlen := cut_count a.data.toList
  rw [data_len, ← hc, List.length_map] at hlen
  refine ⟨a.size + 10, fun k hk => ?_⟩
  show impl_readList.f k a = _
  unfold impl_readList.f readV
  simp only [Option.bind_some]
  rw [ByteArray.toList_eq]
  by_cases c : a.data.toList = [45]
  · rw [if_pos c, if_pos c]
  · rw [if_neg c, if_neg c]
    unfold strings_Split.f
    rw [if_pos ⟨hA, by decide⟩]
    simp only [Option.bind_some]
    have key := impl_readList_l (Lib.splitB ⟨#[44]⟩ 0 (Lib.countB a ⟨#[44]⟩) a) (by omega) (fun w hw => by
      have hm : w.data.toList ∈ cut a.data.toList := by rw [← hc]; exact List.mem_map.2 ⟨w, hw, rfl⟩
      have := cut_piece _ _ hm
      rw [data_len, data_len] at this
      omega) (Lib.splitB ⟨#[44]⟩ 0 (Lib.countB a ⟨#[44]⟩) a) 0 k [] rfl (by simp) (by omega) (by omega)
    rw [hc] at key
    exact key

theorem impl_in_v (a b c : Int) : impl_in.f a b c = some (inR a b c) := inR_le a b c

theorem impl_isSignal_1_v (x : Int) : impl_isSignal_1.f x = some (!inR x (-100000) 100000) := by simp only [impl_isSignal_1.f, impl_in_v, Option.bind_some]
theorem index_isSignal_l (xs : List Int) (hn : xs.length ≤ 1152921504606846976) : ∀ (r : List Int) (n k : Nat), xs.drop n = r → r.length < k → ∃ v : Int, slices_IndexFunc_int_int_impl_isSignal_1.l0 k xs (xs.length : Int) n = some v ∧ decide (v ≥ 0) = !(r.all fun x => inR x (-100000) 100000)
  | [], n, k, hd, hk => by
    obtain ⟨k, rfl⟩ := pred hk
    have := drop_nil hd
    refine ⟨-1, ?_, by simp⟩
    simp only [slices_IndexFunc_int_int_impl_isSignal_1.l0]; rw [if_neg (by omega)]
  | a :: r, n, k, hd, hk => by
    obtain ⟨k, rfl⟩ := pred hk
    obtain ⟨h1, h2, h3⟩ := drop_cons hd
    simp only [slices_IndexFunc_int_int_impl_isSignal_1.l0]
    rw [if_pos (by omega), if_pos (by omega), if_pos (by omega), h2, impl_isSignal_1_v, wrap_nat h1 hn]; simp only [Option.bind_some, List.all_cons]
    cases h : inR a (-100000) 100000
    · exact ⟨n, by simp, by simp⟩
    · obtain ⟨v, e, hv⟩ := index_isSignal_l xs hn r (n + 1) k h3 (by simp at hk; omega)
      exact ⟨v, by simpa using e, by simpa using hv⟩
theorem contains_isSignal_e (xs : List Int) (hn : xs.length ≤ 1152921504606846976) : Ev (fun k => slices_ContainsFunc_int_int_impl_isSignal_1.f k xs) (!(xs.all fun x => inR x (-100000) 100000)) :=
  ⟨xs.length + 1, fun k hk => by
    show slices_ContainsFunc_int_int_impl_isSignal_1.f k xs = some _
    obtain ⟨v, e, hv⟩ := index_isSignal_l xs hn xs 0 k rfl (by omega)
    have e' : slices_IndexFunc_int_int_impl_isSignal_1.f k xs = some v := e
    unfold slices_ContainsFunc_int_int_impl_isSignal_1.f
    rw [e']; simp only [Option.bind_some, hv]⟩

theorem impl_isSignal_e (xs : List Int) (hn : xs.length ≤ 1152921504606846976) : Ev (fun k => impl_isSignal.f k xs) (sigB xs) := by
  obtain ⟨K, e⟩ := contains_isSignal_e xs hn
  refine ⟨K, fun k hk => ?_⟩
  show impl_isSignal.f k xs = some (sigB xs)
  unfold impl_isSignal.f sigB
  simp only [e k hk, Option.bind_some, Bool.not_not]
  by_cases h : xs.length ≤ 64
  · rw [if_pos (by omega)]; simp [h]
  · rw [if_neg (by omega)]; simp [h]
theorem impl_isSignal_k (xs : List Int) (k : Nat) (hn : xs.length ≤ 64) (hk : 66 ≤ k) : impl_isSignal.f k xs = some (sigB xs) := by
  obtain ⟨v, e, hv⟩ := index_isSignal_l xs (by omega) xs 0 k rfl (by omega)
  have e' : slices_IndexFunc_int_int_impl_isSignal_1.f k xs = some v := e
  unfold impl_isSignal.f slices_ContainsFunc_int_int_impl_isSignal_1.f sigB
  rw [e']; simp only [Option.bind_some, hv, Bool.not_not]
  rw [if_pos (by omega)]; simp [hn]

theorem impl_told_e (xs : List Int) (hn : xs.length ≤ 1152921504606846976) : Ev (fun k => impl_told.f k xs) (ifSig xs) := by
  obtain ⟨K, e⟩ := impl_isSignal_e xs hn
  refine ⟨K, fun k hk => ?_⟩
  show impl_told.f k xs = some (ifSig xs)
  unfold impl_told.f ifSig
  simp only [e k hk, Option.bind_some]
  split <;> rfl

/-- The program's answer. -/
def parseI (T : List UInt8) : List Int × Bool := if T = [45] then ([], true) else implM T
theorem impl_ParseSignal_e (a : ByteArray) (hA : a.size ≤ 1048576) : Ev (fun k => impl_ParseSignal.f k a) (parseI a.data.toList) := by
  obtain ⟨K1, e1⟩ := impl_readList_e a hA
  have hcount := cut_count a.data.toList
  rw [data_len] at hcount
  by_cases c : a.data.toList = [45]
  · obtain ⟨K2, e2⟩ := impl_told_e [] (by simp)
    refine ⟨K1 + K2, fun k hk => ?_⟩
    show impl_ParseSignal.f k a = _
    unfold impl_ParseSignal.f parseI
    rw [show impl_readList.f k a = _ from e1 k (by omega)]
    unfold readV
    rw [if_pos c, if_pos c]
    simp only [Option.bind_some, if_true]
    rw [show impl_told.f k [] = _ from e2 k (by omega)]
    rfl
  · cases hr : readM (cut a.data.toList) with
    | none =>
      refine ⟨K1, fun k hk => ?_⟩
      show impl_ParseSignal.f k a = _
      unfold impl_ParseSignal.f parseI
      rw [show impl_readList.f k a = _ from e1 k (by omega)]
      unfold readV implM
      rw [if_neg c, if_neg c, hr]
      rfl
    | some s =>
      have hlen : s.length ≤ 2000000 := by
        have := readM_some _ _ hr
        rw [this, List.length_map] at hcount
        omega
      obtain ⟨K2, e2⟩ := impl_told_e s (by omega)
      refine ⟨K1 + K2, fun k hk => ?_⟩
      show impl_ParseSignal.f k a = _
      unfold impl_ParseSignal.f parseI
      rw [show impl_readList.f k a = _ from e1 k (by omega)]
      unfold readV implM
      rw [if_neg c, if_neg c, hr]
      simp only [endR, List.nil_append, Option.bind_some, if_true]
      rw [show impl_told.f k s = _ from e2 k (by omega)]
      rfl

theorem laws_eqIntS_l (xs : List Int) (hn : xs.length ≤ 1152921504606846976) : ∀ (r : List Int) (n k : Nat), xs.drop n = r → r.length < k → laws_eqIntS.l0 k xs xs n = some true
  | [], n, k, hd, hk => by
    obtain ⟨k, rfl⟩ := pred hk
    have := drop_nil hd
    simp only [laws_eqIntS.l0]; rw [if_neg (by omega)]
  | a :: r, n, k, hd, hk => by
    obtain ⟨k, rfl⟩ := pred hk
    obtain ⟨h1, h2, h3⟩ := drop_cons hd
    simp only [laws_eqIntS.l0]
    rw [if_pos (by omega), if_pos (by omega), if_pos (by omega), if_pos trivial, wrap_nat h1 hn]
    exact laws_eqIntS_l xs hn r (n + 1) k h3 (by simp at hk; omega)
theorem laws_eqIntS_same (xs : List Int) (hn : xs.length ≤ 1152921504606846976) : Ev (fun k => laws_eqIntS.f k xs xs) true :=
  ⟨xs.length + 1, fun k hk => by
    show laws_eqIntS.f k xs xs = some true
    unfold laws_eqIntS.f
    rw [if_pos rfl]
    exact laws_eqIntS_l xs hn xs 0 k rfl (by omega)⟩

theorem laws_markIntS_l (s : Int) (len : Nat) (hs : 0 ≤ s) (hs2 : s ≤ 1000000000000) (hn : len ≤ 1000000000000) : ∀ (d n k : Nat) (ys : List Int), n + d = len → ys.length = len → ys.take n = (marks s len).take n → d < k → laws_markIntS.l0 k ys (s + n) n = some (s + len, marks s len)
  | 0, n, k, ys, hd, hy, ht, hk => by
    obtain ⟨k, rfl⟩ := pred hk
    simp only [laws_markIntS.l0]; rw [if_neg (by omega)]
    rw [List.take_of_length_le (by omega), List.take_of_length_le (by rw [marks_length]; omega)] at ht
    rw [ht, show n = len by omega]
  | d + 1, n, k, ys, hd, hy, ht, hk => by
    obtain ⟨k, rfl⟩ := pred hk
    simp only [laws_markIntS.l0]
    rw [if_pos (by omega), if_pos (by omega), wrap_nat (m := len) (by omega) (by omega), wrap_id (x := s + n + 1) (by omega) (by omega), show s + (n : Int) + 1 = s + ((n + 1 : Nat) : Int) by omega, show ((n : Int)).toNat = n by omega]
    exact laws_markIntS_l s len hs hs2 hn d (n + 1) k _ (by omega) (by simpa using hy) (set_take (by rw [marks_length, hy]) (by rw [marks_length]; omega) ht (marks_get s len n (by omega))) (by omega)
theorem laws_markIntS_e (xs : List Int) (s : Int) (hs : 0 ≤ s) (hs2 : s ≤ 1000000000000) (hn : xs.length ≤ 1048576) : Ev (fun k => laws_markIntS.f k xs s) (s + xs.length, marks s xs.length) :=
  ⟨xs.length + 1, fun k hk => by
    have := laws_markIntS_l s xs.length hs hs2 (by omega) xs.length 0 k xs (by omega) rfl (by simp) (by omega)
    simpa [laws_markIntS.f] using this⟩

theorem laws_heldIntS_l (s : Int) (len : Nat) (hs : 0 ≤ s) (hs2 : s ≤ 1000000000000) (hn : len ≤ 1000000000000) : ∀ (d n k : Nat), n + d = len → d < k → laws_heldIntS.l0 k (marks s len) (s + n) n = some (s + len)
  | 0, n, k, hd, hk => by
    obtain ⟨k, rfl⟩ := pred hk
    simp only [laws_heldIntS.l0, marks_length]; rw [if_neg (by omega), show n = len by omega]
  | d + 1, n, k, hd, hk => by
    obtain ⟨k, rfl⟩ := pred hk
    simp only [laws_heldIntS.l0, marks_length]
    have hr : rd (marks s len) n = s + n := by simp [rd, List.getD, marks_get s len n (by omega)]
    rw [if_pos (by omega), if_pos (by omega), if_pos hr, wrap_nat (m := len) (by omega) (by omega), wrap_id (x := s + n + 1) (by omega) (by omega), show s + (n : Int) + 1 = s + ((n + 1 : Nat) : Int) by omega]
    exact laws_heldIntS_l s len hs hs2 hn d (n + 1) k (by omega) (by omega)
theorem laws_heldIntS_e (n : Nat) (s : Int) (hs : 0 ≤ s) (hs2 : s ≤ 1000000000000) (hn : n ≤ 1048576) : Ev (fun k => laws_heldIntS.f k (marks s n) s) (s + n) :=
  ⟨n + 1, fun k hk => by
    have := laws_heldIntS_l s n hs hs2 (by omega) n 0 k (by omega) (by omega)
    simpa [laws_heldIntS.f] using this⟩

-- import Text
-- import Parse
theorem parse_len (T : List UInt8) : (parseS T).1.length ≤ 64 := by
  unfold parseS specM
  split
  · simp
  · split
    · simp
    · cases goM T [] 0 false 0 with
      | none => simp
      | some out =>
        show (finM T out).1.length ≤ 64
        unfold finM
        by_cases h : sigB out = true ∧ (if out.length = 0 then [45] else listT out) = T
        · rw [if_pos h]; exact (sigB_true h.1).1
        · rw [if_neg h]; simp
theorem FnExactParseSignal : laws_FnExactParseSignal.Pure := by
  intro a hw
  by_cases h00 : (a.size : Int) > 1048576
  · exact ⟨0, by simp [laws_FnExactParseSignal.f, h00]⟩
  obtain ⟨K3, e3⟩ := spec_ParseSignal_e a
  obtain ⟨K4, e4⟩ := impl_ParseSignal_e a (by omega)
  have hv : parseI a.data.toList = parseS a.data.toList := by
    unfold parseI parseS
    split
    · rfl
    · next h => exact parse_same _ h
  rw [hv] at e4
  have hl := parse_len a.data.toList
  generalize parseS a.data.toList = v at e3 e4 hl
  obtain ⟨K5, e5⟩ := laws_eqIntS_same v.1 (by omega)
  obtain ⟨K7, e7⟩ := laws_markIntS_e v.1 1 (by omega) (by omega) (by omega)
  obtain ⟨K8, e8⟩ := laws_heldIntS_e v.1.length 1 (by omega) (by omega) (by omega)
  obtain ⟨K, hK⟩ : ∃ K, K = K3 + K4 + K5 + K7 + K8 := ⟨_, rfl⟩
  refine ⟨K + 3, ?_⟩
  have a3_3 := e3 (K + 3) (by omega)
  have a4_3 := e4 (K + 3) (by omega)
  have a5_3 := e5 (K + 3) (by omega)
  have a7_3 := e7 (K + 3) (by omega)
  have a8_3 := e8 (K + 3) (by omega)
  have a3_2 := e3 (K + 2) (by omega)
  have a4_2 := e4 (K + 2) (by omega)
  have a5_2 := e5 (K + 2) (by omega)
  have a7_2 := e7 (K + 2) (by omega)
  have a8_2 := e8 (K + 2) (by omega)
  have a3_1 := e3 (K + 1) (by omega)
  have a4_1 := e4 (K + 1) (by omega)
  have a5_1 := e5 (K + 1) (by omega)
  have a7_1 := e7 (K + 1) (by omega)
  have a8_1 := e8 (K + 1) (by omega)
  have a3_0 := e3 K (by omega)
  have a4_0 := e4 K (by omega)
  have a5_0 := e5 K (by omega)
  have a7_0 := e7 K (by omega)
  have a8_0 := e8 K (by omega)
  have n1 : (1 + (v.1.length : Int) < 0) = False := eq_false (by omega)
  simp only [laws_FnExactParseSignal.f, laws_FnExactParseSignal.j0, laws_FnExactParseSignal.j1, if_neg h00, a3_3, a4_3, a5_3, a7_3, a8_3, a3_2, a4_2, a5_2, a7_2, a8_2, a3_1, a4_1, a5_1, a7_1, a8_1, a3_0, a4_0, a5_0, a7_0, a8_0, n1, Option.bind_some, bne_self_eq_false, Bool.false_eq_true, if_true, if_false]

end Go.Proofs.YtgancmcbldmjaaaDoor.Pure
