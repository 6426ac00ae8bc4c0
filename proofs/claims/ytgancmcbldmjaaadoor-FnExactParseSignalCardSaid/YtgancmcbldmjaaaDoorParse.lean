/- Plain lemmas on texts of numbers that are read: a text cut at its commas, decimals read from the left. Conditions stand in each lemma. -/
import Derived.Test.YtgancmcbldmjaaaDoorText
import Derived.Lib.SplitLaws
import Derived.Lib.AtoiAllCases
namespace Go.Proofs.YtgancmcbldmjaaaDoor.Base
set_option linter.unusedVariables false
set_option linter.unusedSimpArgs false
open Go.RowKit Go.Proofs.YtgancmcbldmjaaaDoorW.PrintWords Go.Proofs.YtgancmcbldmjaaaDoorW.PrintLast Go.Proofs.YtgancmcbldmjaaaDoorW.PrintMore
/-- A text cut at its commas. -/
def cut : List UInt8 → List (List UInt8)
  | [] => [[]]
  | b :: l => if b = 44 then [] :: cut l else match cut l with | [] => [[b]] | p :: ps => (b :: p) :: ps
theorem cut_ne : ∀ l, cut l ≠ []
  | [] => by simp [cut]
  | b :: l => by
    unfold cut
    split
    · simp
    · split <;> simp
/-- Pieces with commas between. -/
def unc : List (List UInt8) → List UInt8
  | [] => []
  | [p] => p
  | p :: q :: r => p ++ 44 :: unc (q :: r)
theorem unc_cons (p : List UInt8) (q : List (List UInt8)) (h : q ≠ []) : unc (p :: q) = p ++ 44 :: unc q := by
  cases q with
  | nil => exact absurd rfl h
  | cons a r => rfl
theorem unc_push (b : UInt8) (p : List UInt8) (ps : List (List UInt8)) : unc ((b :: p) :: ps) = b :: unc (p :: ps) := by
  cases ps <;> simp [unc]
theorem unc_cut : ∀ l, unc (cut l) = l
  | [] => rfl
  | b :: l => by
    have ih := unc_cut l
    have hn := cut_ne l
    unfold cut
    split
    · next h => rw [unc_cons _ _ hn, ih, h]; rfl
    · cases hc : cut l with
      | nil => exact absurd hc hn
      | cons p ps => rw [hc] at ih; rw [unc_push, ih]
theorem cut_clean : ∀ (a : List UInt8), (∀ b ∈ a, b ≠ 44) → cut a = [a]
  | [], _ => rfl
  | b :: a, h => by
    unfold cut
    rw [if_neg (h b (by simp)), cut_clean a (fun x hx => h x (by simp [hx]))]
theorem cut_app : ∀ (a r : List UInt8), (∀ b ∈ a, b ≠ 44) → cut (a ++ 44 :: r) = a :: cut r
  | [], r, _ => by rw [List.nil_append, cut, if_pos rfl]
  | b :: a, r, h => by
    rw [List.cons_append, cut, if_neg (h b (by simp)), cut_app a r (fun x hx => h x (by simp [hx]))]
theorem listT_cons (x y : Int) (r : List Int) : listT (x :: y :: r) = Lib.itoa x ++ 44 :: listT (y :: r) := by
  simp [listT]
theorem unc_itoa : ∀ l : List Int, unc (l.map Lib.itoa) = listT l
  | [] => rfl
  | [x] => by simp [unc, listT]
  | x :: y :: r => by
    have ih := unc_itoa (y :: r)
    rw [listT_cons, ← ih]
    rfl
/-- The library's pieces are these. -/
theorem index_cons (b : UInt8) (l : List UInt8) (h : b ≠ 44) : Lib.index (b :: l) [44] = if Lib.index l [44] == -1 then -1 else Lib.index l [44] + 1 := by
  have hp : ([44] : List UInt8).isPrefixOf (b :: l) = false := by simp [List.isPrefixOf, Ne.symm h]
  rw [Lib.index, hp]; simp
theorem index_here (l : List UInt8) : Lib.index (44 :: l) [44] = 0 := by rw [Lib.index]; simp [List.isPrefixOf]
theorem splitK_cut : ∀ l : List UInt8, Lib.splitK [44] 0 (Lib.count l [44]) l = cut l
  | [] => by rw [Lib.count_one]; rfl
  | b :: l => by
    have ih := splitK_cut l
    by_cases h : b = 44
    · subst h
      rw [Lib.count_cons_eq, Nat.add_comm, Lib.splitK, if_neg (by rw [index_here]; decide), index_here, cut, if_pos rfl, ← ih]
      simp
    · rw [Lib.count_cons_ne b 44 l h, cut, if_neg h, ← ih]
      cases hc : Lib.count l [44] with
      | zero => rfl
      | succ k =>
        by_cases hm : Lib.index l [44] = -1
        · rw [Lib.count_miss hm] at hc; cases hc
        · have hge := Lib.index_ge l [44]
          obtain ⟨j, hj⟩ : ∃ j : Nat, Lib.index l [44] = j := ⟨(Lib.index l [44]).toNat, by omega⟩
          have hb : Lib.index (b :: l) [44] = ((j + 1 : Nat) : Int) := by rw [index_cons b l h, if_neg (fun e => hm (beq_iff_eq.1 e)), hj]; omega
          have n1 : ¬ (Lib.index l [44] == -1) = true := fun e => hm (beq_iff_eq.1 e)
          have n2 : ¬ (Lib.index (b :: l) [44] == -1) = true := fun e => by have := beq_iff_eq.1 e; omega
          rw [Lib.splitK, Lib.splitK, if_neg n1, if_neg n2, hb, hj]
          simp
theorem split_cut (a : ByteArray) : (Lib.splitB ⟨#[44]⟩ 0 (Lib.countB a ⟨#[44]⟩) a).map (·.data.toList) = cut a.data.toList := by
  rw [Lib.splitB_data]
  exact splitK_cut a.data.toList
/-! Decimals -/
/-- Digits read from the left. -/
def vN (acc : Nat) (l : List UInt8) : Nat := l.foldl (fun a b => 10 * a + (b.toNat - 48)) acc
theorem vN_nil (acc : Nat) : vN acc [] = acc := rfl
theorem vN_cons (acc : Nat) (b : UInt8) (l : List UInt8) : vN acc (b :: l) = vN (10 * acc + (b.toNat - 48)) l := by unfold vN; rw [List.foldl_cons]
theorem vN_append (a b : List UInt8) (acc : Nat) : vN acc (a ++ b) = vN (vN acc a) b := by unfold vN; rw [List.foldl_append]
theorem dig_val {u : Nat} (h : u < 10) : (UInt8.ofNat (48 + u)).toNat = 48 + u := by
  rw [UInt8.toNat_ofNat']; omega
theorem dec_val (u : Nat) : vN 0 (Lib.decDigits u) = u := by
  induction u using Nat.strongRecOn with
  | _ u ih =>
    by_cases h : u < 10
    · rw [dec_small h]; simp only [vN_cons, vN_nil, dig_val h]; omega
    · rw [dec_more h, vN_append, ih (u / 10) (by omega)]
      simp only [vN_cons, vN_nil, dig_val (Nat.mod_lt u (by omega))]
      omega
theorem dec_dig (u : Nat) : ∀ b ∈ Lib.decDigits u, 48 ≤ b.toNat ∧ b.toNat ≤ 57 := by
  induction u using Nat.strongRecOn with
  | _ u ih =>
    by_cases h : u < 10
    · rw [dec_small h]; intro b hb; simp only [List.mem_singleton] at hb; subst hb; rw [dig_val h]; omega
    · rw [dec_more h]
      intro b hb
      rcases List.mem_append.1 hb with hb | hb
      · exact ih (u / 10) (by omega) b hb
      · simp only [List.mem_singleton] at hb; subst hb
        have := Nat.mod_lt u (show 0 < 10 by omega)
        rw [dig_val this]; omega
theorem dec_pos (u : Nat) : 1 ≤ (Lib.decDigits u).length := by
  by_cases h : u < 10
  · rw [dec_small h]; simp
  · rw [dec_more h]; simp
theorem vN_le : ∀ (l : List UInt8) (acc : Nat), acc ≤ vN acc l
  | [], _ => Nat.le_refl _
  | b :: l, acc => by have := vN_le l (10 * acc + (b.toNat - 48)); rw [vN_cons]; omega
theorem parse_dig : ∀ (l : List UInt8) (acc : Nat), (∀ b ∈ l, 48 ≤ b.toNat ∧ b.toNat ≤ 57) → vN acc l ≤ 100000 → Lib.parseUint10 acc l = .ok (vN acc l)
  | [], acc, _, _ => rfl
  | b :: l, acc, hd, hv => by
    have hb := hd b (by simp)
    have hle := vN_le l (10 * acc + (b.toNat - 48))
    rw [vN_cons] at hv
    have e : acc * 10 + (b.toNat - 48) = 10 * acc + (b.toNat - 48) := by omega
    rw [Lib.parseUint10, if_pos hb, if_neg (by omega), if_neg (by omega), e, parse_dig l _ (fun x hx => hd x (by simp [hx])) hv]
    rfl
theorem mag_dec (u : Nat) (h : u ≤ 100000) : Lib.parseMag (Lib.decDigits u) = .ok u := by
  have hp := dec_pos u
  unfold Lib.parseMag
  rw [if_neg (by intro e; rw [e] at hp; simp at hp), parse_dig _ _ (dec_dig u) (by rw [dec_val]; exact h), dec_val]
theorem atoi_itoa (x : Int) (h : -100000 ≤ x ∧ x ≤ 100000) : Lib.atoiAll (Lib.itoa x) = .ok x := by
  unfold Lib.itoa
  split
  · rw [Lib.atoiAll_minus, mag_dec _ (by omega)]
    simp only [Lib.signed]
    rw [if_neg (by omega)]
    congr 1
    omega
  · have hp := dec_pos x.toNat
    have hd := dec_dig x.toNat
    have hm := mag_dec x.toNat (by omega)
    cases hc : Lib.decDigits x.toNat with
    | nil => rw [hc] at hp; simp at hp
    | cons c r =>
      rw [hc] at hm hd
      have := hd c (by simp)
      rw [Lib.atoiAll_plain c r (by omega) (by omega), hm]
      simp only [Lib.signless]
      rw [if_neg (by omega)]
      congr 1
      omega
theorem itoa_clean (x : Int) : ∀ b ∈ Lib.itoa x, b ≠ 44 := by
  have key : ∀ u : Nat, ∀ b ∈ Lib.decDigits u, b ≠ 44 := fun u b hb e => by
    have := dec_dig u b hb
    subst e
    simp at this
  unfold Lib.itoa
  split
  · intro b hb
    rcases List.mem_cons.1 hb with rfl | hb
    · decide
    · exact key _ b hb
  · exact key _
theorem cut_listT : ∀ l : List Int, l ≠ [] → cut (listT l) = l.map Lib.itoa
  | [], h => absurd rfl h
  | [x], _ => by
    have : listT [x] = Lib.itoa x := by simp [listT]
    rw [this, cut_clean _ (itoa_clean x)]; rfl
  | x :: y :: r, _ => by
    rw [listT_cons, cut_app _ _ (itoa_clean x), cut_listT (y :: r) (by simp)]
    rfl
/-- What the program reads of the pieces. -/
def readM : List (List UInt8) → Option (List Int)
  | [] => some []
  | p :: ps => match Lib.atoiAll p with
    | .ok v => if Lib.itoa v = p then (readM ps).map (v :: ·) else none
    | _ => none
theorem readM_some : ∀ (ps : List (List UInt8)) (s : List Int), readM ps = some s → ps = s.map Lib.itoa
  | [], s, h => by simp only [readM, Option.some.injEq] at h; subst h; rfl
  | p :: ps, s, h => by
    unfold readM at h
    split at h
    · next v hv =>
      split at h
      · next hi =>
        obtain ⟨t, ht, rfl⟩ := Option.map_eq_some_iff.1 h
        rw [readM_some ps t ht, ← hi]
        rfl
      · cases h
    · cases h
theorem readM_itoa : ∀ s : List Int, Bd s → readM (s.map Lib.itoa) = some s
  | [], _ => rfl
  | x :: s, h => by
    rw [List.map_cons, readM, atoi_itoa x (h x (by simp))]
    show (if Lib.itoa x = Lib.itoa x then (readM (s.map Lib.itoa)).map (x :: ·) else none) = _
    rw [if_pos rfl, readM_itoa s (fun y hy => h y (by simp [hy]))]
    rfl
/-- The program's answer. -/
def implM (T : List UInt8) : List Int × Bool := match readM (cut T) with | none => ([], false) | some s => if sigB s = true then (s, true) else ([], false)
/-- The reference's loop. -/
def goM : List UInt8 → List Int → Int → Bool → Nat → Option (List Int)
  | [], out, n, neg, d => if d = 0 then none else some (out ++ [if neg = true then -n else n])
  | b :: r, out, n, neg, d =>
    if b.toNat = 44 then (if d = 0 then none else goM r (out ++ [if neg = true then -n else n]) 0 false 0)
    else if b.toNat = 45 ∧ d = 0 ∧ neg = false then goM r out n true d
    else if (48 ≤ b.toNat ∧ b.toNat ≤ 57) ∧ d < 7 then goM r out (10 * n + ((b.toNat : Int) - 48)) neg (d + 1)
    else none
def finM (T : List UInt8) (out : List Int) : List Int × Bool := if sigB out = true ∧ (if out.length = 0 then [45] else listT out) = T then (out, true) else ([], false)
def specM (T : List UInt8) : List Int × Bool := if T.length > 512 then ([], false) else match goM T [] 0 false 0 with | none => ([], false) | some out => finM T out
theorem go_dig : ∀ (ds r : List UInt8) (out : List Int) (n : Nat) (neg : Bool) (d : Nat), (∀ b ∈ ds, 48 ≤ b.toNat ∧ b.toNat ≤ 57) → d + ds.length ≤ 7 → goM (ds ++ r) out n neg d = goM r out (vN n ds : Nat) neg (d + ds.length)
  | [], r, out, n, neg, d, _, _ => rfl
  | b :: ds, r, out, n, neg, d, hd, hl => by
    have hb := hd b (by simp)
    simp only [List.length_cons] at hl
    rw [List.cons_append, goM, if_neg (by omega), if_neg (by omega), if_pos ⟨hb, by omega⟩]
    have e : 10 * (n : Int) + ((b.toNat : Int) - 48) = ((10 * n + (b.toNat - 48) : Nat) : Int) := by omega
    rw [e, go_dig ds r out _ neg (d + 1) (fun x hx => hd x (by simp [hx])) (by omega)]
    rw [vN_cons]; simp only [List.length_cons]
    congr 1
    omega
theorem go_itoa (x : Int) (h : -100000 ≤ x ∧ x ≤ 100000) (r : List UInt8) (out : List Int) : ∃ n neg d, d ≠ 0 ∧ (if neg = true then -n else n) = x ∧ goM (Lib.itoa x ++ r) out 0 false 0 = goM r out n neg d := by
  unfold Lib.itoa
  split
  · have hl := dec_len 5 x.natAbs (by omega)
    have hp := dec_pos x.natAbs
    refine ⟨(x.natAbs : Int), true, (Lib.decDigits x.natAbs).length, by omega, by simp; omega, ?_⟩
    have key := go_dig (Lib.decDigits x.natAbs) r out 0 true 0 (dec_dig _) (by omega)
    rw [dec_val, Nat.zero_add] at key
    rw [List.cons_append, goM, if_neg (by decide), if_pos (by decide)]
    exact key
  · have hl := dec_len 5 x.toNat (by omega)
    have hp := dec_pos x.toNat
    refine ⟨(x.toNat : Int), false, (Lib.decDigits x.toNat).length, by omega, by simp; omega, ?_⟩
    have key := go_dig (Lib.decDigits x.toNat) r out 0 false 0 (dec_dig _) (by omega)
    rw [dec_val, Nat.zero_add] at key
    exact key
theorem go_listT : ∀ (l : List Int) (out : List Int), Bd l → l ≠ [] → goM (listT l) out 0 false 0 = some (out ++ l)
  | [], _, _, h => absurd rfl h
  | [x], out, hb, _ => by
    obtain ⟨n, neg, d, hd, he, hg⟩ := go_itoa x (hb x (by simp)) [] out
    have : listT [x] = Lib.itoa x ++ [] := by simp [listT]
    rw [this, hg, goM, if_neg hd, he]
  | x :: y :: r, out, hb, _ => by
    obtain ⟨n, neg, d, hd, he, hg⟩ := go_itoa x (hb x (by simp)) (44 :: listT (y :: r)) out
    rw [listT_cons, hg, goM, if_pos (by decide), if_neg hd, he, go_listT (y :: r) _ (fun z hz => hb z (by simp [hz])) (by simp)]
    simp
theorem itoa_len7 {x : Int} (h : -100000 ≤ x ∧ x ≤ 100000) : (Lib.itoa x).length ≤ 7 := by
  unfold Lib.itoa
  split
  · have := dec_len 5 x.natAbs (by omega)
    simp; omega
  · have := dec_len 5 x.toNat (by omega)
    omega
theorem listT_len8 : ∀ l : List Int, Bd l → (listT l).length ≤ 8 * l.length
  | [], _ => by simp [listT]
  | [x], h => by
    have := itoa_len7 (h x (by simp))
    simp [listT]; omega
  | x :: y :: r, h => by
    have h1 := itoa_len7 (h x (by simp))
    have h2 := listT_len8 (y :: r) (fun z hz => h z (by simp [hz]))
    rw [listT_cons]
    simp only [List.length_append, List.length_cons] at h2 ⊢
    omega
/-- The two answers are one. -/
theorem parse_same (T : List UInt8) (hT : T ≠ [45]) : implM T = specM T := by
  by_cases hP : ∃ s : List Int, s ≠ [] ∧ sigB s = true ∧ listT s = T
  · obtain ⟨s, h0, hs, rfl⟩ := hP
    obtain ⟨h1, h2⟩ := sigB_true hs
    have hl := listT_len8 s h2
    have e1 : implM (listT s) = (s, true) := by
      unfold implM
      rw [cut_listT s h0, readM_itoa s h2]
      simp only
      rw [if_pos hs]
    have e2 : specM (listT s) = (s, true) := by
      unfold specM
      rw [if_neg (by omega), go_listT s [] h2 h0]
      simp only [List.nil_append]
      unfold finM
      rw [if_pos ⟨hs, by rw [if_neg (fun e => h0 (List.length_eq_zero_iff.1 e))]⟩]
    rw [e1, e2]
  · have e1 : implM T = ([], false) := by
      unfold implM
      split
      · rfl
      · next s hr =>
        by_cases hs : sigB s = true
        · have hc := readM_some _ _ hr
          exact absurd ⟨s, fun e => cut_ne T (by rw [hc, e]; rfl), hs, by rw [← unc_itoa, ← hc, unc_cut]⟩ hP
        · rw [if_neg hs]
    have e2 : specM T = ([], false) := by
      unfold specM
      split
      · rfl
      · split
        · rfl
        · next out hg =>
          unfold finM
          by_cases hc : sigB out = true ∧ (if out.length = 0 then [45] else listT out) = T
          · by_cases h0 : out.length = 0
            · rw [if_pos h0] at hc; exact absurd hc.2.symm hT
            · rw [if_neg h0] at hc
              exact absurd ⟨out, fun e => h0 (by rw [e]; rfl), hc.1, hc.2⟩ hP
          · rw [if_neg hc]
    rw [e1, e2]
end Go.Proofs.YtgancmcbldmjaaaDoor.Base
