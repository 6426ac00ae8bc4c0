/- The parameter structs of the laws (a word; a filter of the first and of the second order), opened to their numbers and bools: a value that reads at such a type is the aggregate of its cells, and each number is of int's range. Conditions: the type's layout, paid by closed facts where it is used. -/
import Derived.ChangeArms
import Derived.WideShapes
import Derived.ChangeShapes
import Derived.Carry
namespace Go.Proofs.Ytljehmhiclccgaa.Agg
open Go.ChangeShapes Go.WideShapes
section
variable {H : Type} {enc : TypeId × Value → H} {P : Program} {w : World} {base : Nat} {spare : Nat → Bool} {held : Bool}
theorem part_int {t : TypeId} {n : Nat} {cs : List Value} {y : Option (DataW H × List MemPlace)} (hy : y.isSome = true) (u : P.underlying t = some (.int .i64)) (h : DataW.trod enc P w base spare held n t cs = y) : ∃ a, cs = [.int .i64 a] ∧ (Lit.int .i64 a).wf = true := by
  obtain ⟨z, rfl⟩ := Option.isSome_iff_exists.mp hy
  obtain ⟨a, h1, _, h2⟩ := DataW.trod_int u h
  exact ⟨a, h1, h2⟩
theorem part_bool {t : TypeId} {n : Nat} {cs : List Value} {y : Option (DataW H × List MemPlace)} (hy : y.isSome = true) (u : P.underlying t = some .bool) (h : DataW.trod enc P w base spare held n t cs = y) : ∃ a, cs = [.bool a] := by
  obtain ⟨z, rfl⟩ := Option.isSome_iff_exists.mp hy
  obtain ⟨a, h1, _⟩ := DataW.trod_bool u h
  exact ⟨a, h1⟩
theorem cells_word {t : TypeId} {f0 f1 : Field} {fuel : Nat} {cs : List Value} {y : Option (DataW H × List MemPlace)} (hy : y.isSome = true) (ht : P.underlying t = some (.struct #[f0, f1])) (ho : [f0.offset, f1.offset] = [0, 1])
    (hk : [P.cellsOf f0.type, P.cellsOf f1.type] = [1, 1]) (hC : P.cellsOf t = 2) (u0 : P.underlying f0.type = some (.int .i64)) (u1 : P.underlying f1.type = some .bool) (h : DataW.trod enc P w base spare held fuel t cs = y) :
    ∃ a b, cs = [.int .i64 a, .bool b] ∧ (Lit.int .i64 a).wf = true := by
  obtain ⟨z, rfl⟩ := Option.isSome_iff_exists.mp hy
  obtain ⟨xs, n, _, _, hl, hlen, hf⟩ := DataW.trod_struct ht h
  simp only [List.cons.injEq, and_true] at ho hk
  have hs : ∀ i, i < 2 → (xs[i]?).isSome = true := fun i hi => by rw [List.getElem?_eq_getElem (by rw [hlen]; exact hi)]; rfl
  have g0 := hf 0 f0 rfl
  have g1 := hf 1 f1 rfl
  rw [ho.1, hk.1] at g0
  rw [ho.2, hk.2] at g1
  obtain ⟨a, e0, w0⟩ := part_int (hs 0 (by omega)) u0 g0
  obtain ⟨b, e1⟩ := part_bool (hs 1 (by omega)) u1 g1
  rw [hC] at hl
  match cs, hl with
  | [c0, c1], _ =>
    simp at e0 e1
    exact ⟨a, b, by rw [e0, e1], w0⟩
theorem open_word {r : Reach} {b0 : Nat} {t : TypeId} {f0 f1 : Field} {v : Value} {d : DataW H} {p : List MemPlace} (ht : P.underlying t = some (.struct #[f0, f1])) (ho : [f0.offset, f1.offset] = [0, 1])
    (hk : [P.cellsOf f0.type, P.cellsOf f1.type] = [1, 1]) (hC : P.cellsOf t = 2) (u0 : P.underlying f0.type = some (.int .i64)) (u1 : P.underlying f1.type = some .bool)
    (hv : Value.okWide P w r b0 t v) (h : DataW.Trod enc P w base spare held t v d p) : ∃ a b, v = .agg #[.int .i64 a, .bool b] ∧ (Lit.int .i64 a).wf = true := by
  obtain ⟨cs, rfl, hsz⟩ := okWide_struct ht hv
  obtain ⟨fuel, hf⟩ := h
  obtain ⟨a, b, e, w0⟩ := cells_word rfl ht ho hk hC u0 u1 hf
  obtain ⟨l⟩ := cs
  simp only [Value.cells] at e
  exact ⟨a, b, by rw [show l = _ from e], w0⟩
theorem open_first {r : Reach} {b0 : Nat} {t : TypeId} {f0 f1 f2 f3 g0 g1 : Field} {v : Value} {d : DataW H} {p : List MemPlace} (ht : P.underlying t = some (.struct #[f0, f1, f2, f3])) (ho : [f0.offset, f1.offset, f2.offset, f3.offset] = [0, 1, 2, 3])
    (hk : [P.cellsOf f0.type, P.cellsOf f1.type, P.cellsOf f2.type] = [1, 1, 1]) (hC : P.cellsOf t = 5) (go : [g0.offset, g1.offset] = [0, 1]) (gk : [P.cellsOf g0.type, P.cellsOf g1.type] = [1, 1]) (gC : P.cellsOf f3.type = 2)
    (u0 : P.underlying f0.type = some (.int .i64)) (u1 : P.underlying f1.type = some (.int .i64)) (u2 : P.underlying f2.type = some (.int .i64)) (u3 : P.underlying f3.type = some (.struct #[g0, g1])) (v0 : P.underlying g0.type = some (.int .i64)) (v1 : P.underlying g1.type = some .bool)
    (hv : Value.okWide P w r b0 t v) (h : DataW.Trod enc P w base spare held t v d p) :
    ∃ a0 a1 a2 a3 a4, v = .agg #[.int .i64 a0, .int .i64 a1, .int .i64 a2, .int .i64 a3, .bool a4] ∧ (Lit.int .i64 a0).wf = true ∧ (Lit.int .i64 a1).wf = true ∧ (Lit.int .i64 a2).wf = true ∧ (Lit.int .i64 a3).wf = true := by
  obtain ⟨cs, rfl, hsz⟩ := okWide_struct ht hv
  obtain ⟨fuel, hf⟩ := h
  obtain ⟨l⟩ := cs
  obtain ⟨xs, n, _, _, hl, hlen, hf⟩ := DataW.trod_struct ht hf
  simp only [List.cons.injEq, and_true] at ho hk
  have hs : ∀ i, i < 4 → (xs[i]?).isSome = true := fun i hi => by rw [List.getElem?_eq_getElem (by rw [hlen]; exact hi)]; rfl
  have e0 := hf 0 f0 rfl
  have e1 := hf 1 f1 rfl
  have e2 := hf 2 f2 rfl
  have e3 := hf 3 f3 rfl
  rw [ho.1, hk.1] at e0
  rw [ho.2.1, hk.2.1] at e1
  rw [ho.2.2.1, hk.2.2] at e2
  rw [ho.2.2.2, gC] at e3
  obtain ⟨a0, c0, w0⟩ := part_int (hs 0 (by omega)) u0 e0
  obtain ⟨a1, c1, w1⟩ := part_int (hs 1 (by omega)) u1 e1
  obtain ⟨a2, c2, w2⟩ := part_int (hs 2 (by omega)) u2 e2
  obtain ⟨a3, a4, c3, w3⟩ := cells_word (hs 3 (by omega)) u3 go gk gC v0 v1 e3
  rw [hC] at hl
  clear e0 e1 e2 e3 hf hs hsz hv ht
  simp only [Value.cells] at hl c0 c1 c2 c3
  match l, hl with
  | [d0, d1, d2, d3, d4], _ =>
    simp at c0 c1 c2 c3
    exact ⟨a0, a1, a2, a3, a4, by rw [c0, c1, c2, c3.1, c3.2], w0, w1, w2, w3⟩
theorem open_second {r : Reach} {b0 : Nat} {t : TypeId} {f0 f1 f2 f3 f4 g0 g1 : Field} {v : Value} {d : DataW H} {p : List MemPlace} (ht : P.underlying t = some (.struct #[f0, f1, f2, f3, f4])) (ho : [f0.offset, f1.offset, f2.offset, f3.offset, f4.offset] = [0, 1, 2, 3, 4])
    (hk : [P.cellsOf f0.type, P.cellsOf f1.type, P.cellsOf f2.type, P.cellsOf f3.type] = [1, 1, 1, 1]) (hC : P.cellsOf t = 6) (go : [g0.offset, g1.offset] = [0, 1]) (gk : [P.cellsOf g0.type, P.cellsOf g1.type] = [1, 1]) (gC : P.cellsOf f4.type = 2)
    (u0 : P.underlying f0.type = some (.int .i64)) (u1 : P.underlying f1.type = some (.int .i64)) (u2 : P.underlying f2.type = some (.int .i64)) (u3 : P.underlying f3.type = some (.int .i64)) (u4 : P.underlying f4.type = some (.struct #[g0, g1])) (v0 : P.underlying g0.type = some (.int .i64)) (v1 : P.underlying g1.type = some .bool)
    (hv : Value.okWide P w r b0 t v) (h : DataW.Trod enc P w base spare held t v d p) :
    ∃ a0 a1 a2 a3 a4 a5, v = .agg #[.int .i64 a0, .int .i64 a1, .int .i64 a2, .int .i64 a3, .int .i64 a4, .bool a5] ∧ (Lit.int .i64 a0).wf = true ∧ (Lit.int .i64 a1).wf = true ∧ (Lit.int .i64 a2).wf = true ∧ (Lit.int .i64 a3).wf = true ∧ (Lit.int .i64 a4).wf = true := by
  obtain ⟨cs, rfl, hsz⟩ := okWide_struct ht hv
  obtain ⟨fuel, hf⟩ := h
  obtain ⟨l⟩ := cs
  obtain ⟨xs, n, _, _, hl, hlen, hf⟩ := DataW.trod_struct ht hf
  simp only [List.cons.injEq, and_true] at ho hk
  have hs : ∀ i, i < 5 → (xs[i]?).isSome = true := fun i hi => by rw [List.getElem?_eq_getElem (by rw [hlen]; exact hi)]; rfl
  have e0 := hf 0 f0 rfl
  have e1 := hf 1 f1 rfl
  have e2 := hf 2 f2 rfl
  have e3 := hf 3 f3 rfl
  have e4 := hf 4 f4 rfl
  rw [ho.1, hk.1] at e0
  rw [ho.2.1, hk.2.1] at e1
  rw [ho.2.2.1, hk.2.2.1] at e2
  rw [ho.2.2.2.1, hk.2.2.2] at e3
  rw [ho.2.2.2.2, gC] at e4
  obtain ⟨a0, c0, w0⟩ := part_int (hs 0 (by omega)) u0 e0
  obtain ⟨a1, c1, w1⟩ := part_int (hs 1 (by omega)) u1 e1
  obtain ⟨a2, c2, w2⟩ := part_int (hs 2 (by omega)) u2 e2
  obtain ⟨a3, c3, w3⟩ := part_int (hs 3 (by omega)) u3 e3
  obtain ⟨a4, a5, c4, w4⟩ := cells_word (hs 4 (by omega)) u4 go gk gC v0 v1 e4
  rw [hC] at hl
  clear e0 e1 e2 e3 e4 hf hs hsz hv ht
  simp only [Value.cells] at hl c0 c1 c2 c3 c4
  match l, hl with
  | [d0, d1, d2, d3, d4, d5], _ =>
    simp at c0 c1 c2 c3 c4
    exact ⟨a0, a1, a2, a3, a4, a5, by rw [c0, c1, c2, c3, c4.1, c4.2], w0, w1, w2, w3, w4⟩
end
end Go.Proofs.Ytljehmhiclccgaa.Agg
