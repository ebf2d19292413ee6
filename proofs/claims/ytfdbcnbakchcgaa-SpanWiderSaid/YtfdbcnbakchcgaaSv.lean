import Derived.Test.YtfdbcnbakchcgaaWWords
import Derived.Test.YtfdbcnbakchcgaaWMore
import Derived.Test.YtfdbcnbakchcgaaWLast
import Derived.Test.YtfdbcnbakchcgaaWTab
namespace Go.Proofs.Ytfdbcnbakchcgaa.XQ
open Go.RowKit Go.Proofs.YtfdbcnbakchcgaaW.PrintWords Go.Proofs.YtfdbcnbakchcgaaW.PrintLast Go.Proofs.YtfdbcnbakchcgaaW.PrintMore
attribute [local go_sem] max2_int min2_int max_two min_two max_three min_three max_four min_four
set_option linter.unusedVariables false
set_option linter.unusedSimpArgs false
def Pl (_rs : List Nat) (p : Prop) : Prop := p
theorem pl_ {p : Prop} (rs : List Nat) (h : Pl rs p) : p := h
theorem pl0 {p : Prop} (h : p) : Pl [] p := h
section
variable {P : Program} {ops : Array Oper} {Q : Exit → Act → World → Prop} {md : Region.Mode} {S : World → Prop} {ds rs : List Nat} {i n : Nat} {oi : Oper} {v : Value} {fuel : Nat} {l : Array Bool} {a : Act} {w : World}
theorem pP (hi : ops[i]? = some oi) (hN : oi.dst = some n) (hc : anyB md ops l (l.setIfInBounds i true) i = true) (hQ : ∀ c a w, Q (.panic c) (a.put oi.dst v) w → Q (.panic c) a w)
    (hw : Region.wanted oi (yielded ops a.tmps) = true) (hr : ∀ w', (execOp a.eval oi).run P w' = .ok (.value v) w') {a' : Act} (ha : a.put (some n) v = a') (h : Pl rs (wpAnyLast P md ops Q S ds fuel (l.setIfInBounds i true) a' w)) : Pl (i :: rs) (wpAnyLast P md ops Q S ds (fuel + 1) l a w) :=
  pure_ _ hi hN hc hQ (Or.inl ⟨hw, hr⟩) ha h
theorem pU (hi : ops[i]? = some oi) (hN : oi.dst = some n) (hc : anyB md ops l (l.setIfInBounds i true) i = true) (hQ : ∀ c a w, Q (.panic c) (a.put oi.dst undef) w → Q (.panic c) a w)
    (hw : Region.wanted oi (yielded ops a.tmps) = false) {a' : Act} (ha : a.put (some n) undef = a') (h : Pl rs (wpAnyLast P md ops Q S ds fuel (l.setIfInBounds i true) a' w)) : Pl (i :: rs) (wpAnyLast P md ops Q S ds (fuel + 1) l a w) :=
  pure_ _ hi hN hc hQ (Or.inr ⟨hw, rfl⟩) ha h
theorem pT (hS : S w) (hi : ops[i]? = some oi) (hN : oi.dst = some n) (hc : takeB md ops ds l (l.setIfInBounds i true) i = true) (hQ : ∀ c a w, Q (.panic c) (a.put oi.dst v) w → Q (.panic c) a w)
    (hw : Region.wanted oi (yielded ops a.tmps) = true) (hr : ∀ w', S w' → (execOp a.eval oi).run P w' = .ok (.value v) w') {a' : Act} (ha : a.put (some n) v = a') (h : Pl rs (wpAnyLast P md ops Q S ds fuel (l.setIfInBounds i true) a' w)) : Pl (i :: rs) (wpAnyLast P md ops Q S ds (fuel + 1) l a w) :=
  take_ _ hi hN hc hQ (Or.inl ⟨hw, hr⟩) hS ha h
end
theorem bk1 {w w1 : World} {g : Nat} {o : Obj} (h : w.heap[g]? = some o) (hb : Below w.heap.size w w1) : Aside0 (w1.heap[g]? = some o) := ⟨blk_below h hb⟩
theorem hb3 {w W W1 : World} {e : Nat} (h : Below w.heap.size w W) (hb : Below W.heap.size W W1) (hg : e = W.heap.size) : Aside0 (Below w.heap.size w W1) ∧ Aside0 (w.heap.size ≤ e) := ⟨⟨below_step h hb⟩, ⟨by rw [hg]; exact below_size h⟩⟩
section
variable {w : World} {g : Nat} {t : TypeId} {a b c d e f k m : Value}
theorem cl2 (h : w.heap[g]? = some (.cells #[a, b] t (0, 0))) : w.cell? ⟨g, 0, none⟩ = some a ∧ w.cell? ⟨g, 1, none⟩ = some b ∧ w.frozen? ⟨g, 0, none⟩ = false ∧ w.frozen? ⟨g, 1, none⟩ = false := ⟨(blk_cell h 0).trans rfl, (blk_cell h 1).trans rfl, blk_frozen h 0, blk_frozen h 1⟩
theorem cl3 (h : w.heap[g]? = some (.cells #[a, b, c] t (0, 0))) : w.cell? ⟨g, 0, none⟩ = some a ∧ w.cell? ⟨g, 1, none⟩ = some b ∧ w.cell? ⟨g, 2, none⟩ = some c ∧ w.frozen? ⟨g, 0, none⟩ = false ∧ w.frozen? ⟨g, 1, none⟩ = false ∧ w.frozen? ⟨g, 2, none⟩ = false := ⟨(blk_cell h 0).trans rfl, (blk_cell h 1).trans rfl, (blk_cell h 2).trans rfl, blk_frozen h 0, blk_frozen h 1, blk_frozen h 2⟩
end
theorem z1 {α : Type} {l : List α} {i : Nat} {a : α} : l.toArray.setIfInBounds i a = (l.set i a).toArray := List.setIfInBounds_toArray ..
theorem z2 {α : Type} {x a : α} {l : List α} : (x :: l).set 0 a = a :: l := rfl
theorem z3 {α : Type} {x a : α} {l : List α} {n : Nat} : (x :: l).set (n + 1) a = x :: l.set n a := rfl
section
variable {P : Program} {ops : Array Oper} {Q : Exit → Act → World → Prop} {md : Region.Mode} {S : World → Prop} {ds rs : List Nat} {i n : Nat} {oi : Oper} {v : Value} {fuel : Nat} {l : Array Bool} {a : Act} {w : World}
theorem qP (hi : ops[i]? = some oi) (hN : oi.dst = some n) {a' : Act} (h : Pl rs (wpAnyLast P md ops Q S ds fuel (l.setIfInBounds i true) a' w)) (hc : anyB md ops l (l.setIfInBounds i true) i = true := by kernel_rfl) (hQ : ∀ c a w, Q (.panic c) (a.put oi.dst v) w → Q (.panic c) a w := by exact fun _ _ _ h => h)
    (hw : Region.wanted oi (yielded ops a.tmps) = true := by rfl) (hr : ∀ w', (execOp a.eval oi).run P w' = .ok (.value v) w' := by intro w'; go_simp; with_reducible rfl) (ha : a.put (some n) v = a' := by simp only [Act.put, z1, z2, z3, i64_w, i32_w]; rfl) : Pl (i :: rs) (wpAnyLast P md ops Q S ds (fuel + 1) l a w) :=
  pP hi hN hc hQ hw hr ha h
theorem qU (hi : ops[i]? = some oi) (hN : oi.dst = some n) {a' : Act} (h : Pl rs (wpAnyLast P md ops Q S ds fuel (l.setIfInBounds i true) a' w)) (hc : anyB md ops l (l.setIfInBounds i true) i = true := by kernel_rfl) (hQ : ∀ c a w, Q (.panic c) (a.put oi.dst undef) w → Q (.panic c) a w := by exact fun _ _ _ h => h)
    (hw : Region.wanted oi (yielded ops a.tmps) = false := by rfl) (ha : a.put (some n) undef = a' := by simp only [Act.put, z1, z2, z3, i64_w, i32_w]; rfl) : Pl (i :: rs) (wpAnyLast P md ops Q S ds (fuel + 1) l a w) :=
  pU hi hN hc hQ hw ha h
theorem yT (hS : S w) (hi : ops[i]? = some oi) (hN : oi.dst = some n) {a' : Act} (h : Pl rs (wpAnyLast P md ops Q S ds fuel (l.setIfInBounds i true) a' w)) (hr : ∀ w', S w' → (execOp a.eval oi).run P w' = .ok (.value v) w') (hc : takeB md ops ds l (l.setIfInBounds i true) i = true := by kernel_rfl) (hQ : ∀ c a w, Q (.panic c) (a.put oi.dst v) w → Q (.panic c) a w := by exact fun _ _ _ h => h)
    (hw : Region.wanted oi (yielded ops a.tmps) = true := by rfl) (ha : a.put (some n) v = a' := by simp only [Act.put, z1, z2, z3, i64_w, i32_w]; rfl) : Pl (i :: rs) (wpAnyLast P md ops Q S ds (fuel + 1) l a w) :=
  pT hS hi hN hc hQ hw hr ha h
end
end Go.Proofs.Ytfdbcnbakchcgaa.XQ
