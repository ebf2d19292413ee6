import Derived.Test.YtfdbcnbakchcgaaWWords
import Derived.Test.YtfdbcnbakchcgaaWMore
import Derived.Test.YtfdbcnbakchcgaaWLast
namespace Go.Proofs.Ytfdbcnbakchcgaa.XQ
open Go.RowKit Go.Proofs.YtfdbcnbakchcgaaW.PrintWords Go.Proofs.YtfdbcnbakchcgaaW.PrintLast Go.Proofs.YtfdbcnbakchcgaaW.PrintMore
attribute [local go_sem] max2_int min2_int max_two min_two max_three min_three max_four min_four
set_option linter.unusedVariables false
set_option linter.unusedSimpArgs false
def ins {α : Type} (pr : α → Int) (a : α) : List α → List α
 | [] => [a]
 | b :: t => if pr a < pr b then a :: b :: t else b :: ins pr a t
def isort {α : Type} (pr : α → Int) (x : List α) : List α := x.foldl (fun y a => ins pr a y) []
theorem isort_snoc {α : Type} (pr : α → Int) (x : List α) (a : α) : isort pr (x ++ [a]) = ins pr a (isort pr x) := by
 unfold isort; rw [List.foldl_append]; rfl
theorem ins_length {α : Type} (pr : α → Int) (a : α) (y : List α) : (ins pr a y).length = y.length + 1 := by
 induction y with
 | nil => rfl
 | cons b t ih => unfold ins; split <;> simp [ih]
theorem snoc_ind {α : Type} {P : List α → Prop} (h0 : P []) (h1 : ∀ x a, P x → P (x ++ [a])) (x : List α) : P x := by
 have : ∀ n (x : List α), x.length = n → P x := by
  intro n
  induction n with
  | zero => intro x h; obtain rfl := List.eq_nil_of_length_eq_zero h; exact h0
  | succ n ih =>
   intro x h
   have hne : x ≠ [] := by rintro rfl; simp at h
   have := h1 x.dropLast (x.getLast hne) (ih _ (by simp [h]))
   rwa [List.dropLast_concat_getLast hne] at this
 exact this _ x rfl
theorem isort_length {α : Type} (pr : α → Int) (x : List α) : (isort pr x).length = x.length := by
 induction x using snoc_ind with
 | h0 => rfl
 | h1 x a ih => rw [isort_snoc, ins_length, ih]; simp
theorem mem_ins {α : Type} (pr : α → Int) (a c : α) (y : List α) : c ∈ ins pr a y ↔ c = a ∨ c ∈ y := by
 induction y with
 | nil => simp [ins]
 | cons b t ih =>
  unfold ins
  split
  ·simp
  ·rw [List.mem_cons, ih, List.mem_cons]
   constructor
   ·rintro (h | h | h)
    ·exact .inr (.inl h)
    ·exact .inl h
    ·exact .inr (.inr h)
   ·rintro (h | h | h)
    ·exact .inr (.inl h)
    ·exact .inl h
    ·exact .inr (.inr h)
theorem mem_isort {α : Type} (pr : α → Int) (c : α) (x : List α) : c ∈ isort pr x ↔ c ∈ x := by
 induction x using snoc_ind with
 | h0 => simp [isort]
 | h1 x a ih => rw [isort_snoc, mem_ins, ih]; simp [or_comm]
theorem ins_at {α : Type} (pr : α → Int) (a : α) (y : List α) : ins pr a y = y.take (y.findIdx (fun b => decide (pr a < pr b))) ++ a :: y.drop (y.findIdx (fun b => decide (pr a < pr b))) := by
 induction y with
 | nil => rfl
 | cons b t ih =>
  unfold ins
  rw [List.findIdx_cons]
  by_cases h : pr a < pr b
  ·rw [if_pos h, decide_eq_true h]; rfl
  ·rw [if_neg h, decide_eq_false h, ih]; rfl
end Go.Proofs.Ytfdbcnbakchcgaa.XQ
