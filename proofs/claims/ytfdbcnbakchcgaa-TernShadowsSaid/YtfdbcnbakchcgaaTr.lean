import Derived.Test.YtfdbcnbakchcgaaWWords
import Derived.Test.YtfdbcnbakchcgaaWMore
import Derived.Test.YtfdbcnbakchcgaaWLast
namespace Go.Proofs.Ytfdbcnbakchcgaa.XT
open Go.RowKit Go.Proofs.YtfdbcnbakchcgaaW.PrintWords Go.Proofs.YtfdbcnbakchcgaaW.PrintLast Go.Proofs.YtfdbcnbakchcgaaW.PrintMore
attribute [local go_sem] max2_int min2_int max_two min_two max_three min_three max_four min_four   -- for this text's walks alone
set_option linter.unusedVariables false
set_option linter.unusedSimpArgs false
/-- A rule among rules in order: ahead of the first whose rank is greater. -/
def ins {α : Type} (pr : α → Int) (a : α) : List α → List α
  | [] => [a]
  | b :: t => if pr a < pr b then a :: b :: t else b :: ins pr a t
theorem ins_at {α : Type} (pr : α → Int) (a : α) (y : List α) : ins pr a y = y.take (y.findIdx (fun b => decide (pr a < pr b))) ++ a :: y.drop (y.findIdx (fun b => decide (pr a < pr b))) := by
  induction y with
  | nil => rfl
  | cons b t ih =>
    unfold ins
    rw [List.findIdx_cons]
    by_cases h : pr a < pr b
    · rw [if_pos h, decide_eq_true h]; rfl
    · rw [if_neg h, decide_eq_false h, ih]; rfl
theorem alone {α : Type} {same : α → α → Bool} (ht : ∀ a b x, same a x = true → same b x = true → same a b = true) {z : α} {t : List α} (h : (z :: t).Pairwise (fun a b => same a b = false)) {x : α} (hz : same z x = true) : ∀ c ∈ t, same c x = false := by
  intro c hc
  cases hcx : same c x with
  | false => rfl
  | true =>
    have h1 := ht z c x hz hcx
    rw [(List.pairwise_cons.1 h).1 c hc] at h1
    cases h1
end Go.Proofs.Ytfdbcnbakchcgaa.XT
