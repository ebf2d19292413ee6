import Derived.Test.YtfdbcnbakchcgaaSr
import Derived.Test.YtfdbcnbakchcgaaRu
namespace Go.Proofs.Ytfdbcnbakchcgaa.XR
open Go.RowKit Go.Proofs.YtfdbcnbakchcgaaW.PrintWords Go.Proofs.YtfdbcnbakchcgaaW.PrintLast Go.Proofs.YtfdbcnbakchcgaaW.PrintMore
attribute [local go_sem] max2_int min2_int max_two min_two max_three min_three max_four min_four   -- for this text's walks alone
set_option linter.unusedVariables false
set_option linter.unusedSimpArgs false
/-- What has been found among the first ones. -/
def FDp (q : List TI) (f : TI → Bool) (j : Nat) (u : Value) : Prop := ∃ fb : Bool, u = .bool fb ∧ (q.take j).any f = fb
theorem FDp.start (q : List TI) (f : TI → Bool) : FDp q f 0 (.bool false) := ⟨false, rfl, by rw [List.take_zero]; rfl⟩
theorem rd44 (l : List S44) (j : Nat) (h : j < l.length) : rd_T44 l (j : Int) = l[j] := by simp [rd_T44, List.getD_eq_getElem?_getD, h]
end Go.Proofs.Ytfdbcnbakchcgaa.XR
