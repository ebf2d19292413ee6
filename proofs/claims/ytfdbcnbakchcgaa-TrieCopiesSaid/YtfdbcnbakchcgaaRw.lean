import Derived.Test.YtfdbcnbakchcgaaSr
import Derived.Test.YtfdbcnbakchcgaaRu
namespace Go.Proofs.Ytfdbcnbakchcgaa.XR
open Go.RowKit Go.Proofs.YtfdbcnbakchcgaaW.PrintWords Go.Proofs.YtfdbcnbakchcgaaW.PrintLast Go.Proofs.YtfdbcnbakchcgaaW.PrintMore
attribute [local go_sem] max2_int min2_int max_two min_two max_three min_three max_four min_four   -- for this text's walks alone
set_option linter.unusedVariables false
set_option linter.unusedSimpArgs false
theorem nodeAt_anc {l : List TI} {i : Nat} : ∀ (a b : Nat), i ≤ a → nodeAt l i (b / 2 ^ (a - i)) = none → nodeAt l a b = none := by
 intro a
 induction a with
 | zero =>
  intro b h1 h2
  rw [show i = 0 by omega, Nat.sub_self, Nat.pow_zero, Nat.div_one] at h2
  exact h2
 | succ a ih =>
  intro b h1 h2
  by_cases e : i = a + 1
  ·rw [e, Nat.sub_self, Nat.pow_zero, Nat.div_one] at h2; exact h2
  ·refine nodeAt_none_up (ih (b / 2) (by omega) ?_)
   rw [Nat.div_div_eq_div_mul, ← Nat.pow_succ', show (a - i).succ = a + 1 - i by omega]
   exact h2
theorem tNodes_nil (w : World) : Calls Try.prog 24 #[.pointer none] w fun e w' => e = .returned (.int .i64 0) ∧ Below w.heap.size w w' := by
 have HB := Aside0.mk (Below.refl w.heap.size w)
 go_enter Try.func24, Try.ntmps24
 go_wp2
 go_ret
 exact ⟨rfl, HB.out⟩
end Go.Proofs.Ytfdbcnbakchcgaa.XR
