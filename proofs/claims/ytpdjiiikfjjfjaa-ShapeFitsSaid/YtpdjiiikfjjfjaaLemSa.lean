/- Small lemmas of chapter 8. -/
import Derived.Test.YtpdjiiikfjjfjaaXFx
namespace Go.Proofs.Ytpdjiiikfjjfjaa.XF
open Go.RowKit Go.Proofs.YtpdjiiikfjjfjaaW.PrintWords Go.Proofs.YtpdjiiikfjjfjaaW.PrintLast Go.Proofs.YtpdjiiikfjjfjaaW.PrintMore
attribute [local go_sem] max2_int min2_int max_two min_two max_three min_three max_four min_four   -- for this text's walks alone
set_option linter.unusedVariables false
set_option linter.unusedSimpArgs false
theorem wrap64_id (n : Int) (h : -9223372036854775808 ≤ n) (h' : n ≤ 9223372036854775807) : wrap64 n = n := by
  unfold wrap64
  omega
theorem within_eq (a b c : Int) : shape_within.f a b c = some (decide (b ≤ a ∧ a ≤ c)) := by
  unfold shape_within.f
  split
  · rename_i h; simp [show b ≤ a from h]
  · rename_i h; simp [show ¬ b ≤ a from h]
theorem lives_at (k : Nat) (hk : 60 ≤ k) : shunterlaw08_lives.f k = some true := by
  obtain ⟨m, rfl⟩ : ∃ m, k = 60 + m := ⟨k - 60, by omega⟩
  clear hk
  induction m with
  | zero => kernel_rfl
  | succ m ih => exact shunterlaw08_lives.mono _ _ ih

end Go.Proofs.Ytpdjiiikfjjfjaa.XF
