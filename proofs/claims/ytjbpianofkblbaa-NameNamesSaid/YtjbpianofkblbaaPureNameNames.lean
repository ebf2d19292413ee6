import Derived.Test.YtjbpianofkblbaaLemNc
namespace Go.Proofs.Ytjbpianofkblbaa.Pure
open Go.RowKit Go.Proofs.Ytjbpianofkblbaa.XN Go.Proofs.YtjbpianofkblbaaW.PrintWords Go.Proofs.YtjbpianofkblbaaW.PrintLast Go.Proofs.Ytjbpianofkblbaa.LemN
theorem i32_of_wf (a : Int) (h : (Lit.int .i32 a).wf = true) : -2147483648 ≤ a ∧ a ≤ 2147483647 := by
  have e : (Lit.int .i32 a).wf = (decide (-2147483648 ≤ a) && decide (a ≤ 2147483647)) := rfl
  rw [e] at h
  simpa using h
theorem NameNames : shunterlaw05_NameNames.Pure := by
  intro a0 a1 h0 h1
  obtain ⟨h2, h3⟩ := i32_of_wf a1 h1
  refine ⟨a0.size + 42, ?_⟩
  unfold shunterlaw05_NameNames.f
  rw [lives_eq]
  by_cases hs : (a0.size : Int) > 500
  · rw [if_pos hs]
    rfl
  · have hf := foldI_range a1 h2 h3
    have w1 : wrap64 a1 = a1 := by unfold wrap64; omega
    have w2 : wrap64 (foldI a1) = foldI a1 := by unfold wrap64; omega
    rw [if_neg hs, nMay_eq a0 (by omega), May_eq _ a0 (by omega) (by omega)]
    simp only [Option.bind_some]
    rw [if_pos (by simp), show a0.size + 42 = (a0.size + 40) + 2 from rfl, name_Letter_eq, w1, Letter_eq]
    simp only [Option.bind_some]
    rw [if_pos (by simp), name_Digit_eq, name_Fold_eq, Fold_eq _ a1 h2 h3]
    simp only [Option.bind_some, w2, if_true]
    by_cases h48 : a1 ≥ 48
    · rw [if_pos h48, if_pos (by simp [digB, h48])]
    · rw [if_neg h48, if_pos (by simp [digB, h48])]
end Go.Proofs.Ytjbpianofkblbaa.Pure
