import Derived.Test.YtjbpianofkblbaaLemNb
namespace Go.Proofs.Ytjbpianofkblbaa.LemN
open Go.RowKit Go.Proofs.Ytjbpianofkblbaa.XN Go.Proofs.YtjbpianofkblbaaW.PrintWords Go.Proofs.YtjbpianofkblbaaW.PrintLast
set_option linter.unusedVariables false
set_option linter.unusedSimpArgs false
/-- What may stand in a name behind its first rune. -/
def okB (c : Int) : Bool := letB c || digB c || c == 45 || c == 46
theorem mayGo_pos : ∀ (l : List (Nat × Nat)) (n : Nat), 0 < n → mayGo l n = ((l.map (fun p => (p.2 : Int))).all okB && decide (n + l.length ≤ 24))
  | [], n, h => by simp [mayGo, Nat.succ_le_of_lt h]
  | (p, c) :: t, n, h => by
    rw [mayGo, mayGo_pos t (n + 1) (by omega), List.map_cons, List.all_cons, List.length_cons, show n + 1 + t.length = n + (t.length + 1) from by omega]
    simp [okB, h, Bool.and_assoc, Bool.or_assoc]
/-- May, of the runes. -/
def mayP (l : List Int) : Bool := match l with
  | [] => false
  | c :: t => letB c && t.all okB && decide (1 + t.length ≤ 24)
theorem mayGo_zero (l : List (Nat × Nat)) : mayGo l 0 = mayP (l.map (fun p => (p.2 : Int))) := by
  cases l with
  | nil => rfl
  | cons x t =>
    obtain ⟨p, c⟩ := x
    rw [mayGo, mayGo_pos t 1 (by omega)]
    simp [mayP, Bool.and_assoc]
theorem nMay_eq (s : ByteArray) (hs : s.size < 17592186044416) : name_May.f s = some (mayP (runes s)) := by
  unfold name_May.f
  rw [if_pos (by omega), mayGo_zero]
  rfl
theorem wrap_succ (i n : Nat) (h : i < n) (hn : n < 9223372036854775807) : wrap64 ((i : Int) + 1) = ((i + 1 : Nat) : Int) := by unfold wrap64; omega
theorem rd_nat (l : List Int) (i : Nat) : rd l (i : Int) = l.getD i 0 := by simp [rd]
theorem May_l0 (l : List Int) (hl : l.length < 9223372036854775807) : ∀ (m i k : Nat), i + m = l.length → m + 2 ≤ k → shunterref05_May.l0 k l (i : Int) = some ((l.drop i).all okB)
  | 0, i, k, h, hk => by
    obtain ⟨k, rfl⟩ : ∃ j, k = j + 2 := ⟨k - 2, by omega⟩
    rw [shunterref05_May.l0, if_neg (by omega), List.drop_of_length_le (by omega)]
    rfl
  | m + 1, i, k, h, hk => by
    obtain ⟨k, rfl⟩ : ∃ j, k = j + 2 := ⟨k - 2, by omega⟩
    have ih := May_l0 l hl m (i + 1) (k + 1) (by omega) (by omega)
    rw [shunterref05_May.l0, if_pos (by omega), if_pos (by omega), Letter_eq, Option.bind_some, rd_nat, wrap_succ i _ (by omega) hl, ih, List.drop_eq_getElem_cons (show i < l.length by omega), List.all_cons]
    have e : l.getD i 0 = l[i]'(by omega) := by simp [List.getD, show i < l.length by omega]
    rw [e]
    generalize l[i]'(by omega) = c
    have hok : okB c = true ↔ (letB c = true ∨ (48 ≤ c ∧ c ≤ 57) ∨ c = 45 ∨ c = 46) := by simp [okB, digB]; exact Iff.intro (fun h => by rcases h with ((h | h) | h) | h <;> simp [h]) (fun h => by rcases h with h | h | h | h <;> simp [h])
    cases hl : letB c
    · simp only [Bool.false_eq_true, if_false]
      by_cases h1 : c ≥ 48
      · by_cases h2 : c ≤ 57
        · rw [if_pos h1, if_pos h2, hok.2 (Or.inr (Or.inl ⟨h1, h2⟩)), Bool.true_and]
        · rw [if_pos h1, if_neg h2, if_neg (by omega), if_neg (by omega)]
          have : okB c = false := by rw [← Bool.not_eq_true, hok, hl]; simp; omega
          rw [this, Bool.false_and]
      · rw [if_neg h1]
        by_cases h3 : c = 45
        · rw [if_pos h3, hok.2 (Or.inr (Or.inr (Or.inl h3))), Bool.true_and]
        · rw [if_neg h3]
          by_cases h4 : c = 46
          · rw [if_pos h4, hok.2 (Or.inr (Or.inr (Or.inr h4))), Bool.true_and]
          · rw [if_neg h4]
            have : okB c = false := by rw [← Bool.not_eq_true, hok, hl]; simp; omega
            rw [this, Bool.false_and]
    · rw [if_pos rfl, hok.2 (Or.inl hl), Bool.true_and]
theorem May_eq (k : Nat) (s : ByteArray) (hs : s.size < 17592186044416) (hk : s.size + 40 ≤ k) : shunterref05_May.f k s = some (mayP (runes s)) := by
  unfold shunterref05_May.f
  rw [Runes_eq k s (by omega) hs, Option.bind_some]
  have hl := runes_len s
  generalize runes s = l at *
  obtain ⟨k, rfl⟩ : ∃ j, k = j + 2 := ⟨k - 2, by omega⟩
  simp only [shunterref05_May.j0]
  cases l with
  | nil => simp [mayP]
  | cons c t =>
    rw [if_neg (by rw [List.length_cons]; omega)]
    by_cases h24 : ((c :: t).length : Int) > 24
    · rw [if_pos h24]
      simp [mayP]
      intro _ _
      simp at h24
      omega
    · rw [if_neg h24, if_pos (by rw [List.length_cons]; omega), Letter_eq, Option.bind_some]
      have e := May_l0 (c :: t) (by simp at hl ⊢; omega) (c :: t).length 0 (k + 1) (by omega) (by simp at h24 hl ⊢; omega)
      rw [show ((0 : Nat) : Int) = 0 from rfl] at e
      rw [e]
      have e0 : rd (c :: t) 0 = c := rfl
      rw [e0]
      simp only [List.drop_zero, List.all_cons, mayP]
      simp at h24
      cases hL : letB c
      · simp
      · have : okB c = true := by simp [okB, hL]
        simp [this]
        omega
end Go.Proofs.Ytjbpianofkblbaa.LemN
