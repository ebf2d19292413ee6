import Derived.Test.YtfdbcnbakchcgaaWWords
import Derived.Test.YtfdbcnbakchcgaaWMore
import Derived.Test.YtfdbcnbakchcgaaWLast
namespace Go.Proofs.Ytfdbcnbakchcgaa.XR
open Go.RowKit Go.Proofs.YtfdbcnbakchcgaaW.PrintWords Go.Proofs.YtfdbcnbakchcgaaW.PrintLast Go.Proofs.YtfdbcnbakchcgaaW.PrintMore
attribute [local go_sem] max2_int min2_int max_two min_two max_three min_three max_four min_four   -- for this text's walks alone
set_option linter.unusedVariables false
set_option linter.unusedSimpArgs false
theorem alone {α : Type} {same : α → α → Bool} (ht : ∀ a b x, same a x = true → same b x = true → same a b = true) {z : α} {t : List α} (h : (z :: t).Pairwise (fun a b => same a b = false)) {x : α} (hz : same z x = true) : ∀ c ∈ t, same c x = false := by
  intro c hc
  cases hcx : same c x with
  | false => rfl
  | true =>
    have h1 := ht z c x hz hcx
    rw [(List.pairwise_cons.1 h).1 c hc] at h1
    cases h1
theorem set_map {α : Type} {same : α → α → Bool} (ht : ∀ a b x, same a x = true → same b x = true → same a b = true) (f : α → α) (x : α) : ∀ (y : List α) (i : Nat) (z : α), y.Pairwise (fun a b => same a b = false) → y[i]? = some z → same z x = true → y.set i (f z) = y.map (fun c => if same c x = true then f c else c)
  | [], i, z, _, hi, _ => by simp at hi
  | b :: t, 0, z, h, hi, hz => by
    simp only [List.getElem?_cons_zero, Option.some.injEq] at hi
    subst hi
    have ha := alone ht h hz
    rw [List.set_cons_zero, List.map_cons, if_pos hz]
    congr 1
    symm
    conv => rhs; rw [← List.map_id t]
    exact List.map_congr_left (fun c hc => by rw [if_neg (by rw [ha c hc]; simp)]; rfl)
  | b :: t, i + 1, z, h, hi, hz => by
    simp only [List.getElem?_cons_succ] at hi
    have hzt := List.mem_of_getElem? hi
    have hb : same b x = false := by
      cases hbx : same b x with
      | false => rfl
      | true =>
        have h1 := ht b z x hbx hz
        rw [(List.pairwise_cons.1 h).1 z hzt] at h1
        cases h1
    rw [List.set_cons_succ, List.map_cons, if_neg (by rw [hb]; simp), set_map ht f x t i z (List.pairwise_cons.1 h).2 hi hz]
theorem erase_filter {α : Type} {same : α → α → Bool} (ht : ∀ a b x, same a x = true → same b x = true → same a b = true) (x : α) : ∀ (y : List α) (i : Nat) (z : α), y.Pairwise (fun a b => same a b = false) → y[i]? = some z → same z x = true → y.eraseIdx i = y.filter (fun c => !same c x)
  | [], i, z, _, hi, _ => by simp at hi
  | b :: t, 0, z, h, hi, hz => by
    simp only [List.getElem?_cons_zero, Option.some.injEq] at hi
    subst hi
    have ha := alone ht h hz
    rw [List.eraseIdx_cons_zero, List.filter_cons_of_neg (by rw [hz]; simp)]
    exact (List.filter_eq_self.2 (fun c hc => by rw [ha c hc]; rfl)).symm
  | b :: t, i + 1, z, h, hi, hz => by
    simp only [List.getElem?_cons_succ] at hi
    have hzt := List.mem_of_getElem? hi
    have hb : same b x = false := by
      cases hbx : same b x with
      | false => rfl
      | true =>
        have h1 := ht b z x hbx hz
        rw [(List.pairwise_cons.1 h).1 z hzt] at h1
        cases h1
    rw [List.eraseIdx_cons_succ, List.filter_cons_of_pos (by rw [hb]; rfl), erase_filter ht x t i z (List.pairwise_cons.1 h).2 hi hz]
end Go.Proofs.Ytfdbcnbakchcgaa.XR
