/- The pure law of BitsPuts. -/
import Derived.Test.YtjbpianofkblbaaLemP

namespace Go.Proofs.Ytjbpianofkblbaa.XB
open Go.RowKit Go.Proofs.YtjbpianofkblbaaW.PrintWords Go.Proofs.YtjbpianofkblbaaW.PrintLast Go.Proofs.YtjbpianofkblbaaW.PrintMore
attribute [local go_sem] max2_int min2_int max_two min_two max_three min_three max_four min_four
set_option linter.unusedVariables false
set_option linter.unusedSimpArgs false
theorem vmay_lt {w : Int} {X : Nat} (h : vmay w X = true) : 1 ≤ w ∧ w ≤ 128 ∧ X < 2 ^ w.toNat := of_decide_eq_true h
theorem ofB_of {X q : Nat} (hX : X < 2 ^ q) {f : Nat → Bool} (h : ∀ i, i < q → f i = X.testBit i) : ofB f q = X := by
  apply Nat.eq_of_testBit_eq
  intro i
  rw [tb_ofB]
  by_cases hi : i < q
  · rw [decide_eq_true hi, Bool.true_and, h i hi]
  · rw [decide_eq_false hi, Bool.false_and]
    exact (Nat.testBit_lt_two_pow (Nat.lt_of_lt_of_le hX (Nat.pow_le_pow_right (by decide) (by omega)))).symm
theorem get_put {l' l : List Int} {p q X : Nat} (hok : okBytes l') (hlen : l'.length = l.length) (hfit : p + q ≤ 8 * l.length) (hq : 1 ≤ q ∧ q ≤ 128) (hX : X < 2 ^ q)
    (hb : ∀ r, bitOf l' r = if p ≤ r ∧ r < p + q then X.testBit (p + q - 1 - r) else bitOf l r) : bits_Get.f l' (p : Int) (q : Int) = some ((q : Int), hiW X, loW X, 0) := by
  unfold bits_Get.f
  rw [if_pos hok, if_pos (by omega), if_pos (by omega), Int.toNat_natCast, Int.toNat_natCast]
  rw [ofB_of hX (fun i hi => by rw [hb, if_pos (by omega), show p + q - 1 - (p + q - 1 - i) = i by omega])]
theorem lives03 : shunterlaw03_lives.f = some true := by decide
theorem BitsPuts_true (l : List Int) (a1 w : Int) (X : Nat) (hb : ∀ b ∈ l, 0 ≤ b ∧ b < 256) (h1 : -9223372036854775808 ≤ a1) (h1' : a1 ≤ 9223372036854775807) (hX : X < 2 ^ 128) :
    shunterlaw03_BitsPuts.f 4000 l a1 w (hiW X) (loW X) = some true := by
  unfold shunterlaw03_BitsPuts.f
  rw [lives03]
  split
  · rfl
  · rename_i hl
    have hok : okBytes l := ⟨hb, by omega⟩
    obtain ⟨e, h⟩ := ref03_Put_eq l hok (by omega) a1 w X hX 4000 (by omega) h1 h1'
    rw [e]
    rcases h with ⟨h, _⟩ | h | ⟨p, q, l', rfl, rfl, hm, hfit, h, h2, h3, h4⟩
    · rw [h]
      simp [shunterlaw03_BitsPuts.j0, lives03]
    · rw [h]
      simp [shunterlaw03_BitsPuts.j0, lives03]
    · rw [h]
      obtain ⟨m1, m2, m3⟩ := vmay_lt hm
      have hg := get_put h2 h3 hfit (by omega) (by simpa using m3) h4
      simp [shunterlaw03_BitsPuts.j0, lives03, hg, h3]
end Go.Proofs.Ytjbpianofkblbaa.XB
