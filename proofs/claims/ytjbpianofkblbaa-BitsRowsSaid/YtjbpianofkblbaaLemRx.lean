/- The document's bytes of a row's bits: plain lemmas. -/
import Derived.Test.YtjbpianofkblbaaLemRw
namespace Go.Proofs.Ytjbpianofkblbaa.XT
open Go.RowKit Go.Proofs.YtjbpianofkblbaaW.PrintWords Go.Proofs.YtjbpianofkblbaaW.PrintLast Go.Proofs.YtjbpianofkblbaaW.PrintMore
attribute [local go_sem] max2_int min2_int max_two min_two max_three min_three max_four min_four   -- for this text's walks alone
set_option linter.unusedVariables false
set_option linter.unusedSimpArgs false
theorem lives03 : shunterlaw03_lives.f = some true := by decide
theorem rdOf_in (L : List Bool) (p : Nat) (h : p < L.length) : rdOf false L (p : Nat) = L[p]?.getD false := by
  simp [rdOf, List.getD_eq_getElem?_getD]
theorem BytesR_inner {bs : List Int} {L : List Bool} (h : Rep bs L) (hlen : bs.length ≤ 100000) (i b : Nat) (hi : i < bs.length) (hb : rd bs (i : Nat) = (b : Int)) (hb2 : b < 256) (acc : List Int) (hacc : acc.length < 100000000000000) :
    ∀ (m k : Nat), m ≤ 8 → m < k →
    shunterref03_Bytes.l1 k L acc ((8 * i : Nat) : Int) ((b / 2 ^ m : Nat) : Int) ((8 * i + (8 - m) : Nat) : Int) = shunterref03_Bytes.l0 (k - m - 1) L (acc ++ [(b : Int)]) ((8 * (i + 1) : Nat) : Int)
  | 0, k, _, hk => by
    obtain ⟨k, rfl⟩ : ∃ m, k = m + 1 := ⟨k - 1, by omega⟩
    simp only [shunterref03_Bytes.l1]
    rw [wrap64_id (((8 * i : Nat) : Int) + 8) (by omega) (by omega), if_neg (by omega), if_pos (by omega), Nat.pow_zero, Nat.div_one]
    rw [show ((b : Int)) % 256 = b by omega, show ((8 * i : Nat) : Int) + 8 = ((8 * (i + 1) : Nat) : Int) by omega, show k + 1 - 0 - 1 = k by omega]
  | m + 1, k, hm, hk => by
    obtain ⟨k, rfl⟩ : ∃ m, k = m + 1 := ⟨k - 1, by omega⟩
    have hq : b / 2 ^ (m + 1) ≤ b := Nat.div_le_self _ _
    have hbit : L[8 * i + (8 - (m + 1))]?.getD false = b.testBit m := by
      rw [← h.bit, show 8 - (m + 1) = 7 - m by omega]
      exact bitOf_at hb (by omega)
    have ih := BytesR_inner h hlen i b hi hb hb2 acc hacc m k (by omega) (by omega)
    have hd := div_top b m
    simp only [shunterref03_Bytes.l1]
    rw [wrap64_id (((8 * i : Nat) : Int) + 8) (by omega) (by omega), if_pos (by omega)]
    rw [wrap64_id (2 * ((b / 2 ^ (m + 1) : Nat) : Int)) (by omega) (by omega), wrap64_id (((8 * i + (8 - (m + 1)) : Nat) : Int) + 1) (by omega) (by omega)]
    rw [show ((8 * i + (8 - (m + 1)) : Nat) : Int) + 1 = ((8 * i + (8 - m) : Nat) : Int) by omega, show k + 1 - (m + 1) - 1 = k - m - 1 by omega]
    by_cases hin : 8 * i + (8 - (m + 1)) < L.length
    · rw [if_pos (by omega), if_pos (by omega), rdOf_in L _ hin, hbit]
      split
      · rename_i ht
        rw [if_pos ht] at hd
        rw [wrap64_id _ (by omega) (by omega), show 2 * ((b / 2 ^ (m + 1) : Nat) : Int) + 1 = ((b / 2 ^ m : Nat) : Int) by omega]
        exact ih
      · rename_i ht
        rw [if_neg ht] at hd
        rw [show 2 * ((b / 2 ^ (m + 1) : Nat) : Int) = ((b / 2 ^ m : Nat) : Int) by omega]
        exact ih
    · rw [if_neg (by omega)]
      rw [List.getElem?_eq_none (by omega)] at hbit
      have ht : ¬ (b.testBit m = true) := by rw [← hbit]; simp
      rw [if_neg ht] at hd
      rw [show 2 * ((b / 2 ^ (m + 1) : Nat) : Int) = ((b / 2 ^ m : Nat) : Int) by omega]
      exact ih
theorem BytesR_outer {bs : List Int} {L : List Bool} (h : Rep bs L) (hlen : bs.length ≤ 100000) : ∀ (n i k : Nat), i + n = bs.length → 10 * n < k → shunterref03_Bytes.l0 k L (bs.take i) ((8 * i : Nat) : Int) = some bs
  | 0, i, k, hin, hk => by
    obtain ⟨k, rfl⟩ : ∃ m, k = m + 1 := ⟨k - 1, by omega⟩
    have h1 := h.lo
    simp only [shunterref03_Bytes.l0]
    rw [if_neg (by omega), List.take_of_length_le (by omega)]
  | n + 1, i, k, hin, hk => by
    obtain ⟨k, rfl⟩ : ∃ m, k = m + 1 := ⟨k - 1, by omega⟩
    obtain ⟨b, hb, hb2⟩ := zpos h.ok (show i < bs.length by omega)
    have h2 := h.hi
    simp only [shunterref03_Bytes.l0]
    rw [if_pos (by omega)]
    have := BytesR_inner h hlen i b (by omega) hb hb2 (bs.take i) (by simp; omega) 8 k (by omega) (by omega)
    rw [show b / 2 ^ 8 = 0 by omega] at this
    have e : ((8 * i + (8 - 8) : Nat) : Int) = ((8 * i : Nat) : Int) := by omega
    rw [e] at this
    rw [show ((0 : Nat) : Int) = 0 from rfl] at this
    rw [this]
    have e2 : bs.take i ++ [(b : Int)] = bs.take (i + 1) := by
      rw [List.take_add_one, List.getElem?_eq_getElem (by omega)]
      congr 1
      have : rd bs (i : Nat) = bs[i] := by simp [rd, List.getD_eq_getElem?_getD, show i < bs.length by omega]
      rw [← hb, this]; rfl
    rw [e2]
    exact BytesR_outer h hlen n (i + 1) _ (by omega) (by omega)
theorem Bytes_rep {bs : List Int} {L : List Bool} (h : Rep bs L) (hlen : bs.length ≤ 10000) : shunterref03_Bytes.f 200000 L = some bs := by
  unfold shunterref03_Bytes.f
  exact BytesR_outer h (by omega) bs.length 0 200000 (by omega) (by omega)
theorem vbits_of (w : Int) (X : Nat) (hX : X < 2 ^ 128) (hv : vmay w X = true) : shunterref03_Of.f 200 w (hiW X) (loW X) = some (vbits w X) := by
  have hm : 1 ≤ w ∧ w ≤ 128 ∧ X < 2 ^ w.toNat := of_decide_eq_true hv
  obtain ⟨q, rfl⟩ : ∃ q : Nat, w = q := ⟨w.toNat, by omega⟩
  rw [ref03_Of_eq 200 q X hX (by omega) (by omega)]
  unfold vbits
  rw [Int.toNat_natCast]

end Go.Proofs.Ytjbpianofkblbaa.XT
