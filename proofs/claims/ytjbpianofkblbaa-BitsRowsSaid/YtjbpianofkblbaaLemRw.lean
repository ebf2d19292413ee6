/- What a row's bytes hold: plain lemmas. -/
import Derived.Test.YtjbpianofkblbaaLemPT
namespace Go.Proofs.Ytjbpianofkblbaa.XT
open Go.RowKit Go.Proofs.YtjbpianofkblbaaW.PrintWords Go.Proofs.YtjbpianofkblbaaW.PrintLast Go.Proofs.YtjbpianofkblbaaW.PrintMore
attribute [local go_sem] max2_int min2_int max_two min_two max_three min_three max_four min_four   -- for this text's walks alone
set_option linter.unusedVariables false
set_option linter.unusedSimpArgs false
/-- Bytes that hold these bits, the first bit highest, noughts behind. -/
structure Rep (bs : List Int) (L : List Bool) : Prop where
  ok : okBytes bs
  lo : L.length ≤ 8 * bs.length
  hi : 8 * bs.length < L.length + 8
  bit : ∀ p, bitOf bs p = L[p]?.getD false
theorem bitOf_out (l : List Int) (p : Nat) (h : 8 * l.length ≤ p) : bitOf l p = false := by
  unfold bitOf rd
  rw [List.getD_eq_getElem?_getD, List.getElem?_eq_none (by simp; omega)]
  simp
theorem bitOf_left (l m : List Int) (p : Nat) (h : p < 8 * l.length) : bitOf (l ++ m) p = bitOf l p := by
  unfold bitOf rd
  have e : ((p / 8 : Nat) : Int).toNat = p / 8 := Int.toNat_natCast _
  rw [List.getD_eq_getElem?_getD, List.getD_eq_getElem?_getD, e, List.getElem?_append_left (by omega)]
theorem bitOf_right (l m : List Int) (p : Nat) (h : 8 * l.length ≤ p) : bitOf (l ++ m) p = bitOf m (p - 8 * l.length) := by
  unfold bitOf rd
  have e : ((p / 8 : Nat) : Int).toNat = p / 8 := Int.toNat_natCast _
  have e2 : (((p - 8 * l.length) / 8 : Nat) : Int).toNat = (p - 8 * l.length) / 8 := Int.toNat_natCast _
  rw [List.getD_eq_getElem?_getD, List.getD_eq_getElem?_getD, e, e2, List.getElem?_append_right (by omega), show p / 8 - l.length = (p - 8 * l.length) / 8 by omega, show (p - 8 * l.length) % 8 = p % 8 by omega]
theorem bitOf_zeros (k p : Nat) : bitOf (List.replicate k 0) p = false := by
  unfold bitOf rd
  rw [List.getD_eq_getElem?_getD, List.getElem?_replicate]
  split <;> simp
theorem bitOf_padded (l : List Int) (k p : Nat) : bitOf (l ++ List.replicate k 0) p = bitOf l p := by
  rcases Nat.lt_or_ge p (8 * l.length) with h | h
  · exact bitOf_left l _ p h
  · rw [bitOf_right l _ p h, bitOf_zeros, bitOf_out l p h]
theorem Rep.nil : Rep [] [] := ⟨⟨by simp, by simp⟩, by simp, by simp, fun p => by rw [bitOf_out _ _ (by simp)]; simp⟩
/-- A vector's bits, the highest first. -/
def vbits (w : Int) (X : Nat) : List Bool := ((List.range w.toNat).map X.testBit).reverse
theorem vbits_len (w : Int) (X : Nat) : (vbits w X).length = w.toNat := by simp [vbits]
theorem vbits_get (w : Int) (X p : Nat) (h : p < w.toNat) : (vbits w X)[p]?.getD false = X.testBit (w.toNat - 1 - p) := by
  unfold vbits
  rw [List.getElem?_reverse (by simpa using h)]
  simp only [List.length_map, List.length_range, List.getElem?_map]
  rw [List.getElem?_range (by omega)]
  rfl
theorem get_app (L M : List Bool) (p : Nat) : (L ++ M)[p]?.getD false = if p < L.length then L[p]?.getD false else M[p - L.length]?.getD false := by
  split
  · rename_i h; rw [List.getElem?_append_left h]
  · rename_i h; rw [List.getElem?_append_right (by omega)]
theorem okBytes_zeros {l : List Int} (h : okBytes l) (k : Nat) (hk : l.length + k < 17592186044416) : okBytes (l ++ List.replicate k 0) :=
  ⟨fun b hb => by
    rcases List.mem_append.1 hb with h1 | h1
    · exact h.1 b h1
    · rw [List.eq_of_mem_replicate h1]; omega, by simpa using hk⟩
theorem Rep.add {bs : List Int} {L : List Bool} (h : Rep bs L) (w : Int) (X : Nat) (hX : X < 2 ^ 128) (hv : vmay w X = true) (hl : L.length ≤ 100000) :
    ∃ r, bits_set.f 200 (bs ++ List.replicate ((L.length + w.toNat + 7) / 8 - bs.length) 0) (L.length : Nat) w (hiW X) (loW X) = some r ∧ Rep r (L ++ vbits w X) := by
  have hm : 1 ≤ w ∧ w ≤ 128 ∧ X < 2 ^ w.toNat := of_decide_eq_true hv
  obtain ⟨q, rfl⟩ : ∃ q : Nat, w = q := ⟨w.toNat, by omega⟩
  rw [Int.toNat_natCast] at *
  have h1 := h.lo
  have h2 := h.hi
  have hlen : (bs ++ List.replicate ((L.length + q + 7) / 8 - bs.length) (0 : Int)).length = max bs.length ((L.length + q + 7) / 8) := by simp; omega
  obtain ⟨r, e1, e2, e3, e4⟩ := set_eq X q L.length hX (by omega) 200 (by omega) _ (okBytes_zeros h.ok ((L.length + q + 7) / 8 - bs.length) (by omega)) (by rw [hlen]; omega)
  refine ⟨r, e1, e2, ?_, ?_, fun p => ?_⟩
  · rw [e3, hlen, List.length_append, vbits_len, Int.toNat_natCast]; omega
  · rw [e3, hlen, List.length_append, vbits_len, Int.toNat_natCast]; omega
  · rw [e4, get_app, bitOf_padded, h.bit]
    by_cases c1 : p < L.length
    · rw [if_neg (by omega), if_pos c1]
    · rw [if_neg c1]
      by_cases c2 : p < L.length + q
      · rw [if_pos (by omega), vbits_get _ _ _ (by rw [Int.toNat_natCast]; omega), Int.toNat_natCast]
        congr 1
        omega
      · rw [if_neg (by omega), List.getElem?_eq_none (by omega), List.getElem?_eq_none (by rw [vbits_len, Int.toNat_natCast]; omega)]
theorem Rep.bytes {bs : List Int} {L : List Bool} (h : Rep bs L) (h8 : L.length % 8 = 0) (ys : List Int) (hy : okBytes ys) (hl : bs.length + ys.length < 17592186044416) : Rep (bs ++ ys) (L ++ bitsL ys) := by
  have h1 := h.lo
  have h2 := h.hi
  refine ⟨⟨fun b hb => ?_, by simpa using hl⟩, by rw [List.length_append, List.length_append, bitsL_length]; omega, by rw [List.length_append, List.length_append, bitsL_length]; omega, fun p => ?_⟩
  · rcases List.mem_append.1 hb with c | c
    · exact h.ok.1 b c
    · exact hy.1 b c
  · rw [get_app]
    have hL : L.length = 8 * bs.length := by omega
    split
    · rename_i c; rw [bitOf_left _ _ _ (by omega), h.bit]
    · rename_i c
      rw [bitOf_right _ _ _ (by omega), ← hL]
      by_cases c2 : p - L.length < 8 * ys.length
      · simp [bitsL, c2]
      · rw [bitOf_out _ _ (by omega), List.getElem?_eq_none (by rw [bitsL_length]; omega)]; rfl
theorem ofB_of {X q : Nat} (hX : X < 2 ^ q) {f : Nat → Bool} (h : ∀ i, i < q → f i = X.testBit i) : ofB f q = X := by
  apply Nat.eq_of_testBit_eq
  intro i
  rw [tb_ofB]
  by_cases hi : i < q
  · rw [decide_eq_true hi, Bool.true_and, h i hi]
  · rw [decide_eq_false hi, Bool.false_and]
    exact (Nat.testBit_lt_two_pow (Nat.lt_of_lt_of_le hX (Nat.pow_le_pow_right (by decide) (by omega)))).symm
theorem seen_rep {bs : List Int} {L M : List Bool} {w : Int} {X : Nat} (h : Rep bs (L ++ (vbits w X ++ M))) (hv : vmay w X = true) : seen bs L.length w.toNat = X := by
  have hm : 1 ≤ w ∧ w ≤ 128 ∧ X < 2 ^ w.toNat := of_decide_eq_true hv
  unfold seen
  refine ofB_of hm.2.2 (fun i hi => ?_)
  rw [h.bit, get_app, if_neg (by omega), get_app, if_pos (by rw [vbits_len]; omega), vbits_get _ _ _ (by omega)]
  congr 1
  omega

end Go.Proofs.Ytjbpianofkblbaa.XT
