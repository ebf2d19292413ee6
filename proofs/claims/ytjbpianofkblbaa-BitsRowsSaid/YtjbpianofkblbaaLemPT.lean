/- The numbers and the bits of chapter 3, for the rows: plain lemmas. -/
import Derived.Test.YtjbpianofkblbaaLemBT
namespace Go.Proofs.Ytjbpianofkblbaa.XT
open Go.RowKit Go.Proofs.YtjbpianofkblbaaW.PrintWords Go.Proofs.YtjbpianofkblbaaW.PrintLast Go.Proofs.YtjbpianofkblbaaW.PrintMore
attribute [local go_sem] max2_int min2_int max_two min_two max_three min_three max_four min_four
set_option linter.unusedVariables false
set_option linter.unusedSimpArgs false
/-! ### How long a number is -/
theorem bitLenAux_le : ∀ (f x n : Nat), x < 2 ^ f → (Lib.bitLenAux f x ≤ n ↔ x < 2 ^ n)
  | 0, x, n, h => by
    have : x = 0 := by omega
    subst this
    simp [Lib.bitLenAux, Nat.two_pow_pos]
  | f + 1, x, n, h => by
    unfold Lib.bitLenAux
    by_cases h0 : x = 0
    · subst h0; simp [Nat.two_pow_pos]
    · rw [if_neg h0]
      cases n with
      | zero => simp; omega
      | succ n =>
        have ih := bitLenAux_le f (x / 2) n (by rw [Nat.pow_succ] at h; omega)
        rw [Nat.pow_succ]
        omega
theorem bitLen_le (x n : Nat) (h : x < 2 ^ 64) : Lib.bitLen x ≤ n ↔ x < 2 ^ n := bitLenAux_le 64 x n h
theorem word_Len_eq (X : Nat) (hX : X < 2 ^ 128) : ∃ r : Nat, word_Len.f (hiW X) (loW X) = some (r : Int) ∧ ∀ n, r ≤ n ↔ X < 2 ^ n := by
  unfold word_Len.f bits_Len64.f
  have h1 := hiW_nn X
  have h2 := loW_nn X
  have e1 : hiW X = ((X / 2 ^ 64 : Nat) : Int) := by unfold hiW; omega
  have hb := bitLen_le (X / 2 ^ 64) 64 (by omega)
  have hb' : Lib.bitLen (X / 2 ^ 64) ≤ 64 := hb.2 (by omega)
  by_cases h0 : hiW X > 0
  · rw [if_pos h0, if_pos ⟨by omega, by omega⟩, Option.bind_some, e1, Int.toNat_natCast, wrap64_id _ (by omega) (by omega)]
    refine ⟨64 + Lib.bitLen (X / 2 ^ 64), by push_cast; rfl, fun n => ?_⟩
    by_cases hn : 64 ≤ n
    · obtain ⟨m, rfl⟩ : ∃ m, n = 64 + m := ⟨n - 64, by omega⟩
      have := bitLen_le (X / 2 ^ 64) m (by omega)
      have h3 : X < 2 ^ (64 + m) ↔ X / 2 ^ 64 < 2 ^ m := by
        rw [Nat.pow_add, Nat.div_lt_iff_lt_mul (Nat.two_pow_pos 64), Nat.mul_comm]
      omega
    · have hp : 2 ^ n ≤ 2 ^ 64 := Nat.pow_le_pow_right (by decide) (by omega)
      omega
  · rw [if_neg h0, if_pos ⟨by omega, by omega⟩, Option.bind_some]
    have e2 : loW X = (X : Int) := by unfold loW; omega
    refine ⟨Lib.bitLen X, by rw [e2]; rfl, fun n => bitLen_le X n (by omega)⟩
/-- May a row be. -/
def vmay (w : Int) (X : Nat) : Bool := decide (1 ≤ w ∧ w ≤ 128 ∧ X < 2 ^ w.toNat)
theorem vec_May_eq (w : Int) (X : Nat) (hX : X < 2 ^ 128) : vec_May.f w (hiW X) (loW X) = some (vmay w X) := by
  unfold vec_May.f vec_width.f vmay
  obtain ⟨r, hr, hn⟩ := word_Len_eq X hX
  by_cases h1 : 1 ≤ w
  · rw [if_pos (by omega), Option.bind_some]
    by_cases h2 : w ≤ 128
    · rw [if_pos (by simpa using h2)]
      unfold vec_Word.f
      rw [Option.bind_some, hr, Option.bind_some]
      congr 1
      rw [decide_eq_decide]
      have := hn w.toNat
      omega
    · rw [if_neg (by simpa using h2), decide_eq_false (by omega)]
  · rw [if_neg (by omega), Option.bind_some, if_neg (by simp), decide_eq_false (by omega)]
theorem bitAt_tb (X j : Nat) (hj : j < 128) (hX : X < 2 ^ 128) : bitAt (hiW X) (loW X) j = X.testBit j := by
  unfold bitAt
  have key : ∀ (a n : Nat), (((a : Nat) : Int) / 2 ^ n % 2 == 1) = a.testBit n := by
    intro a n
    rw [Nat.testBit_eq_decide_div_mod_eq]
    have e : ((a : Nat) : Int) / 2 ^ n % 2 = ((a / 2 ^ n % 2 : Nat) : Int) := by push_cast; rfl
    rw [e, Bool.eq_iff_iff]
    simp only [beq_iff_eq, decide_eq_true_eq]
    omega
  by_cases h : j < 64
  · rw [if_pos h]
    unfold loW
    rw [key, loW_tb, decide_eq_true h, Bool.true_and]
  · rw [if_neg h]
    unfold hiW
    rw [key, hiW_tb, decide_eq_true (by omega), Bool.true_and, show j - 64 + 64 = j by omega]
theorem topLen_le (X : Nat) (hX : X < 2 ^ 128) : ∀ (m n : Nat), m ≤ 128 → (∀ i, m ≤ i → X.testBit i = false) → (topLen (bitAt (hiW X) (loW X)) m ≤ n ↔ X < 2 ^ n)
  | 0, n, _, h => by
    have : X = 0 := Nat.eq_of_testBit_eq fun i => by rw [h i (Nat.zero_le _)]; simp
    subst this
    simp [topLen, Nat.two_pow_pos]
  | m + 1, n, hm, h => by
    unfold topLen
    rw [bitAt_tb X m (by omega) hX]
    by_cases hb : X.testBit m = true
    · rw [if_pos hb]
      constructor
      · intro hn
        refine Nat.lt_pow_two_of_testBit X fun i hi => h i (by omega)
      · intro hlt
        rcases Nat.lt_or_ge m n with h1 | h1
        · omega
        · exact absurd (Nat.testBit_lt_two_pow (Nat.lt_of_lt_of_le hlt (Nat.pow_le_pow_right (by decide) h1))) (by rw [hb]; simp)
    · rw [if_neg hb]
      refine topLen_le X hX m n (by omega) fun i hi => ?_
      rcases Nat.lt_or_ge m i with h1 | h1
      · exact h i (by omega)
      · obtain rfl : i = m := by omega
        simpa using hb
theorem u64s_hl (X : Nat) : u64s (hiW X) (loW X) := ⟨(hiW_nn X).1, (hiW_nn X).2, (loW_nn X).1, (loW_nn X).2⟩
theorem ref02_May_eq (w : Int) (X : Nat) (hX : X < 2 ^ 128) : shunterref02_May.f w (hiW X) (loW X) = some (vmay w X) := by
  unfold shunterref02_May.f shunterref01_Of.f shunterref01_Len.f vmay
  by_cases h1 : 1 ≤ w
  · rw [if_pos (by omega)]
    by_cases h2 : w ≤ 128
    · rw [if_pos h2, if_pos (u64s_hl X), Option.bind_some, Option.bind_some]
      congr 1
      rw [decide_eq_decide]
      have := topLen_le X hX 128 w.toNat (by omega) (fun i hi => tb_hi hX i hi)
      omega
    · rw [if_neg h2, decide_eq_false (by omega)]
  · rw [if_neg (by omega), decide_eq_false (by omega)]
theorem ref02_Bits_eq (w : Int) (X : Nat) (hX : X < 2 ^ 128) : shunterref02_Bits.f w (hiW X) (loW X) = some ((List.range (min w.toNat 128)).map X.testBit) := by
  unfold shunterref02_Bits.f
  rw [if_pos (u64s_hl X)]
  congr 1
  refine List.map_congr_left fun j hj => ?_
  rw [List.mem_range] at hj
  exact bitAt_tb X j (by omega) hX
theorem ref03_Of_loop (l : List Bool) (hl : l.length ≤ 128) : ∀ (n : Nat) (k : Nat) (acc : List Bool), n ≤ l.length → n < k → acc = (l.drop n).reverse →
    shunterref03_Of.l0 k l acc ((n : Int) - 1) = some l.reverse
  | 0, k, acc, _, hk, ha => by
    obtain ⟨k, rfl⟩ : ∃ m, k = m + 1 := ⟨k - 1, by omega⟩
    simp only [shunterref03_Of.l0]
    rw [if_neg (by omega), ha]
    rfl
  | n + 1, k, acc, hn, hk, ha => by
    obtain ⟨k, rfl⟩ : ∃ m, k = m + 1 := ⟨k - 1, by omega⟩
    simp only [shunterref03_Of.l0]
    have hal : acc.length ≤ 128 := by rw [ha]; simp; omega
    rw [if_pos (by omega), if_pos (by omega), if_pos (by omega), if_pos (by omega)]
    rw [wrap64_id _ (by omega) (by omega), show ((n + 1 : Nat) : Int) - 1 - 1 = (n : Int) - 1 by omega]
    refine ref03_Of_loop l hl n k _ (by omega) (by omega) ?_
    rw [ha, show (((n + 1 : Nat) : Int) - 1) = (n : Int) by omega]
    rw [List.drop_eq_getElem_cons (show n < l.length by omega), List.reverse_cons]
    simp [rdOf, show n < l.length by omega]
theorem ref03_Of_eq (k : Nat) (w : Nat) (X : Nat) (hX : X < 2 ^ 128) (hw : w ≤ 128) (hk : 128 < k) : shunterref03_Of.f k (w : Int) (hiW X) (loW X) = some (((List.range w).map X.testBit).reverse) := by
  unfold shunterref03_Of.f
  rw [ref02_Bits_eq _ _ hX, Option.bind_some, Int.toNat_natCast, show min w 128 = w by omega]
  rw [wrap64_id _ (by simp; omega) (by simp; omega)]
  exact ref03_Of_loop _ (by simp; omega) _ k [] (by simp) (by simp; omega) (by simp)
/-! ### Bits of bytes -/
theorem bitOf_rd (l : List Int) (i j : Nat) (hj : j < 8) : bitOf l (8 * i + j) = (rd l (i : Nat)).toNat.testBit (7 - j) := by
  unfold bitOf
  rw [show (8 * i + j) / 8 = i by omega, show (8 * i + j) % 8 = j by omega]
/-- Bytes with the same bits are the same. -/
theorem bytes_ext {l l' : List Int} (h : okBytes l) (h' : okBytes l') (hlen : l.length = l'.length) (hb : ∀ p, p < 8 * l.length → bitOf l p = bitOf l' p) : l = l' := by
  apply List.ext_getElem hlen
  intro i h1 h2
  have e1 : rd l (i : Nat) = l[i] := by simp [rd, List.getD_eq_getElem?_getD, h1]
  have e2 : rd l' (i : Nat) = l'[i] := by simp [rd, List.getD_eq_getElem?_getD, h2]
  have a1 := rd_byte h i h1
  have a2 := rd_byte h' i h2
  have : (rd l (i : Nat)).toNat = (rd l' (i : Nat)).toNat := by
    apply Nat.eq_of_testBit_eq
    intro j
    by_cases hj : j < 8
    · have := hb (8 * i + (7 - j)) (by omega)
      rw [bitOf_rd _ _ _ (by omega), bitOf_rd _ _ _ (by omega), show 7 - (7 - j) = j by omega] at this
      exact this
    · rw [tb_byte (by omega) (by omega), tb_byte (by omega) (by omega)]
  rw [← e1, ← e2]
  omega
theorem rd_set (l : List Int) (i j : Nat) (v : Int) (hi : i < l.length) : rd (l.set i v) (j : Nat) = if j = i then v else rd l (j : Nat) := by
  simp only [rd, Int.toNat_natCast, List.getD_eq_getElem?_getD]
  by_cases h : j = i
  · subst h; simp [hi]
  · rw [if_neg h, List.getElem?_set_ne (fun e => h e.symm)]
theorem okBytes_set {l : List Int} (h : okBytes l) (i : Nat) (v : Int) (hv : 0 ≤ v ∧ v < 256) : okBytes (l.set i v) :=
  ⟨fun b hb => by
    rcases List.mem_or_eq_of_mem_set hb with h1 | h1
    · exact h.1 b h1
    · rw [h1]; exact hv, by rw [List.length_set]; exact h.2⟩
theorem shl8 (j : Nat) (hj : j < 8) : shl .u8 1 ((j : Nat) : Int) = ((2 ^ j : Nat) : Int) := by
  have : ∀ j : Fin 8, shl .u8 1 ((j.val : Nat) : Int) = ((2 ^ j.val : Nat) : Int) := by decide
  exact this ⟨j, hj⟩
theorem clear8 (b j : Nat) (hb : b < 256) (hj : j < 8) : ∃ c : Nat, Go.bits .andNot .u8 (b : Int) ((2 ^ j : Nat) : Int) = (c : Int) ∧ c < 256 ∧ ∀ i, c.testBit i = (decide (i ≠ j) && b.testBit i) := by
  have hp : 2 ^ j < 256 := by have := Nat.pow_lt_pow_right (a := 2) (by decide) hj; omega
  refine ⟨_, u8_andNot_nat b (2 ^ j) hb hp, Nat.lt_of_le_of_lt Nat.and_le_left hb, fun i => ?_⟩
  rw [Nat.testBit_and]
  by_cases hi : i < 8
  · have : ∀ (j i : Fin 8), (255 - 2 ^ j.val).testBit i.val = decide (i.val ≠ j.val) := by decide
    rw [this ⟨j, hj⟩ ⟨i, hi⟩, Bool.and_comm]
  · rw [tb_byte hb (by omega)]; simp
theorem set8 (b j : Nat) (hb : b < 256) (hj : j < 8) : ∃ c : Nat, Go.bits .or .u8 (b : Int) ((2 ^ j : Nat) : Int) = (c : Int) ∧ c < 256 ∧ ∀ i, c.testBit i = (decide (i = j) || b.testBit i) := by
  have hp : 2 ^ j < 256 := by have := Nat.pow_lt_pow_right (a := 2) (by decide) hj; omega
  refine ⟨_, u8_or_nat b (2 ^ j) hb hp, Nat.or_lt_two_pow (n := 8) hb hp, fun i => ?_⟩
  rw [Nat.testBit_or, Nat.testBit_two_pow, Bool.or_comm]
  congr 1
  rw [decide_eq_decide]
  exact eq_comm
/-- One bit written. -/
theorem put_bit {l : List Int} (h : okBytes l) (p : Nat) (hp : p < 8 * l.length) (v : Int) (b : Bool) (hv : ∃ c : Nat, v = c ∧ c < 256 ∧ ∀ i, c.testBit i = if i = 7 - p % 8 then b else (rd l (p / 8 : Nat)).toNat.testBit i) :
    okBytes (l.set (p / 8) v) ∧ ∀ q, bitOf (l.set (p / 8) v) q = if q = p then b else bitOf l q := by
  obtain ⟨c, rfl, hc, hb⟩ := hv
  refine ⟨okBytes_set h _ _ (by omega), fun q => ?_⟩
  unfold bitOf
  rw [rd_set _ _ _ _ (by omega)]
  by_cases h1 : q / 8 = p / 8
  · rw [if_pos h1, Int.toNat_natCast, hb, h1]
    by_cases h2 : q = p
    · rw [if_pos h2, if_pos (by rw [h2])]
    · rw [if_neg h2, if_neg (by omega)]
  · rw [if_neg h1, if_neg (fun e => h1 (by rw [e]))]
/-! ### bits.set, bits.Put -/
theorem word_Bit_eq (X : Nat) (hX : X < 2 ^ 128) (i : Nat) (hi : i < 128) : word_Bit.f (hiW X) (loW X) (i : Int) = some (X.testBit i) := by
  unfold word_Bit.f
  have e : valW (hiW X) (loW X) = X := by unfold valW hiW loW; omega
  rw [if_pos (u64s_hl X), e, decide_eq_true (by omega), Bool.true_and, Int.toNat_natCast]
theorem set_loop (X w at_ : Nat) (hX : X < 2 ^ 128) (hw : w ≤ 128) : ∀ (n k i : Nat) (l : List Int), okBytes l → at_ + w ≤ 8 * l.length → i + n = w → n < k →
    ∃ l', bits_set.l0 k l (at_ : Int) (w : Int) (i : Int) (w : Int) (hiW X) (loW X) (hiW X) (loW X) = some l' ∧ okBytes l' ∧ l'.length = l.length ∧
      ∀ p, bitOf l' p = if at_ ≤ p ∧ p + i < at_ + w then X.testBit (at_ + w - 1 - p) else bitOf l p
  | 0, k, i, l, hl, hfit, hin, hk => by
    obtain ⟨k, rfl⟩ : ∃ m, k = m + 1 := ⟨k - 1, by omega⟩
    refine ⟨l, ?_, hl, rfl, fun p => by rw [if_neg (by omega)]⟩
    simp only [bits_set.l0]
    rw [if_neg (by omega)]
  | n + 1, k, i, l, hl, hfit, hin, hk => by
    obtain ⟨k, rfl⟩ : ∃ m, k = m + 1 := ⟨k - 1, by omega⟩
    have hlen := hl.2
    obtain ⟨p, hp⟩ : ∃ p : Nat, at_ + w - 1 - i = p := ⟨_, rfl⟩
    have e1 : wrap64 ((wrap64 ((wrap64 ((at_ : Int) + (w : Int))) - 1)) - (i : Int)) = (p : Int) := by
      rw [wrap64_id ((at_ : Int) + w) (by omega) (by omega), wrap64_id ((at_ : Int) + w - 1) (by omega) (by omega), wrap64_id _ (by omega) (by omega)]; omega
    have e2 : wrap64 (7 - Int.tmod (p : Int) 8) = ((7 - p % 8 : Nat) : Int) := by
      rw [Int.tmod_eq_emod_of_nonneg (by omega), wrap64_id _ (by omega) (by omega)]; omega
    have e3 : wrap64 (Int.tdiv (p : Int) 8) = ((p / 8 : Nat) : Int) := by
      rw [Int.tdiv_eq_ediv_of_nonneg (by omega), wrap64_id _ (by omega) (by omega)]; omega
    simp only [bits_set.l0]
    rw [if_pos (by omega), e1, e2, e3, if_pos (by omega), if_pos (by omega), if_pos (by omega), Option.bind_some, shl8 _ (by omega), Int.toNat_natCast]
    obtain ⟨b, hb⟩ : ∃ b : Nat, rd l (p / 8 : Nat) = (b : Int) := ⟨(rd l (p / 8 : Nat)).toNat, by have := (rd_byte hl (p / 8) (by omega)).1; omega⟩
    have hb2 : b < 256 := by have := (rd_byte hl (p / 8) (by omega)).2; omega
    obtain ⟨c, hc, hc2, hct⟩ := clear8 b (7 - p % 8) hb2 (by omega)
    rw [hb, hc]
    obtain ⟨ok1, bit1⟩ := put_bit hl p (by omega) (c : Int) false ⟨c, rfl, hc2, fun q => by
      rw [hct, hb, Int.toNat_natCast]
      by_cases hq : q = 7 - p % 8
      · rw [if_pos hq, decide_eq_false (by omega), Bool.false_and]
      · rw [if_neg hq, decide_eq_true hq, Bool.true_and]⟩
    rw [word_Bit_eq X hX i (by omega), Option.bind_some]
    by_cases ht : X.testBit i = true
    · rw [if_pos ht, rd_set _ _ _ _ (by omega), if_pos rfl]
      obtain ⟨d, hd, hd2, hdt⟩ := set8 c (7 - p % 8) hc2 (by omega)
      rw [hd]
      obtain ⟨ok2, bit2⟩ := put_bit ok1 p (by rw [List.length_set]; omega) (d : Int) true ⟨d, rfl, hd2, fun q => by
        rw [hdt, rd_set _ _ _ _ (by omega), if_pos rfl, Int.toNat_natCast]
        by_cases hq : q = 7 - p % 8
        · rw [if_pos hq, decide_eq_true hq, Bool.true_or]
        · rw [if_neg hq, decide_eq_false hq, Bool.false_or]⟩
      rw [wrap64_id ((i : Int) + 1) (by omega) (by omega), show (i : Int) + 1 = ((i + 1 : Nat) : Int) by omega]
      obtain ⟨l', h1, h2, h3, h4⟩ := set_loop X w at_ hX hw n k (i + 1) _ ok2 (by simp; omega) (by omega) (by omega)
      refine ⟨l', h1, h2, by rw [h3]; simp, fun q => ?_⟩
      rw [h4, bit2, bit1]
      by_cases hq : q = p
      · rw [if_pos hq, if_neg (by omega), if_pos (by omega), show at_ + w - 1 - q = i by omega, ht]
      · rw [if_neg hq, if_neg hq]
        by_cases hr : at_ ≤ q ∧ q + (i + 1) < at_ + w
        · rw [if_pos hr, if_pos (by omega)]
        · rw [if_neg hr, if_neg (by omega)]
    · rw [if_neg ht]
      rw [wrap64_id ((i : Int) + 1) (by omega) (by omega), show (i : Int) + 1 = ((i + 1 : Nat) : Int) by omega]
      obtain ⟨l', h1, h2, h3, h4⟩ := set_loop X w at_ hX hw n k (i + 1) _ ok1 (by simp; omega) (by omega) (by omega)
      refine ⟨l', h1, h2, by rw [h3]; simp, fun q => ?_⟩
      rw [h4, bit1]
      by_cases hq : q = p
      · rw [if_pos hq, if_neg (by omega), if_pos (by omega), show at_ + w - 1 - q = i by omega]; simpa using ht
      · rw [if_neg hq]
        by_cases hr : at_ ≤ q ∧ q + (i + 1) < at_ + w
        · rw [if_pos hr, if_pos (by omega)]
        · rw [if_neg hr, if_neg (by omega)]
/-- What bits.set leaves. -/
theorem set_eq (X w at_ : Nat) (hX : X < 2 ^ 128) (hw : w ≤ 128) (k : Nat) (hk : w < k) (l : List Int) (hl : okBytes l) (hfit : at_ + w ≤ 8 * l.length) :
    ∃ l', bits_set.f k l (at_ : Int) (w : Int) (hiW X) (loW X) = some l' ∧ okBytes l' ∧ l'.length = l.length ∧
      ∀ p, bitOf l' p = if at_ ≤ p ∧ p < at_ + w then X.testBit (at_ + w - 1 - p) else bitOf l p := by
  obtain ⟨l', h1, h2, h3, h4⟩ := set_loop X w at_ hX hw w k 0 l hl hfit (by omega) hk
  refine ⟨l', ?_, h2, h3, fun p => by rw [h4]; rfl⟩
  unfold bits_set.f vec_Word.f
  rw [Option.bind_some]
  exact h1
/-! ### ref03.Bytes, ref03.Put -/
theorem div_top (b m : Nat) : b / 2 ^ m = 2 * (b / 2 ^ (m + 1)) + if b.testBit m then 1 else 0 := by
  rw [Nat.testBit_eq_decide_div_mod_eq, Nat.pow_succ, ← Nat.div_div_eq_div_mul]
  have h2 : b / 2 ^ m % 2 < 2 := Nat.mod_lt _ (by decide)
  split
  · rename_i h; simp at h; omega
  · rename_i h; simp at h; omega
def bitsOf (l : List Int) : List Bool := (List.range (8 * l.length)).map (bitOf l)
theorem bitsOf_len (l : List Int) : (bitsOf l).length = 8 * l.length := by simp [bitsOf]
theorem bitsOf_rd (l : List Int) (p : Nat) (hp : p < 8 * l.length) : rdOf false (bitsOf l) (p : Nat) = bitOf l p := by
  simp [rdOf, bitsOf, List.getD_eq_getElem?_getD, hp]
theorem Bytes_inner {l : List Int} (hl : okBytes l) (i b : Nat) (hi : i < l.length) (hb : rd l (i : Nat) = (b : Int)) (hb2 : b < 256) (acc : List Int) (hacc : acc.length < 100000000000000) :
    ∀ (m k : Nat), m ≤ 8 → m < k →
    shunterref03_Bytes.l1 k (bitsOf l) acc ((8 * i : Nat) : Int) ((b / 2 ^ m : Nat) : Int) ((8 * i + (8 - m) : Nat) : Int) = shunterref03_Bytes.l0 (k - m - 1) (bitsOf l) (acc ++ [(b : Int)]) ((8 * (i + 1) : Nat) : Int)
  | 0, k, _, hk => by
    obtain ⟨k, rfl⟩ : ∃ m, k = m + 1 := ⟨k - 1, by omega⟩
    have hlen := hl.2
    simp only [shunterref03_Bytes.l1]
    rw [wrap64_id (((8 * i : Nat) : Int) + 8) (by omega) (by omega), if_neg (by omega), if_pos (by omega), Nat.pow_zero, Nat.div_one]
    rw [show ((b : Int)) % 256 = b by omega, show ((8 * i : Nat) : Int) + 8 = ((8 * (i + 1) : Nat) : Int) by omega, show k + 1 - 0 - 1 = k by omega]
  | m + 1, k, hm, hk => by
    obtain ⟨k, rfl⟩ : ∃ m, k = m + 1 := ⟨k - 1, by omega⟩
    have hlen := hl.2
    have hq : b / 2 ^ (m + 1) ≤ b := Nat.div_le_self _ _
    have hbit : rdOf false (bitsOf l) ((8 * i + (8 - (m + 1)) : Nat) : Int) = b.testBit m := by
      rw [bitsOf_rd _ _ (by omega), show 8 - (m + 1) = 7 - m by omega]
      exact bitOf_at hb (by omega)
    have ih := Bytes_inner hl i b hi hb hb2 acc hacc m k (by omega) (by omega)
    have hd := div_top b m
    simp only [shunterref03_Bytes.l1]
    rw [wrap64_id (((8 * i : Nat) : Int) + 8) (by omega) (by omega), if_pos (by omega), bitsOf_len, if_pos (by omega), if_pos (by omega), hbit]
    rw [wrap64_id (2 * ((b / 2 ^ (m + 1) : Nat) : Int)) (by omega) (by omega), wrap64_id (((8 * i + (8 - (m + 1)) : Nat) : Int) + 1) (by omega) (by omega)]
    rw [show ((8 * i + (8 - (m + 1)) : Nat) : Int) + 1 = ((8 * i + (8 - m) : Nat) : Int) by omega, show k + 1 - (m + 1) - 1 = k - m - 1 by omega]
    split
    · rename_i ht
      rw [if_pos ht] at hd
      rw [wrap64_id _ (by omega) (by omega), show 2 * ((b / 2 ^ (m + 1) : Nat) : Int) + 1 = ((b / 2 ^ m : Nat) : Int) by omega]
      exact ih
    · rename_i ht
      rw [if_neg ht] at hd
      rw [show 2 * ((b / 2 ^ (m + 1) : Nat) : Int) = ((b / 2 ^ m : Nat) : Int) by omega]
      exact ih
theorem Bytes_outer {l : List Int} (hl : okBytes l) (hl2 : l.length ≤ 100000) : ∀ (n i k : Nat), i + n = l.length → 10 * n < k → shunterref03_Bytes.l0 k (bitsOf l) (l.take i) ((8 * i : Nat) : Int) = some l
  | 0, i, k, hin, hk => by
    obtain ⟨k, rfl⟩ : ∃ m, k = m + 1 := ⟨k - 1, by omega⟩
    simp only [shunterref03_Bytes.l0]
    rw [bitsOf_len, if_neg (by omega), List.take_of_length_le (by omega)]
  | n + 1, i, k, hin, hk => by
    obtain ⟨k, rfl⟩ : ∃ m, k = m + 1 := ⟨k - 1, by omega⟩
    obtain ⟨b, hb, hb2⟩ := zpos hl (show i < l.length by omega)
    simp only [shunterref03_Bytes.l0]
    rw [bitsOf_len, if_pos (by omega)]
    have := Bytes_inner hl i b (by omega) hb hb2 (l.take i) (by simp; omega) 8 k (by omega) (by omega)
    rw [show b / 2 ^ 8 = 0 by omega] at this
    have e : ((8 * i + (8 - 8) : Nat) : Int) = ((8 * i : Nat) : Int) := by omega
    rw [e] at this
    rw [show ((0 : Nat) : Int) = 0 from rfl] at this
    rw [this]
    have e2 : l.take i ++ [(b : Int)] = l.take (i + 1) := by
      rw [List.take_add_one, List.getElem?_eq_getElem (by omega)]
      congr 1
      have : rd l (i : Nat) = l[i] := by simp [rd, List.getD_eq_getElem?_getD, show i < l.length by omega]
      rw [← hb, this]; rfl
    rw [e2]
    exact Bytes_outer hl hl2 n (i + 1) _ (by omega) (by omega)
theorem ref03_Bytes_eq {l : List Int} (hl : okBytes l) (hl2 : l.length ≤ 100000) (k : Nat) (hk : 10 * l.length < k) : shunterref03_Bytes.f k (bitsOf l) = some l := by
  unfold shunterref03_Bytes.f
  exact Bytes_outer hl hl2 l.length 0 k (by omega) hk
end Go.Proofs.Ytjbpianofkblbaa.XT
