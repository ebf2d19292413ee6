import Derived.Test.YtfdbcnbakchcgaaRm
import Derived.Test.YtfdbcnbakchcgaaXRx5
import Derived.Test.YtfdbcnbakchcgaaXRx9
import Derived.Test.YtfdbcnbakchcgaaXRx10
namespace Go.Proofs.Ytfdbcnbakchcgaa.XR
open Go.RowKit Go.Proofs.YtfdbcnbakchcgaaW.PrintWords Go.Proofs.YtfdbcnbakchcgaaW.PrintLast Go.Proofs.YtfdbcnbakchcgaaW.PrintMore
attribute [local go_sem] max2_int min2_int max_two min_two max_three min_three max_four min_four   -- for this text's walks alone
set_option linter.unusedVariables false
set_option linter.unusedSimpArgs false
/-- The number of n bits, the lowest first. -/
def ofB (f : Nat → Bool) : Nat → Nat
  | 0 => 0
  | n + 1 => ofB f n + if f n then 2 ^ n else 0
theorem ofB_lt (f : Nat → Bool) : ∀ n, ofB f n < 2 ^ n
  | 0 => by simp [ofB]
  | n + 1 => by have := ofB_lt f n; simp only [ofB, Nat.pow_succ]; split <;> omega
theorem tb_ofB (f : Nat → Bool) (i : Nat) : ∀ n, (ofB f n).testBit i = (decide (i < n) && f i)
  | 0 => by simp [ofB]
  | n + 1 => by
    have ih := tb_ofB f i n
    have hl := ofB_lt f n
    simp only [ofB]
    split
    · rename_i h
      rw [Nat.add_comm, ← Nat.mul_one (2 ^ n), Nat.two_pow_add_eq_or_of_lt hl, Nat.testBit_or, Nat.mul_one, Nat.testBit_two_pow, ih]
      by_cases h1 : i = n
      · subst h1; simp [h]
      · rw [decide_eq_false (fun e => h1 e.symm)]
        rw [Bool.eq_iff_iff]; simp; omega
    · rename_i h
      rw [Nat.add_zero, ih]
      by_cases h1 : i = n
      · subst h1; simp [h]
      · rw [Bool.eq_iff_iff]; simp; omega
theorem bitLenAux_le : ∀ (f x n : Nat), x < 2 ^ f → (Lib.bitLenAux f x ≤ n ↔ x < 2 ^ n)
  | 0, x, n, h => by
    have : x = 0 := by omega
    subst this
    simp [Lib.bitLenAux, Nat.two_pow_pos]
  | f + 1, x, n, h => by
    unfold Lib.bitLenAux
    by_cases h0 : x = 0
    · subst h0; simp [Nat.two_pow_pos]
    · rw [if_neg h0]
      cases n with
      | zero => simp; omega
      | succ n =>
        have ih := bitLenAux_le f (x / 2) n (by rw [Nat.pow_succ] at h; omega)
        rw [Nat.pow_succ]
        omega
theorem bitLen_le (x n : Nat) (h : x < 2 ^ 64) : Lib.bitLen x ≤ n ↔ x < 2 ^ n := bitLenAux_le 64 x n h
theorem word_Len_eq (X : Nat) (hX : X < 2 ^ 128) : ∃ r : Nat, word_Len.f (hiW X) (loW X) = some (r : Int) ∧ ∀ n, r ≤ n ↔ X < 2 ^ n := by
  unfold word_Len.f bits_Len64.f
  have h1 := hiW_nn X
  have h2 := loW_nn X
  have e1 : hiW X = ((X / 2 ^ 64 : Nat) : Int) := by unfold hiW; omega
  have hb := bitLen_le (X / 2 ^ 64) 64 (by omega)
  have hb' : Lib.bitLen (X / 2 ^ 64) ≤ 64 := hb.2 (by omega)
  by_cases h0 : hiW X > 0
  · rw [if_pos h0, if_pos ⟨by omega, by omega⟩, Option.bind_some, e1, Int.toNat_natCast, wrap64_id _ (by omega) (by omega)]
    refine ⟨64 + Lib.bitLen (X / 2 ^ 64), by push_cast; rfl, fun n => ?_⟩
    by_cases hn : 64 ≤ n
    · obtain ⟨m, rfl⟩ : ∃ m, n = 64 + m := ⟨n - 64, by omega⟩
      have := bitLen_le (X / 2 ^ 64) m (by omega)
      have h3 : X < 2 ^ (64 + m) ↔ X / 2 ^ 64 < 2 ^ m := by
        rw [Nat.pow_add, Nat.div_lt_iff_lt_mul (Nat.two_pow_pos 64), Nat.mul_comm]
      omega
    · have hp : 2 ^ n ≤ 2 ^ 64 := Nat.pow_le_pow_right (by decide) (by omega)
      omega
  · rw [if_neg h0, if_pos ⟨by omega, by omega⟩, Option.bind_some]
    have e2 : loW X = (X : Int) := by unfold loW; omega
    refine ⟨Lib.bitLen X, by rw [e2]; rfl, fun n => bitLen_le X n (by omega)⟩
/-- May a row be. -/
def vmay (w : Int) (X : Nat) : Bool := decide (1 ≤ w ∧ w ≤ 128 ∧ X < 2 ^ w.toNat)
theorem vec_May_eq (w : Int) (X : Nat) (hX : X < 2 ^ 128) : vec_May.f w (hiW X) (loW X) = some (vmay w X) := by
  unfold vec_May.f vec_width.f vmay
  obtain ⟨r, hr, hn⟩ := word_Len_eq X hX
  by_cases h1 : 1 ≤ w
  · rw [if_pos (by omega), Option.bind_some]
    by_cases h2 : w ≤ 128
    · rw [if_pos (by simpa using h2)]
      unfold vec_Word.f
      rw [Option.bind_some, hr, Option.bind_some]
      congr 1
      rw [decide_eq_decide]
      have := hn w.toNat
      omega
    · rw [if_neg (by simpa using h2), decide_eq_false (by omega)]
  · rw [if_neg (by omega), Option.bind_some, if_neg (by simp), decide_eq_false (by omega)]
theorem bitAt_tb (X j : Nat) (hj : j < 128) (hX : X < 2 ^ 128) : bitAt (hiW X) (loW X) j = X.testBit j := by
  unfold bitAt
  have key : ∀ (a n : Nat), (((a : Nat) : Int) / 2 ^ n % 2 == 1) = a.testBit n := by
    intro a n
    rw [Nat.testBit_eq_decide_div_mod_eq]
    have e : ((a : Nat) : Int) / 2 ^ n % 2 = ((a / 2 ^ n % 2 : Nat) : Int) := by push_cast; rfl
    rw [e, Bool.eq_iff_iff]
    simp only [beq_iff_eq, decide_eq_true_eq]
    omega
  by_cases h : j < 64
  · rw [if_pos h]
    unfold loW
    rw [key, loW_tb, decide_eq_true h, Bool.true_and]
  · rw [if_neg h]
    unfold hiW
    rw [key, hiW_tb, decide_eq_true (by omega), Bool.true_and, show j - 64 + 64 = j by omega]
theorem topLen_le (X : Nat) (hX : X < 2 ^ 128) : ∀ (m n : Nat), m ≤ 128 → (∀ i, m ≤ i → X.testBit i = false) → (topLen (bitAt (hiW X) (loW X)) m ≤ n ↔ X < 2 ^ n)
  | 0, n, _, h => by
    have : X = 0 := Nat.eq_of_testBit_eq fun i => by rw [h i (Nat.zero_le _)]; simp
    subst this
    simp [topLen, Nat.two_pow_pos]
  | m + 1, n, hm, h => by
    unfold topLen
    rw [bitAt_tb X m (by omega) hX]
    by_cases hb : X.testBit m = true
    · rw [if_pos hb]
      constructor
      · intro hn
        refine Nat.lt_pow_two_of_testBit X fun i hi => h i (by omega)
      · intro hlt
        rcases Nat.lt_or_ge m n with h1 | h1
        · omega
        · exact absurd (Nat.testBit_lt_two_pow (Nat.lt_of_lt_of_le hlt (Nat.pow_le_pow_right (by decide) h1))) (by rw [hb]; simp)
    · rw [if_neg hb]
      refine topLen_le X hX m n (by omega) fun i hi => ?_
      rcases Nat.lt_or_ge m i with h1 | h1
      · exact h i (by omega)
      · obtain rfl : i = m := by omega
        simpa using hb
theorem u64s_hl (X : Nat) : u64s (hiW X) (loW X) := ⟨(hiW_nn X).1, (hiW_nn X).2, (loW_nn X).1, (loW_nn X).2⟩
theorem ref02_May_eq (w : Int) (X : Nat) (hX : X < 2 ^ 128) : shunterref02_May.f w (hiW X) (loW X) = some (vmay w X) := by
  unfold shunterref02_May.f shunterref01_Of.f shunterref01_Len.f vmay
  by_cases h1 : 1 ≤ w
  · rw [if_pos (by omega)]
    by_cases h2 : w ≤ 128
    · rw [if_pos h2, if_pos (u64s_hl X), Option.bind_some, Option.bind_some]
      congr 1
      rw [decide_eq_decide]
      have := topLen_le X hX 128 w.toNat (by omega) (fun i hi => tb_hi hX i hi)
      omega
    · rw [if_neg h2, decide_eq_false (by omega)]
  · rw [if_neg (by omega), decide_eq_false (by omega)]
theorem ref02_Bits_eq (w : Int) (X : Nat) (hX : X < 2 ^ 128) : shunterref02_Bits.f w (hiW X) (loW X) = some ((List.range (min w.toNat 128)).map X.testBit) := by
  unfold shunterref02_Bits.f
  rw [if_pos (u64s_hl X)]
  congr 1
  refine List.map_congr_left fun j hj => ?_
  rw [List.mem_range] at hj
  exact bitAt_tb X j (by omega) hX
theorem ofB_zero_eq (f : Nat → Bool) : ∀ n, ofB f (n + 1) = (if f 0 then 1 else 0) + 2 * ofB (fun i => f (i + 1)) n
  | 0 => by simp [ofB]
  | n + 1 => by
    have ih := ofB_zero_eq f n
    rw [ofB, ih]
    simp only [ofB]
    split <;> split <;> simp [Nat.pow_succ] <;> omega
theorem hvD_ofB (f : Nat → Bool) : ∀ d, d ≤ 64 → hvD f d = ((ofB (fun i => f (64 - d + i)) d : Nat) : Int)
  | 0, _ => rfl
  | d + 1, h => by
    have ih := hvD_ofB f d (by omega)
    rw [ofB_zero_eq, hvD, ih]
    have e : (fun i => f (64 - (d + 1) + (i + 1))) = fun i => f (64 - d + i) := by funext i; congr 1; omega
    rw [e, show 64 - (d + 1) + 0 = 63 - d by omega]
    split <;> omega
theorem hvD_64 (f : Nat → Bool) : hvD f 64 = ((ofB f 64 : Nat) : Int) := by
  rw [hvD_ofB f 64 (by omega)]
  congr 2
  funext i
  simp
/-- The halves of a number that is told bit by bit. -/
theorem loW_tell {X : Nat} {f : Nat → Bool} (h : ∀ i, i < 64 → X.testBit i = f i) : loW X = hvD f 64 := by
  rw [hvD_64]
  exact loW_bits (fun i hi => by rw [h i hi, tb_ofB, decide_eq_true hi, Bool.true_and]) (ofB_lt f 64)
theorem hiW_tell {X : Nat} {f : Nat → Bool} (h : ∀ i, i < 64 → X.testBit (i + 64) = f (i + 64)) : hiW X = hvD (fun j => f (j + 64)) 64 := by
  rw [hvD_64]
  exact hiW_bits (fun i hi => by rw [Nat.add_comm, h i hi, tb_ofB, decide_eq_true hi, Bool.true_and]) (ofB_lt _ 64)
/-- ref02.Of, by number. -/
theorem ref02_Of_eq (l : List Bool) (hl : l.length ≤ 128) : shunterref02_Of.f l = some ((l.length : Int), hiW (ofB (fun i => l[i]?.getD false) l.length), loW (ofB (fun i => l[i]?.getD false) l.length)) := by
  unfold shunterref02_Of.f
  rw [if_pos (by omega)]
  have key : ∀ i, (ofB (fun i => l[i]?.getD false) l.length).testBit i = l[i]?.getD false := by
    intro i
    rw [tb_ofB]
    by_cases h : i < l.length
    · simp [h]
    · simp [h]
  rw [loW_tell (f := fun i => l[i]?.getD false) (fun i _ => key i), hiW_tell (f := fun i => l[i]?.getD false) (fun i _ => key _)]
theorem vmay_lt {w : Int} {X : Nat} (h : vmay w X = true) : 1 ≤ w ∧ w ≤ 128 ∧ X < 2 ^ w.toNat := by unfold vmay at h; simpa using h
theorem and_lt {X Y n : Nat} (h : X < 2 ^ n) : X &&& Y < 2 ^ n := Nat.lt_of_le_of_lt Nat.and_le_left h
theorem vec_And_eq (a b : Int) (X Y : Nat) (hX : X < 2 ^ 128) (hY : Y < 2 ^ 128) : vec_And.f a (hiW X) (loW X) b (hiW Y) (loW Y) = some (if vmay a X = true ∧ vmay b Y = true then (if a = b then (a, hiW (X &&& Y), loW (X &&& Y), 0) else (0, 0, 0, 9)) else (0, 0, 0, 1)) := by
  unfold vec_And.f
  rw [vec_May_eq a X hX, vec_May_eq b Y hY, Option.bind_some]
  cases hA : vmay a X with
  | false => rw [if_neg (by simp), if_neg (by simp)]
  | true =>
    rw [if_pos rfl, Option.bind_some]
    cases hB : vmay b Y with
    | false => rw [if_neg (by simp), if_neg (by simp)]
    | true =>
      rw [if_pos rfl, if_pos (show true = true ∧ true = true from ⟨rfl, rfl⟩)]
      by_cases e : a = b
      · rw [if_pos e, if_pos e, word_And_eq, Option.bind_some]
        have h := vmay_lt hA
        rw [vec_Cut_eq 3, if_pos ⟨h.1, h.2.1⟩, Nat.mod_eq_of_lt (and_lt h.2.2)]
      · rw [if_neg e, if_neg e]
theorem hl_inj {X Y : Nat} (hX : X < 2 ^ 128) (hY : Y < 2 ^ 128) : (hiW X == hiW Y && (loW X == loW Y)) = (X == Y) := by
  rw [Bool.eq_iff_iff, Bool.and_eq_true, beq_iff_eq, beq_iff_eq, beq_iff_eq]
  constructor
  · rintro ⟨h1, h2⟩; unfold hiW at h1; unfold loW at h2; omega
  · rintro rfl; exact ⟨rfl, rfl⟩
theorem bits_getD (a : Int) (X i : Nat) (hi : i < min a.toNat 128) : ((List.range (min a.toNat 128)).map X.testBit).getD i false = X.testBit i := by
  rw [List.getD_eq_getElem?_getD, List.getElem?_map, List.getElem?_range hi]; rfl
theorem ref02_And_eq (a b : Int) (X Y : Nat) (hX : X < 2 ^ 128) (hY : Y < 2 ^ 128) : shunterref02_Two.f (⟨#[97, 110, 100]⟩ : ByteArray) a (hiW X) (loW X) b (hiW Y) (loW Y) = some (if vmay a X = true ∧ vmay b Y = true then (if a = b then (a, hiW (X &&& Y), loW (X &&& Y), 0) else (0, 0, 0, 9)) else (0, 0, 0, 1)) := by
  unfold shunterref02_Two.f
  rw [ref02_May_eq a X hX, ref02_May_eq b Y hY, Option.bind_some]
  cases hA : vmay a X with
  | false => rw [if_neg (by simp), if_neg (by simp)]
  | true =>
    rw [if_pos rfl, Option.bind_some]
    cases hB : vmay b Y with
    | false => rw [if_neg (by simp), if_neg (by simp)]
    | true =>
      rw [if_pos rfl, if_pos (show true = true ∧ true = true from ⟨rfl, rfl⟩)]
      by_cases e : a = b
      · subst e
        have h := vmay_lt hA
        rw [if_pos rfl, if_pos rfl, ref02_Bits_eq a X hX, Option.bind_some, ref02_Bits_eq a Y hY, Option.bind_some, if_pos rfl]
        have hl : ((List.range (min a.toNat 128)).map X.testBit).length = a.toNat := by simp; omega
        rw [ref02_Of_eq _ (by rw [andL_length, hl]; omega), andL_length, hl, Option.bind_some]
        have he : ofB (fun i => (andL ((List.range (min a.toNat 128)).map X.testBit) ((List.range (min a.toNat 128)).map Y.testBit) a.toNat)[i]?.getD false) a.toNat = X &&& Y := by
          apply Nat.eq_of_testBit_eq
          intro i
          rw [tb_ofB, Nat.testBit_and]
          by_cases hi : i < a.toNat
          · rw [decide_eq_true hi, Bool.true_and]
            unfold andL
            rw [List.getElem?_map, List.getElem?_range hi, Option.map_some, Option.getD_some, bits_getD a X i (by omega), bits_getD a Y i (by omega)]
          · rw [decide_eq_false hi, Bool.false_and, Nat.testBit_lt_two_pow (Nat.lt_of_lt_of_le h.2.2 (Nat.pow_le_pow_right (by decide) (by omega))), Bool.false_and]
        rw [he, show ((a.toNat : Nat) : Int) = a by omega]
      · rw [if_neg e, if_neg e]
/-- Does a row meet a value under a mask. -/
def meV (a : Int) (X : Nat) (v : Int) (V : Nat) (m : Int) (M : Nat) : Bool := vmay a X && vmay v V && vmay m M && (a == v) && (a == m) && (X &&& M == V &&& M)
theorem and128 {X Y : Nat} (hX : X < 2 ^ 128) : X &&& Y < 2 ^ 128 := Nat.lt_of_le_of_lt Nat.and_le_left hX
theorem tb_none {X : Nat} {w : Int} (h : X < 2 ^ w.toNat) (i : Nat) (hi : w.toNat ≤ i) : X.testBit i = false := Nat.testBit_lt_two_pow (Nat.lt_of_lt_of_le h (Nat.pow_le_pow_right (by decide) hi))
theorem meet_bits {X V M : Nat} {w : Int} (hX : X < 2 ^ w.toNat) (hV : V < 2 ^ w.toNat) : X &&& M = V &&& M ↔ ∀ i, i < w.toNat → M.testBit i = true → X.testBit i = V.testBit i := by
  constructor
  · intro h i _ hm
    have := congrArg (fun z => z.testBit i) h
    simpa [Nat.testBit_and, hm] using this
  · intro h
    apply Nat.eq_of_testBit_eq
    intro i
    rw [Nat.testBit_and, Nat.testBit_and]
    by_cases hi : i < w.toNat
    · cases hm : M.testBit i with
      | false => simp
      | true => rw [h i hi hm]
    · rw [tb_none hX i (by omega), tb_none hV i (by omega)]
theorem rdB (a : Int) (X i : Nat) (hi : i < min a.toNat 128) : rdOf false ((List.range (min a.toNat 128)).map X.testBit) (i : Int) = X.testBit i := by
  rw [rdOf_nat, bits_getD a X i hi]
theorem ref02_Meets_loop (a : Int) (X V M : Nat) (ha : 1 ≤ a) (ha2 : a ≤ 128) : ∀ (n k i : Nat), i + n = a.toNat → n < k →
    shunterref02_Meets.l0 k ((List.range (min a.toNat 128)).map X.testBit) ((List.range (min a.toNat 128)).map V.testBit) ((List.range (min a.toNat 128)).map M.testBit) (i : Int) = some (decide (∀ j, j < a.toNat → i ≤ j → M.testBit j = true → X.testBit j = V.testBit j))
  | 0, k, i, h, hk => by
    obtain ⟨k, rfl⟩ : ∃ m, k = m + 1 := ⟨k - 1, by omega⟩
    simp only [shunterref02_Meets.l0, List.length_map, List.length_range]
    rw [if_neg (by omega), decide_eq_true (fun j h1 h2 _ => by omega)]
  | n + 1, k, i, h, hk => by
    obtain ⟨k, rfl⟩ : ∃ m, k = m + 1 := ⟨k - 1, by omega⟩
    have ih := ref02_Meets_loop a X V M ha ha2 n k (i + 1) (by omega) (by omega)
    simp only [shunterref02_Meets.l0, List.length_map, List.length_range]
    rw [if_pos (by omega), if_pos (by omega), if_pos (by omega), rdB a M i (by omega), rdB a X i (by omega), rdB a V i (by omega), wrap64_id _ (by omega) (by omega), show ((i : Int) + 1) = ((i + 1 : Nat) : Int) by omega, ih]
    have hs : (∀ j, j < a.toNat → i ≤ j → M.testBit j = true → X.testBit j = V.testBit j) ↔ (M.testBit i = true → X.testBit i = V.testBit i) ∧ (∀ j, j < a.toNat → i + 1 ≤ j → M.testBit j = true → X.testBit j = V.testBit j) := by
      constructor
      · intro hh; exact ⟨hh i (by omega) (by omega), fun j h1 h2 => hh j h1 (by omega)⟩
      · rintro ⟨h1, h2⟩ j h4 h3
        rcases Nat.lt_or_ge i j with h5 | h5
        · exact h2 j h4 h5
        · obtain rfl : j = i := by omega
          exact h1
    cases hm : M.testBit i with
    | false =>
      rw [if_neg (by simp)]
      congr 1
      rw [decide_eq_decide, hs, hm]
      simp
    | true =>
      rw [if_pos rfl, if_pos (by omega)]
      by_cases e : X.testBit i = V.testBit i
      · rw [e, if_neg (by simp)]
        congr 1
        rw [decide_eq_decide, hs, hm]
        simp [e]
      · rw [if_pos (by simpa using e), decide_eq_false]
        rw [hs, hm]
        simp [e]
theorem ref02_Meets_eq (k : Nat) (hk : 130 ≤ k) (a v m : Int) (X V M : Nat) (hX : X < 2 ^ 128) (hV : V < 2 ^ 128) (hM : M < 2 ^ 128) : shunterref02_Meets.f k a (hiW X) (loW X) v (hiW V) (loW V) m (hiW M) (loW M) = some (meV a X v V m M) := by
  obtain ⟨k, rfl⟩ : ∃ m, k = m + 1 := ⟨k - 1, by omega⟩
  unfold shunterref02_Meets.f meV
  rw [ref02_May_eq a X hX, ref02_May_eq v V hV, ref02_May_eq m M hM]
  simp only [Option.bind_some]
  cases hA : vmay a X with
  | false => rw [if_neg (by simp)]; simp [shunterref02_Meets.j0]
  | true =>
    rw [if_pos rfl]
    cases hB : vmay v V with
    | false => rw [if_neg (by simp)]; simp [shunterref02_Meets.j0]
    | true =>
      rw [if_pos rfl]
      cases hC : vmay m M with
      | false => rw [if_neg (by simp)]; simp [shunterref02_Meets.j0]
      | true =>
        rw [if_pos rfl]
        by_cases e : a = v
        · subst e
          rw [if_pos rfl]
          by_cases e : a = m
          · subst e
            have h := vmay_lt hA
            simp only [shunterref02_Meets.j0]
            rw [if_neg (by simp), ref02_Bits_eq a X hX, ref02_Bits_eq a V hV, ref02_Bits_eq a M hM]
            simp only [Option.bind_some]
            have := ref02_Meets_loop a X V M h.1 h.2.1 a.toNat k 0 (by omega) (by omega)
            rw [show ((0 : Nat) : Int) = 0 from rfl] at this
            rw [this]
            congr 1
            rw [Bool.eq_iff_iff]
            simp only [decide_eq_true_eq, Bool.and_eq_true, beq_iff_eq, true_and, and_true, Nat.zero_le, forall_const]
            exact (meet_bits h.2.2 (vmay_lt hB).2.2).symm
          · have e1 : (a != m) = true := by simpa using e
            have e2 : (a == m) = false := by simpa using e
            rw [e1, e2]
            simp [shunterref02_Meets.j0]
        · have e2 : (a == v) = false := by simpa using e
          rw [if_neg e, e2]
          simp [shunterref02_Meets.j0]
def okV (v : S32) : Prop := 0 ≤ v.f1 ∧ v.f1 < 2 ^ 64 ∧ 0 ≤ v.f2 ∧ v.f2 < 2 ^ 64
def vV (v : S32) : Nat := valW v.f1 v.f2
theorem vV_lt {v : S32} (h : okV v) : vV v < 2 ^ 128 := valW_lt h.1 h.2.1 h.2.2.1 h.2.2.2
theorem vV_hi {v : S32} (h : okV v) : hiW (vV v) = v.f1 := hiW_valW h.1 h.2.1 h.2.2.1 h.2.2.2
theorem vV_lo {v : S32} (h : okV v) : loW (vV v) = v.f2 := loW_valW h.2.2.1 h.2.2.2
theorem valW_hl {X : Nat} (h : X < 2 ^ 128) : valW (hiW X) (loW X) = X := by unfold valW hiW loW; omega
def maskN (W n : Nat) : Nat := (2 ^ n - 1) * 2 ^ (W - n)
theorem maskN_tb (W n i : Nat) (h : n ≤ W) : (maskN W n).testBit i = (decide (W - n ≤ i) && decide (i < W)) := by
  unfold maskN
  rw [tb_shl, Nat.testBit_two_pow_sub_one]
  by_cases c : W - n ≤ i
  · rw [decide_eq_true c, Bool.true_and, Bool.true_and]
    exact decide_eq_decide.2 (by omega)
  · rw [decide_eq_false c]; rfl
theorem maskN_lt (W n : Nat) (h : n ≤ W) : maskN W n < 2 ^ W :=
  Nat.lt_pow_two_of_testBit _ (fun i hi => by rw [maskN_tb W n i h, decide_eq_false (show ¬ i < W by omega), Bool.and_false])
theorem maskN_may (W n : Nat) (h1 : 1 ≤ W) (h2 : W ≤ 128) (h : n ≤ W) : vmay (W : Int) (maskN W n) = true := by
  unfold vmay
  rw [decide_eq_true_eq]
  exact ⟨by omega, by omega, by rw [Int.toNat_natCast]; exact maskN_lt W n h⟩
theorem pow_le128 {W : Nat} (h : W ≤ 128) : 2 ^ W ≤ 2 ^ 128 := Nat.pow_le_pow_right (by decide) h
theorem vec_Prefix_ok (k W n : Nat) (h1 : 1 ≤ W) (h2 : W ≤ 128) (hn : n ≤ W) : vec_Prefix.f (k + 3) (W : Int) (n : Int) = some ((W : Int), hiW (maskN W n), loW (maskN W n), 0) := by
  unfold vec_Prefix.f vec_width.f
  rw [if_pos (by omega), Option.bind_some, decide_eq_true (by omega), if_pos rfl, if_neg (by omega), decide_eq_false (by omega)]
  simp only [vec_Prefix.j0]
  rw [if_neg (by simp), word_Ones_eq, Option.bind_some, wrap64_id _ (by omega) (by omega), show ((W : Int) - (n : Int)) = ((W - n : Nat) : Int) by omega, Nat.min_eq_left (show n ≤ 128 by omega)]
  have hs : word_Shl.f (k + 2) (hiW (2 ^ n - 1)) (loW (2 ^ n - 1)) ((W - n : Nat) : Int) = some (hiW (maskN W n), loW (maskN W n)) := by
    by_cases c : W - n = 128
    · obtain rfl : n = 0 := by omega
      obtain rfl : W = 128 := by omega
      unfold word_Shl.f
      rw [if_neg (by decide)]
      simp only [word_Shl.j0]
      rfl
    · exact word_Shl_pos (k + 1) _ _ (by omega)
  rw [hs, Option.bind_some, vec_Cut_eq, if_pos ⟨by omega, by omega⟩, Option.bind_some, Int.toNat_natCast, Nat.mod_eq_of_lt (maskN_lt W n hn)]
theorem vec_Prefix_no (k W : Nat) (n : Int) (h1 : 1 ≤ W) (h2 : W ≤ 128) (hn : n < 0 ∨ (W : Int) < n) : vec_Prefix.f (k + 3) (W : Int) n = some (0, 0, 0, 15) := by
  unfold vec_Prefix.f vec_width.f
  rw [if_pos (by omega), Option.bind_some, decide_eq_true (by omega), if_pos rfl]
  by_cases c : n < 0
  · rw [if_pos c]; simp only [vec_Prefix.j0]; rw [if_pos trivial]
  · rw [if_neg c, decide_eq_true (by omega)]; simp only [vec_Prefix.j0]; rw [if_pos trivial]
theorem ref02_Prefix_loop (W n : Nat) (h2 : W ≤ 128) (hn : n ≤ W) : ∀ (d k i : Nat), i + d = W → d < k →
    shunterref02_Prefix.l0 k (W : Int) (n : Int) ((List.range i).map fun j => decide (W - n ≤ j)) (i : Int) = some ((W : Int), hiW (maskN W n), loW (maskN W n), 0)
  | 0, k, i, h, hk => by
    obtain ⟨k, rfl⟩ : ∃ m, k = m + 1 := ⟨k - 1, by omega⟩
    obtain rfl : i = W := by omega
    simp only [shunterref02_Prefix.l0]
    have e : ofB (fun j => ((List.range i).map fun j => decide (i - n ≤ j))[j]?.getD false) i = maskN i n := by
      refine Nat.eq_of_testBit_eq fun j => ?_
      rw [tb_ofB, maskN_tb i n j hn]
      by_cases c : j < i
      · simp [c]
      · simp [c]
    rw [if_neg (by omega), ref02_Of_eq _ (by simp; omega), List.length_map, List.length_range, e]
    rfl
  | d + 1, k, i, h, hk => by
    obtain ⟨k, rfl⟩ : ∃ m, k = m + 1 := ⟨k - 1, by omega⟩
    have ih := ref02_Prefix_loop W n h2 hn d k (i + 1) (by omega) (by omega)
    simp only [shunterref02_Prefix.l0]
    rw [if_pos (by omega), if_pos (by simp; omega), wrap64_id _ (by omega) (by omega), wrap64_id _ (by omega) (by omega), show ((i : Int) + 1) = ((i + 1 : Nat) : Int) by omega, ← ih]
    congr 1
    rw [List.range_succ, List.map_append, List.map_singleton]
    congr 2
    exact decide_eq_decide.2 (by omega)
theorem ref02_Prefix_ok (k W n : Nat) (hk : 135 ≤ k) (h1 : 1 ≤ W) (h2 : W ≤ 128) (hn : n ≤ W) : shunterref02_Prefix.f k (W : Int) (n : Int) = some ((W : Int), hiW (maskN W n), loW (maskN W n), 0) := by
  obtain ⟨k, rfl⟩ : ∃ m, k = m + 2 := ⟨k - 2, by omega⟩
  unfold shunterref02_Prefix.f
  rw [if_neg (by omega), decide_eq_false (by omega)]
  simp only [shunterref02_Prefix.j0]
  rw [if_neg (by simp), if_neg (by omega), decide_eq_false (by omega)]
  simp only [shunterref02_Prefix.j1]
  rw [if_neg (by simp)]
  exact ref02_Prefix_loop W n h2 hn W k 0 (by omega) (by omega)
theorem ref02_Prefix_no (k W : Nat) (n : Int) (h1 : 1 ≤ W) (h2 : W ≤ 128) (hn : n < 0 ∨ (W : Int) < n) : shunterref02_Prefix.f (k + 2) (W : Int) n = some (0, 0, 0, 15) := by
  unfold shunterref02_Prefix.f
  rw [if_neg (by omega), decide_eq_false (by omega)]
  simp only [shunterref02_Prefix.j0]
  rw [if_neg (by simp)]
  by_cases c : n < 0
  · rw [if_pos c]; simp only [shunterref02_Prefix.j1]; rw [if_pos trivial]
  · rw [if_neg c, decide_eq_true (by omega)]; simp only [shunterref02_Prefix.j1]; rw [if_pos trivial]
/-- Why a prefix may not be. -/
def mayP (W : Nat) (a : Int) (X : Nat) (n : Int) : Int := if vmay a X = true ∧ a = (W : Int) then (if 0 ≤ n ∧ n ≤ (W : Int) then (if X &&& maskN W n.toNat = X then 0 else 15) else 15) else 9
theorem mayP_yes {W : Nat} {a : Int} {X : Nat} {n : Int} (h : vmay a X = true ∧ a = (W : Int)) : mayP W a X n = (if 0 ≤ n ∧ n ≤ (W : Int) then (if X &&& maskN W n.toNat = X then 0 else 15) else 15) := if_pos h
theorem mayP_no {W : Nat} {a : Int} {X : Nat} {n : Int} (h : ¬ (vmay a X = true ∧ a = (W : Int))) : mayP W a X n = 9 := if_neg h
theorem ne3 {X Y : Nat} (hX : X < 2 ^ 128) (hY : Y < 2 ^ 128) (a : Int) : (!(a == a) || (!(hiW X == hiW Y) || (!(loW X == loW Y)))) = !(X == Y) := by
  rw [← hl_inj hX hY]; simp
theorem ref20_May_eq (k W : Nat) (hk : 140 ≤ k) (h1 : 1 ≤ W) (h2 : W ≤ 128) (a : Int) (X : Nat) (hX : X < 2 ^ 128) (n : Int) : shunterref20_May.f k (W : Int) a (hiW X) (loW X) n = some (mayP W a X n) := by
  obtain ⟨k, rfl⟩ : ∃ m, k = m + 3 := ⟨k - 3, by omega⟩
  unfold shunterref20_May.f
  rw [ref02_May_eq a X hX, Option.bind_some]
  by_cases c1 : vmay a X = true
  · rw [if_pos c1]
    by_cases c2 : a = (W : Int)
    · rw [mayP_yes ⟨c1, c2⟩, show (a != (W : Int)) = false by simp [c2]]
      simp only [shunterref20_May.j0]
      rw [if_neg (by simp)]
      by_cases c3 : 0 ≤ n ∧ n ≤ (W : Int)
      · obtain ⟨m, rfl⟩ : ∃ m : Nat, n = (m : Int) := ⟨n.toNat, by omega⟩
        have hm : m ≤ W := by omega
        have hml : maskN W m < 2 ^ 128 := Nat.lt_of_lt_of_le (maskN_lt W m hm) (pow_le128 h2)
        have e2 := ref02_And_eq a (W : Int) X (maskN W m) hX hml
        rw [if_pos ⟨c1, maskN_may W m h1 h2 hm⟩, if_pos c2] at e2
        rw [if_pos c3, ref02_Prefix_ok (k + 2) W m (by omega) h1 h2 hm, Option.bind_some]
        simp only
        rw [if_pos trivial, e2, Option.bind_some, Int.toNat_natCast]
        simp only [ne3 (and128 (Y := maskN W m) hX) hX a]
        by_cases c4 : X &&& maskN W m = X
        · rw [if_pos c4, if_neg (by simp [c4])]
        · rw [if_neg c4, if_pos (by simpa using c4)]
      · rw [if_neg c3, ref02_Prefix_no k W n h1 h2 (by omega), Option.bind_some]
        simp
    · rw [mayP_no (fun hh => c2 hh.2), show (a != (W : Int)) = true by simpa using c2]
      simp only [shunterref20_May.j0]
      rw [if_pos trivial]
  · rw [if_neg c1, mayP_no (fun hh => c1 hh.1)]
    simp only [shunterref20_May.j0]
    rw [if_pos trivial]
theorem trie_bit_eq (W X i : Nat) (h1 : 1 ≤ W) (h2 : W ≤ 128) (hX : X < 2 ^ 128) (hi : i < W) : trie_bit.f (W : Int) (hiW X) (loW X) (i : Int) = some ((bitN W X i : Nat) : Int) := by
  unfold trie_bit.f
  rw [show vec_Word.f (W : Int) (hiW X) (loW X) = some (hiW X, loW X) from rfl, Option.bind_some, wrap64_id ((W : Int) - 1) (by omega) (by omega), wrap64_id _ (by omega) (by omega)]
  unfold word_Bit.f
  rw [if_pos (u64s_hl X), Option.bind_some, decide_eq_true (by omega), Bool.true_and, valW_hl hX, show ((W : Int) - 1 - (i : Int)).toNat = W - (i + 1) by omega]
  unfold bitN
  rw [Nat.testBit_eq_decide_div_mod_eq]
  have := Nat.mod_two_eq_zero_or_one (X / 2 ^ (W - (i + 1)))
  rcases this with c | c
  · rw [c]; simp
  · rw [c]; simp
end Go.Proofs.Ytfdbcnbakchcgaa.XR
