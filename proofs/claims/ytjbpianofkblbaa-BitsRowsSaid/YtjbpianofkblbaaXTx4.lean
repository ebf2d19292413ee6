/- The Lean functions that this claim's Go functions compute, and that the machine's calls return them; laid by a program of this session (xprint.py), partly typed by hand. -/
import Derived.Test.YtjbpianofkblbaaXTx0
import Derived.Test.YtjbpianofkblbaaXTx1
import Derived.Test.YtjbpianofkblbaaXTx2
import Derived.Test.YtjbpianofkblbaaXTx3
namespace Go.Proofs.Ytjbpianofkblbaa.XT
open Go.RowKit Go.Proofs.YtjbpianofkblbaaW.PrintWords Go.Proofs.YtjbpianofkblbaaW.PrintLast Go.Proofs.YtjbpianofkblbaaW.PrintMore
attribute [local go_sem] max2_int min2_int max_two min_two max_three min_three max_four min_four   -- for this text's walks alone
set_option linter.unusedVariables false
set_option linter.unusedSimpArgs false

attribute [local go_sem high] eqA26
-- AFTER shunter/vec.Cut
/-- The halves of a number. -/
def hiW (X : Nat) : Int := ((X / 2 ^ 64 % 2 ^ 64 : Nat) : Int)
def loW (X : Nat) : Int := ((X % 2 ^ 64 : Nat) : Int)
theorem hiW_mod (X : Nat) : hiW (X % 2 ^ 128) = hiW X := by unfold hiW; omega
theorem loW_mod (X : Nat) : loW (X % 2 ^ 128) = loW X := by unfold loW; omega
theorem hiW_nn (X : Nat) : 0 ≤ hiW X ∧ hiW X < 2 ^ 64 := by unfold hiW; omega
theorem loW_nn (X : Nat) : 0 ≤ loW X ∧ loW X < 2 ^ 64 := by unfold loW; omega
/-- Two halves as a number. -/
def valW (h l : Int) : Nat := h.toNat * 2 ^ 64 + l.toNat
theorem hiW_valW {h l : Int} (hh : 0 ≤ h) (hh2 : h < 2 ^ 64) (hl : 0 ≤ l) (hl2 : l < 2 ^ 64) : hiW (valW h l) = h := by unfold hiW valW; omega
theorem loW_valW {h l : Int} (hl : 0 ≤ l) (hl2 : l < 2 ^ 64) : loW (valW h l) = l := by unfold loW valW; omega
theorem valW_lt {h l : Int} (hh : 0 ≤ h) (hh2 : h < 2 ^ 64) (hl : 0 ≤ l) (hl2 : l < 2 ^ 64) : valW h l < 2 ^ 128 := by unfold valW; omega
theorem hl_eq_of_mod {X Y : Nat} (h : X % 2 ^ 128 = Y % 2 ^ 128) : hiW X = hiW Y ∧ loW X = loW Y := by
  rw [← hiW_mod X, ← loW_mod X, h, hiW_mod, loW_mod]; exact ⟨rfl, rfl⟩
theorem hiW_bits {X : Nat} {n : Nat} (h : ∀ i, i < 64 → X.testBit (64 + i) = n.testBit i) (hn : n < 2 ^ 64) : hiW X = (n : Int) := by
  unfold hiW
  congr 1
  apply Nat.eq_of_testBit_eq
  intro i
  rw [Nat.testBit_mod_two_pow, Nat.testBit_div_two_pow]
  by_cases hi : i < 64
  · simp [hi, Nat.add_comm i, h i hi]
  · simp [hi]
    exact Nat.testBit_lt_two_pow (Nat.lt_of_lt_of_le hn (Nat.pow_le_pow_right (by decide) (show 64 ≤ i by omega)))
theorem loW_bits {X : Nat} {n : Nat} (h : ∀ i, i < 64 → X.testBit i = n.testBit i) (hn : n < 2 ^ 64) : loW X = (n : Int) := by
  unfold loW
  congr 1
  apply Nat.eq_of_testBit_eq
  intro i
  rw [Nat.testBit_mod_two_pow]
  by_cases hi : i < 64
  · simp [hi, h i hi]
  · simp [hi]
    exact Nat.testBit_lt_two_pow (Nat.lt_of_lt_of_le hn (Nat.pow_le_pow_right (by decide) (show 64 ≤ i by omega)))
theorem hiW_tb (X i : Nat) : (X / 2 ^ 64 % 2 ^ 64).testBit i = (decide (i < 64) && X.testBit (i + 64)) := by
  rw [Nat.testBit_mod_two_pow, Nat.testBit_div_two_pow]
theorem loW_tb (X i : Nat) : (X % 2 ^ 64).testBit i = (decide (i < 64) && X.testBit i) := by
  rw [Nat.testBit_mod_two_pow]
theorem word_Or_eq (X Y : Nat) : word_Or.f (hiW X) (loW X) (hiW Y) (loW Y) = some (hiW (X ||| Y), loW (X ||| Y)) := by
  unfold word_Or.f hiW loW
  rw [u64_or_nat _ _ (Nat.mod_lt _ (by decide)) (Nat.mod_lt _ (by decide)), u64_or_nat _ _ (Nat.mod_lt _ (by decide)) (Nat.mod_lt _ (by decide))]
  congr 4
  · apply Nat.eq_of_testBit_eq; intro i
    rw [Nat.testBit_or, hiW_tb, hiW_tb, hiW_tb, Nat.testBit_or]
    cases decide (i < 64) <;> simp
  · apply Nat.eq_of_testBit_eq; intro i
    rw [Nat.testBit_or, loW_tb, loW_tb, loW_tb, Nat.testBit_or]
    cases decide (i < 64) <;> simp
theorem word_And_eq (X Y : Nat) : word_And.f (hiW X) (loW X) (hiW Y) (loW Y) = some (hiW (X &&& Y), loW (X &&& Y)) := by
  unfold word_And.f hiW loW
  rw [u64_and_nat _ _ (Nat.mod_lt _ (by decide)) (Nat.mod_lt _ (by decide)), u64_and_nat _ _ (Nat.mod_lt _ (by decide)) (Nat.mod_lt _ (by decide))]
  congr 4
  · apply Nat.eq_of_testBit_eq; intro i
    rw [Nat.testBit_and, hiW_tb, hiW_tb, hiW_tb, Nat.testBit_and]
    cases decide (i < 64) <;> simp
  · apply Nat.eq_of_testBit_eq; intro i
    rw [Nat.testBit_and, loW_tb, loW_tb, loW_tb, Nat.testBit_and]
    cases decide (i < 64) <;> simp
theorem shl_nat (x n : Nat) (hn : n ≤ 64) : shl .u64 (x : Int) (n : Int) = ((x * 2 ^ n % 2 ^ 64 : Nat) : Int) := by
  unfold shl
  rw [show IntKind.u64.bits = 64 from rfl, IntKind.wrap_u64, show min (n : Int).toNat 64 = n by omega]
  rw [Int.natCast_emod, Int.natCast_mul, Int.natCast_pow]
  rfl
theorem shr_nat (x n : Nat) (hn : n ≤ 64) : shr .u64 (x : Int) (n : Int) = ((x / 2 ^ n : Nat) : Int) := by
  unfold shr
  rw [show IntKind.u64.bits = 64 from rfl, show min (n : Int).toNat 64 = n by omega, Int.natCast_ediv, Int.natCast_pow]
  rfl
theorem tb_shl (x n i : Nat) : (x * 2 ^ n).testBit i = (decide (n ≤ i) && x.testBit (i - n)) := by
  rw [← Nat.shiftLeft_eq, Nat.testBit_shiftLeft]
theorem tb_shr (x n i : Nat) : (x / 2 ^ n).testBit i = x.testBit (i + n) := Nat.testBit_div_two_pow ..
theorem wrap64_id (n : Int) (h : -9223372036854775808 ≤ n) (h2 : n ≤ 9223372036854775807) : wrap64 n = n := by unfold wrap64; omega
theorem tb_hi {X : Nat} (h : X < 2 ^ 128) (i : Nat) (hi : 128 ≤ i) : X.testBit i = false :=
  Nat.testBit_lt_two_pow (Nat.lt_of_lt_of_le h (Nat.pow_le_pow_right (by decide) hi))
/-- A word moved up by less than its width. -/
theorem word_Shl_pos (k : Nat) (X n : Nat) (hn : n < 128) : word_Shl.f (k + 1) (hiW X) (loW X) (n : Int) = some (hiW (X * 2 ^ n), loW (X * 2 ^ n)) := by
  unfold word_Shl.f
  rw [if_neg (by omega), decide_eq_false (by omega)]
  simp only [word_Shl.j0]
  rw [if_neg (by simp), if_neg (by omega)]
  by_cases h0 : n = 0
  · subst h0; simp
  rw [if_neg (by omega)]
  by_cases h1 : 64 ≤ n
  · rw [if_pos (by omega), wrap64_id _ (by omega) (by omega), if_pos (by omega)]
    congr 2
    · rw [show (n : Int) - 64 = ((n - 64 : Nat) : Int) by omega]
      unfold loW
      rw [shl_nat _ _ (by omega)]
      refine (hiW_bits (fun i hi => ?_) (Nat.mod_lt _ (by decide))).symm
      rw [Nat.testBit_mod_two_pow, tb_shl, tb_shl, Nat.testBit_mod_two_pow]
      rw [show 64 + i - n = i - (n - 64) by omega]
      by_cases h : n - 64 ≤ i
      · simp [hi, h, show n ≤ 64 + i by omega, show i - (n - 64) < 64 by omega]
      · simp [h, show ¬ n ≤ 64 + i by omega]
    · refine (loW_bits (n := 0) (fun i hi => ?_) (by decide)).symm
      rw [tb_shl]
      simp; omega
  · rw [if_neg (by omega), if_pos (by omega), wrap64_id _ (by omega) (by omega), if_pos (by omega)]
    rw [show (64 : Int) - n = ((64 - n : Nat) : Int) by omega]
    congr 2
    · unfold hiW loW
      rw [shl_nat _ _ (by omega), shr_nat _ _ (by omega), u64_or_nat _ _ (Nat.mod_lt _ (by decide)) (Nat.lt_of_le_of_lt (Nat.div_le_self _ _) (Nat.mod_lt _ (by decide)))]
      congr 1
      simp only [show (18446744073709551616 : Nat) = 2 ^ 64 from rfl]
      apply Nat.eq_of_testBit_eq; intro i
      rw [Nat.testBit_or, Nat.testBit_mod_two_pow, tb_shl, tb_shr, hiW_tb, loW_tb, hiW_tb, tb_shl]
      by_cases hi : i < 64
      · by_cases h : n ≤ i
        · simp [hi, h, show n ≤ i + 64 by omega, show i - n < 64 by omega, show ¬ (i + (64 - n) < 64) by omega, show i + 64 - n = i - n + 64 by omega]
        · simp [hi, h, show n ≤ i + 64 by omega, show (i + (64 - n) < 64) by omega, show i + 64 - n = i + (64 - n) by omega]
      · simp [hi]; omega
    · unfold loW
      rw [shl_nat _ _ (by omega)]
      congr 1
      apply Nat.eq_of_testBit_eq; intro i
      rw [Nat.testBit_mod_two_pow, tb_shl, loW_tb, loW_tb, tb_shl]
      by_cases hi : i < 64
      · simp [hi, show i - n < 64 by omega]
      · simp [hi]
/-- A word moved down by less than its width. -/
theorem word_Shr_pos (k : Nat) (X n : Nat) (hX : X < 2 ^ 128) (hn : n < 128) : word_Shr.f (k + 1) (hiW X) (loW X) (n : Int) = some (hiW (X / 2 ^ n), loW (X / 2 ^ n)) := by
  unfold word_Shr.f
  rw [if_neg (by omega), decide_eq_false (by omega)]
  simp only [word_Shr.j0]
  rw [if_neg (by simp), if_neg (by omega)]
  by_cases h0 : n = 0
  · subst h0; simp
  rw [if_neg (by omega)]
  by_cases h1 : 64 ≤ n
  · rw [if_pos (by omega), wrap64_id _ (by omega) (by omega), if_pos (by omega)]
    congr 2
    · refine (hiW_bits (n := 0) (fun i hi => ?_) (by decide)).symm
      rw [tb_shr, tb_hi hX _ (by omega)]; simp
    · rw [show (n : Int) - 64 = ((n - 64 : Nat) : Int) by omega]
      unfold hiW
      rw [shr_nat _ _ (by omega)]
      refine (loW_bits (fun i hi => ?_) (Nat.lt_of_le_of_lt (Nat.div_le_self _ _) (Nat.mod_lt _ (by decide)))).symm
      rw [tb_shr, tb_shr, hiW_tb]
      by_cases h : i + (n - 64) < 64
      · simp [h, show i + (n - 64) + 64 = i + n by omega]
      · simp [h]; exact tb_hi hX _ (by omega)
  · rw [if_neg (by omega), if_pos (by omega), wrap64_id _ (by omega) (by omega), if_pos (by omega)]
    rw [show (64 : Int) - n = ((64 - n : Nat) : Int) by omega]
    congr 2
    · unfold hiW
      rw [shr_nat _ _ (by omega)]
      refine (hiW_bits (fun i hi => ?_) (Nat.lt_of_le_of_lt (Nat.div_le_self _ _) (Nat.mod_lt _ (by decide)))).symm
      rw [tb_shr, tb_shr, hiW_tb]
      by_cases h : i + n < 64
      · simp [h, show i + n + 64 = 64 + i + n by omega]
      · simp [h]; exact tb_hi hX _ (by omega)
    · unfold hiW loW
      rw [shl_nat _ _ (by omega), shr_nat _ _ (by omega), u64_or_nat _ _ (Nat.lt_of_le_of_lt (Nat.div_le_self _ _) (Nat.mod_lt _ (by decide))) (Nat.mod_lt _ (by decide))]
      congr 1
      simp only [show (18446744073709551616 : Nat) = 2 ^ 64 from rfl]
      apply Nat.eq_of_testBit_eq; intro i
      rw [Nat.testBit_or, Nat.testBit_mod_two_pow, tb_shl, tb_shr, hiW_tb, loW_tb, loW_tb, tb_shr]
      by_cases hi : i < 64
      · by_cases h : i + n < 64
        · simp [hi, h, show ¬ (64 - n ≤ i) by omega]
        · simp [hi, h, show (64 - n ≤ i) by omega, show i - (64 - n) < 64 by omega, show i - (64 - n) + 64 = i + n by omega]
      · simp [hi]; omega
theorem word_Shl_big (k : Nat) (h l n : Int) (hn : n ≤ -128 ∨ 128 ≤ n) : word_Shl.f (k + 1) h l n = some (0, 0) := by
  unfold word_Shl.f
  rcases hn with hn | hn
  · rw [if_pos hn]; simp only [word_Shl.j0, if_true]
  · rw [if_neg (by omega), decide_eq_true (by omega)]; simp only [word_Shl.j0, if_true]
theorem word_Shr_big (k : Nat) (h l n : Int) (hn : n ≤ -128 ∨ 128 ≤ n) : word_Shr.f (k + 1) h l n = some (0, 0) := by
  unfold word_Shr.f
  rcases hn with hn | hn
  · rw [if_pos hn]; simp only [word_Shr.j0, if_true]
  · rw [if_neg (by omega), decide_eq_true (by omega)]; simp only [word_Shr.j0, if_true]
theorem hiW_zero : hiW 0 = 0 := rfl
theorem loW_zero : loW 0 = 0 := rfl
theorem hiW_one : hiW 1 = 0 := rfl
theorem loW_one : loW 1 = 1 := rfl
theorem tb_ones (n i : Nat) : (2 ^ n - 1).testBit i = decide (i < n) := Nat.testBit_two_pow_sub_one ..
theorem sub_one_hl (n : Nat) (h0 : 0 < n) (hn : n < 128) : word_Sub.f (hiW (2 ^ n)) (loW (2 ^ n)) 0 1 = some (hiW (2 ^ n - 1), loW (2 ^ n - 1), false) := by
  unfold word_Sub.f sbD sbB hiW loW
  have hp : 1 < 2 ^ n := Nat.one_lt_two_pow (by omega)
  have hp2 : 2 ^ n < 2 ^ 128 := Nat.pow_lt_pow_right (by decide) hn
  generalize 2 ^ n = p at *
  have e1 : ((0 : Int).toNat) = 0 := rfl
  have e2 : ((1 : Int).toNat) = 1 := rfl
  simp only [Int.toNat_natCast, e1, e2, Nat.add_zero]
  refine congrArg some ?_
  by_cases h : p % 2 ^ 64 < 1
  · rw [if_pos h]
    have g : ¬ (p / 2 ^ 64 % 2 ^ 64 < 0 + 1) := by omega
    rw [if_neg g]
    refine Prod.ext (congrArg Nat.cast ?_) (Prod.ext (congrArg Nat.cast ?_) rfl)
    · omega
    · omega
  · rw [if_neg h]
    have g : ¬ (p / 2 ^ 64 % 2 ^ 64 < 0 + 0) := by omega
    rw [if_neg g]
    refine Prod.ext (congrArg Nat.cast ?_) (Prod.ext (congrArg Nat.cast ?_) rfl)
    · omega
    · omega
theorem word_Not_zero : word_Not.f 0 0 = some (hiW (2 ^ 128 - 1), loW (2 ^ 128 - 1)) := by decide
/-- The mask of n bits. -/
theorem word_Ones_eq (k n : Nat) : word_Ones.f (k + 1) (n : Int) = some (hiW (2 ^ min n 128 - 1), loW (2 ^ min n 128 - 1)) := by
  unfold word_Ones.f
  by_cases h0 : n = 0
  · subst h0; rw [if_pos (by omega)]; rfl
  rw [if_neg (by omega)]
  by_cases h1 : 128 ≤ n
  · rw [if_pos (by omega), word_Not_zero, show min n 128 = 128 by omega]; rfl
  · rw [if_neg (by omega)]
    have := word_Shl_pos k 1 n (by omega)
    rw [hiW_one, loW_one, Nat.one_mul] at this
    rw [this, Option.bind_some, sub_one_hl n (by omega) (by omega), show min n 128 = n by omega]; rfl
/-- The lowest bits of a word. -/
theorem vec_Cut_eq (k : Nat) (w : Int) (X : Nat) : vec_Cut.f (k + 1) w (hiW X) (loW X) = if 1 ≤ w ∧ w ≤ 128 then some (w, hiW (X % 2 ^ w.toNat), loW (X % 2 ^ w.toNat), 0) else some (0, 0, 0, 9) := by
  unfold vec_Cut.f vec_width.f
  by_cases h1 : 1 ≤ w
  · rw [if_pos (by omega), Option.bind_some]
    by_cases h2 : w ≤ 128
    · obtain ⟨n, rfl⟩ : ∃ n : Nat, w = n := ⟨w.toNat, by omega⟩
      rw [if_pos (by simpa using h2), if_pos ⟨h1, h2⟩, word_Ones_eq, Option.bind_some, word_And_eq, Option.bind_some]
      unfold vec_row.f
      rw [Option.bind_some]
      rw [show min n 128 = n by omega, show X &&& (2 ^ n - 1) = X % 2 ^ n from Nat.and_two_pow_sub_one_eq_mod ..]
      rfl
    · rw [if_neg (by simpa using h2), if_neg (by omega)]
  · rw [if_neg (by omega), Option.bind_some, if_neg (by simp), if_neg (by omega)]

/-! ### shunterref03_Bits: function 36 -/
-- EXT shunter/shunterref03.Bits ROUNDS=0 MAKING=1
/-- The bit at place p of bytes, the first one highest. -/
def bitOf (l : List Int) (p : Nat) : Bool := (rd l (p / 8 : Nat)).toNat.testBit (7 - p % 8)
def okBytes (l : List Int) : Prop := (∀ b ∈ l, 0 ≤ b ∧ b < 256) ∧ l.length < 17592186044416
instance (l : List Int) : Decidable (okBytes l) := by unfold okBytes; infer_instance
theorem rd_byte {l : List Int} (h : okBytes l) (i : Nat) (hi : i < l.length) : 0 ≤ rd l i ∧ rd l i < 256 := by
  refine h.1 _ ?_
  simp [rd, List.getD_eq_getElem?_getD, hi]
theorem bit_top (b m : Nat) : decide (2 ^ m ≤ b % 2 ^ (m + 1)) = b.testBit m := by
  rw [Nat.testBit_eq_decide_div_mod_eq, Nat.pow_succ, Nat.mod_mul]
  have h1 := Nat.mod_lt b (Nat.two_pow_pos m)
  have h2 : b / 2 ^ m % 2 < 2 := Nat.mod_lt _ (by decide)
  congr 1
  rw [eq_iff_iff]
  rcases (by omega : b / 2 ^ m % 2 = 0 ∨ b / 2 ^ m % 2 = 1) with h | h <;> rw [h]
  · simp; exact h1
  · simp
theorem mod_top (b m : Nat) : (if 2 ^ m ≤ b % 2 ^ (m + 1) then b % 2 ^ (m + 1) - 2 ^ m else b % 2 ^ (m + 1)) = b % 2 ^ m := by
  rw [Nat.pow_succ, Nat.mod_mul]
  have h1 := Nat.mod_lt b (Nat.two_pow_pos m)
  rcases (by omega : b / 2 ^ m % 2 = 0 ∨ b / 2 ^ m % 2 = 1) with h | h <;> rw [h]
  · rw [if_neg (by omega)]; omega
  · rw [if_pos (by omega)]; omega
theorem bitOf_at {l : List Int} {i m b : Nat} (hb : rd l i = (b : Int)) (hm : m < 8) : bitOf l (8 * i + (7 - m)) = b.testBit m := by
  unfold bitOf
  rw [show (8 * i + (7 - m)) / 8 = i by omega, show 7 - (8 * i + (7 - m)) % 8 = m by omega, hb, Int.toNat_natCast]
def shunterref03_Bits.f (l : List Int) : Option (List Bool) := if okBytes l then some ((List.range (8 * l.length)).map (bitOf l)) else none
theorem bInfo : (Try.prog.info? 4).map (fun i => (i.zero, i.size, i.bytes)) = some (some (.bool false), 1, 1) := by kernel_rfl
set_option maxHeartbeats 400000 in
set_option maxRecDepth 100000 in
theorem shunterref03_Bits.calls (A0 : Option Addr) (c0 : Nat) (l0 : List Int) (r : List Bool) (w : World) (hr0 : Kd.C (Kd.int .u8) w A0 l0.length l0) (hc0 : l0.length ≤ c0) (h : shunterref03_Bits.f l0 = some r) :
    Calls Try.prog 36 #[.slice A0 l0.length c0] w fun e w' => ∃ v0_ : Value, e = .returned (v0_) ∧ Kd.R Kd.bool 4 w' w.heap.size (fun _ => True) v0_ r ∧ Below w.heap.size w w' := by
  unfold shunterref03_Bits.f at h
  split at h
  case isFalse => cases h
  rename_i hok
  obtain rfl := Option.some.inj h
  clear h
  have HR0 := Aside0.mk hr0
  have HC0 := Aside0.mk hc0
  have HOK := Aside0.mk hok
  have hlen : l0.length < 17592186044416 := hok.2
  clear hr0 hc0 hok
  go_enter Try.func36, Try.ntmps36
  go_wp2
  go_loopw [3, 4] (fun v3 v4 w' => ∃ i : Nat, i ≤ l0.length ∧ v4 = .int .i64 i ∧ Aside0 (Kd.R Kd.bool 4 w' w.heap.size (fun _ => True) v3 ((List.range (8 * i)).map (bitOf l0))) ∧ Aside0 (Below w.heap.size w w')) (fun _ v4 _ => (l0.length - intOf v4).toNat)
  case atStart => exact ⟨0, by omega, rfl, ⟨Kd.R_nil _ _ _ _ _⟩, ⟨Below.refl _ _⟩⟩
  case round =>
    obtain ⟨i, hi, rfl, HR, HB⟩ := hrel
    by_cases hlt : i < l0.length
    · have p1 : 0 ≤ (i : Int) := by omega
      have q1 : (i : Int) < (l0.length : Int) := by omega
      obtain ⟨ad, ead, hx⟩ := Kd.at_int HR0.out i p1 q1
      cases ead
      replace hx := (HB.out.cell (World.block_lt_of_cell? w _ hx)).trans hx
      rw [Int.toNat_natCast] at hx
      obtain ⟨b, hb⟩ : ∃ b : Nat, rd l0 i = (b : Int) := ⟨(rd l0 i).toNat, by have := (rd_byte HOK.out i hlt).1; omega⟩
      have hb2 : b < 256 := by have := (rd_byte HOK.out i hlt).2; omega
      rw [hb] at hx
      have HBb := Aside0.mk hb
      clear hb
      go_wp2
      go_loopw [3, 5, 6] (fun v3 v5 v6 w' => ∃ j : Nat, j ≤ 8 ∧ v6 = .int .i64 ((2 ^ j / 2 : Nat)) ∧ v5 = .int .i64 ((b % 2 ^ j : Nat)) ∧ Aside0 (Kd.R Kd.bool 4 w' w.heap.size (fun _ => True) v3 ((List.range (8 * i + (8 - j))).map (bitOf l0))) ∧ Aside0 (Below w.heap.size w w')) (fun _ _ v6 _ => (intOf v6).toNat)
      case atStart => exact ⟨8, by omega, rfl, by congr 1; rw [Nat.mod_eq_of_lt hb2], by simpa using HR, HB⟩
      case round =>
        obtain ⟨j, hj, rfl, rfl, HR, HB⟩ := hrel
        cases j with
        | zero =>
          rw [show (2 ^ 0 / 2 : Nat) = 0 from rfl]
          go_wp2
          go_roundw
          case measure => simp [intOf] <;> omega
          case rel => exact ⟨i + 1, by omega, by go_num, ⟨by rw [Nat.mul_add]; exact HR.out⟩, HB⟩
        | succ m =>
          rw [show (2 ^ (m + 1) / 2 : Nat) = 2 ^ m by rw [Nat.pow_succ]; omega]
          have hm : m < 8 := by omega
          have hp1 : 1 ≤ 2 ^ m := Nat.one_le_two_pow
          have hp2 : 2 ^ m ≤ 128 := by have := Nat.pow_le_pow_right (show 0 < 2 by decide) (show m ≤ 7 by omega); omega
          have hq : b % 2 ^ (m + 1) < 256 := Nat.lt_of_le_of_lt (Nat.mod_le _ _) hb2
          have HM := Aside0.mk (mod_top b m)
          have HT := Aside0.mk (bit_top b m)
          obtain ⟨P, hP⟩ : ∃ P, 2 ^ m = P := ⟨_, rfl⟩
          obtain ⟨q, hQ⟩ : ∃ q, b % 2 ^ (m + 1) = q := ⟨_, rfl⟩
          rw [hP, hQ] at HM HT
          rw [hP] at hp1 hp2
          rw [hQ] at hq
          rw [hP, hQ]
          have hP := Aside0.mk hP
          have hQ := Aside0.mk hQ
          have HS : ∀ (b' : Bool), b.testBit m = b' → (List.range (8 * i + (8 - m))).map (bitOf l0) = (List.range (8 * i + (8 - (m + 1)))).map (bitOf l0) ++ [b'] := by
            intro b' hb'
            rw [show 8 * i + (8 - m) = 8 * i + (7 - m) + 1 by omega, List.range_succ, List.map_append, show 8 - (m + 1) = 7 - m by omega, List.map_singleton, bitOf_at HBb.out hm, hb']
          replace HS := Aside0.mk HS
          have HKK : Aside0 ((P : Int) / 2 = ((2 ^ m / 2 : Nat) : Int)) := ⟨by rw [hP.out]; omega⟩
          by_cases hc : P ≤ q
          · have hd := decide_eq_true hc
            rw [hd] at HT
            rw [if_pos hc] at HM
            go_wp2_with (first | ((with_reducible refine gate_builtin (b := .append) (xs := #[.tmp 22, .tmp 26]) rfl ?_); at_builtin; refine Kd.R_append Kd.bool (w0 := w) w.heap.size rfl (.tmp 22) (.tmp 26) 54 4 (.bool false) 1 rfl Try.underlying54 bInfo rfl (by decide) (by omega) u3 ((List.range (8 * i + (8 - (m + 1)))).map (bitOf l0)) true [.bool true] (fun _ => True) (fun _ => False) rfl rfl ?aP (fun _ hk => hk.elim) ?aF ?aO ?aB ?aS ?aL ?_; (case aP => exact rfl); (case aB => exact HB.out); (case aF => exact fun _ _ => trivial); (case aO => exact HR.out); (case aS => exact below_size HB.out); (case aL => simp; omega); intro v7 w7 ho hb7 hg hat; have HR7 := Aside0.mk ho; have HB7 := Aside0.mk hb7; clear ho hb7 hg hat))
            go_roundw
            case measure => simp [intOf] <;> omega
            case rel =>
              refine ⟨m, by omega, ?_, ?_, ⟨by rw [HS.out true HT.out.symm]; exact HR7.out⟩, HB7⟩
              · rw [← HKK.out]
              · rw [hP.out, ← HM.out]; congr 1; omega
          · have hd := decide_eq_false hc
            rw [hd] at HT
            rw [if_neg hc] at HM
            go_wp2_with (first | ((with_reducible refine gate_builtin (b := .append) (xs := #[.tmp 22, .tmp 26]) rfl ?_); at_builtin; refine Kd.R_append Kd.bool (w0 := w) w.heap.size rfl (.tmp 22) (.tmp 26) 54 4 (.bool false) 1 rfl Try.underlying54 bInfo rfl (by decide) (by omega) u3 ((List.range (8 * i + (8 - (m + 1)))).map (bitOf l0)) false [.bool false] (fun _ => True) (fun _ => False) rfl rfl ?aP (fun _ hk => hk.elim) ?aF ?aO ?aB ?aS ?aL ?_; (case aP => exact rfl); (case aB => exact HB.out); (case aF => exact fun _ _ => trivial); (case aO => exact HR.out); (case aS => exact below_size HB.out); (case aL => simp; omega); intro v7 w7 ho hb7 hg hat; have HR7 := Aside0.mk ho; have HB7 := Aside0.mk hb7; clear ho hb7 hg hat))
            go_roundw
            case measure => simp [intOf] <;> omega
            case rel =>
              refine ⟨m, by omega, ?_, ?_, ⟨by rw [HS.out false HT.out.symm]; exact HR7.out⟩, HB7⟩
              · rw [← HKK.out]
              · rw [hP.out, ← HM.out]
    · obtain rfl : i = l0.length := by omega
      go_wp2
      go_ret
      exact ⟨_, rfl, HR.out, HB.out⟩

/-! ### bits_Get: function 16 -/
-- EXT shunter/bits.Get ROUNDS=0 MAKING=1 DEPS=shunter/bits.width;shunter/bits.within;shunter/word.Or;shunter/word.Shl;shunter/word.Shr;shunter/vec.Cut;shunter/shunterref03.Bits
/-- The number of n bits, the lowest first. -/
def ofB (f : Nat → Bool) : Nat → Nat
  | 0 => 0
  | n + 1 => ofB f n + if f n then 2 ^ n else 0
theorem ofB_lt (f : Nat → Bool) : ∀ n, ofB f n < 2 ^ n
  | 0 => by simp [ofB]
  | n + 1 => by have := ofB_lt f n; simp only [ofB, Nat.pow_succ]; split <;> omega
theorem tb_ofB (f : Nat → Bool) (i : Nat) : ∀ n, (ofB f n).testBit i = (decide (i < n) && f i)
  | 0 => by simp [ofB]
  | n + 1 => by
    have ih := tb_ofB f i n
    have hl := ofB_lt f n
    simp only [ofB]
    split
    · rename_i h
      rw [Nat.add_comm, ← Nat.mul_one (2 ^ n), Nat.two_pow_add_eq_or_of_lt hl, Nat.testBit_or, Nat.mul_one, Nat.testBit_two_pow, ih]
      by_cases h1 : i = n
      · subst h1; simp [h]
      · rw [decide_eq_false (fun e => h1 e.symm)]
        rw [Bool.eq_iff_iff]; simp; omega
    · rename_i h
      rw [Nat.add_zero, ih]
      by_cases h1 : i = n
      · subst h1; simp [h]
      · rw [Bool.eq_iff_iff]; simp; omega
theorem zpos {l : List Int} (hok : okBytes l) {i : Nat} (hi : i < l.length) : ∃ b : Nat, rd l i = (b : Int) ∧ b < 256 := by
  have := rd_byte hok i hi
  exact ⟨(rd l i).toNat, by omega, by omega⟩
theorem tb_byte {b i : Nat} (hb : b < 256) (hi : 8 ≤ i) : b.testBit i = false :=
  Nat.testBit_lt_two_pow (Nat.lt_of_lt_of_le hb (show 2 ^ 8 ≤ 2 ^ i from Nat.pow_le_pow_right (by decide) hi))
/-- One byte more. -/
theorem get_step {l : List Int} {f j b X : Nat} (hb : rd l (f + j : Nat) = (b : Int)) (hb2 : b < 256) (hX : ∀ i, i < 128 → X.testBit i = (decide (i < 8 * j) && bitOf l (8 * (f + j) - 1 - i))) :
    ∀ i, i < 128 → ((X * 2 ^ 8 ||| b) % 2 ^ 128).testBit i = (decide (i < 8 * (j + 1)) && bitOf l (8 * (f + (j + 1)) - 1 - i)) := by
  intro i hi
  rw [Nat.testBit_mod_two_pow, decide_eq_true hi, Bool.true_and, Nat.testBit_or, tb_shl]
  by_cases h8 : i < 8
  · rw [decide_eq_false (by omega), decide_eq_true (show i < 8 * (j + 1) by omega), Bool.false_and, Bool.false_or, Bool.true_and]
    unfold bitOf
    rw [show (8 * (f + (j + 1)) - 1 - i) / 8 = f + j by omega, hb, Int.toNat_natCast, show 7 - (8 * (f + (j + 1)) - 1 - i) % 8 = i by omega]
  · rw [decide_eq_true (by omega), Bool.true_and, tb_byte hb2 (by omega), Bool.or_false, hX _ (by omega)]
    rw [show 8 * (f + j) - 1 - (i - 8) = 8 * (f + (j + 1)) - 1 - i by omega]
    congr 1
    rw [Bool.eq_iff_iff]; simp; omega
theorem hiW_small {b : Nat} (h : b < 18446744073709551616) : hiW b = 0 := by unfold hiW; omega
theorem loW_small {b : Nat} (h : b < 18446744073709551616) : loW b = (b : Int) := by unfold loW; omega
def GS (w : World) (X : Nat) (ad : Addr) (L b : Nat) (w' : World) : Prop :=
  w'.heap[w.heap.size + 1]? = some (.cells #[.int .u64 (hiW X), .int .u64 (loW X)] 83 (0, 0)) ∧ w'.heap[w.heap.size]? = some (.cells #[.int .i64 0, .int .u64 0, .int .u64 0] 26 (0, 0)) ∧ w'.cell? (ad.add L) = some (.int .u8 b) ∧ Below w.heap.size w w'
theorem GS.all {w : World} {X : Nat} {ad : Addr} {L b : Nat} {w' : World} (h : GS w X ad L b w') :
    w'.cell? ⟨w.heap.size + 1, 0, none⟩ = some (.int .u64 (hiW X)) ∧ w'.cell? ⟨w.heap.size + 1, 1, none⟩ = some (.int .u64 (loW X)) ∧ w'.cell? (ad.add L) = some (.int .u8 b) ∧ w'.frozen? ⟨w.heap.size + 1, 0, none⟩ = false ∧ w'.frozen? ⟨w.heap.size + 1, 1, none⟩ = false ∧ Aside0 (GS w X ad L b w') :=
  ⟨blk_cell h.1 0, blk_cell h.1 1, h.2.2.1, blk_frozen h.1 0, blk_frozen h.1 1, ⟨h⟩⟩
theorem GS.drew {w : World} {X : Nat} {ad : Addr} {L b : Nat} {w' : World} (h : GS w X ad L b w') : GS w X ad L b w'.drew := ⟨h.1, h.2.1, h.2.2.1, h.2.2.2.drew⟩
theorem GS.step {w : World} {X : Nat} {ad : Addr} {L b : Nat} {w' w'' : World} (h : GS w X ad L b w') (hb : Below w'.heap.size w' w'') : GS w X ad L b w'' :=
  ⟨blk_below h.1 hb, blk_below h.2.1 hb, pw_cell_below hb h.2.2.1, below_step h.2.2.2 hb⟩
/-- The last byte. -/
theorem get_end {l : List Int} {at_ wd b X T : Nat} (hb : rd l ((at_ + wd - 1) / 8 : Nat) = (b : Int)) (hb2 : b < 256) (hT : (at_ + wd - 1) % 8 + 1 = T) (hw : wd ≤ 128)
    (hX : ∀ i, i < 128 → X.testBit i = (decide (i < 8 * ((at_ + wd - 1) / 8 - at_ / 8)) && bitOf l (8 * (at_ / 8 + ((at_ + wd - 1) / 8 - at_ / 8)) - 1 - i))) :
    (X * 2 ^ T ||| b / 2 ^ (8 - T)) % 2 ^ wd = ofB (fun i => bitOf l (at_ + wd - 1 - i)) wd := by
  apply Nat.eq_of_testBit_eq
  intro i
  rw [Nat.testBit_mod_two_pow, tb_ofB, Nat.testBit_or, tb_shl, tb_shr]
  by_cases hi : i < wd
  · rw [decide_eq_true hi, Bool.true_and, Bool.true_and]
    by_cases h8 : i < T
    · rw [decide_eq_false (by omega), Bool.false_and, Bool.false_or]
      unfold bitOf
      rw [show (at_ + wd - 1 - i) / 8 = (at_ + wd - 1) / 8 by omega, hb, Int.toNat_natCast, show 7 - (at_ + wd - 1 - i) % 8 = i + (8 - T) by omega]
    · rw [decide_eq_true (by omega), Bool.true_and, tb_byte hb2 (by omega), Bool.or_false, hX _ (by omega), decide_eq_true (by omega), Bool.true_and]
      congr 1
      omega
  · rw [decide_eq_false hi, Bool.false_and, Bool.false_and]
def xGet.T13 : Bool × List (List Nat × List Nat) := (true, [([], []), ([], []), ([0, 1], [0, 1]), ([], []), ([], []), ([3, 4], [3, 4]), ([5], [5]), ([6], [6]), ([], []), ([8], [8]), ([7, 9], [7, 9]), ([10], [10]), ([2, 11, 2], [2, 11]), ([12, 12, 0, 1, 2, 3, 4, 5, 6, 7, 8, 9, 10, 11, 12], [12])])
def xGet.B13 : List Nat := [0, 0, 3, 0, 0, 24, 56, 120, 0, 256, 1016, 2040, 4095, 8191]
theorem xGet.tab13 : rtab .any (opsOf Try.f16 13) = xGet.T13 := by kernel_rfl
theorem xGet.bits13 : waitsOk xGet.T13.2 xGet.B13 = true := by kernel_rfl
set_option maxHeartbeats 400000 in
set_option maxRecDepth 100000 in
theorem bits_Get.inside (A0 : Option Addr) (c0 : Nat) (l0 : List Int) (at_ wd : Nat) (w : World) (hr0 : Kd.C (Kd.int .u8) w A0 l0.length l0) (hc0 : l0.length ≤ c0) (hok : okBytes l0) (h1 : 1 ≤ wd) (h2 : wd ≤ 128) (h3 : at_ + wd ≤ 8 * l0.length) :
    Calls Try.prog 16 #[.slice A0 l0.length c0, .int .i64 at_, .int .i64 wd] w fun e w' => e = .returned (.tuple #[.agg #[.int .i64 wd, .int .u64 (hiW (ofB (fun i => bitOf l0 (at_ + wd - 1 - i)) wd)), .int .u64 (loW (ofB (fun i => bitOf l0 (at_ + wd - 1 - i)) wd))], .int .i64 0]) ∧ Below w.heap.size w w' := by
  have HR0 := Aside0.mk hr0
  have HOK := Aside0.mk hok
  have hlen : l0.length < 17592186044416 := hok.2
  have HW : Aside0 (bits_width.f (wd : Int) = some true) := ⟨by unfold bits_width.f; rw [if_pos (by omega), decide_eq_true (by omega)]⟩
  have HI : Aside0 (bits_within.f l0 at_ wd = some true) := ⟨by unfold bits_within.f; rw [if_pos (by omega), wrap64_id _ (by omega) (by omega), if_pos (by omega), wrap64_id _ (by omega) (by omega), decide_eq_true (by omega)]⟩
  have HC0 := Aside0.mk hc0
  clear hr0 hok
  obtain ⟨ad, rfl⟩ : ∃ ad, A0 = some ad := by
    obtain ⟨ad, h, _⟩ := Kd.at_int HR0.out 0 (by omega) (by omega)
    exact ⟨ad, h⟩
  go_enter Try.func16, Try.ntmps16
  go_wp2_with (first | (go_at_call 57; refine (bits_width.calls _ _ _ HW.out).mono ?_; rintro e w1 ⟨rfl, ⟨n1, rfl⟩⟩) | (go_at_call 58; refine (bits_within.calls _ _ _ _ _ _ _ (Kd.C_below HR0.out (by repeat (first | (with_reducible exact Below.refl _ _) | apply below_alloc | apply pw_below_drewN))) HC0.out HI.out).mono ?_; rintro e w1 ⟨rfl, ⟨n2, rfl⟩⟩))
  go_loopw [38] (fun v38 w' => ∃ (j X : Nat), j ≤ (at_ + wd - 1) / 8 - at_ / 8 ∧ v38 = .int .i64 j ∧ Aside0 (∀ i, i < 128 → X.testBit i = (decide (i < 8 * j) && bitOf l0 (8 * (at_ / 8 + j) - 1 - i))) ∧ Aside0 (w'.heap[w.heap.size + 1]? = some (.cells #[.int .u64 (hiW X), .int .u64 (loW X)] 83 (0, 0))) ∧ Aside0 (w'.heap[w.heap.size]? = some (.cells #[.int .i64 0, .int .u64 0, .int .u64 0] 26 (0, 0))) ∧ Aside0 (Below w.heap.size w w')) (fun v38 _ => (l0.length - intOf v38).toNat)
  case atStart =>
    refine ⟨0, 0, by omega, rfl, ⟨fun i _ => by simp⟩, ⟨?_⟩, ⟨?_⟩, ⟨?_⟩⟩
    · have := blk_new ((w.alloc (.cells #[.int .i64 0, .int .u64 0, .int .u64 0] 26 (0, 0))).drewN (n1 + n2)) (.cells #[.int .u64 0, .int .u64 0] 83 (0, 0))
      simpa [hiW_zero, loW_zero] using this
    · exact blk_alloc (blk_drewN (blk_new w _) _) _
    · exact below_alloc (pw_below_drewN (below_alloc (Below.refl _ _) _) _) _
  case round =>
    obtain ⟨j, X, hj, rfl, HX, H8, H6, HB⟩ := hrel
    have k0 : wr.cell? ⟨w.heap.size + 1, 0, none⟩ = some (.int .u64 (hiW X)) := blk_cell H8.out 0
    have k1 : wr.cell? ⟨w.heap.size + 1, 1, none⟩ = some (.int .u64 (loW X)) := blk_cell H8.out 1
    have kf : ∀ j, wr.frozen? ⟨w.heap.size + 1, j, none⟩ = false := blk_frozen H8.out
    by_cases hlt : j < (at_ + wd - 1) / 8 - at_ / 8
    · obtain ⟨b, hb, hb2⟩ := zpos HOK.out (show at_ / 8 + j < l0.length by omega)
      obtain ⟨_, ead, hx⟩ := Kd.at_int HR0.out (at_ / 8 + j : Nat) (by omega) (by omega)
      cases ead
      replace hx := (HB.out.cell (World.block_lt_of_cell? w _ hx)).trans hx
      rw [Int.toNat_natCast, hb] at hx
      have HBb := Aside0.mk hb
      rw [← Addr.add_add] at hx
      clear hb
      have HS1 := Aside0.mk (word_Shl_pos 0 X 8 (by omega))
      have HO1 := Aside0.mk (show word_Or.f (hiW (X * 2 ^ 8)) (loW (X * 2 ^ 8)) 0 b = some (hiW (X * 2 ^ 8 ||| b), loW (X * 2 ^ 8 ||| b)) from by
        have := word_Or_eq (X * 2 ^ 8) b
        rwa [show hiW b = 0 by unfold hiW; omega, show loW b = b by unfold loW; omega] at this)
      go_wp2_with (first | (go_at_call 60; refine (word_Shl.calls 1 _ _ 8 _ _ _ HS1.out).mono ?_; rintro e w1 ⟨rfl, hb1⟩; have HB1 := Aside0.mk hb1; clear hb1) | (go_at_call 59; refine (word_Or.calls _ _ _ _ _ _ _ HO1.out).mono ?_; rintro e w2 ⟨rfl, hb1⟩; have HB2 := Aside0.mk (below_step (below_step HB.out HB1.out) hb1); have H82 := Aside0.mk (blk_below (blk_below H8.out HB1.out) hb1); have H62 := Aside0.mk (blk_below (blk_below H6.out HB1.out) hb1); have g0 : w2.cell? ⟨w.heap.size + 1, 0, none⟩ = some (.int .u64 (hiW X)) := blk_cell H82.out 0; have g1 : w2.cell? ⟨w.heap.size + 1, 1, none⟩ = some (.int .u64 (loW X)) := blk_cell H82.out 1; have gf : ∀ j, w2.frozen? ⟨w.heap.size + 1, j, none⟩ = false := blk_frozen H82.out; clear hb1))
      go_roundw
      case measure => simp [intOf]; omega
      case rel =>
        refine ⟨j + 1, (X * 2 ^ 8 ||| b) % 2 ^ 128, by omega, by go_num, ⟨get_step HBb.out hb2 HX.out⟩, ⟨?_⟩, ⟨?_⟩, ⟨?_⟩⟩
        · rw [hiW_mod, loW_mod]; exact blk_put (blk_set H82.out 0 _) 1 _ rfl
        · exact blk_far (blk_far H62.out (by simp) _) (by simp) _
        · exact below_set (below_set HB2.out (by omega)) (by omega)
    · obtain rfl : j = (at_ + wd - 1) / 8 - at_ / 8 := by omega
      obtain ⟨b, hb, hb2⟩ := zpos HOK.out (show (at_ + wd - 1) / 8 < l0.length by omega)
      obtain ⟨_, ead, hx⟩ := Kd.at_int HR0.out ((at_ + wd - 1) / 8 : Nat) (by omega) (by omega)
      cases ead
      replace hx := (HB.out.cell (World.block_lt_of_cell? w _ hx)).trans hx
      rw [Int.toNat_natCast, hb] at hx
      have HBb := Aside0.mk hb
      clear hb
      obtain ⟨T, hT⟩ : ∃ T : Nat, (at_ + wd - 1) % 8 + 1 = T := ⟨_, rfl⟩
      have HT1 : Aside0 ((at_ + wd - 1) % 8 + 1 = T) := ⟨hT⟩
      have hTi : ((at_ : Int) + wd - 1) % 8 + 1 = (T : Int) := by omega
      have HG := Aside0.mk (show GS w X ad ((at_ + wd - 1) / 8) b wr from ⟨H8.out, H6.out, hx, HB.out⟩)
      have hT8 : T ≤ 8 := by omega
      have hT0 : 1 ≤ T := by omega
      go_wp2
      clear hT
      have HG2 := Aside0.mk (GS.drew HG.out)
      have e1 : IntKind.i64.wrap (8 - (T : Int)) = ((8 - T : Nat) : Int) := by rw [IntWalk.i64_in _ (by omega)]; omega
      have e2 : IntKind.u64.wrap (b : Int) = (b : Int) := by rw [IntKind.wrap_u64]; omega
      have HS1 := Aside0.mk (word_Shl_pos 0 X T (by omega))
      have HO1 := Aside0.mk (show word_Or.f (hiW (X * 2 ^ T)) (loW (X * 2 ^ T)) 0 ((b / 2 ^ (8 - T) : Nat)) = some (hiW (X * 2 ^ T ||| b / 2 ^ (8 - T)), loW (X * 2 ^ T ||| b / 2 ^ (8 - T))) from by
        have := word_Or_eq (X * 2 ^ T) (b / 2 ^ (8 - T))
        have hl : b / 2 ^ (8 - T) ≤ b := Nat.div_le_self _ _
        rwa [hiW_small (b := b / 2 ^ (8 - T)) (by omega), loW_small (b := b / 2 ^ (8 - T)) (by omega)] at this)
      have hi0 : (0 : Int) ≤ ((at_ : Int) + wd - 1) / 8 := by omega
      have hi2 : (((at_ : Int) + wd - 1) / 8).toNat = (at_ + wd - 1) / 8 := by omega
      have hi1 : ((at_ : Int) + wd - 1) / 8 < l0.length := by omega
      refine start_ (n := 14) (S := fun w' => w'.cell? ⟨w.heap.size + 1, 0, none⟩ = some (.int .u64 (hiW X)) ∧ w'.cell? ⟨w.heap.size + 1, 1, none⟩ = some (.int .u64 (loW X)) ∧ w'.cell? (ad.add ((at_ + wd - 1) / 8)) = some (.int .u8 b)) (ds := [13]) #[false, false, false, false, false, false, false, false, false, false, false, false, false, false] (by kernel_rfl) rfl rfl ⟨k0, k1, hx⟩ (fun hHeld => ?_); refine with_tabW xGet.tab13 xGet.bits13 (fun HT_ HW_ => ?_)
      generalize wr.drew = w34 at HG2 hHeld ⊢
      refine pure_ (i := 1) (N := some 56) (v := ?_) (a' := ?_) #[false, true, false, false, false, false, false, false, false, false, false, false, false, false] rfl rfl (any_of HT_.out (by kernel_rfl)) (fun _ _ _ h => h) (Or.inl ⟨by rfl, ?_⟩) ?_ ?_
      rotate_left
      · intro w'
        go_simp
        with_reducible rfl
      rotate_left
      · simp only [Act.put, List.setIfInBounds_toArray, List.set_cons_zero, List.set_cons_succ, i64_w, i32_w]
        rfl
      refine pure_ (i := 3) (N := some 58) (v := ?_) (a' := ?_) #[false, true, false, true, false, false, false, false, false, false, false, false, false, false] rfl rfl (any_of HT_.out (by kernel_rfl)) (fun _ _ _ h => h) (Or.inl ⟨by rfl, ?_⟩) ?_ ?_
      rotate_left
      · intro w'
        go_simp
        with_reducible rfl
      rotate_left
      · simp only [Act.put, List.setIfInBounds_toArray, List.set_cons_zero, List.set_cons_succ, i64_w, i32_w]
        rfl
      refine pure_ (i := 4) (N := some 59) (v := ?_) (a' := ?_) #[false, true, false, true, true, false, false, false, false, false, false, false, false, false] rfl rfl (any_of HT_.out (by kernel_rfl)) (fun _ _ _ h => h) (Or.inl ⟨by rfl, ?_⟩) ?_ ?_
      rotate_left
      · intro w'
        go_simp
        with_reducible rfl
      rotate_left
      · simp only [Act.put, List.setIfInBounds_toArray, List.set_cons_zero, List.set_cons_succ, i64_w, i32_w]
        rfl
      refine pure_ (i := 5) (N := some 60) (v := ?_) (a' := ?_) #[false, true, false, true, true, true, false, false, false, false, false, false, false, false] rfl rfl (any_of HT_.out (by kernel_rfl)) (fun _ _ _ h => h) (Or.inl ⟨by rfl, ?_⟩) ?_ ?_
      rotate_left
      · intro w'
        go_simp
        with_reducible rfl
      rotate_left
      · simp only [Act.put, List.setIfInBounds_toArray, List.set_cons_zero, List.set_cons_succ, i64_w, i32_w]
        rfl
      refine pure_ (i := 8) (N := some 63) (v := ?_) (a' := ?_) #[false, true, false, true, true, true, false, false, true, false, false, false, false, false] rfl rfl (any_of HT_.out (by kernel_rfl)) (fun _ _ _ h => h) (Or.inl ⟨by rfl, ?_⟩) ?_ ?_
      rotate_left
      · intro w'
        go_simp
        with_reducible rfl
      rotate_left
      · simp only [Act.put, List.setIfInBounds_toArray, List.set_cons_zero, List.set_cons_succ, i64_w, i32_w]
        rfl
      refine pure_ (i := 9) (N := some 64) (v := ?_) (a' := ?_) #[false, true, false, true, true, true, false, false, true, true, false, false, false, false] rfl rfl (any_of HT_.out (by kernel_rfl)) (fun _ _ _ h => h) (Or.inl ⟨by rfl, ?_⟩) ?_ ?_
      rotate_left
      · intro w'
        go_simp
        with_reducible rfl
      rotate_left
      · simp only [Act.put, List.setIfInBounds_toArray, List.set_cons_zero, List.set_cons_succ, i64_w, i32_w]
        rfl
      refine take_ (i := 0) (N := some 55) (v := ?_) (a' := ?_) #[true, true, false, true, true, true, false, false, true, true, false, false, false, false] rfl rfl (take_ofW HT_.out HW_.out (by kernel_rfl)) (fun _ _ _ h => h) (Or.inl ⟨by rfl, ?_⟩) hHeld ?_ ?_
      rotate_left
      · rintro w' ⟨s0, s1, s2⟩
        go_simp
        with_reducible rfl
      rotate_left
      · simp only [Act.put, List.setIfInBounds_toArray, List.set_cons_zero, List.set_cons_succ, i64_w, i32_w]
        rfl
      refine take_ (i := 6) (N := some 61) (v := ?_) (a' := ?_) #[true, true, false, true, true, true, true, false, true, true, false, false, false, false] rfl rfl (take_ofW HT_.out HW_.out (by kernel_rfl)) (fun _ _ _ h => h) (Or.inl ⟨by rfl, ?_⟩) hHeld ?_ ?_
      rotate_left
      · rintro w' ⟨s0, s1, s2⟩
        go_simp
        with_reducible rfl
      rotate_left
      · simp only [Act.put, List.setIfInBounds_toArray, List.set_cons_zero, List.set_cons_succ, i64_w, i32_w]
        rfl
      refine pure_ (i := 7) (N := some 62) (v := ?_) (a' := ?_) #[true, true, false, true, true, true, true, true, true, true, false, false, false, false] rfl rfl (any_of HT_.out (by kernel_rfl)) (fun _ _ _ h => h) (Or.inl ⟨by rfl, ?_⟩) ?_ ?_
      rotate_left
      · intro w'
        go_simp
        with_reducible rfl
      rotate_left
      · simp only [Act.put, List.setIfInBounds_toArray, List.set_cons_zero, List.set_cons_succ, i64_w, i32_w]
        rfl
      refine pure_ (i := 10) (N := some 65) (v := ?_) (a' := ?_) #[true, true, false, true, true, true, true, true, true, true, true, false, false, false] rfl rfl (any_of HT_.out (by kernel_rfl)) (fun _ _ _ h => h) (Or.inl ⟨by rfl, ?_⟩) ?_ ?_
      rotate_left
      · intro w'
        go_simp
        with_reducible rfl
      rotate_left
      · simp only [Act.put, List.setIfInBounds_toArray, List.set_cons_zero, List.set_cons_succ, i64_w, i32_w]
        rfl
      refine pure_ (i := 11) (N := some 66) (v := ?_) (a' := ?_) #[true, true, false, true, true, true, true, true, true, true, true, true, false, false] rfl rfl (any_of HT_.out (by kernel_rfl)) (fun _ _ _ h => h) (Or.inl ⟨by rfl, ?_⟩) ?_ ?_
      rotate_left
      · intro w'
        go_simp
        with_reducible rfl
      rotate_left
      · simp only [Act.put, List.setIfInBounds_toArray, List.set_cons_zero, List.set_cons_succ, i64_w, i32_w]
        rfl
      refine one_ (i := 2) (N := some 57) #[true, true, true, true, true, true, true, true, true, true, true, true, false, false] rfl rfl (one_of HT_.out (by kernel_rfl)) (by decide) (fun K hK => ?_)
      refine goes_ Try.func60 (by kernel_rfl) rfl #[.agg #[.int .u64 (hiW X), .int .u64 (loW X)], .int .i64 T] (by rfl) rfl rfl (by simp only [List.map_toArray, List.map_cons, List.map_nil]; rfl) ?_
      with_reducible refine (word_Shl.calls 1 _ _ _ _ _ _ HS1.out).mono ?_
      rintro e w35 ⟨rfl, hb⟩
      refine ⟨_, rfl, ?_⟩
      have HG2 := Aside0.mk (GS.step HG2.out hb)
      clear hb
      refine hK.out _ _ ⟨HG2.out.all.1, HG2.out.all.2.1, HG2.out.all.2.2.1⟩ (fun hHeld => ?_)
      clear hK K
      refine norm_ (a' := ?_) ?_ ?_
      rotate_left
      · show Act.put _ (some 57) _ = _
        simp only [Act.put, List.setIfInBounds_toArray, List.set_cons_zero, List.set_cons_succ, i64_w, i32_w]
        rfl
      refine one_ (i := 12) (N := some 67) #[true, true, true, true, true, true, true, true, true, true, true, true, true, false] rfl rfl (one_of HT_.out (by kernel_rfl)) (by decide) (fun K hK => ?_)
      refine goes_ Try.func59 (by kernel_rfl) rfl #[.agg #[.int .u64 (hiW (X * 2 ^ T)), .int .u64 (loW (X * 2 ^ T))], .agg #[.int .u64 0, .int .u64 ((b / 2 ^ (8 - T) : Nat))]] (by rfl) rfl rfl (by simp only [List.map_toArray, List.map_cons, List.map_nil]; rfl) ?_
      with_reducible refine (word_Or.calls _ _ _ _ _ _ _ HO1.out).mono ?_
      rintro e w36 ⟨rfl, hb⟩
      refine ⟨_, rfl, ?_⟩
      have HG2 := Aside0.mk (GS.step HG2.out hb)
      clear hb
      refine hK.out _ _ ⟨HG2.out.all.1, HG2.out.all.2.1, HG2.out.all.2.2.1⟩ (fun hHeld => ?_)
      clear hK K
      refine norm_ (a' := ?_) ?_ ?_
      rotate_left
      · show Act.put _ (some 67) _ = _
        simp only [Act.put, List.setIfInBounds_toArray, List.set_cons_zero, List.set_cons_succ, i64_w, i32_w]
        rfl
      refine last_ (i := 13) (N := none) #[true, true, true, true, true, true, true, true, true, true, true, true, true, true] rfl rfl (one_of HT_.out (by kernel_rfl)) (by decide) (fun K hK => ?_)
      have g0 := HG2.out.all.1
      have g1 := HG2.out.all.2.1
      have gf0 := HG2.out.all.2.2.2.1
      have gf1 := HG2.out.all.2.2.2.2.1
      refine skip_ (w1 := ?_) (by rfl) rfl ?_ ?_
      rotate_left
      · go_simp
        rfl
      refine hK.out _ _ ?_
      clear hK K
      refine done_ (done_of HT_.out (by kernel_rfl)) ?_
      obtain ⟨Y, hY⟩ : ∃ Y, X * 2 ^ T ||| b / 2 ^ (8 - T) = Y := ⟨_, rfl⟩
      have HY := Aside0.mk hY
      rw [hY]
      clear hY
      have HC := Aside0.mk (show vec_Cut.f 1 (wd : Int) (hiW Y) (loW Y) = some ((wd : Int), hiW (Y % 2 ^ wd), loW (Y % 2 ^ wd), 0) from by
        rw [vec_Cut_eq 0, if_pos (by omega)]; rfl)
      have HE := Aside0.mk (show Y % 2 ^ wd = ofB (fun i => bitOf l0 (at_ + wd - 1 - i)) wd from by
        rw [← HY.out]
        exact get_end HBb.out hb2 HT1.out h2 HX.out)
      have b0 := HG2.out.1
      have b2 := HG2.out.2.1
      have HBB := Aside0.mk HG2.out.2.2.2
      have B0 := Aside0.mk (blk_put (cs' := #[.int .u64 (hiW Y), .int .u64 (loW Y)]) (blk_set b0 0 (.int .u64 (hiW Y))) 1 (.int .u64 (loW Y)) rfl)
      have B2 := Aside0.mk (blk_far (blk_far b2 (show w.heap.size ≠ (⟨w.heap.size + 1, 0, none⟩ : Addr).block by simp) (.int .u64 (hiW Y))) (show w.heap.size ≠ (⟨w.heap.size + 1, 1, none⟩ : Addr).block by simp) (.int .u64 (loW Y)))
      have BB := Aside0.mk (below_set (j := 1) (v := .int .u64 (loW Y)) (below_set (j := 0) (v := .int .u64 (hiW Y)) HBB.out (show w.heap.size ≤ w.heap.size + 1 by omega)) (show w.heap.size ≤ w.heap.size + 1 by omega))
      clear b0 b2
      generalize (w36.setCell ⟨w.heap.size + 1, 0, none⟩ (.int .u64 (hiW Y))).setCell ⟨w.heap.size + 1, 1, none⟩ (.int .u64 (loW Y)) = w37 at B0 B2 BB ⊢
      have d0 : w37.cell? ⟨w.heap.size + 1, 0, none⟩ = some (.int .u64 (hiW Y)) := blk_cell B0.out 0
      have d1 : w37.cell? ⟨w.heap.size + 1, 1, none⟩ = some (.int .u64 (loW Y)) := blk_cell B0.out 1
      go_wp2_with (go_at_call 61; refine (vec_Cut.calls 1 _ _ _ _ _ _ _ _ HC.out).mono ?_; rintro e w38 ⟨rfl, hb⟩; have BB2 := Aside0.mk (below_step BB.out hb); have D2 := Aside0.mk (blk_below B2.out hb); have e0 : w38.cell? ⟨w.heap.size, 0, none⟩ = some (.int .i64 0) := blk_cell D2.out 0; have e1 : w38.cell? ⟨w.heap.size, 1, none⟩ = some (.int .u64 0) := blk_cell D2.out 1; have e2 : w38.cell? ⟨w.heap.size, 2, none⟩ = some (.int .u64 0) := blk_cell D2.out 2; have ef : ∀ j, w38.frozen? ⟨w.heap.size, j, none⟩ = false := blk_frozen D2.out; clear hb)
      refine bodyPost_ret (results_ct rfl _ _ w.heap.size 26 _ (0, 0) _ rfl (blk_set (blk_set (blk_set D2.out 0 _) 1 _) 2 _) Try.underlying26 rfl (by kernel_rfl)) rfl ⟨by rw [← HE.out]; rfl, ?_⟩
      exact below_set (below_set (below_set BB2.out (Nat.le_refl _)) (Nat.le_refl _)) (Nat.le_refl _)
set_option maxHeartbeats 400000 in
set_option maxRecDepth 100000 in
theorem bits_Get.nowidth (A0 : Option Addr) (c0 : Nat) (l0 : List Int) (a1 a2 : Int) (w : World) (h1 : ¬ (1 ≤ a2 ∧ a2 ≤ 128)) :
    Calls Try.prog 16 #[.slice A0 l0.length c0, .int .i64 a1, .int .i64 a2] w fun e w' => e = .returned (.tuple #[.agg #[.int .i64 0, .int .u64 0, .int .u64 0], .int .i64 9]) ∧ Below w.heap.size w w' := by
  have HW : Aside0 (bits_width.f a2 = some false) := ⟨by unfold bits_width.f; split <;> first | rfl | rw [decide_eq_false (by omega)]⟩
  clear h1
  go_enter Try.func16, Try.ntmps16
  go_wp2_with (first | (go_at_call 57; refine (bits_width.calls _ _ _ HW.out).mono ?_; rintro e w1 ⟨rfl, ⟨n1, rfl⟩⟩))
  refine bodyPost_ret (v := .tuple #[.agg #[.int .i64 0, .int .u64 0, .int .u64 0], .int .i64 9]) (by simp [results, Try.results16, go_sem]) rfl ⟨rfl, ?_⟩
  exact below_set (below_set (below_set (pw_below_drewN (below_alloc (Below.refl _ _) _) _) (Nat.le_refl _)) (Nat.le_refl _)) (Nat.le_refl _)
set_option maxHeartbeats 400000 in
set_option maxRecDepth 100000 in
theorem bits_Get.outside (A0 : Option Addr) (c0 : Nat) (l0 : List Int) (a1 a2 : Int) (w : World) (hr0 : Kd.C (Kd.int .u8) w A0 l0.length l0) (hc0 : l0.length ≤ c0) (hl : l0.length < 17592186044416) (h1 : 1 ≤ a2 ∧ a2 ≤ 128) (h2 : ¬ (0 ≤ a1 ∧ a1 ≤ 8 * l0.length ∧ a2 ≤ 8 * l0.length - a1)) :
    Calls Try.prog 16 #[.slice A0 l0.length c0, .int .i64 a1, .int .i64 a2] w fun e w' => e = .returned (.tuple #[.agg #[.int .i64 0, .int .u64 0, .int .u64 0], .int .i64 7]) ∧ Below w.heap.size w w' := by
  have HR0 := Aside0.mk hr0
  have HC0 := Aside0.mk hc0
  have HW : Aside0 (bits_width.f a2 = some true) := ⟨by unfold bits_width.f; rw [if_pos (by omega), decide_eq_true (by omega)]⟩
  have HI : Aside0 (bits_within.f l0 a1 a2 = some false) := ⟨by
    unfold bits_within.f
    rw [wrap64_id (8 * (l0.length : Int)) (by omega) (by omega)]
    split
    · split
      · rw [wrap64_id _ (by omega) (by omega), decide_eq_false (by omega)]
      · rfl
    · rfl⟩
  clear h1 h2 hr0 hc0 hl
  go_enter Try.func16, Try.ntmps16
  go_wp2_with (first | (go_at_call 57; refine (bits_width.calls _ _ _ HW.out).mono ?_; rintro e w1 ⟨rfl, ⟨n1, rfl⟩⟩) | (go_at_call 58; refine (bits_within.calls _ _ _ _ _ _ _ (Kd.C_below HR0.out (by repeat (first | (with_reducible exact Below.refl _ _) | apply below_alloc | apply pw_below_drewN))) HC0.out HI.out).mono ?_; rintro e w1 ⟨rfl, ⟨n2, rfl⟩⟩))
  refine bodyPost_ret (v := .tuple #[.agg #[.int .i64 0, .int .u64 0, .int .u64 0], .int .i64 7]) (by simp [results, Try.results16, go_sem]) rfl ⟨rfl, ?_⟩
  exact below_set (below_set (below_set (pw_below_drewN (below_alloc (Below.refl _ _) _) _) (Nat.le_refl _)) (Nat.le_refl _)) (Nat.le_refl _)
def bits_Get.f (l0 : List Int) (a1 a2 : Int) : Option (Int × Int × Int × Int) :=
  if okBytes l0 then
    if 1 ≤ a2 ∧ a2 ≤ 128 then
      if 0 ≤ a1 ∧ a1 ≤ 8 * l0.length ∧ a2 ≤ 8 * l0.length - a1 then
        some (a2, hiW (ofB (fun i => bitOf l0 (a1.toNat + a2.toNat - 1 - i)) a2.toNat), loW (ofB (fun i => bitOf l0 (a1.toNat + a2.toNat - 1 - i)) a2.toNat), 0)
      else some (0, 0, 0, 7)
    else some (0, 0, 0, 9)
  else none
theorem bits_Get.calls (A0 : Option Addr) (c0 : Nat) (l0 : List Int) (a1 : Int) (a2 : Int) (r1 : Int) (r2 : Int) (r3 : Int) (r4 : Int) (w : World) (hr0 : Kd.C (Kd.int .u8) w A0 l0.length l0) (hc0 : l0.length ≤ c0) (h : bits_Get.f l0 a1 a2 = some (r1, r2, r3, r4)) :
    Calls Try.prog 16 #[.slice A0 l0.length c0, .int .i64 a1, .int .i64 a2] w fun e w' => e = .returned (.tuple #[.agg #[.int .i64 r1, .int .u64 r2, .int .u64 r3], .int .i64 r4]) ∧ Below w.heap.size w w' := by
  unfold bits_Get.f at h
  split at h
  case isFalse => cases h
  rename_i hok
  split at h
  case isFalse hw =>
    simp only [Option.some.injEq, Prod.mk.injEq] at h
    obtain ⟨rfl, rfl, rfl, rfl⟩ := h
    exact bits_Get.nowidth A0 c0 l0 a1 a2 w hw
  rename_i hw
  split at h
  case isFalse hi =>
    simp only [Option.some.injEq, Prod.mk.injEq] at h
    obtain ⟨rfl, rfl, rfl, rfl⟩ := h
    exact bits_Get.outside A0 c0 l0 a1 a2 w hr0 hc0 hok.2 hw hi
  rename_i hi
  simp only [Option.some.injEq, Prod.mk.injEq] at h
  obtain ⟨rfl, rfl, rfl, rfl⟩ := h
  obtain ⟨p, rfl⟩ : ∃ p : Nat, a1 = p := ⟨a1.toNat, by omega⟩
  obtain ⟨q, rfl⟩ : ∃ q : Nat, a2 = q := ⟨a2.toNat, by omega⟩
  exact bits_Get.inside A0 c0 l0 p q w hr0 hc0 hok (by omega) (by omega) (by omega)

/-! ### shunterlaw03_lives: function 15 -/
def shunterlaw03_lives.f  : Option (Bool) := (bits_Get.f (([18, 52] : List Int)) 4 8).bind fun bt143 => (if (bt143.1 == 8 && (bt143.2.1 == 0 && (bt143.2.2.1 == 35))) = true then (some (bt143.2.2.2 == 0)) else (some false))
set_option maxHeartbeats 8000000 in
set_option maxRecDepth 100000 in
theorem shunterlaw03_lives.calls  (r : Bool) (w : World) (h : shunterlaw03_lives.f  = some r) :
    Calls Try.prog 15 #[] w fun e w' => e = .returned (.bool r) ∧ Below w.heap.size w w' := by
  have hu26 := Try.underlying26
  have HB := Aside0.mk (Below.refl w.heap.size w)
  have H : ((bits_Get.f (([18, 52] : List Int)) 4 8).bind fun bt143 => (if (bt143.1 == 8 && (bt143.2.1 == 0 && (bt143.2.2.1 == 35))) = true then (some (bt143.2.2.2 == 0)) else (some false))) = some r := h
  clear h
  obtain ⟨y140, hy140⟩ : ∃ y_ : List Int, y_ = (([18, 52] : List Int)) := ⟨_, rfl⟩
  replace H : ((bits_Get.f y140 4 8).bind fun bt143 => (if (bt143.1 == 8 && (bt143.2.1 == 0 && (bt143.2.2.1 == 35))) = true then (some (bt143.2.2.2 == 0)) else (some false))) = some r := by first | (rw [hy140]; with_reducible exact H) | (have H2_ := (Option.bind_some _ _).symm.trans H; rw [hy140]; with_reducible exact H2_) | (have H2_ := (Option.bind_some _ _).symm.trans H; with_reducible exact H2_) | with_reducible exact H | (rw [hy140]; exact H) | exact H
  have Ny140 := Aside0.mk hy140
  clear hy140
  replace H := Option.bind_eq_some_iff.mp H
  obtain ⟨⟨t143, t144, t145, t146⟩, A10, H⟩ := H
  replace H : (if (t143 == 8 && (t144 == 0 && (t145 == 35))) = true then (some (t146 == 0)) else (some false)) = some r := H
  have A1 := Aside0.mk A10
  clear A10
  by_cases c2 : (t143 == 8 && (t144 == 0 && (t145 == 35))) = true
  · rw [if_pos c2] at H
    have c2b0 : (t143 == 8 && (t144 == 0 && (t145 == 35))) = true := c2
    (try (have c2b1 : decide (t143 = 8 && (t144 == 0 && (t145 == 35))) = true := by simpa using c2))
    (try (have c2b2 : (t143 == 8 && (t144 == 0 && (t145 == 35))) = true := by simpa using c2))
    clear c2
    obtain rfl := Option.some.inj H
    go_enter Try.func15, Try.ntmps15
    go_wp2_with (first | ((with_reducible refine gate_dst (N := 4) rfl ?_); refine Kd.R_lit (Kd.int .u8) _ 5 ?hg (N := 4) ?hd (xs := ([18, 52] : List Int)) (inner := [.int .u8 18, .int .u8 52]) (ok := fun _ => True) (okp := fun _ => True) ?hr ?hp (fun _ hk => hk) trivial (Below.refl _ _) (Nat.le_refl _) (by simp) ?_; (case hd => rfl); (case hg => rfl); (case hr => first | (go_simp; done) | (go_simp; rfl)); (case hp => exact (Reps.one (show Kd.M (Kd.int .u8) _ _ _ 18 [.int .u8 18] from rfl) (Reps.one (show Kd.M (Kd.int .u8) _ _ _ 52 [.int .u8 52] from rfl) (Reps.none _ _)))); intro v141 w3 ho4 hb hg_ hnew_; clear hg_ hnew_; (first | rw [← Ny140.out] at ho4 | (simp only [Int.reduceToNat] at ho4; rw [← Ny140.out] at ho4)); have n0_ := Aside0.mk (Kd.R_lower ho4 (below_size (by repeat (first | (with_reducible first | exact HB.out | apply below_alloc | apply pw_below_drewN | apply below_drew1) | exact HB.out)))); have n1_ := Aside0.mk (below_step (by repeat (first | (with_reducible first | exact HB.out | apply below_alloc | apply pw_below_drewN | apply below_drew1) | exact HB.out)) hb); clear HB; have HO142 := n0_; have HB := n1_; clear n0_ n1_; clear hb ho4; obtain ⟨Ao5, co5, eo5⟩ := Kd.R_slice HO142.out; subst eo5) | ((with_reducible refine gate_callee (f := 16) rfl ?_); refine goesL_ (some 5) rfl rfl Try.func16 (by kernel_rfl) rfl #[.slice Ao5 y140.length co5, .int .i64 4, .int .i64 8] rfl (by (try simp only [List.map_toArray, List.map_cons, List.map_nil]); first | done | rfl | (simp only [List.length_drop, List.length_take]; rfl)) ?_; (with_reducible refine (bits_Get.calls _ _ y140 4 8 t143 t144 t145 t146 _ ?side1 ?side2 A1.out).mono ?_); (case side1 => repeat (first | exact (Kd.R_reads' HO142.out).2.2 | (with_reducible refine Kd.C_alloc ?_ _) | (with_reducible refine Kd.C_drewN ?_ _) | (with_reducible refine Kd.C_drew ?_))); (case side2 => exact (Kd.R_reads' HO142.out).2.1); rintro e w6 ⟨rfl, hb⟩; refine ⟨_, rfl, ?_⟩; have n0_ := Aside0.mk (Kd.R_below (by (with_reducible repeat (first | apply Kd.R_alloc | apply Kd.R_drewN | apply Kd.R_drew)); exact HO142.out) hb); have n1_ := Aside0.mk (below_step (by repeat (first | (with_reducible first | exact HB.out | apply below_alloc | apply pw_below_drewN | apply below_drew1) | exact HB.out)) hb); clear HO142; clear HB; have HO142 := n0_; have HB := n1_; clear n0_ n1_; (try clear hb); (try clear hb2); (try clear hk); (try clear hi)) | ((with_reducible refine gate_dst (N := 1) rfl ?_); refine box_event ?hg (N := 1) ?hd (cs := #[.int .i64 0, .int .u64 0, .int .u64 0]) (t := 26) ?hr ?_; (case hd => rfl); (case hg => rfl); (case hr => first | (go_simp; done) | (go_simp; rfl)); intro gb147 hg w7 hbox hb; have n0_ := Aside0.mk (Kd.R_below (by (with_reducible repeat (first | apply Kd.R_alloc | apply Kd.R_drewN | apply Kd.R_drew)); exact HO142.out) hb); have n1_ := Aside0.mk (below_step (by repeat (first | (with_reducible first | exact HB.out | apply below_alloc | apply pw_below_drewN | apply below_drew1) | exact HB.out)) hb); have n2_ := Aside0.mk (hbox); have n3_ := Aside0.mk ((by rw [hg]; exact (below_size (by repeat (first | (with_reducible first | exact HB.out | apply below_alloc | apply pw_below_drewN | apply below_drew1) | exact HB.out))) : w.heap.size ≤ gb147)); have n4_ := Aside0.mk ((by rw [hg]; exact (below_size (by repeat (first | (with_reducible first | exact HB.out | apply below_alloc | apply pw_below_drewN | apply below_drew1) | exact HB.out))) : w.heap.size ≤ gb147)); clear HO142; clear HB; have HO142 := n0_; have HB := n1_; have BK147 := n2_; have GW147 := n3_; have GE147 := n4_; clear n0_ n1_ n2_ n3_ n4_; clear hb hbox hg; have hcz8_0 : w7.cell? ⟨gb147, 0, none⟩ = some (.int .i64 0) := (blk_cell BK147.out 0).trans rfl; have hcz8_1 : w7.cell? ⟨gb147, 1, none⟩ = some (.int .u64 0) := (blk_cell BK147.out 1).trans rfl; have hcz8_2 : w7.cell? ⟨gb147, 2, none⟩ = some (.int .u64 0) := (blk_cell BK147.out 2).trans rfl; have hfz8_0 := blk_frozen BK147.out 0; have hfz8_1 := blk_frozen BK147.out 1; have hfz8_2 := blk_frozen BK147.out 2))
    go_ret
    exact ⟨by first | rfl | (simp [errW_none, errW_some] <;> rfl) | (simp [*, errW_none, errW_some] <;> rfl), by repeat (first | (with_reducible first | exact HB.out | apply below_alloc | apply pw_below_drewN | apply below_drew1 | refine below_set ?_ GE147.out) | exact HB.out)⟩
  · rw [if_neg c2] at H
    have c2b0 : (t143 == 8 && (t144 == 0 && (t145 == 35))) = false := by simpa using c2
    (try (have c2b1 : decide (t143 = 8 && (t144 == 0 && (t145 == 35))) = false := by simpa using c2))
    (try (have c2b2 : (t143 == 8 && (t144 == 0 && (t145 == 35))) = false := by simpa using c2))
    (try (have c2b3 : ¬ (t143 = 8 && (t144 == 0 && (t145 == 35))) := by simpa using c2))
    clear c2
    obtain rfl := Option.some.inj H
    go_enter Try.func15, Try.ntmps15
    go_wp2_with (first | ((with_reducible refine gate_dst (N := 4) rfl ?_); refine Kd.R_lit (Kd.int .u8) _ 5 ?hg (N := 4) ?hd (xs := ([18, 52] : List Int)) (inner := [.int .u8 18, .int .u8 52]) (ok := fun _ => True) (okp := fun _ => True) ?hr ?hp (fun _ hk => hk) trivial (Below.refl _ _) (Nat.le_refl _) (by simp) ?_; (case hd => rfl); (case hg => rfl); (case hr => first | (go_simp; done) | (go_simp; rfl)); (case hp => exact (Reps.one (show Kd.M (Kd.int .u8) _ _ _ 18 [.int .u8 18] from rfl) (Reps.one (show Kd.M (Kd.int .u8) _ _ _ 52 [.int .u8 52] from rfl) (Reps.none _ _)))); intro v141 w9 ho10 hb hg_ hnew_; clear hg_ hnew_; (first | rw [← Ny140.out] at ho10 | (simp only [Int.reduceToNat] at ho10; rw [← Ny140.out] at ho10)); have n0_ := Aside0.mk (Kd.R_lower ho10 (below_size (by repeat (first | (with_reducible first | exact HB.out | apply below_alloc | apply pw_below_drewN | apply below_drew1) | exact HB.out)))); have n1_ := Aside0.mk (below_step (by repeat (first | (with_reducible first | exact HB.out | apply below_alloc | apply pw_below_drewN | apply below_drew1) | exact HB.out)) hb); clear HB; have HO142 := n0_; have HB := n1_; clear n0_ n1_; clear hb ho10; obtain ⟨Ao11, co11, eo11⟩ := Kd.R_slice HO142.out; subst eo11) | ((with_reducible refine gate_callee (f := 16) rfl ?_); refine goesL_ (some 5) rfl rfl Try.func16 (by kernel_rfl) rfl #[.slice Ao11 y140.length co11, .int .i64 4, .int .i64 8] rfl (by (try simp only [List.map_toArray, List.map_cons, List.map_nil]); first | done | rfl | (simp only [List.length_drop, List.length_take]; rfl)) ?_; (with_reducible refine (bits_Get.calls _ _ y140 4 8 t143 t144 t145 t146 _ ?side1 ?side2 A1.out).mono ?_); (case side1 => repeat (first | exact (Kd.R_reads' HO142.out).2.2 | (with_reducible refine Kd.C_alloc ?_ _) | (with_reducible refine Kd.C_drewN ?_ _) | (with_reducible refine Kd.C_drew ?_))); (case side2 => exact (Kd.R_reads' HO142.out).2.1); rintro e w12 ⟨rfl, hb⟩; refine ⟨_, rfl, ?_⟩; have n0_ := Aside0.mk (Kd.R_below (by (with_reducible repeat (first | apply Kd.R_alloc | apply Kd.R_drewN | apply Kd.R_drew)); exact HO142.out) hb); have n1_ := Aside0.mk (below_step (by repeat (first | (with_reducible first | exact HB.out | apply below_alloc | apply pw_below_drewN | apply below_drew1) | exact HB.out)) hb); clear HO142; clear HB; have HO142 := n0_; have HB := n1_; clear n0_ n1_; (try clear hb); (try clear hb2); (try clear hk); (try clear hi)) | ((with_reducible refine gate_dst (N := 1) rfl ?_); refine box_event ?hg (N := 1) ?hd (cs := #[.int .i64 0, .int .u64 0, .int .u64 0]) (t := 26) ?hr ?_; (case hd => rfl); (case hg => rfl); (case hr => first | (go_simp; done) | (go_simp; rfl)); intro gb147 hg w13 hbox hb; have n0_ := Aside0.mk (Kd.R_below (by (with_reducible repeat (first | apply Kd.R_alloc | apply Kd.R_drewN | apply Kd.R_drew)); exact HO142.out) hb); have n1_ := Aside0.mk (below_step (by repeat (first | (with_reducible first | exact HB.out | apply below_alloc | apply pw_below_drewN | apply below_drew1) | exact HB.out)) hb); have n2_ := Aside0.mk (hbox); have n3_ := Aside0.mk ((by rw [hg]; exact (below_size (by repeat (first | (with_reducible first | exact HB.out | apply below_alloc | apply pw_below_drewN | apply below_drew1) | exact HB.out))) : w.heap.size ≤ gb147)); have n4_ := Aside0.mk ((by rw [hg]; exact (below_size (by repeat (first | (with_reducible first | exact HB.out | apply below_alloc | apply pw_below_drewN | apply below_drew1) | exact HB.out))) : w.heap.size ≤ gb147)); clear HO142; clear HB; have HO142 := n0_; have HB := n1_; have BK147 := n2_; have GW147 := n3_; have GE147 := n4_; clear n0_ n1_ n2_ n3_ n4_; clear hb hbox hg; have hcz14_0 : w13.cell? ⟨gb147, 0, none⟩ = some (.int .i64 0) := (blk_cell BK147.out 0).trans rfl; have hcz14_1 : w13.cell? ⟨gb147, 1, none⟩ = some (.int .u64 0) := (blk_cell BK147.out 1).trans rfl; have hcz14_2 : w13.cell? ⟨gb147, 2, none⟩ = some (.int .u64 0) := (blk_cell BK147.out 2).trans rfl; have hfz14_0 := blk_frozen BK147.out 0; have hfz14_1 := blk_frozen BK147.out 1; have hfz14_2 := blk_frozen BK147.out 2))
    go_ret
    exact ⟨by first | rfl | (simp [errW_none, errW_some] <;> rfl) | (simp [*, errW_none, errW_some] <;> rfl), by repeat (first | (with_reducible first | exact HB.out | apply below_alloc | apply pw_below_drewN | apply below_drew1 | refine below_set ?_ GE147.out) | exact HB.out)⟩

/-! ### bytes_Clone: function 67 -/
-- EXT bytes.Clone ROUNDS=0 MAKING=1
def bytes_Clone.f (l0 : List Int) : Option (List Int) := if l0.length < 140737488355328 then some l0 else none
theorem uInfo : (Try.prog.info? 5).map (fun i => (i.zero, i.size, i.bytes)) = some (some (.int .u8 0), 1, 1) := by kernel_rfl
set_option maxHeartbeats 400000 in
set_option maxRecDepth 100000 in
theorem bytes_Clone.calls (A0 : Option Addr) (c0 : Nat) (l0 : List Int) (r : List Int) (w : World) (hr0 : Kd.C (Kd.int .u8) w A0 l0.length l0) (hc0 : l0.length ≤ c0) (h : bytes_Clone.f l0 = some r) :
    Calls Try.prog 67 #[.slice A0 l0.length c0] w fun e w' => ∃ v0_ : Value, e = .returned (v0_) ∧ Kd.R (Kd.int .u8) 5 w' w.heap.size (fun _ => True) v0_ r ∧ Below w.heap.size w w' := by
  unfold bytes_Clone.f at h
  split at h
  case isFalse => cases h
  rename_i hl
  obtain rfl := Option.some.inj h
  clear h
  have HR0 := Aside0.mk hr0
  have HL := Aside0.mk hl
  have hnil := fun (w : World) (a : Option Addr) (n c : Nat) => Lib.run_eql_slice_nil (P := Try.prog) w 22 5 a n c 0 0 Try.underlying22
  clear hr0 hc0 hl
  cases A0 with
  | none =>
    have hz : l0 = [] := by
      have := HR0.out
      cases l0 with
      | nil => rfl
      | cons x xs => obtain ⟨ad, h, _⟩ := Kd.at_int this 0 (by omega) (by simp); cases h
    subst hz
    go_enter Try.func67, Try.ntmps67
    go_wp2
    go_ret
    exact ⟨_, rfl, Kd.R_nil _ _ _ _ _, Below.refl _ _⟩
  | some ad =>
    go_enter Try.func67, Try.ntmps67
    go_wp2_with (first | ((with_reducible refine gate_dst (N := 5) rfl ?_); refine Kd.R_lit (Kd.int .u8) (w0 := w) w.heap.size 5 ?hg (N := 5) ?hd (xs := ([] : List Int)) (inner := []) (ok := fun _ => True) (okp := fun _ => True) ?hr ?hp (fun _ hk => hk) trivial (Below.refl _ _) (Nat.le_refl _) (by simp) ?_; (case hd => rfl); (case hg => rfl); (case hr => first | (go_simp; done) | (go_simp; rfl)); (case hp => exact Reps.none _ _); intro v5 w5 ho hb hg_ hnew_; have HO5 := Aside0.mk ho; have HB5 := Aside0.mk hb; clear ho hb hg_ hnew_) | ((with_reducible refine gate_builtin (b := .append) (xs := #[.tmp 5, .tmp 6]) rfl ?_); at_builtin; refine Kd.R_append_row (Value.int .u8) (0 : Int) (h1 := fun _ => rfl) (w0 := w) w.heap.size rfl (.tmp 5) (.tmp 6) 22 5 (.int .u8 0) 1 rfl Try.underlying22 uInfo rfl (by decide) v5 [] l0 (some ad) l0.length c0 (fun _ => True) rfl rfl ?aF HO5.out ?aR HB5.out ?aS ?aL ?_; (case aR => exact (Kd.C_below HR0.out HB5.out)); (case aF => exact fun _ _ => trivial); (case aS => exact below_size HB5.out); (case aL => simp; exact Nat.le_of_lt HL.out); intro v7 w7 ho hb hg hat; have HO7 := Aside0.mk ho; have HB7 := Aside0.mk hb; clear ho hb hg hat))
    go_ret
    exact ⟨_, rfl, HO7.out, HB7.out⟩

-- NOT PRINTED: function 35 (bits_Take)

-- NOT PRINTED: function 37 (bits_Taker_Bytes)

-- NOT PRINTED: function 38 (bits_Taker_Look)

end Go.Proofs.Ytjbpianofkblbaa.XT
