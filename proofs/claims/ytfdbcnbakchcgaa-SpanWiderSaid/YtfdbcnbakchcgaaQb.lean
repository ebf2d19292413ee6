import Derived.Test.YtfdbcnbakchcgaaXQx7
import Derived.Test.YtfdbcnbakchcgaaXQx10
namespace Go.Proofs.Ytfdbcnbakchcgaa.XQ
open Go.RowKit Go.Proofs.YtfdbcnbakchcgaaW.PrintWords Go.Proofs.YtfdbcnbakchcgaaW.PrintLast Go.Proofs.YtfdbcnbakchcgaaW.PrintMore
attribute [local go_sem] max2_int min2_int max_two min_two max_three min_three max_four min_four
set_option linter.unusedVariables false
set_option linter.unusedSimpArgs false
def ofB (f : Nat → Bool) : Nat → Nat
 | 0 => 0
 | n + 1 => ofB f n + if f n then 2 ^ n else 0
theorem ofB_lt (f : Nat → Bool) : ∀ n, ofB f n < 2 ^ n
 | 0 => by simp [ofB]
 | n + 1 => by have := ofB_lt f n; simp only [ofB, Nat.pow_succ]; split <;> omega
theorem tb_ofB (f : Nat → Bool) (i : Nat) : ∀ n, (ofB f n).testBit i = (decide (i < n) && f i)
 | 0 => by simp [ofB]
 | n + 1 => by
  have ih := tb_ofB f i n
  have hl := ofB_lt f n
  simp only [ofB]
  split
  ·rename_i h
   rw [Nat.add_comm, ← Nat.mul_one (2 ^ n), Nat.two_pow_add_eq_or_of_lt hl, Nat.testBit_or, Nat.mul_one, Nat.testBit_two_pow, ih]
   by_cases h1 : i = n
   ·subst h1; simp [h]
   ·rw [decide_eq_false (fun e => h1 e.symm)]
    rw [Bool.eq_iff_iff]; simp; omega
  ·rename_i h
   rw [Nat.add_zero, ih]
   by_cases h1 : i = n
   ·subst h1; simp [h]
   ·rw [Bool.eq_iff_iff]; simp; omega
theorem bitLenAux_le : ∀ (f x n : Nat), x < 2 ^ f → (Lib.bitLenAux f x ≤ n ↔ x < 2 ^ n)
 | 0, x, n, h => by
  have : x = 0 := by omega
  subst this
  simp [Lib.bitLenAux, Nat.two_pow_pos]
 | f + 1, x, n, h => by
  unfold Lib.bitLenAux
  by_cases h0 : x = 0
  ·subst h0; simp [Nat.two_pow_pos]
  ·rw [if_neg h0]
   cases n with
   | zero => simp; omega
   | succ n =>
    have ih := bitLenAux_le f (x / 2) n (by rw [Nat.pow_succ] at h; omega)
    rw [Nat.pow_succ]
    omega
theorem bitLen_le (x n : Nat) (h : x < 2 ^ 64) : Lib.bitLen x ≤ n ↔ x < 2 ^ n := bitLenAux_le 64 x n h
theorem word_Len_eq (X : Nat) (hX : X < 2 ^ 128) : ∃ r : Nat, word_Len.f (hiW X) (loW X) = some (r : Int) ∧ ∀ n, r ≤ n ↔ X < 2 ^ n := by
 unfold word_Len.f bits_Len64.f
 have h1 := hiW_nn X
 have h2 := loW_nn X
 have e1 : hiW X = ((X / 2 ^ 64 : Nat) : Int) := by unfold hiW; omega
 have hb := bitLen_le (X / 2 ^ 64) 64 (by omega)
 have hb' : Lib.bitLen (X / 2 ^ 64) ≤ 64 := hb.2 (by omega)
 by_cases h0 : hiW X > 0
 ·rw [if_pos h0, if_pos ⟨by omega, by omega⟩, Option.bind_some, e1, Int.toNat_natCast, wrap64_id _ (by omega) (by omega)]
  refine ⟨64 + Lib.bitLen (X / 2 ^ 64), by push_cast; rfl, fun n => ?_⟩
  by_cases hn : 64 ≤ n
  ·obtain ⟨m, rfl⟩ : ∃ m, n = 64 + m := ⟨n - 64, by omega⟩
   have := bitLen_le (X / 2 ^ 64) m (by omega)
   have h3 : X < 2 ^ (64 + m) ↔ X / 2 ^ 64 < 2 ^ m := by
    rw [Nat.pow_add, Nat.div_lt_iff_lt_mul (Nat.two_pow_pos 64), Nat.mul_comm]
   omega
  ·have hp : 2 ^ n ≤ 2 ^ 64 := Nat.pow_le_pow_right (by decide) (by omega)
   omega
 ·rw [if_neg h0, if_pos ⟨by omega, by omega⟩, Option.bind_some]
  have e2 : loW X = (X : Int) := by unfold loW; omega
  refine ⟨Lib.bitLen X, by rw [e2]; rfl, fun n => bitLen_le X n (by omega)⟩
def vmay (w : Int) (X : Nat) : Bool := decide (1 ≤ w ∧ w ≤ 128 ∧ X < 2 ^ w.toNat)
theorem vec_May_eq (w : Int) (X : Nat) (hX : X < 2 ^ 128) : vec_May.f w (hiW X) (loW X) = some (vmay w X) := by
 unfold vec_May.f vec_width.f vmay
 obtain ⟨r, hr, hn⟩ := word_Len_eq X hX
 by_cases h1 : 1 ≤ w
 ·rw [if_pos (by omega), Option.bind_some]
  by_cases h2 : w ≤ 128
  ·rw [if_pos (by simpa using h2)]
   unfold vec_Word.f
   rw [Option.bind_some, hr, Option.bind_some]
   congr 1
   rw [decide_eq_decide]
   have := hn w.toNat
   omega
  ·rw [if_neg (by simpa using h2), decide_eq_false (by omega)]
 ·rw [if_neg (by omega), Option.bind_some, if_neg (by simp), decide_eq_false (by omega)]
theorem bitAt_tb (X j : Nat) (hj : j < 128) (hX : X < 2 ^ 128) : bitAt (hiW X) (loW X) j = X.testBit j := by
 unfold bitAt
 have key : ∀ (a n : Nat), (((a : Nat) : Int) / 2 ^ n % 2 == 1) = a.testBit n := by
  intro a n
  rw [Nat.testBit_eq_decide_div_mod_eq]
  have e : ((a : Nat) : Int) / 2 ^ n % 2 = ((a / 2 ^ n % 2 : Nat) : Int) := by push_cast; rfl
  rw [e, Bool.eq_iff_iff]
  simp only [beq_iff_eq, decide_eq_true_eq]
  omega
 by_cases h : j < 64
 ·rw [if_pos h]
  unfold loW
  rw [key, loW_tb, decide_eq_true h, Bool.true_and]
 ·rw [if_neg h]
  unfold hiW
  rw [key, hiW_tb, decide_eq_true (by omega), Bool.true_and, show j - 64 + 64 = j by omega]
theorem topLen_le (X : Nat) (hX : X < 2 ^ 128) : ∀ (m n : Nat), m ≤ 128 → (∀ i, m ≤ i → X.testBit i = false) → (topLen (bitAt (hiW X) (loW X)) m ≤ n ↔ X < 2 ^ n)
 | 0, n, _, h => by
  have : X = 0 := Nat.eq_of_testBit_eq fun i => by rw [h i (Nat.zero_le _)]; simp
  subst this
  simp [topLen, Nat.two_pow_pos]
 | m + 1, n, hm, h => by
  unfold topLen
  rw [bitAt_tb X m (by omega) hX]
  by_cases hb : X.testBit m = true
  ·rw [if_pos hb]
   constructor
   ·intro hn
    refine Nat.lt_pow_two_of_testBit X fun i hi => h i (by omega)
   ·intro hlt
    rcases Nat.lt_or_ge m n with h1 | h1
    ·omega
    ·exact absurd (Nat.testBit_lt_two_pow (Nat.lt_of_lt_of_le hlt (Nat.pow_le_pow_right (by decide) h1))) (by rw [hb]; simp)
  ·rw [if_neg hb]
   refine topLen_le X hX m n (by omega) fun i hi => ?_
   rcases Nat.lt_or_ge m i with h1 | h1
   ·exact h i (by omega)
   ·obtain rfl : i = m := by omega
    simpa using hb
theorem u64s_hl (X : Nat) : u64s (hiW X) (loW X) := ⟨(hiW_nn X).1, (hiW_nn X).2, (loW_nn X).1, (loW_nn X).2⟩
theorem ref02_May_eq (w : Int) (X : Nat) (hX : X < 2 ^ 128) : shunterref02_May.f w (hiW X) (loW X) = some (vmay w X) := by
 unfold shunterref02_May.f shunterref01_Of.f shunterref01_Len.f vmay
 by_cases h1 : 1 ≤ w
 ·rw [if_pos (by omega)]
  by_cases h2 : w ≤ 128
  ·rw [if_pos h2, if_pos (u64s_hl X), Option.bind_some, Option.bind_some]
   congr 1
   rw [decide_eq_decide]
   have := topLen_le X hX 128 w.toNat (by omega) (fun i hi => tb_hi hX i hi)
   omega
  ·rw [if_neg h2, decide_eq_false (by omega)]
 ·rw [if_neg (by omega), decide_eq_false (by omega)]
theorem ref02_Bits_eq (w : Int) (X : Nat) (hX : X < 2 ^ 128) : shunterref02_Bits.f w (hiW X) (loW X) = some ((List.range (min w.toNat 128)).map X.testBit) := by
 unfold shunterref02_Bits.f
 rw [if_pos (u64s_hl X)]
 congr 1
 refine List.map_congr_left fun j hj => ?_
 rw [List.mem_range] at hj
 exact bitAt_tb X j (by omega) hX
theorem ofB_zero_eq (f : Nat → Bool) : ∀ n, ofB f (n + 1) = (if f 0 then 1 else 0) + 2 * ofB (fun i => f (i + 1)) n
 | 0 => by simp [ofB]
 | n + 1 => by
  have ih := ofB_zero_eq f n
  rw [ofB, ih]
  simp only [ofB]
  split <;> split <;> simp [Nat.pow_succ] <;> omega
theorem hvD_ofB (f : Nat → Bool) : ∀ d, d ≤ 64 → hvD f d = ((ofB (fun i => f (64 - d + i)) d : Nat) : Int)
 | 0, _ => rfl
 | d + 1, h => by
  have ih := hvD_ofB f d (by omega)
  rw [ofB_zero_eq, hvD, ih]
  have e : (fun i => f (64 - (d + 1) + (i + 1))) = fun i => f (64 - d + i) := by funext i; congr 1; omega
  rw [e, show 64 - (d + 1) + 0 = 63 - d by omega]
  split <;> omega
theorem hvD_64 (f : Nat → Bool) : hvD f 64 = ((ofB f 64 : Nat) : Int) := by
 rw [hvD_ofB f 64 (by omega)]
 congr 2
 funext i
 simp
theorem loW_tell {X : Nat} {f : Nat → Bool} (h : ∀ i, i < 64 → X.testBit i = f i) : loW X = hvD f 64 := by
 rw [hvD_64]
 exact loW_bits (fun i hi => by rw [h i hi, tb_ofB, decide_eq_true hi, Bool.true_and]) (ofB_lt f 64)
theorem hiW_tell {X : Nat} {f : Nat → Bool} (h : ∀ i, i < 64 → X.testBit (i + 64) = f (i + 64)) : hiW X = hvD (fun j => f (j + 64)) 64 := by
 rw [hvD_64]
 exact hiW_bits (fun i hi => by rw [Nat.add_comm, h i hi, tb_ofB, decide_eq_true hi, Bool.true_and]) (ofB_lt _ 64)
theorem ref02_Of_eq (l : List Bool) (hl : l.length ≤ 128) : shunterref02_Of.f l = some ((l.length : Int), hiW (ofB (fun i => l[i]?.getD false) l.length), loW (ofB (fun i => l[i]?.getD false) l.length)) := by
 unfold shunterref02_Of.f
 rw [if_pos (by omega)]
 have key : ∀ i, (ofB (fun i => l[i]?.getD false) l.length).testBit i = l[i]?.getD false := by
  intro i
  rw [tb_ofB]
  by_cases h : i < l.length
  ·simp [h]
  ·simp [h]
 rw [loW_tell (f := fun i => l[i]?.getD false) (fun i _ => key i), hiW_tell (f := fun i => l[i]?.getD false) (fun i _ => key _)]
theorem vmay_lt {w : Int} {X : Nat} (h : vmay w X = true) : 1 ≤ w ∧ w ≤ 128 ∧ X < 2 ^ w.toNat := by unfold vmay at h; simpa using h
theorem and_lt {X Y n : Nat} (h : X < 2 ^ n) : X &&& Y < 2 ^ n := Nat.lt_of_le_of_lt Nat.and_le_left h
theorem vec_And_eq (a b : Int) (X Y : Nat) (hX : X < 2 ^ 128) (hY : Y < 2 ^ 128) : vec_And.f a (hiW X) (loW X) b (hiW Y) (loW Y) = some (if vmay a X = true ∧ vmay b Y = true then (if a = b then (a, hiW (X &&& Y), loW (X &&& Y), 0) else (0, 0, 0, 9)) else (0, 0, 0, 1)) := by
 unfold vec_And.f
 rw [vec_May_eq a X hX, vec_May_eq b Y hY, Option.bind_some]
 cases hA : vmay a X with
 | false => rw [if_neg (by simp), if_neg (by simp)]
 | true =>
  rw [if_pos rfl, Option.bind_some]
  cases hB : vmay b Y with
  | false => rw [if_neg (by simp), if_neg (by simp)]
  | true =>
   rw [if_pos rfl, if_pos (show true = true ∧ true = true from ⟨rfl, rfl⟩)]
   by_cases e : a = b
   ·rw [if_pos e, if_pos e, word_And_eq, Option.bind_some]
    have h := vmay_lt hA
    rw [vec_Cut_eq 3, if_pos ⟨h.1, h.2.1⟩, Nat.mod_eq_of_lt (and_lt h.2.2)]
   ·rw [if_neg e, if_neg e]
theorem hl_inj {X Y : Nat} (hX : X < 2 ^ 128) (hY : Y < 2 ^ 128) : (hiW X == hiW Y && (loW X == loW Y)) = (X == Y) := by
 rw [Bool.eq_iff_iff, Bool.and_eq_true, beq_iff_eq, beq_iff_eq, beq_iff_eq]
 constructor
 ·rintro ⟨h1, h2⟩; unfold hiW at h1; unfold loW at h2; omega
 ·rintro rfl; exact ⟨rfl, rfl⟩
def okV (v : S32) : Prop := 0 ≤ v.f1 ∧ v.f1 < 2 ^ 64 ∧ 0 ≤ v.f2 ∧ v.f2 < 2 ^ 64
def vV (v : S32) : Nat := valW v.f1 v.f2
theorem vV_lt {v : S32} (h : okV v) : vV v < 2 ^ 128 := valW_lt h.1 h.2.1 h.2.2.1 h.2.2.2
theorem vV_hi {v : S32} (h : okV v) : hiW (vV v) = v.f1 := hiW_valW h.1 h.2.1 h.2.2.1 h.2.2.2
theorem vV_lo {v : S32} (h : okV v) : loW (vV v) = v.f2 := loW_valW h.2.2.1 h.2.2.2
theorem sub_lt {X Y : Nat} (hX : X < 2 ^ 128) (hY : Y < 2 ^ 128) : decide (0 < sbB (hiW X) (hiW Y) (sbB (loW X) (loW Y) 0)) = decide (X < Y) := by
 have e1 : sbB (loW X) (loW Y) 0 = ((if X % 2 ^ 64 < Y % 2 ^ 64 then 1 else 0 : Nat) : Int) := by
  unfold sbB loW
  rw [Int.toNat_natCast, Int.toNat_natCast, show (0 : Int).toNat = 0 from rfl, Nat.add_zero]
 rw [e1]
 unfold sbB hiW
 rw [Int.toNat_natCast, Int.toNat_natCast, Int.toNat_natCast]
 by_cases c : X % 2 ^ 64 < Y % 2 ^ 64
 ·rw [if_pos c]
  split
  ·rw [decide_eq_true (by decide), decide_eq_true (by omega)]
  ·rw [decide_eq_false (by decide), decide_eq_false (by omega)]
 ·rw [if_neg c]
  split
  ·rw [decide_eq_true (by decide), decide_eq_true (by omega)]
  ·rw [decide_eq_false (by decide), decide_eq_false (by omega)]
theorem word_Cmp_eq {X Y : Nat} (hX : X < 2 ^ 128) (hY : Y < 2 ^ 128) : ∃ c, word_Cmp.f (hiW X) (loW X) (hiW Y) (loW Y) = some c ∧ decide (c < 0) = decide (X < Y) := by
 unfold word_Cmp.f word_Sub.f
 rw [Option.bind_some]
 simp only
 rw [hl_inj hX hY, sub_lt hX hY]
 by_cases e : X = Y
 ·subst e
  exact ⟨0, by rw [if_pos (by simp)], by rw [decide_eq_false (by decide), decide_eq_false (by omega)]⟩
 ·rw [if_neg (by simpa using e)]
  by_cases c : X < Y
  ·exact ⟨-1, by rw [if_pos (by simpa using c)], by rw [decide_eq_true (by decide), decide_eq_true c]⟩
  ·exact ⟨1, by rw [if_neg (by simpa using c)], by rw [decide_eq_false (by decide), decide_eq_false c]⟩
theorem vec_Less_eq (a b : Int) (X Y : Nat) (hX : X < 2 ^ 128) (hY : Y < 2 ^ 128) : vec_Less.f a (hiW X) (loW X) b (hiW Y) (loW Y) = some (if vmay a X = true ∧ vmay b Y = true then (if a = b then (1, 0, if X < Y then 1 else 0, 0) else (0, 0, 0, 9)) else (0, 0, 0, 1)) := by
 unfold vec_Less.f
 rw [vec_And_eq a b X Y hX hY, Option.bind_some]
 by_cases h : vmay a X = true ∧ vmay b Y = true
 ·rw [if_pos h, if_pos h]
  by_cases e : a = b
  ·rw [if_pos e, if_pos e, if_pos rfl]
   obtain ⟨c, hc, hd⟩ := word_Cmp_eq hX hY
   rw [hc, Option.bind_some, hd]
   unfold vec_Truth.f
   by_cases d : X < Y
   ·rw [if_pos d, decide_eq_true d, if_pos rfl]; rfl
   ·rw [if_neg d, decide_eq_false d, if_neg (by simp)]; rfl
  ·rw [if_neg e, if_neg e, if_neg (by decide)]
 ·rw [if_neg h, if_neg h, if_neg (by decide)]
def wiN (a : Int) (X : Nat) (b : Int) (Y : Nat) (c : Int) (Z : Nat) : Bool := decide ((vmay a X = true ∧ vmay b Y = true ∧ vmay c Z = true) ∧ (a = b ∧ a = c) ∧ Y ≤ X ∧ X ≤ Z)
theorem within_of {f : Int × Int × Int × Int} {g : Int × Int × Int × Int} {a : Int} {X : Nat} {b : Int} {Y : Nat} {c : Int} {Z : Nat}
 (hf : f = if vmay a X = true ∧ vmay b Y = true then (if a = b then (1, 0, if X < Y then 1 else 0, 0) else (0, 0, 0, 9)) else (0, 0, 0, 1))
 (hg : g = if vmay c Z = true ∧ vmay a X = true then (if c = a then (1, 0, if Z < X then 1 else 0, 0) else (0, 0, 0, 9)) else (0, 0, 0, 1)) :
 (if f.2.2.2 = 0 then (if g.2.2.2 = 0 then (if f.2.2.1 = 0 then (some (g.2.2.1 == 0)) else (some false)) else (some false)) else (some false)) = some (wiN a X b Y c Z) := by
 unfold wiN
 subst hf hg
 by_cases h1 : vmay a X = true ∧ vmay b Y = true
 ·by_cases h2 : vmay c Z = true ∧ vmay a X = true
  ·by_cases e1 : a = b
   ·by_cases e2 : c = a
    ·rw [if_pos h1, if_pos h2, if_pos e1, if_pos e2, if_pos rfl, if_pos rfl]
     by_cases c1 : X < Y
     ·rw [if_pos c1, if_neg (by decide), decide_eq_false (by omega)]
     ·rw [if_neg c1, if_pos rfl]
      by_cases c2 : Z < X
      ·rw [if_pos c2, decide_eq_false (by omega)]; rfl
      ·rw [if_neg c2, decide_eq_true ⟨⟨h1.1, h1.2, h2.1⟩, ⟨e1, e2.symm⟩, by omega, by omega⟩]; rfl
    ·rw [if_pos h1, if_pos h2, if_pos e1, if_neg e2, if_pos rfl, if_neg (by decide), decide_eq_false (fun h => e2 h.2.1.2.symm)]
   ·rw [if_pos h1, if_neg e1, if_neg (by decide), decide_eq_false (fun h => e1 h.2.1.1)]
  ·rw [if_neg h2, if_neg (show ¬ ((0, 0, 0, 1) : Int × Int × Int × Int).2.2.2 = 0 by decide), decide_eq_false (fun h => h2 ⟨h.1.2.2, h.1.1⟩)]
   split <;> first | rfl | (split <;> rfl)
 ·rw [if_neg h1, if_neg (show ¬ ((0, 0, 0, 1) : Int × Int × Int × Int).2.2.2 = 0 by decide), decide_eq_false (fun h => h1 ⟨h.1.1, h.1.2.1⟩)]
theorem vec_Within_num (a b c : Int) (X Y Z : Nat) (hX : X < 2 ^ 128) (hY : Y < 2 ^ 128) (hZ : Z < 2 ^ 128) : vec_Within.f a (hiW X) (loW X) b (hiW Y) (loW Y) c (hiW Z) (loW Z) = some (wiN a X b Y c Z) := by
 unfold vec_Within.f
 rw [vec_Less_eq a b X Y hX hY, Option.bind_some, vec_Less_eq c a Z X hZ hX, Option.bind_some]
 exact within_of rfl rfl
theorem lessGo_eq {X Y : Nat} : ∀ (n : Nat) (m : Nat), n ≤ m → lessGo ((List.range m).map X.testBit) ((List.range m).map Y.testBit) n = decide (X % 2 ^ n < Y % 2 ^ n)
 | 0, m, _ => by rw [Nat.pow_zero, Nat.mod_one, Nat.mod_one]; rfl
 | n + 1, m, h => by
  have gd : ∀ Z : Nat, ((List.range m).map Z.testBit).getD n false = Z.testBit n := fun Z => by
   rw [List.getD_eq_getElem?_getD, List.getElem?_map, List.getElem?_range (by omega)]; rfl
  have sp : ∀ Z : Nat, Z % 2 ^ (n + 1) = (if Z.testBit n = true then 2 ^ n else 0) + Z % 2 ^ n := fun Z => by
   rw [Nat.mod_pow_succ, Nat.testBit_eq_decide_div_mod_eq]
   by_cases c : Z / 2 ^ n % 2 = 1
   ·rw [decide_eq_true c, if_pos rfl, c]; omega
   ·rw [decide_eq_false c, if_neg (by simp), show Z / 2 ^ n % 2 = 0 by omega]; omega
  have lt : ∀ Z : Nat, Z % 2 ^ n < 2 ^ n := fun Z => Nat.mod_lt _ (Nat.two_pow_pos n)
  show (if _ then _ else _) = _
  rw [gd X, gd Y, lessGo_eq n m (by omega), sp X, sp Y]
  have h1 := lt X
  have h2 := lt Y
  cases hx : X.testBit n <;> cases hy : Y.testBit n
  ·rw [if_pos rfl]; exact decide_eq_decide.2 (by simp only [Bool.false_eq_true, if_false]; omega)
  ·rw [if_neg (by simp)]; symm; rw [decide_eq_true_eq]; simp only [Bool.false_eq_true, if_false, if_true]; omega
  ·rw [if_neg (by simp)]; symm; rw [decide_eq_false_iff_not]; simp only [Bool.false_eq_true, if_false, if_true]; omega
  ·rw [if_pos rfl]; exact decide_eq_decide.2 (by simp only [if_true]; omega)
theorem ref02_Less_eq (a b : Int) (X Y : Nat) (hX : X < 2 ^ 128) (hY : Y < 2 ^ 128) : shunterref02_Two.f (⟨#[108, 101, 115, 115]⟩ : ByteArray) a (hiW X) (loW X) b (hiW Y) (loW Y) = some (if vmay a X = true ∧ vmay b Y = true then (if a = b then (1, 0, if X < Y then 1 else 0, 0) else (0, 0, 0, 9)) else (0, 0, 0, 1)) := by
 unfold shunterref02_Two.f
 rw [ref02_May_eq a X hX, ref02_May_eq b Y hY, Option.bind_some]
 cases hA : vmay a X with
 | false => rw [if_neg (by simp), if_neg (by simp)]
 | true =>
  rw [if_pos rfl, Option.bind_some]
  cases hB : vmay b Y with
  | false => rw [if_neg (by simp), if_neg (by simp)]
  | true =>
   rw [if_pos rfl, if_pos (show true = true ∧ true = true from ⟨rfl, rfl⟩)]
   by_cases e : a = b
   ·subst e
    have h := vmay_lt hA
    have h' := vmay_lt hB
    rw [if_pos rfl, if_pos rfl, ref02_Bits_eq a X hX, Option.bind_some, ref02_Bits_eq a Y hY, Option.bind_some, if_neg (by decide), if_pos rfl]
    have hl : ((List.range (min a.toNat 128)).map X.testBit).length = a.toNat := by simp; omega
    have hm : min a.toNat 128 = a.toNat := by omega
    rw [hl, hm, lessGo_eq _ _ (Nat.le_refl _), Nat.mod_eq_of_lt h.2.2, Nat.mod_eq_of_lt h'.2.2, ref02_Of_eq _ (by simp), Option.bind_some]
    by_cases d : X < Y
    ·rw [decide_eq_true d, if_pos d]; decide +kernel
    ·rw [decide_eq_false d, if_neg d]; decide +kernel
   ·rw [if_neg e, if_neg e]
theorem ref02_Within_num (a b c : Int) (X Y Z : Nat) (hX : X < 2 ^ 128) (hY : Y < 2 ^ 128) (hZ : Z < 2 ^ 128) : shunterref02_Within.f a (hiW X) (loW X) b (hiW Y) (loW Y) c (hiW Z) (loW Z) = some (wiN a X b Y c Z) := by
 unfold shunterref02_Within.f
 rw [ref02_Less_eq a b X Y hX hY, Option.bind_some, ref02_Less_eq c a Z X hZ hX, Option.bind_some]
 exact within_of rfl rfl
def mayV (x : S32) : Bool := vmay x.f0 (vV x)
def wiV (v lo hi : S32) : Bool := wiN v.f0 (vV v) lo.f0 (vV lo) hi.f0 (vV hi)
theorem vec_May_ok {x : S32} (h : okV x) : vec_May.f x.f0 x.f1 x.f2 = some (mayV x) := by
 have := vec_May_eq x.f0 (vV x) (vV_lt h)
 rwa [vV_hi h, vV_lo h] at this
theorem vec_Within_ok {v lo hi : S32} (h : okV v) (h1 : okV lo) (h2 : okV hi) : vec_Within.f v.f0 v.f1 v.f2 lo.f0 lo.f1 lo.f2 hi.f0 hi.f1 hi.f2 = some (wiV v lo hi) := by
 have := vec_Within_num v.f0 lo.f0 hi.f0 (vV v) (vV lo) (vV hi) (vV_lt h) (vV_lt h1) (vV_lt h2)
 rwa [vV_hi h, vV_lo h, vV_hi h1, vV_lo h1, vV_hi h2, vV_lo h2] at this
theorem ref02_Within_ok {v lo hi : S32} (h : okV v) (h1 : okV lo) (h2 : okV hi) : shunterref02_Within.f v.f0 v.f1 v.f2 lo.f0 lo.f1 lo.f2 hi.f0 hi.f1 hi.f2 = some (wiV v lo hi) := by
 have := ref02_Within_num v.f0 lo.f0 hi.f0 (vV v) (vV lo) (vV hi) (vV_lt h) (vV_lt h1) (vV_lt h2)
 rwa [vV_hi h, vV_lo h, vV_hi h1, vV_lo h1, vV_hi h2, vV_lo h2] at this
instance : DecidableEq S32 := fun a b => decidable_of_iff (a.f0 = b.f0 ∧ a.f1 = b.f1 ∧ a.f2 = b.f2) (by
 obtain ⟨a0, a1, a2⟩ := a
 obtain ⟨b0, b1, b2⟩ := b
 simp)
end Go.Proofs.Ytfdbcnbakchcgaa.XQ
