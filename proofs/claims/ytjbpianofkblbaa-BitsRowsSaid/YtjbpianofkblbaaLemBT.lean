/- The bits of chapter 3: the reference's vectors, by number. -/
import Derived.Test.YtjbpianofkblbaaTk
namespace Go.Proofs.Ytjbpianofkblbaa.XT
open Go.RowKit Go.Proofs.YtjbpianofkblbaaW.PrintWords Go.Proofs.YtjbpianofkblbaaW.PrintLast
theorem ofB_zero_eq (f : Nat → Bool) : ∀ n, ofB f (n + 1) = (if f 0 then 1 else 0) + 2 * ofB (fun i => f (i + 1)) n
  | 0 => by simp [ofB]
  | n + 1 => by
    have ih := ofB_zero_eq f n
    rw [ofB, ih]
    simp only [ofB]
    split <;> split <;> simp [Nat.pow_succ] <;> omega
theorem hvD_ofB (f : Nat → Bool) : ∀ d, d ≤ 64 → hvD f d = ((ofB (fun i => f (64 - d + i)) d : Nat) : Int)
  | 0, _ => rfl
  | d + 1, h => by
    have ih := hvD_ofB f d (by omega)
    rw [ofB_zero_eq, hvD, ih]
    have e : (fun i => f (64 - (d + 1) + (i + 1))) = fun i => f (64 - d + i) := by funext i; congr 1; omega
    rw [e, show 64 - (d + 1) + 0 = 63 - d by omega]
    split <;> omega
theorem hvD_64 (f : Nat → Bool) : hvD f 64 = ((ofB f 64 : Nat) : Int) := by
  rw [hvD_ofB f 64 (by omega)]
  congr 2
  funext i
  simp
/-- The halves of a number that is told bit by bit. -/
theorem loW_tell {X : Nat} {f : Nat → Bool} (h : ∀ i, i < 64 → X.testBit i = f i) : loW X = hvD f 64 := by
  rw [hvD_64]
  exact loW_bits (fun i hi => by rw [h i hi, tb_ofB, decide_eq_true hi, Bool.true_and]) (ofB_lt f 64)
theorem hiW_tell {X : Nat} {f : Nat → Bool} (h : ∀ i, i < 64 → X.testBit (i + 64) = f (i + 64)) : hiW X = hvD (fun j => f (j + 64)) 64 := by
  rw [hvD_64]
  exact hiW_bits (fun i hi => by rw [Nat.add_comm, h i hi, tb_ofB, decide_eq_true hi, Bool.true_and]) (ofB_lt _ 64)
/-- ref02.Of, by number. -/
theorem ref02_Of_eq (l : List Bool) (hl : l.length ≤ 128) : shunterref02_Of.f l = some ((l.length : Int), hiW (ofB (fun i => l[i]?.getD false) l.length), loW (ofB (fun i => l[i]?.getD false) l.length)) := by
  unfold shunterref02_Of.f
  rw [if_pos (by omega)]
  have key : ∀ i, (ofB (fun i => l[i]?.getD false) l.length).testBit i = l[i]?.getD false := by
    intro i
    rw [tb_ofB]
    by_cases h : i < l.length
    · simp [h]
    · simp [h]
  rw [loW_tell (f := fun i => l[i]?.getD false) (fun i _ => key i), hiW_tell (f := fun i => l[i]?.getD false) (fun i _ => key _)]
theorem ref03_Vec_loop (l : List Bool) (hl : l.length ≤ 128) : ∀ (n : Nat) (k : Nat) (acc : List Bool), n ≤ l.length → n < k → acc = (l.drop n).reverse →
    shunterref03_Vec.l0 k l acc ((n : Int) - 1) = (shunterref02_Of.f l.reverse).bind fun t => some (t.1, t.2.1, t.2.2)
  | 0, k, acc, _, hk, ha => by
    obtain ⟨k, rfl⟩ : ∃ m, k = m + 1 := ⟨k - 1, by omega⟩
    simp only [shunterref03_Vec.l0]
    rw [if_neg (by omega), ha]
    rfl
  | n + 1, k, acc, hn, hk, ha => by
    obtain ⟨k, rfl⟩ : ∃ m, k = m + 1 := ⟨k - 1, by omega⟩
    simp only [shunterref03_Vec.l0]
    have hal : acc.length ≤ 128 := by rw [ha]; simp; omega
    rw [if_pos (by omega), if_pos (by omega), if_pos (by omega), if_pos (by omega)]
    rw [wrap64_id _ (by omega) (by omega), show ((n + 1 : Nat) : Int) - 1 - 1 = (n : Int) - 1 by omega]
    refine ref03_Vec_loop l hl n k _ (by omega) (by omega) ?_
    rw [ha, show (((n + 1 : Nat) : Int) - 1) = (n : Int) by omega]
    rw [List.drop_eq_getElem_cons (show n < l.length by omega), List.reverse_cons]
    simp [rdOf, show n < l.length by omega]
/-- ref03.Vec, by number: the first bit is the highest. -/
theorem ref03_Vec_eq (k : Nat) (l : List Bool) (hl : l.length ≤ 128) (hk : l.length < k) :
    shunterref03_Vec.f k l = some ((l.length : Int), hiW (ofB (fun i => l.reverse[i]?.getD false) l.length), loW (ofB (fun i => l.reverse[i]?.getD false) l.length)) := by
  unfold shunterref03_Vec.f
  rw [wrap64_id _ (by omega) (by omega), ref03_Vec_loop l hl l.length k [] (by omega) hk (by simp), ref02_Of_eq _ (by simpa using hl)]
  simp
theorem ref03_Bits_eq {l : List Int} (h : okBytes l) : shunterref03_Bits.f l = some ((List.range (8 * l.length)).map (bitOf l)) := if_pos h
theorem ofB_congr {f g : Nat → Bool} {n : Nat} (h : ∀ i, i < n → f i = g i) : ofB f n = ofB g n := by
  apply Nat.eq_of_testBit_eq
  intro i
  rw [tb_ofB, tb_ofB]
  by_cases hi : i < n
  · rw [h i hi]
  · simp [hi]
theorem slice_len (l : List Bool) (p q : Nat) (h : p + q ≤ l.length) : ((l.take (p + q)).drop p).length = q := by simp; omega
theorem slice_rev (F : Nat → Bool) (n p q i : Nat) (h : p + q ≤ n) (hi : i < q) : ((((List.range n).map F).take (p + q)).drop p).reverse[i]?.getD false = F (p + q - 1 - i) := by
  have hl : ((((List.range n).map F).take (p + q)).drop p).length = q := slice_len _ p q (by simpa using h)
  rw [List.getElem?_reverse (by rw [hl]; exact hi), hl, List.getElem?_drop, List.getElem?_take, if_pos (by omega)]
  rw [List.getElem?_map, List.getElem?_range (by omega)]
  simp
  congr 1
  omega
/-- The bits of some bytes, as the document has them. -/
def bitsL (l : List Int) : List Bool := (List.range (8 * l.length)).map (bitOf l)
theorem bitsL_length (l : List Int) : (bitsL l).length = 8 * l.length := by simp [bitsL]
theorem ref03_Vec_seen (l : List Int) (p q : Nat) (h : p + q ≤ 8 * l.length) (hq : q ≤ 128) : shunterref03_Vec.f 200 (((bitsL l).take (p + q)).drop p) = some ((q : Int), hiW (seen l p q), loW (seen l p q)) := by
  have hsl : (((bitsL l).take (p + q)).drop p).length = q := slice_len _ p q (by rw [bitsL_length]; exact h)
  rw [ref03_Vec_eq _ _ (by omega) (by omega), hsl]
  unfold bitsL
  rw [ofB_congr (fun i hi => slice_rev (bitOf l) (8 * l.length) p q i h hi)]
  rfl
end Go.Proofs.Ytjbpianofkblbaa.XT
