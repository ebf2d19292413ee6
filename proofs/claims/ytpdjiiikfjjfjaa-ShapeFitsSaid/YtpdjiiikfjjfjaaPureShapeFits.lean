/- The pure law of ShapeFits. -/
import Derived.Test.YtpdjiiikfjjfjaaLemSa
namespace Go.Proofs.Ytpdjiiikfjjfjaa.XF
open Go.RowKit Go.Proofs.YtpdjiiikfjjfjaaW.PrintWords Go.Proofs.YtpdjiiikfjjfjaaW.PrintLast Go.Proofs.YtpdjiiikfjjfjaaW.PrintMore
attribute [local go_sem] max2_int min2_int max_two min_two max_three min_three max_four min_four   -- for this text's walks alone
set_option linter.unusedVariables false
set_option linter.unusedSimpArgs false
/-- How many slots an instance of this depth has. -/
def mN (d : Int) : Nat := if 0 ≤ d ∧ d ≤ 4 then max d.toNat 1 else 0
def total : List S42 → Nat
  | [] => 0
  | x :: t => mN x.f2 + total t
theorem total_app (a b : List S42) : total (a ++ b) = total a + total b := by
  induction a with
  | nil => simp [total]
  | cons x a ih => simp [total, ih]; omega
theorem mN_le (d : Int) : mN d ≤ 4 := by unfold mN; split <;> omega
theorem total_le (l : List S42) : total l ≤ 4 * l.length := by
  induction l with
  | nil => simp [total]
  | cons x l ih => have := mN_le x.f2; simp only [total, List.length_cons]; omega
theorem many_eq (a : ByteArray) (b d : Int) : shape_many.f a b d = some ((mN d : Nat) : Int) := by
  unfold shape_many.f mN
  rw [within_eq, Option.bind_some]
  by_cases h : 0 ≤ d ∧ d ≤ 4
  · rw [decide_eq_true h, if_pos rfl, if_pos h]
    unfold mx
    congr 1
    split <;> omega
  · rw [decide_eq_false h, if_neg (by simp), if_neg h]
    rfl
theorem take_nx (l : List S42) (i : Nat) (h : i < l.length) : l.take (i + 1) = l.take i ++ [rd_T42 l (i : Int)] := by
  rw [List.take_add_one, List.getElem?_eq_getElem h]
  simp [rd_T42, List.getD_eq_getElem?_getD, h]
theorem total_nx (l : List S42) (i : Nat) (h : i < l.length) : total (l.take (i + 1)) = total (l.take i) + mN (rd_T42 l (i : Int)).f2 := by
  rw [take_nx l i h, total_app]
  simp [total]
theorem total_mono (l : List S42) (i n : Nat) : total (l.take i) ≤ total (l.take (i + n)) := by
  rw [List.take_add, total_app]; omega
theorem Slots_loop (l : List S42) (hl : l.length ≤ 1000) : ∀ (n i k : Nat), i + n = l.length → n < k → shape_Slots.l0 k ((total (l.take i) : Nat) : Int) l (l.length : Int) (i : Int) = some ((total l : Nat) : Int)
  | 0, i, k, hi, hk => by
    obtain ⟨k, rfl⟩ : ∃ m, k = m + 1 := ⟨k - 1, by omega⟩
    simp only [shape_Slots.l0]
    rw [if_neg (by omega), List.take_of_length_le (by omega)]
  | n + 1, i, k, hi, hk => by
    obtain ⟨k, rfl⟩ : ∃ m, k = m + 1 := ⟨k - 1, by omega⟩
    have h1 := total_le (l.take i)
    have h2 := mN_le (rd_T42 l (i : Int)).f2
    have h3 : (l.take i).length ≤ l.length := by simp; omega
    simp only [shape_Slots.l0]
    rw [if_pos (by omega), if_pos (by omega), if_pos (by omega), many_eq, Option.bind_some]
    rw [wrap64_id _ (by omega) (by omega), wrap64_id _ (by omega) (by omega)]
    have := Slots_loop l hl n (i + 1) k (by omega) (by omega)
    rw [total_nx l i (by omega)] at this
    rw [← this]
    congr 1
theorem Slots_eq (l : List S42) (hl : l.length ≤ 1000) (k : Nat) (hk : l.length < k) : shape_Slots.f k l = some ((total l : Nat) : Int) := by
  unfold shape_Slots.f
  have := Slots_loop l hl l.length 0 k (by omega) hk
  simpa [total] using this
theorem First_in (l : List S42) (hl : l.length ≤ 1000) (k j : Nat) (hk : l.length < k) (hj : j < l.length) :
    shape_First.f k l (j : Int) = some (if mN (rd_T42 l (j : Int)).f2 = 0 then (0, false) else (((total (l.take j) : Nat) : Int), true)) := by
  unfold shape_First.f
  rw [wrap64_id _ (by omega) (by omega), within_eq, Option.bind_some, decide_eq_true (by omega), if_pos rfl, if_pos (by omega), if_pos (by omega), many_eq, Option.bind_some]
  by_cases h : mN (rd_T42 l (j : Int)).f2 = 0
  · rw [if_pos (by omega), if_pos h]
  · rw [if_neg (by omega), if_neg h, if_pos (by omega), Int.toNat_natCast, Slots_eq _ (by simp; omega) k (by simp; omega), Option.bind_some]
theorem First_end (l : List S42) (hl : l.length ≤ 1000) (k : Nat) : shape_First.f k l (l.length : Int) = some (0, false) := by
  unfold shape_First.f
  rw [wrap64_id _ (by omega) (by omega), within_eq, Option.bind_some, decide_eq_false (by omega), if_neg (by simp)]
theorem Of_loop (l : List S42) (hl : l.length ≤ 1000) (j d : Nat) (hj : j < l.length) (hd : d < mN (rd_T42 l (j : Int)).f2) : ∀ (n i k : Nat), i + n = j → n < k →
    shape_Of.l0 k ((total (l.take j) + d - total (l.take i) : Nat) : Int) l (l.length : Int) (i : Int) = some ((j : Int), (d : Int), true)
  | 0, i, k, hi, hk => by
    obtain ⟨k, rfl⟩ : ∃ m, k = m + 1 := ⟨k - 1, by omega⟩
    obtain rfl : i = j := by omega
    simp only [shape_Of.l0]
    rw [if_pos (by omega), if_pos (by omega), if_pos (by omega), many_eq, Option.bind_some, if_pos (by omega)]
    rw [show total (l.take i) + d - total (l.take i) = d by omega]
  | n + 1, i, k, hi, hk => by
    obtain ⟨k, rfl⟩ : ∃ m, k = m + 1 := ⟨k - 1, by omega⟩
    have h1 := total_nx l i (by omega)
    have h2 := total_mono l (i + 1) n
    rw [show i + 1 + n = j by omega] at h2
    have h4 := total_le (l.take j)
    have h5 : (l.take j).length ≤ l.length := by simp; omega
    have h6 := mN_le (rd_T42 l (j : Int)).f2
    simp only [shape_Of.l0]
    rw [if_pos (by omega), if_pos (by omega), if_pos (by omega), many_eq, Option.bind_some, if_neg (by omega), Option.bind_some]
    rw [wrap64_id _ (by omega) (by omega), wrap64_id _ (by omega) (by omega)]
    have := Of_loop l hl j d hj hd n (i + 1) k (by omega) (by omega)
    rw [← this]
    congr 1
    omega
theorem Of_eq (l : List S42) (hl : l.length ≤ 1000) (j d k : Nat) (hj : j < l.length) (hd : d < mN (rd_T42 l (j : Int)).f2) (hk : l.length < k) :
    shape_Of.f k l ((total (l.take j) + d : Nat) : Int) = some ((j : Int), (d : Int), true) := by
  unfold shape_Of.f
  rw [if_neg (by omega)]
  have := Of_loop l hl j d hj hd j 0 k (by omega) (by omega)
  simpa [total] using this
/-- The inner loop: the slots of one instance. -/
theorem Fits_inner (l : List S42) (hl : l.length ≤ 40) (j : Nat) (hj : j < l.length) (D : Nat) (hD : D = mN (rd_T42 l (j : Int)).f2) (R : Option Bool) : ∀ (n d k : Nat), d + n = D → n + 60 < k →
    (∀ k', k = k' + n + 1 → shunterlaw08_ShapeFits.l0 k' l ((total (l.take (j + 1)) : Nat) : Int) ((j + 1 : Nat) : Int) = R) →
    shunterlaw08_ShapeFits.l1 k l ((total (l.take j) : Nat) : Int) (j : Int) ((total (l.take j) : Nat) : Int) (D : Int) (d : Int) = R
  | 0, d, k, hd, hk, hR => by
    obtain ⟨k, rfl⟩ : ∃ m, k = m + 1 := ⟨k - 1, by omega⟩
    have h1 := total_nx l j hj
    have h4 := total_le (l.take j)
    have h5 : (l.take j).length ≤ l.length := by simp; omega
    have h6 := mN_le (rd_T42 l (j : Int)).f2
    rw [← hR k rfl]
    simp only [shunterlaw08_ShapeFits.l1]
    rw [if_neg (by omega), wrap64_id _ (by omega) (by omega), wrap64_id _ (by omega) (by omega)]
    congr 1
    omega
  | n + 1, d, k, hd, hk, hR => by
    obtain ⟨k, rfl⟩ : ∃ m, k = m + 1 := ⟨k - 1, by omega⟩
    have h4 := total_le (l.take j)
    have h5 : (l.take j).length ≤ l.length := by simp; omega
    have h6 := mN_le (rd_T42 l (j : Int)).f2
    have ho := Of_eq l (by omega) j d k hj (by omega) (by omega)
    simp only [shunterlaw08_ShapeFits.l1]
    rw [if_pos (by omega), wrap64_id (((total (l.take j) : Nat) : Int) + (d : Int)) (by omega) (by omega), show ((total (l.take j) : Nat) : Int) + (d : Int) = ((total (l.take j) + d : Nat) : Int) by omega, ho, Option.bind_some]
    dsimp only
    rw [if_pos rfl, if_pos rfl, if_pos rfl, wrap64_id _ (by omega) (by omega)]
    exact Fits_inner l hl j hj D hD R n (d + 1) k (by omega) (by omega) (fun k' hk' => hR k' (by omega))
theorem Fits_outer (l : List S42) (hl : l.length ≤ 40) : ∀ (n j k : Nat), j + n = l.length → 10 * n + 100 < k → shunterlaw08_ShapeFits.l0 k l ((total (l.take j) : Nat) : Int) (j : Int) = some true
  | 0, j, k, hj, hk => by
    obtain ⟨k, rfl⟩ : ∃ m, k = m + 1 := ⟨k - 1, by omega⟩
    simp only [shunterlaw08_ShapeFits.l0]
    rw [if_neg (by omega), First_end l (by omega), Option.bind_some, Slots_eq l (by omega) k (by omega), Option.bind_some, List.take_of_length_le (by omega), if_pos rfl]
    dsimp only
    rw [if_pos rfl, if_neg (by simp), lives_at k (by omega)]
    rfl
  | n + 1, j, k, hj, hk => by
    obtain ⟨k, rfl⟩ : ∃ m, k = m + 1 := ⟨k - 1, by omega⟩
    obtain ⟨k, rfl⟩ : ∃ m, k = m + 1 := ⟨k - 1, by omega⟩
    have hf := First_in l (by omega) (k + 1) j (by omega) (by omega)
    have h1 := total_nx l j (by omega)
    have h6 := mN_le (rd_T42 l (j : Int)).f2
    have ih := fun k' (h : 10 * n + 100 < k') => Fits_outer l hl n (j + 1) k' (by omega) h
    simp only [shunterlaw08_ShapeFits.l0]
    rw [if_pos (by omega), hf, Option.bind_some, if_pos (by omega)]
    by_cases hneg : (rd_T42 l (j : Int)).f2 < 0
    · have hm : mN (rd_T42 l (j : Int)).f2 = 0 := by unfold mN; rw [if_neg (by omega)]
      rw [if_pos hneg, if_pos hm]
      simp only [shunterlaw08_ShapeFits.j1]
      rw [if_pos trivial, if_neg (by simp), if_pos trivial, wrap64_id _ (by omega) (by omega)]
      have := ih k (by omega)
      rw [h1, hm] at this
      exact this
    · rw [if_neg hneg]
      by_cases hbig : (rd_T42 l (j : Int)).f2 > 4
      · have hm : mN (rd_T42 l (j : Int)).f2 = 0 := by unfold mN; rw [if_neg (by omega)]
        rw [decide_eq_true hbig, if_pos hm]
        simp only [shunterlaw08_ShapeFits.j1]
        rw [if_pos trivial, if_neg (by simp), if_pos trivial, wrap64_id _ (by omega) (by omega)]
        have := ih k (by omega)
        rw [h1, hm] at this
        exact this
      · have hm : ((mN (rd_T42 l (j : Int)).f2 : Nat) : Int) = mx (rd_T42 l (j : Int)).f2 1 := by
          unfold mN mx
          rw [if_pos (by omega)]
          split <;> omega
        have hm0 : mN (rd_T42 l (j : Int)).f2 ≠ 0 := by unfold mN; rw [if_pos (by omega)]; omega
        obtain ⟨k, rfl⟩ : ∃ m, k = m + 1 := ⟨k - 1, by omega⟩
        rw [decide_eq_false hbig, if_neg hm0]
        simp only [shunterlaw08_ShapeFits.j1]
        rw [if_neg (by simp), if_pos trivial]
        simp only [shunterlaw08_ShapeFits.j2]
        rw [if_neg (by simp), ← hm]
        exact Fits_inner l hl j (by omega) _ rfl (some true) (mN (rd_T42 l (j : Int)).f2) 0 k (by omega) (by omega) (fun k' hk' => ih k' (by omega))
theorem few_loop (l : List S42) (hl : l.length ≤ 40) : ∀ (n i k : Nat), i + n = l.length → n < k → ∃ b, shunterlaw08_few.l0 k l (i : Int) = some b
  | 0, i, k, hi, hk => by
    obtain ⟨k, rfl⟩ : ∃ m, k = m + 1 := ⟨k - 1, by omega⟩
    simp only [shunterlaw08_few.l0]
    rw [if_neg (by omega)]
    exact ⟨_, rfl⟩
  | n + 1, i, k, hi, hk => by
    obtain ⟨k, rfl⟩ : ∃ m, k = m + 1 := ⟨k - 1, by omega⟩
    simp only [shunterlaw08_few.l0]
    rw [if_pos (by omega), if_pos (by omega)]
    split
    · exact ⟨_, rfl⟩
    · rw [wrap64_id _ (by omega) (by omega)]
      exact few_loop l hl n (i + 1) k (by omega) (by omega)
theorem few_eq (h : List S24) (hh : h.length ≤ 30) (l : List S42) (k : Nat) (hk : 60 < k) : ∃ b, shunterlaw08_few.f k h l = some b ∧ (b = true → l.length ≤ 40) := by
  obtain ⟨k, rfl⟩ : ∃ m, k = m + 1 := ⟨k - 1, by omega⟩
  unfold shunterlaw08_few.f
  rw [if_neg (by omega)]
  simp only [shunterlaw08_few.j0]
  by_cases hl : l.length ≤ 40
  · rw [decide_eq_false (by omega), if_neg (by simp)]
    obtain ⟨b, hb⟩ := few_loop l hl l.length 0 k (by omega) (by omega)
    exact ⟨b, hb, fun _ => hl⟩
  · rw [decide_eq_true (by omega), if_pos rfl]
    exact ⟨false, rfl, fun h => by cases h⟩
theorem ShapeFits_true (l : List S42) : shunterlaw08_ShapeFits.f 2000 l = some true := by
  unfold shunterlaw08_ShapeFits.f
  obtain ⟨b, hb, hl⟩ := few_eq [] (by simp) l 2000 (by omega)
  rw [hb, Option.bind_some]
  cases b with
  | true =>
    rw [if_pos rfl]
    have := Fits_outer l (hl rfl) l.length 0 2000 (by omega) (by have := hl rfl; omega)
    simpa [total] using this
  | false =>
    rw [if_neg (by simp), lives_at 2000 (by omega)]
    rfl

end Go.Proofs.Ytpdjiiikfjjfjaa.XF
