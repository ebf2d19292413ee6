/- Plain lemmas of slots and instances. -/
import Derived.Test.YtpdjiiikfjjfjaaIi
namespace Go.Proofs.Ytpdjiiikfjjfjaa.XI
open Go.RowKit Go.Proofs.YtpdjiiikfjjfjaaW.PrintWords Go.Proofs.YtpdjiiikfjjfjaaW.PrintLast Go.Proofs.YtpdjiiikfjjfjaaW.PrintMore
attribute [local go_sem] max2_int min2_int max_two min_two max_three min_three max_four min_four   -- for this text's walks alone
set_option linter.unusedVariables false
set_option linter.unusedSimpArgs false
def total : List S42 → Nat
  | [] => 0
  | x :: t => mN x.f2 + total t
theorem total_app (a b : List S42) : total (a ++ b) = total a + total b := by
  induction a with
  | nil => simp [total]
  | cons x a ih => simp [total, ih]; omega
theorem total_le (l : List S42) : total l ≤ 4 * l.length := by
  induction l with
  | nil => simp [total]
  | cons x l ih => have := mN_le x.f2; simp only [total, List.length_cons]; omega
theorem many_eq (a : ByteArray) (b d : Int) : shape_many.f a b d = some ((mN d : Nat) : Int) := by
  unfold shape_many.f mN
  rw [within_eq, Option.bind_some]
  by_cases h : 0 ≤ d ∧ d ≤ 4
  · rw [decide_eq_true h, if_pos rfl, if_pos h]
    unfold mx
    congr 1
    split <;> omega
  · rw [decide_eq_false h, if_neg (by simp), if_neg h]
    rfl
theorem take_nx (l : List S42) (i : Nat) (h : i < l.length) : l.take (i + 1) = l.take i ++ [rd_T42 l (i : Int)] := by
  rw [List.take_add_one, List.getElem?_eq_getElem h]
  simp [rd_T42, List.getD_eq_getElem?_getD, h]
theorem total_nx (l : List S42) (i : Nat) (h : i < l.length) : total (l.take (i + 1)) = total (l.take i) + mN (rd_T42 l (i : Int)).f2 := by
  rw [take_nx l i h, total_app]
  simp [total]
theorem total_mono (l : List S42) (i n : Nat) : total (l.take i) ≤ total (l.take (i + n)) := by
  rw [List.take_add, total_app]; omega
theorem Slots_loop (l : List S42) (hl : l.length ≤ 1000) : ∀ (n i k : Nat), i + n = l.length → n < k → shape_Slots.l0 k ((total (l.take i) : Nat) : Int) l (l.length : Int) (i : Int) = some ((total l : Nat) : Int)
  | 0, i, k, hi, hk => by
    obtain ⟨k, rfl⟩ : ∃ m, k = m + 1 := ⟨k - 1, by omega⟩
    simp only [shape_Slots.l0]
    rw [if_neg (by omega), List.take_of_length_le (by omega)]
  | n + 1, i, k, hi, hk => by
    obtain ⟨k, rfl⟩ : ∃ m, k = m + 1 := ⟨k - 1, by omega⟩
    have h1 := total_le (l.take i)
    have h2 := mN_le (rd_T42 l (i : Int)).f2
    have h3 : (l.take i).length ≤ l.length := by simp; omega
    simp only [shape_Slots.l0]
    rw [if_pos (by omega), if_pos (by omega), if_pos (by omega), many_eq, Option.bind_some]
    rw [wrap64_id _ (by omega) (by omega), wrap64_id _ (by omega) (by omega)]
    have := Slots_loop l hl n (i + 1) k (by omega) (by omega)
    rw [total_nx l i (by omega)] at this
    rw [← this]
    congr 1
theorem Slots_eq (l : List S42) (hl : l.length ≤ 1000) (k : Nat) (hk : l.length < k) : shape_Slots.f k l = some ((total l : Nat) : Int) := by
  unfold shape_Slots.f
  have := Slots_loop l hl l.length 0 k (by omega) hk
  simpa [total] using this
theorem Of_loop (l : List S42) (hl : l.length ≤ 1000) (j d : Nat) (hj : j < l.length) (hd : d < mN (rd_T42 l (j : Int)).f2) : ∀ (n i k : Nat), i + n = j → n < k →
    shape_Of.l0 k ((total (l.take j) + d - total (l.take i) : Nat) : Int) l (l.length : Int) (i : Int) = some ((j : Int), (d : Int), true)
  | 0, i, k, hi, hk => by
    obtain ⟨k, rfl⟩ : ∃ m, k = m + 1 := ⟨k - 1, by omega⟩
    obtain rfl : i = j := by omega
    simp only [shape_Of.l0]
    rw [if_pos (by omega), if_pos (by omega), if_pos (by omega), many_eq, Option.bind_some, if_pos (by omega)]
    rw [show total (l.take i) + d - total (l.take i) = d by omega]
  | n + 1, i, k, hi, hk => by
    obtain ⟨k, rfl⟩ : ∃ m, k = m + 1 := ⟨k - 1, by omega⟩
    have h1 := total_nx l i (by omega)
    have h2 := total_mono l (i + 1) n
    rw [show i + 1 + n = j by omega] at h2
    have h4 := total_le (l.take j)
    have h5 : (l.take j).length ≤ l.length := by simp; omega
    have h6 := mN_le (rd_T42 l (j : Int)).f2
    simp only [shape_Of.l0]
    rw [if_pos (by omega), if_pos (by omega), if_pos (by omega), many_eq, Option.bind_some, if_neg (by omega), Option.bind_some]
    rw [wrap64_id _ (by omega) (by omega), wrap64_id _ (by omega) (by omega)]
    have := Of_loop l hl j d hj hd n (i + 1) k (by omega) (by omega)
    rw [← this]
    congr 1
    omega
theorem Of_eq (l : List S42) (hl : l.length ≤ 1000) (j d k : Nat) (hj : j < l.length) (hd : d < mN (rd_T42 l (j : Int)).f2) (hk : l.length < k) :
    shape_Of.f k l ((total (l.take j) + d : Nat) : Int) = some ((j : Int), (d : Int), true) := by
  unfold shape_Of.f
  rw [if_neg (by omega)]
  have := Of_loop l hl j d hj hd j 0 k (by omega) (by omega)
  simpa [total] using this
theorem Of_out_loop (l : List S42) (hl : l.length ≤ 1000) : ∀ (n i k : Nat), i + n = l.length → n < k →
    shape_Of.l0 k ((total l - total (l.take i) : Nat) : Int) l (l.length : Int) (i : Int) = some (0, 0, false)
  | 0, i, k, hi, hk => by
    obtain ⟨k, rfl⟩ : ∃ m, k = m + 1 := ⟨k - 1, by omega⟩
    simp only [shape_Of.l0]
    rw [if_neg (by omega)]
  | n + 1, i, k, hi, hk => by
    obtain ⟨k, rfl⟩ : ∃ m, k = m + 1 := ⟨k - 1, by omega⟩
    have h1 := total_nx l i (by omega)
    have h2 := total_mono l (i + 1) n
    rw [show i + 1 + n = l.length by omega, List.take_length] at h2
    have h4 := total_le l
    simp only [shape_Of.l0]
    rw [if_pos (by omega), if_pos (by omega), if_pos (by omega), many_eq, Option.bind_some, if_neg (by omega), Option.bind_some]
    rw [wrap64_id _ (by omega) (by omega), wrap64_id _ (by omega) (by omega)]
    have := Of_out_loop l hl n (i + 1) k (by omega) (by omega)
    rw [← this]
    congr 1
    omega
theorem Of_end (l : List S42) (hl : l.length ≤ 1000) (k : Nat) (hk : l.length < k) : shape_Of.f k l ((total l : Nat) : Int) = some (0, 0, false) := by
  unfold shape_Of.f
  rw [if_neg (by omega)]
  have := Of_out_loop l hl l.length 0 k (by omega) hk
  simpa [total] using this
theorem Of_neg (l : List S42) (k : Nat) : shape_Of.f k l (-1) = some (0, 0, false) := by
  unfold shape_Of.f
  rw [if_pos (by omega)]
theorem slotsL_total (l : List S42) (i : Nat) : (slotsL l i).length = total l := by
  induction l generalizing i with
  | nil => rfl
  | cons x l ih => simp [slotsL, total, ih]
theorem slotsL_at (l : List S42) : ∀ (i p : Nat), p < total l → ∃ j d, j < l.length ∧ d < mN (rd_T42 l (j : Int)).f2 ∧ p = total (l.take j) + d ∧ (slotsL l i)[p]? = some (((i + j : Nat) : Int), (d : Int)) := by
  induction l with
  | nil => intro i p h; simp [total] at h
  | cons x l ih =>
    intro i p h
    simp only [total] at h
    by_cases hp : p < mN x.f2
    · refine ⟨0, p, by simp, by simpa [rd_T42] using hp, by simp [total], ?_⟩
      simp only [slotsL]
      rw [List.getElem?_append_left (by simpa using hp)]
      simp [hp]
    · obtain ⟨j, d, h1, h2, h3, h4⟩ := ih (i + 1) (p - mN x.f2) (by omega)
      refine ⟨j + 1, d, by simpa using h1, ?_, ?_, ?_⟩
      · have e : rd_T42 (x :: l) ((j + 1 : Nat) : Int) = rd_T42 l (j : Int) := by simp [rd_T42, List.getD_eq_getElem?_getD]
        rw [e]; exact h2
      · simp only [List.take_succ_cons, total]; omega
      · simp only [slotsL]
        rw [List.getElem?_append_right (by simp; omega)]
        simp only [List.length_map, List.length_range]
        rw [h4]
        congr 3
        omega
/-- What slot p says: its instance j, which of its slots d it is. -/
theorem slot_at (l : List S42) (hl : l.length ≤ 1000) (p : Nat) (hp : p < (slotsL l 0).length) : ∃ j d : Nat, j < l.length ∧ (slotsL l 0)[p]? = some ((j : Int), (d : Int)) ∧ shape_Of.f 4000 l (p : Int) = some ((j : Int), (d : Int), true) := by
  rw [slotsL_total] at hp
  obtain ⟨j, d, h1, h2, h3, h4⟩ := slotsL_at l 0 p hp
  refine ⟨j, d, h1, by rw [h4]; simp, ?_⟩
  rw [h3]
  exact Of_eq l hl j d 4000 h1 h2 (by omega)
/-- The first instance whose name is alike; -1: none is. -/
def wfI (a : ByteArray) : List S42 → Nat → Int
  | [], _ => -1
  | x :: t, i => if keys x.f0 = keys a then (i : Int) else wfI a t (i + 1)
theorem idxGo_wf (a : ByteArray) : ∀ (l : List S42) (i : Nat), (∀ x ∈ l, x.f0.size ≤ 200) → idxGo (keyB a) (l.map (·.f0)) i = some (wfI a l i)
  | [], i, _ => rfl
  | x :: t, i, h => by
    have hx := h x (by simp)
    show idxGo (keyB a) (x.f0 :: t.map (·.f0)) i = _
    unfold idxGo
    rw [Key_eq x.f0 (by omega), Option.bind_some]
    by_cases hk : keys x.f0 = keys a
    · rw [if_pos ((toList_inj _ _).2 ((key_inj _ _).2 hk)), wfI, if_pos hk]
    · rw [if_neg (fun e => hk ((key_inj _ _).1 ((toList_inj _ _).1 e))), wfI, if_neg hk]
      exact idxGo_wf a t (i + 1) (fun y hy => h y (by simp [hy]))
theorem Find_loop (l : List S42) (a : ByteArray) (hl : l.length ≤ 1000) (hs : ∀ x ∈ l, x.f0.size ≤ 200) (ha : a.size ≤ 200) : ∀ (n i k : Nat), i + n = l.length → n < k → shape_Find.l0 k a ((l.take i).map (·.f0)) l (l.length : Int) (i : Int) = some (wfI a l 0)
  | 0, i, k, hi, hk => by
    obtain ⟨k, rfl⟩ : ∃ m, k = m + 1 := ⟨k - 1, by omega⟩
    rw [shape_Find.l0, if_neg (show ¬ (i : Int) < (l.length : Int) by omega), List.take_of_length_le (by omega)]
    unfold name_Index.f
    rw [if_pos (by simp; omega), Key_eq a (by omega), Option.bind_some, idxGo_wf a l 0 hs]
    rfl
  | n + 1, i, k, hi, hk => by
    obtain ⟨k, rfl⟩ : ∃ m, k = m + 1 := ⟨k - 1, by omega⟩
    rw [shape_Find.l0, if_pos (show (i : Int) < (l.length : Int) by omega), if_pos (show 0 ≤ (i : Int) by omega), if_pos (show (i : Int) < (l.length : Int) by omega), if_pos (by simp; omega), wrap64_id _ (by omega) (by omega)]
    have := Find_loop l a hl hs ha n (i + 1) k (by omega) (by omega)
    rw [take_nx l i (by omega), List.map_append] at this
    exact this
theorem Find_eq (l : List S42) (a : ByteArray) (hl : l.length ≤ 1000) (hs : ∀ x ∈ l, x.f0.size ≤ 200) (ha : a.size ≤ 200) : shape_Find.f 4000 l a = some (wfI a l 0) := by
  unfold shape_Find.f
  have := Find_loop l a hl hs ha l.length 0 4000 (by omega) (by omega)
  simpa using this
theorem wfI_drop (a : ByteArray) (l : List S42) (j : Nat) (h : j < l.length) : wfI a (l.drop j) j = if keys (rd_T42 l (j : Int)).f0 = keys a then (j : Int) else wfI a (l.drop (j + 1)) (j + 1) := by
  rw [List.drop_eq_getElem_cons h, wfI]
  have e : rd_T42 l (j : Int) = l[j] := by simp [rd_T42, List.getD_eq_getElem?_getD, h]
  rw [e]
theorem few_loop (l : List S42) (hl : l.length ≤ 40) : ∀ (n i k : Nat), i + n = l.length → n < k → (∀ q, q < i → (rd_T42 l (q : Int)).f0.size ≤ 200) → ∃ b, shunterlaw08_few.l0 k l (i : Int) = some b ∧ (b = true → ∀ q, q < l.length → (rd_T42 l (q : Int)).f0.size ≤ 200)
  | 0, i, k, hi, hk, h => by
    obtain ⟨k, rfl⟩ : ∃ m, k = m + 1 := ⟨k - 1, by omega⟩
    simp only [shunterlaw08_few.l0]
    rw [if_neg (by omega)]
    exact ⟨_, rfl, fun _ q hq => h q (by omega)⟩
  | n + 1, i, k, hi, hk, h => by
    obtain ⟨k, rfl⟩ : ∃ m, k = m + 1 := ⟨k - 1, by omega⟩
    simp only [shunterlaw08_few.l0]
    rw [if_pos (by omega), if_pos (by omega)]
    by_cases hz : (((rd_T42 l (i : Int)).f0).size : Int) > 200
    · rw [if_pos hz]
      exact ⟨_, rfl, fun h => by cases h⟩
    · rw [if_neg hz, wrap64_id _ (by omega) (by omega)]
      refine few_loop l hl n (i + 1) k (by omega) (by omega) (fun q hq => ?_)
      rcases Nat.lt_or_ge q i with c | c
      · exact h q c
      · obtain rfl : q = i := by omega
        omega
theorem few_eq (h : List S24) (l : List S42) (k : Nat) (hk : 60 < k) : ∃ b, shunterlaw08_few.f k h l = some b ∧ (b = true → h.length ≤ 30 ∧ l.length ≤ 40 ∧ ∀ x ∈ l, x.f0.size ≤ 200) := by
  obtain ⟨k, rfl⟩ : ∃ m, k = m + 1 := ⟨k - 1, by omega⟩
  unfold shunterlaw08_few.f
  by_cases hh : (h.length : Int) > 30
  · rw [if_pos hh]
    simp only [shunterlaw08_few.j0]
    exact ⟨false, rfl, fun h => by cases h⟩
  rw [if_neg hh]
  simp only [shunterlaw08_few.j0]
  by_cases hl : l.length ≤ 40
  · rw [decide_eq_false (by omega), if_neg (by simp)]
    obtain ⟨b, hb, hz⟩ := few_loop l hl l.length 0 k (by omega) (by omega) (fun q hq => by omega)
    refine ⟨b, hb, fun e => ⟨by omega, hl, fun x hx => ?_⟩⟩
    obtain ⟨q, hq, rfl⟩ := List.mem_iff_getElem.1 hx
    have := hz e q hq
    simpa [rd_T42, List.getD_eq_getElem?_getD, hq] using this
  · rw [decide_eq_true (by omega), if_pos rfl]
    exact ⟨false, rfl, fun h => by cases h⟩
theorem names_mem (l : List S42) (i : Nat) (hi : i ≤ l.length) (a : List Int) : (∃ t ∈ (l.take i).map (·.f0), keys t = a) ↔ ∃ q, q < i ∧ keys (rd_T42 l (q : Int)).f0 = a := by
  constructor
  · rintro ⟨t, ht, e⟩
    obtain ⟨x, hx, rfl⟩ := List.mem_map.1 ht
    obtain ⟨q, hq, rfl⟩ := List.mem_iff_getElem.1 hx
    have hq3 : q < min i l.length := by simpa using hq
    have hq2 : q < i ∧ q < l.length := ⟨by omega, by omega⟩
    refine ⟨q, hq2.1, ?_⟩
    rw [← e, List.getElem_take]
    simp [rd_T42, List.getD_eq_getElem?_getD, hq2.2]
  · rintro ⟨q, hq, e⟩
    refine ⟨(rd_T42 l (q : Int)).f0, List.mem_map.2 ⟨rd_T42 l (q : Int), ?_, rfl⟩, e⟩
    have hq2 : q < l.length := by omega
    rw [show rd_T42 l (q : Int) = l[q] by simp [rd_T42, List.getD_eq_getElem?_getD, hq2]]
    exact List.mem_take_iff_getElem.2 ⟨q, by omega, rfl⟩
theorem pInsts_loop (hs : List S24) (l : List S42) (hh : hs.length ≤ 1000) (hl : l.length ≤ 16) (hn : ∀ x ∈ l, x.f0.size ≤ 200) : ∀ (n i k : Nat), i + n = l.length → n + 100 < k →
    shape_Insts.l0 k hs l ((l.take i).map (·.f0)) l (l.length : Int) (i : Int) = some (codeI (hs.length : Int) l (fullE l) n i)
  | 0, i, k, hi, hk => by
    obtain ⟨k, rfl⟩ : ∃ m, k = m + 1 := ⟨k - 1, by omega⟩
    simp only [shape_Insts.l0]
    rw [if_neg (by omega), Slots_eq l (by omega) k (by omega), Option.bind_some, codeI]
    unfold fullE
    rw [slotsL_total]
    by_cases h : 32 < total l
    · rw [if_pos (by omega), if_pos h]
    · rw [if_neg (by omega), if_neg h]
  | n + 1, i, k, hi, hk => by
    obtain ⟨k, rfl⟩ : ∃ m, k = m + 1 := ⟨k - 1, by omega⟩
    have hx := hn _ (rd_in42 l i (by omega))
    obtain ⟨r, hr, hri⟩ := Index_spec ((l.take i).map (·.f0)) (rd_T42 l (i : Int)).f0 (fun t ht => by
      obtain ⟨x, hx, rfl⟩ := List.mem_map.1 ht
      exact hn x (List.mem_of_mem_take hx)) hx (by simp; omega)
    rw [names_mem l i (by omega)] at hri
    simp only [shape_Insts.l0]
    rw [if_pos (by omega), if_pos (by omega), if_pos (by omega), plain_eq _ hx, Option.bind_some, codeI]
    cases hp : plainP (rd_T42 l (i : Int)).f0 with
    | false => rw [if_neg (by simp), stepI_4 hp, if_neg (by omega)]
    | true =>
      rw [if_pos rfl, hr, Option.bind_some]
      cases hb : hitB l i with
      | true => rw [if_pos (hri.2 ((hitB_iff l i).1 hb)), stepI_6 hp hb, if_neg (by omega)]
      | false =>
        rw [if_neg (fun h => by have := (hitB_iff l i).2 (hri.1 h); rw [hb] at this; cases this), wrap64_id _ (by omega) (by omega), within_eq, Option.bind_some]
        by_cases h1 : 0 ≤ (rd_T42 l (i : Int)).f1 ∧ (rd_T42 l (i : Int)).f1 < (hs.length : Int)
        · rw [decide_eq_true (by omega), if_pos rfl, within_eq, Option.bind_some]
          by_cases h2 : 0 ≤ (rd_T42 l (i : Int)).f2 ∧ (rd_T42 l (i : Int)).f2 ≤ 4
          · rw [decide_eq_true h2, if_pos rfl, if_pos (by simp; omega), stepI_0 hp hb h1 h2, if_pos rfl, wrap64_id _ (by omega) (by omega)]
            have := pInsts_loop hs l hh hl hn n (i + 1) k (by omega) (by omega)
            rw [take_nx l i (by omega), List.map_append] at this
            exact this
          · rw [decide_eq_false h2, if_neg (by simp), stepI_7 hp hb h1 h2, if_neg (by omega)]
        · rw [decide_eq_false (by omega), if_neg (by simp), stepI_5 hp hb h1, if_neg (by omega)]
theorem pInsts_eq (hs : List S24) (l : List S42) (hh : hs.length ≤ 1000) (hl : l.length ≤ 16) (hn : ∀ x ∈ l, x.f0.size ≤ 200) : shape_Insts.f 4000 hs l = some (codeI (hs.length : Int) l (fullE l) l.length 0) := by
  unfold shape_Insts.f
  rw [if_neg (by omega)]
  have := pInsts_loop hs l hh hl hn l.length 0 4000 (by omega) (by omega)
  simpa using this
theorem pInsts_long (hs : List S24) (l : List S42) (hl : 16 < l.length) : shape_Insts.f 4000 hs l = some 2 := by
  unfold shape_Insts.f
  rw [if_pos (by omega)]
theorem lives_at (k : Nat) (hk : 60 ≤ k) : shunterlaw08_lives.f k = some true := by
  obtain ⟨m, rfl⟩ : ∃ m, k = 60 + m := ⟨k - 60, by omega⟩
  clear hk
  induction m with
  | zero => kernel_rfl
  | succ m ih => exact shunterlaw08_lives.mono _ _ ih

end Go.Proofs.Ytpdjiiikfjjfjaa.XI
