import Derived.Test.YtjbpianofkblbaaLemNd
namespace Go.Proofs.Ytjbpianofkblbaa.LemN
open Go.RowKit Go.Proofs.Ytjbpianofkblbaa.XN Go.Proofs.YtjbpianofkblbaaW.PrintWords Go.Proofs.YtjbpianofkblbaaW.PrintLast
set_option linter.unusedVariables false
set_option linter.unusedSimpArgs false
theorem wrap_s (i n : Nat) (h : i < n) (hn : n < 9223372036854775807) : wrap64 ((i : Int) + 1) = ((i + 1 : Nat) : Int) := by unfold wrap64; omega
theorem rdN (l : List Int) (i : Nat) (h : i < l.length) : rd l (i : Int) = l[i] := by simp [rd, List.getD, h]
theorem vd_range (x : Int) (h : Vd x) : -2147483648 ≤ x ∧ x ≤ 2147483647 := by unfold Vd at h; omega
theorem Keys_l0 : ∀ (m : Nat) (k : Nat) (p l : List Int), l.length = m → p.length + m < 9223372036854775807 → (∀ x ∈ l, Vd x) → m + 3 ≤ k → shunterref05_Keys.l0 k (p.map foldI ++ l) (p.length : Int) = some ((p ++ l).map foldI)
  | 0, k, p, l, h, hl, hv, hk => by
    obtain ⟨k, rfl⟩ : ∃ j, k = j + 1 := ⟨k - 1, by omega⟩
    obtain rfl := List.length_eq_zero_iff.1 h
    rw [shunterref05_Keys.l0, if_neg (by simp)]
    simp
  | m + 1, k, p, [], h, hl, hv, hk => by simp at h
  | m + 1, k, p, c :: t, h, hl, hv, hk => by
    obtain ⟨k, rfl⟩ : ∃ j, k = j + 3 := ⟨k - 3, by omega⟩
    have hc := vd_range c (hv c (List.mem_cons_self ..))
    have hlen : (p.map foldI ++ c :: t).length = p.length + (m + 1) := by simp at h ⊢; omega
    rw [shunterref05_Keys.l0, if_pos (by rw [hlen]; omega), if_pos (by omega), rdN _ _ (by rw [hlen]; omega)]
    have e : (p.map foldI ++ c :: t)[p.length]'(by rw [hlen]; omega) = c := by simp [List.getElem_append_right]
    rw [e, Fold_eq _ c hc.1 hc.2, Option.bind_some, Int.toNat_natCast, wrap_s _ (p.length + (m + 1)) (by omega) (by omega)]
    have e2 : (p.map foldI ++ c :: t).set p.length (foldI c) = (p ++ [c]).map foldI ++ t := by
      rw [List.set_append_right _ _ (by simp)]
      simp
    have ih := Keys_l0 m (k + 2) (p ++ [c]) t (by simpa using h) (by simp; omega) (fun x hx => hv x (List.mem_cons_of_mem _ hx)) (by omega)
    rw [e2]
    rw [show (p ++ [c]).length = p.length + 1 by simp] at ih
    rw [ih]
    simp
theorem Keys_eq (k : Nat) (s : ByteArray) (hs : s.size < 17592186044416) (hk : s.size + 10 ≤ k) : shunterref05_Keys.f k s = some (keys s) := by
  unfold shunterref05_Keys.f
  have hl := runes_len s
  rw [Runes_eq k s (by omega) hs, Option.bind_some]
  exact Keys_l0 (runes s).length k [] (runes s) rfl (by simp; omega) (runes_valid s) (by omega)
/-- How two rows stand to each other. -/
def cmpL : List Int → List Int → Int
  | [], [] => 0
  | [], _ :: _ => -1
  | _ :: _, [] => 1
  | a :: s, b :: t => if a < b then -1 else if a > b then 1 else cmpL s t
theorem Order_l0 (x y : List Int) (hx : x.length < 9223372036854775807) (hy : y.length < 9223372036854775807) : ∀ (m i k : Nat), x.length - i = m → i ≤ x.length → i ≤ y.length → (x.take i = y.take i) → 2 * m + 3 ≤ k → shunterref05_Order.l0 k x y (i : Int) = some (cmpL (x.drop i) (y.drop i))
  | 0, i, k, h, h1, h2, he, hk => by
    obtain ⟨k, rfl⟩ : ∃ j, k = j + 2 := ⟨k - 2, by omega⟩
    have e : i = x.length := by omega
    rw [shunterref05_Order.l0, if_neg (by omega), shunterref05_Order.j1, if_neg (by decide), e, List.drop_length]
    by_cases hy2 : (x.length : Int) < (y.length : Int)
    · rw [if_pos hy2]
      rw [List.drop_eq_getElem_cons (show x.length < y.length by omega)]
      rfl
    · rw [if_neg hy2, if_neg (by omega), List.drop_of_length_le (by omega)]
      rfl
  | m + 1, i, k, h, h1, h2, he, hk => by
    obtain ⟨k, rfl⟩ : ∃ j, k = j + 2 := ⟨k - 2, by omega⟩
    rw [shunterref05_Order.l0, if_pos (by omega), shunterref05_Order.j1]
    by_cases hy2 : i < y.length
    · rw [decide_eq_true (by omega), if_pos rfl, if_pos (by omega), if_pos (by omega), if_pos (by omega), rdN x i (by omega), rdN y i hy2, List.drop_eq_getElem_cons (show i < x.length by omega), List.drop_eq_getElem_cons hy2, cmpL]
      by_cases c1 : x[i]'(by omega) < y[i]
      · rw [if_pos c1, if_pos c1]
      · rw [if_neg c1, if_neg c1]
        by_cases c2 : x[i]'(by omega) > y[i]
        · rw [if_pos c2, if_pos c2]
        · rw [if_neg c2, if_neg c2, wrap_s i _ (show i < x.length by omega) hx]
          exact Order_l0 x y hx hy m (i + 1) k (by omega) (by omega) (by omega) (by
            rw [List.take_succ_eq_append_getElem (show i < x.length by omega), List.take_succ_eq_append_getElem hy2, he, show x[i]'(by omega) = y[i] by omega]) (by omega)
    · rw [decide_eq_false (by omega), if_neg (by decide), if_neg (by omega), if_pos (by omega), List.drop_of_length_le (show y.length ≤ i by omega), List.drop_eq_getElem_cons (show i < x.length by omega)]
      rfl
theorem Order_eq (k : Nat) (x y : List Int) (hx : x.length < 9223372036854775807) (hy : y.length < 9223372036854775807) (hk : 2 * x.length + 3 ≤ k) : shunterref05_Order.f k x y = some (cmpL x y) :=
  Order_l0 x y hx hy x.length 0 k rfl (by omega) (by omega) rfl hk
theorem Compare_r (a b : Int) : cmp_Compare_rune.f a b = some (if a < b then -1 else if a > b then 1 else 0) := by
  have e : ∀ a : Int, (a != a) = false := by simp
  simp only [cmp_Compare_rune.f, cmp_isNaN_rune.f, Option.bind_some, e]
  rw [if_neg (by decide), if_neg (by decide)]
  repeat' split
  all_goals first | rfl | omega
theorem Compare_l0 (x y : List Int) (hx : x.length < 9223372036854775807) (hy : y.length < 9223372036854775807) : ∀ (m i k : Nat), x.length - i = m → i ≤ x.length → i ≤ y.length → m + 1 ≤ k → slices_Compare_rune_rune.l0 k x y x (x.length : Int) (i : Int) = some (cmpL (x.drop i) (y.drop i))
  | 0, i, k, h, h1, h2, hk => by
    obtain ⟨k, rfl⟩ : ∃ j, k = j + 1 := ⟨k - 1, by omega⟩
    have e : i = x.length := by omega
    rw [slices_Compare_rune_rune.l0, if_neg (by omega), e, List.drop_length]
    by_cases hy2 : (x.length : Int) < (y.length : Int)
    · rw [if_pos hy2]
      rw [List.drop_eq_getElem_cons (show x.length < y.length by omega)]
      rfl
    · rw [if_neg hy2, List.drop_of_length_le (by omega)]
      rfl
  | m + 1, i, k, h, h1, h2, hk => by
    obtain ⟨k, rfl⟩ : ∃ j, k = j + 1 := ⟨k - 1, by omega⟩
    rw [slices_Compare_rune_rune.l0, if_pos (by omega), if_pos (by omega), if_pos (by omega)]
    by_cases hy2 : i < y.length
    · rw [if_neg (by omega), if_pos (by omega), rdN x i (by omega), rdN y i hy2, Compare_r, Option.bind_some, List.drop_eq_getElem_cons (show i < x.length by omega), List.drop_eq_getElem_cons hy2, cmpL]
      by_cases c1 : x[i]'(by omega) < y[i]
      · rw [if_pos c1, if_pos c1, if_neg (by decide)]
      · rw [if_neg c1, if_neg c1]
        by_cases c2 : x[i]'(by omega) > y[i]
        · rw [if_pos c2, if_pos c2, if_neg (by decide)]
        · rw [if_neg c2, if_neg c2, if_pos rfl, wrap_s i _ (show i < x.length by omega) hx]
          exact Compare_l0 x y hx hy m (i + 1) k (by omega) (by omega) (by omega) (by omega)
    · rw [if_pos (by omega), List.drop_of_length_le (show y.length ≤ i by omega), List.drop_eq_getElem_cons (show i < x.length by omega)]
      rfl
theorem Compare_eq (k : Nat) (x y : List Int) (hx : x.length < 9223372036854775807) (hy : y.length < 9223372036854775807) (hk : x.length + 1 ≤ k) : slices_Compare_rune_rune.f k x y = some (cmpL x y) :=
  Compare_l0 x y hx hy x.length 0 k rfl (by omega) (by omega) hk
theorem Alike_eq (a b : ByteArray) (ha : a.size ≤ 35184372088832) (hb : b.size ≤ 35184372088832) : name_Alike.f a b = some ((keyB a).toList == (keyB b).toList) := by
  unfold name_Alike.f
  rw [Key_eq a ha, Key_eq b hb]
  rfl
/-- What comes ahead of what. -/
def lessP (a b : ByteArray) : Bool := decide (cmpL (keys a) (keys b) < 0) || (cmpL (keys a) (keys b) == 0 && Op.bytesLess a.toList b.toList)
theorem cmpLess_eq (a b : ByteArray) : cmp_Less_string.f a b = some (Op.bytesLess a.toList b.toList) := by
  have e : ∀ a : ByteArray, (a.toList != a.toList) = false := by simp
  simp only [cmp_Less_string.f, cmp_isNaN_string.f, Option.bind_some, e]
  rw [if_neg (by decide)]
theorem keys_len (s : ByteArray) : (keys s).length ≤ s.size := by
  unfold keys
  rw [List.length_map]
  exact runes_len s
theorem Less_eq (k : Nat) (a b : ByteArray) (ha : a.size ≤ 1000) (hb : b.size ≤ 1000) (hk : 5000 ≤ k) : name_Less.f k a b = some (lessP a b) := by
  unfold name_Less.f
  have h1 := key_size a
  have h2 := key_size b
  have h3 := keys_len a
  have h4 := keys_len b
  rw [Key_eq a (by omega), Option.bind_some, nRunes_eq _ (by omega), Option.bind_some, Key_eq b (by omega), Option.bind_some, nRunes_eq _ (by omega), Option.bind_some, runes_key, runes_key, Compare_eq k _ _ (by omega) (by omega) (by omega), Option.bind_some]
  unfold lessP
  by_cases c1 : cmpL (keys a) (keys b) < 0
  · rw [if_pos c1]
    simp [c1]
  · rw [if_neg c1]
    by_cases c2 : cmpL (keys a) (keys b) = 0
    · rw [if_pos c2, cmpLess_eq]
      simp [c2]
    · rw [if_neg c2]
      simp [c1, c2]
theorem rLess_eq (k : Nat) (a b : ByteArray) (ha : a.size ≤ 1000) (hb : b.size ≤ 1000) (hk : 5000 ≤ k) : shunterref05_Less.f k a b = some (lessP a b) := by
  unfold shunterref05_Less.f
  have h3 := keys_len a
  have h4 := keys_len b
  rw [Keys_eq k a (by omega) (by omega), Option.bind_some, Keys_eq k b (by omega) (by omega), Option.bind_some, Order_eq k _ _ (by omega) (by omega) (by omega), Option.bind_some]
  unfold lessP
  by_cases c1 : cmpL (keys a) (keys b) < 0
  · rw [if_pos c1]
    simp [c1]
  · rw [if_neg c1]
    by_cases c2 : cmpL (keys a) (keys b) = 0
    · rw [if_pos c2]
      simp [c2]
    · rw [if_neg c2]
      simp [c1, c2]
theorem cmpL_zero : ∀ x y : List Int, cmpL x y = 0 ↔ x = y
  | [], [] => by simp [cmpL]
  | [], _ :: _ => by simp [cmpL]
  | _ :: _, [] => by simp [cmpL]
  | a :: s, b :: t => by
    have ih := cmpL_zero s t
    unfold cmpL
    split
    · simp; omega
    · split
      · simp; omega
      · rw [ih]
        simp
        omega
end Go.Proofs.Ytjbpianofkblbaa.LemN
