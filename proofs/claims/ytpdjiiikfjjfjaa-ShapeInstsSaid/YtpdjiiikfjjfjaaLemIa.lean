/- Plain lemmas of names. -/
import Derived.Test.YtpdjiiikfjjfjaaLemI
namespace Go.Proofs.Ytpdjiiikfjjfjaa.XI
open Go.RowKit Go.Proofs.YtpdjiiikfjjfjaaW.PrintWords Go.Proofs.YtpdjiiikfjjfjaaW.PrintLast Go.Proofs.YtpdjiiikfjjfjaaW.PrintMore
attribute [local go_sem] max2_int min2_int max_two min_two max_three min_three max_four min_four   -- for this text's walks alone
set_option linter.unusedVariables false
set_option linter.unusedSimpArgs false
theorem wrap64_id (n : Int) (h : -9223372036854775808 ≤ n) (h' : n ≤ 9223372036854775807) : wrap64 n = n := by
  unfold wrap64
  omega
theorem within_eq (a b c : Int) : shape_within.f a b c = some (decide (b ≤ a ∧ a ≤ c)) := by
  unfold shape_within.f
  split
  · rename_i h; simp [show b ≤ a from h]
  · rename_i h; simp [show ¬ b ≤ a from h]
theorem index_mem : ∀ (l : List UInt8) (c : UInt8), (0 ≤ Lib.indexByte l c) ↔ c ∈ l
  | [], c => by simp [Lib.indexByte]
  | b :: l, c => by
    have ih := index_mem l c
    unfold Lib.indexByte
    by_cases h : b = c
    · subst h; simp
    · have h1 : (b == c) = false := by simp [h]
      rw [h1, if_neg (by simp), List.mem_cons]
      have hc : ¬ c = b := fun e => h e.symm
      by_cases hm : Lib.indexByte l c = -1
      · rw [if_pos (by simp [hm])]
        constructor
        · intro hh; omega
        · intro hh
          rcases hh with e | e
          · exact absurd e hc
          · have := ih.2 e; omega
      · rw [if_neg (by simp [hm])]
        have hge := Lib.indexByte_ge l c
        constructor
        · intro hh; exact .inr (ih.1 (by omega))
        · intro hh
          rcases hh with e | e
          · exact absurd e hc
          · have := ih.2 e; omega
theorem dot_mem (s : ByteArray) : (46 : UInt8) ∈ s.data.toList ↔ ∃ j, j < s.size ∧ bt s (j : Int) = 46 := by
  have hsz : s.size = s.data.size := rfl
  constructor
  · intro h
    obtain ⟨j, hj, e⟩ := List.mem_iff_getElem.1 h
    have hj2 : j < s.data.size := by simpa using hj
    refine ⟨j, by omega, ?_⟩
    rw [bt_get]
    have : s.get! j = 46 := by
      rw [show s.get! j = s.data[j] from by have := getElem!_pos s.data j hj2; simpa [ByteArray.get!] using this]
      rw [← e]; simp
    rw [this]; rfl
  · rintro ⟨j, hj, e⟩
    rw [bt_get] at e
    have hj2 : j < s.data.size := by omega
    have h2 : s.get! j = 46 := by
      apply UInt8.toNat_inj.1
      have : ((46 : UInt8).toNat) = 46 := rfl
      omega
    rw [show s.get! j = s.data[j] from by have := getElem!_pos s.data j hj2; simpa [ByteArray.get!] using this] at h2
    rw [← h2]
    simp
/-- A name without a full stop. -/
def plainP (s : ByteArray) : Bool := mayP (runes s) && !decide (0 ≤ Lib.indexByte s.data.toList 46)
theorem plain_eq (s : ByteArray) (h : s.size ≤ 200) : shape_plain.f s = some (plainP s) := by
  unfold shape_plain.f
  rw [nMay_eq s (by omega), Option.bind_some]
  unfold plainP
  cases mayP (runes s) with
  | false => rfl
  | true =>
    rw [if_pos rfl]
    unfold strings_Contains.f
    rw [if_pos (show ({ data := #[46] } : ByteArray).size = 1 from rfl)]
    rfl
theorem rPlain_loop (s : ByteArray) (h : s.size ≤ 200) : ∀ (n i k : Nat), i + n = s.size → n + 300 < k → (∀ j, j < i → bt s (j : Int) ≠ 46) → shunterref08_Plain.l0 k s (i : Int) = some (plainP s)
  | 0, i, k, hi, hk, hd => by
    obtain ⟨k, rfl⟩ : ∃ m, k = m + 1 := ⟨k - 1, by omega⟩
    simp only [shunterref08_Plain.l0]
    rw [if_neg (by omega), May_eq k s (by omega) (by omega), Option.bind_some]
    have hno : ¬ 0 ≤ Lib.indexByte s.data.toList 46 := fun hh => by
      obtain ⟨j, hj, e⟩ := (dot_mem s).1 ((index_mem _ _).1 hh)
      exact hd j (by omega) e
    unfold plainP
    rw [decide_eq_false hno]
    simp
  | n + 1, i, k, hi, hk, hd => by
    obtain ⟨k, rfl⟩ : ∃ m, k = m + 1 := ⟨k - 1, by omega⟩
    simp only [shunterref08_Plain.l0]
    rw [if_pos (by omega), if_pos (by omega)]
    by_cases hb : bt s (i : Int) = 46
    · rw [if_pos hb]
      unfold plainP
      rw [decide_eq_true ((index_mem _ _).2 ((dot_mem s).2 ⟨i, by omega, hb⟩))]
      simp
    · rw [if_neg hb, wrap64_id _ (by omega) (by omega)]
      refine rPlain_loop s h n (i + 1) k (by omega) (by omega) (fun j hj => ?_)
      rcases Nat.lt_or_ge j i with c | c
      · exact hd j c
      · obtain rfl : j = i := by omega
        exact hb
theorem rPlain_eq (s : ByteArray) (h : s.size ≤ 200) (k : Nat) (hk : 1000 ≤ k) : shunterref08_Plain.f k s = some (plainP s) := by
  unfold shunterref08_Plain.f
  exact rPlain_loop s h s.size 0 k (by omega) (by omega) (fun j hj => by omega)
theorem rAlike_eq (a b : ByteArray) (ha : a.size ≤ 200) (hb : b.size ≤ 200) (k : Nat) (hk : 1000 ≤ k) : shunterref08_Alike.f k a b = some (decide (keys a = keys b)) := by
  have h1 := keys_len a
  have h2 := keys_len b
  unfold shunterref08_Alike.f
  rw [Keys_eq k a (by omega) (by omega), Option.bind_some, Keys_eq k b (by omega) (by omega), Option.bind_some, Order_eq k _ _ (by omega) (by omega) (by omega), Option.bind_some]
  congr 1
  have := cmpL_zero (keys a) (keys b)
  by_cases h : keys a = keys b
  · rw [decide_eq_true h, this.2 h]; rfl
  · rw [decide_eq_false h]
    have h0 : ¬ cmpL (keys a) (keys b) = 0 := fun e => h (this.1 e)
    simpa using h0
theorem idx_spec (a : ByteArray) (ha : a.size ≤ 200) : ∀ (l : List ByteArray) (i : Nat), (∀ t ∈ l, t.size ≤ 200) → ∃ r, idxGo (keyB a) l i = some r ∧ (r ≥ 0 ↔ ∃ t ∈ l, keys t = keys a)
  | [], i, _ => ⟨-1, rfl, by simp⟩
  | t :: ts, i, h => by
    have ht := h t (by simp)
    obtain ⟨r, hr, hi⟩ := idx_spec a ha ts (i + 1) (fun s hs => h s (by simp [hs]))
    unfold idxGo
    rw [Key_eq t (by omega), Option.bind_some]
    by_cases hk : keys t = keys a
    · rw [if_pos ((toList_inj _ _).2 ((key_inj _ _).2 hk))]
      exact ⟨_, rfl, by constructor
                        · intro _; exact ⟨t, by simp, hk⟩
                        · intro _; omega⟩
    · rw [if_neg (fun e => hk ((key_inj _ _).1 ((toList_inj _ _).1 e)))]
      refine ⟨r, hr, hi.trans ?_⟩
      constructor
      · rintro ⟨x, hx, e⟩; exact ⟨x, by simp [hx], e⟩
      · rintro ⟨x, hx, e⟩
        rcases List.mem_cons.1 hx with rfl | hx
        · exact absurd e hk
        · exact ⟨x, hx, e⟩
theorem Index_spec (l : List ByteArray) (a : ByteArray) (h : ∀ t ∈ l, t.size ≤ 200) (ha : a.size ≤ 200) (hl : l.length ≤ 1000) : ∃ r, name_Index.f l a = some r ∧ (r ≥ 0 ↔ ∃ t ∈ l, keys t = keys a) := by
  unfold name_Index.f
  rw [if_pos (by omega), Key_eq a (by omega), Option.bind_some]
  exact idx_spec a ha l 0 h

end Go.Proofs.Ytpdjiiikfjjfjaa.XI
