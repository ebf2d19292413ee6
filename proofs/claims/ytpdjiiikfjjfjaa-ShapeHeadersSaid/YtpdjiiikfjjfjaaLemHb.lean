/- The pure parts of ShapeHeaders. -/
import Derived.Test.YtpdjiiikfjjfjaaLemH
namespace Go.Proofs.Ytpdjiiikfjjfjaa.XH
open Go.RowKit Go.Proofs.YtpdjiiikfjjfjaaW.PrintWords Go.Proofs.YtpdjiiikfjjfjaaW.PrintLast Go.Proofs.YtpdjiiikfjjfjaaW.PrintMore
attribute [local go_sem] max2_int min2_int max_two min_two max_three min_three max_four min_four   -- for this text's walks alone
set_option linter.unusedVariables false
set_option linter.unusedSimpArgs false
theorem wrap64_id (n : Int) (h : -9223372036854775808 ≤ n) (h' : n ≤ 9223372036854775807) : wrap64 n = n := by
  unfold wrap64
  omega
theorem within_eq (a b c : Int) : shape_within.f a b c = some (decide (b ≤ a ∧ a ≤ c)) := by
  unfold shape_within.f
  split
  · rename_i h; simp [show b ≤ a from h]
  · rename_i h; simp [show ¬ b ≤ a from h]
theorem lives_at (k : Nat) (hk : 60 ≤ k) : shunterlaw08_lives.f k = some true := by
  obtain ⟨m, rfl⟩ : ∃ m, k = 60 + m := ⟨k - 60, by omega⟩
  clear hk
  induction m with
  | zero => kernel_rfl
  | succ m ih => exact shunterlaw08_lives.mono _ _ ih
theorem plain_some (s : ByteArray) (h : s.size ≤ 200) : ∃ b, shape_plain.f s = some b := by
  unfold shape_plain.f name_May.f
  rw [if_pos (by omega), Option.bind_some]
  split
  · unfold strings_Contains.f
    rw [if_pos (show ({ data := #[46] } : ByteArray).size = 1 from rfl)]
    exact ⟨_, rfl⟩
  · exact ⟨_, rfl⟩
theorem idxGo_some (key : ByteArray) : ∀ (l : List ByteArray) (i : Nat), (∀ s ∈ l, s.size ≤ 200) → ∃ r, idxGo key l i = some r
  | [], i, _ => ⟨_, rfl⟩
  | t :: ts, i, h => by
    have ht := h t (by simp)
    unfold idxGo name_Key.f
    rw [if_pos (by omega), Option.bind_some]
    split
    · exact ⟨_, rfl⟩
    · exact idxGo_some key ts (i + 1) (fun s hs => h s (by simp [hs]))
theorem Index_some (l : List ByteArray) (s : ByteArray) (h : ∀ s ∈ l, s.size ≤ 200) (hs : s.size ≤ 200) (hl : l.length ≤ 1000) : ∃ r, name_Index.f l s = some r := by
  unfold name_Index.f
  rw [if_pos (by omega)]
  obtain ⟨key, hk⟩ : ∃ key, name_Key.f s = some key := by
    unfold name_Key.f
    rw [if_pos (by omega)]
    exact ⟨_, rfl⟩
  rw [hk, Option.bind_some]
  exact idxGo_some key l 0 h
/-- The fields' widths, summed up. -/
def sumW : List S32 → Int
  | [] => 0
  | x :: t => x.f1 + sumW t
theorem sumW_app (a b : List S32) : sumW (a ++ b) = sumW a + sumW b := by
  induction a with
  | nil => simp [sumW]
  | cons x a ih => simp [sumW, ih]; omega
theorem takeF (l : List S32) (i : Nat) (h : i < l.length) : l.take (i + 1) = l.take i ++ [rd_T32 l (i : Int)] := by
  rw [List.take_add_one, List.getElem?_eq_getElem h]
  simp [rd_T32, List.getD_eq_getElem?_getD, h]
theorem sumW_nx (l : List S32) (i : Nat) (h : i < l.length) : sumW (l.take (i + 1)) = sumW (l.take i) + (rd_T32 l (i : Int)).f1 := by
  rw [takeF l i h, sumW_app]
  simp [sumW]
theorem rd_in (l : List S32) (i : Nat) (h : i < l.length) : rd_T32 l (i : Int) ∈ l := by
  simp [rd_T32, List.getD_eq_getElem?_getD, h]
def okW (l : List S32) : Prop := ∀ x ∈ l, 1 ≤ x.f1 ∧ x.f1 ≤ 128
theorem sumW_bd : ∀ (l : List S32), okW l → 0 ≤ sumW l ∧ sumW l ≤ 128 * (l.length : Int)
  | [], _ => by simp [sumW]
  | x :: t, h => by
    have h1 := h x (by simp)
    have h2 := sumW_bd t (fun y hy => h y (by simp [hy]))
    simp only [sumW, List.length_cons]
    omega
theorem okW_take {l : List S32} (h : okW l) (i : Nat) : okW (l.take i) := fun x hx => h x (List.mem_of_mem_take hx)
theorem fields_loop (l : List S32) (hl : l.length ≤ 1000) (hs : ∀ x ∈ l, x.f0.size ≤ 200) : ∀ (n i k : Nat) (names : List ByteArray), i + n = l.length → n < k → names.length = i → (∀ s ∈ names, s.size ≤ 200) → okW (l.take i) →
    ∃ e, shape_fields.l0 k names (sumW (l.take i)) l (l.length : Int) (i : Int) = some e ∧ (e = 0 → okW l ∧ Int.tmod (sumW l) 8 = 0)
  | 0, i, k, names, hi, hk, hn, hns, hw => by
    obtain ⟨k, rfl⟩ : ∃ m, k = m + 1 := ⟨k - 1, by omega⟩
    simp only [shape_fields.l0]
    rw [if_neg (by omega), List.take_of_length_le (by omega)]
    rw [List.take_of_length_le (by omega)] at hw
    split
    · rename_i h; exact ⟨_, rfl, fun _ => ⟨hw, h⟩⟩
    · exact ⟨_, rfl, fun h => by cases h⟩
  | n + 1, i, k, names, hi, hk, hn, hns, hw => by
    obtain ⟨k, rfl⟩ : ∃ m, k = m + 1 := ⟨k - 1, by omega⟩
    have hx := hs _ (rd_in l i (by omega))
    obtain ⟨b, hb⟩ := plain_some _ hx
    obtain ⟨r, hr⟩ := Index_some names _ hns hx (by omega)
    have hbd := sumW_bd _ hw
    have hln : (l.take i).length = i := by simp; omega
    simp only [shape_fields.l0]
    rw [if_pos (by omega), if_pos (by omega), if_pos (by omega), hb, Option.bind_some]
    split
    · rw [hr, Option.bind_some]
      split
      · exact ⟨_, rfl, fun h => by cases h⟩
      · rw [within_eq, Option.bind_some]
        by_cases hwd : 1 ≤ (rd_T32 l (i : Int)).f1 ∧ (rd_T32 l (i : Int)).f1 ≤ 128
        · rw [decide_eq_true hwd, if_pos rfl, if_pos (by omega), wrap64_id _ (by omega) (by omega), wrap64_id _ (by omega) (by omega)]
          have := fields_loop l hl hs n (i + 1) k (names ++ [(rd_T32 l (i : Int)).f0]) (by omega) (by omega) (by simp [hn]) (by
            intro s hs'
            rcases List.mem_append.1 hs' with h1 | h1
            · exact hns s h1
            · rw [List.mem_singleton.1 h1]; exact hx) (by
            intro y hy
            rw [takeF l i (by omega)] at hy
            rcases List.mem_append.1 hy with h1 | h1
            · exact hw y h1
            · rw [List.mem_singleton.1 h1]; exact hwd)
          rw [sumW_nx l i (by omega)] at this
          exact this
        · rw [decide_eq_false hwd, if_neg (by simp)]
          exact ⟨_, rfl, fun h => by cases h⟩
    · exact ⟨_, rfl, fun h => by cases h⟩
theorem fields_some (l : List S32) (hl : l.length ≤ 1000) (hs : ∀ x ∈ l, x.f0.size ≤ 200) (k : Nat) (hk : l.length < k) : ∃ e, shape_fields.f k l = some e ∧ (e = 0 → okW l ∧ Int.tmod (sumW l) 8 = 0) := by
  unfold shape_fields.f
  have := fields_loop l hl hs l.length 0 k [] (by omega) hk rfl (by simp) (by intro x hx; simp at hx)
  simpa [sumW] using this
theorem varies_some (s : ByteArray) (l : List S32) (hl : l.length ≤ 1000) (v b m u : Int) : ∃ r, shape_varies.f s l v b m u = some r ∧ (r = true → 0 ≤ v ∧ v ≤ 64) := by
  unfold shape_varies.f
  split
  · rename_i h
    subst h
    split
    · split
      · exact ⟨_, rfl, fun _ => by omega⟩
      · exact ⟨_, rfl, fun _ => by omega⟩
    · exact ⟨_, rfl, fun _ => by omega⟩
  · rw [within_eq, Option.bind_some]
    by_cases h1 : 1 ≤ v ∧ v ≤ 64
    · rw [decide_eq_true h1, if_pos rfl, wrap64_id _ (by omega) (by omega), within_eq, Option.bind_some]
      by_cases h2 : 0 ≤ b ∧ b ≤ (l.length : Int) - 1
      · rw [decide_eq_true h2, if_pos rfl, if_pos (by omega), if_pos (by omega)]
        split
        · rw [within_eq, Option.bind_some]
          split
          · rw [within_eq, Option.bind_some]
            exact ⟨_, rfl, fun _ => by omega⟩
          · exact ⟨_, rfl, fun _ => by omega⟩
        · exact ⟨_, rfl, fun _ => by omega⟩
      · rw [decide_eq_false h2, if_neg (by simp)]
        exact ⟨_, rfl, fun _ => by omega⟩
    · rw [decide_eq_false h1, if_neg (by simp)]
      exact ⟨_, rfl, fun h => by cases h⟩
theorem May_some (s : ByteArray) (l : List S32) (v b m u : Int) (hs0 : s.size ≤ 200) (hs : ∀ x ∈ l, x.f0.size ≤ 200) (k : Nat) (hk : 60 < k) :
    ∃ e, shape_May.f k s l v b m u = some e ∧ (e = 0 → l.length ≤ 16 ∧ okW l ∧ Int.tmod (sumW l) 8 = 0 ∧ 0 ≤ v ∧ v ≤ 64) := by
  unfold shape_May.f
  obtain ⟨p, hp⟩ := plain_some s hs0
  rw [hp, Option.bind_some]
  split
  · split
    · exact ⟨_, rfl, fun h => by cases h⟩
    · split
      · exact ⟨_, rfl, fun h => by cases h⟩
      · obtain ⟨e, he, h0⟩ := fields_some l (by omega) hs k (by omega)
        rw [he, Option.bind_some]
        split
        · rename_i hz
          obtain ⟨r, hr, h1⟩ := varies_some s l (by omega) v b m u
          rw [hr, Option.bind_some]
          split
          · rename_i ht
            exact ⟨_, rfl, fun _ => ⟨by omega, (h0 hz).1, (h0 hz).2, (h1 ht).1, (h1 ht).2⟩⟩
          · exact ⟨_, rfl, fun h => by cases h⟩
        · rename_i hz
          exact ⟨_, rfl, fun h => absurd h hz⟩
  · exact ⟨_, rfl, fun h => by cases h⟩
theorem ahead_loop (s : ByteArray) (l : List S32) (v b m u : Int) (hl : l.length ≤ 1000) (hw : okW l) (j : Nat) (hj : j ≤ l.length) : ∀ (n i k : Nat), i + n = j → n < k → shape_ahead.l0 k (sumW (l.take i)) (j : Int) (i : Int) s l v b m u = some (sumW (l.take j), true)
  | 0, i, k, hi, hk => by
    obtain ⟨k, rfl⟩ : ∃ m, k = m + 1 := ⟨k - 1, by omega⟩
    obtain rfl : i = j := by omega
    simp only [shape_ahead.l0]
    rw [if_neg (by omega)]
  | n + 1, i, k, hi, hk => by
    obtain ⟨k, rfl⟩ : ∃ m, k = m + 1 := ⟨k - 1, by omega⟩
    have hbd := sumW_bd _ (okW_take hw i)
    have hln : (l.take i).length = i := by simp; omega
    have hx := hw _ (rd_in l i (by omega))
    simp only [shape_ahead.l0]
    rw [if_pos (by omega), if_pos (by omega), if_pos (by omega), wrap64_id _ (by omega) (by omega), wrap64_id _ (by omega) (by omega)]
    have := ahead_loop s l v b m u hl hw j hj n (i + 1) k (by omega) (by omega)
    rw [sumW_nx l i (by omega)] at this
    exact this
theorem ahead_eq (s : ByteArray) (l : List S32) (v b m u : Int) (hl : l.length ≤ 1000) (hw : okW l) (j k : Nat) (hj : j ≤ l.length) (hk : l.length < k) : shape_ahead.f k s l v b m u (j : Int) = some (sumW (l.take j), true) := by
  unfold shape_ahead.f
  have := ahead_loop s l v b m u hl hw j hj j 0 k (by omega) (by omega)
  simpa [sumW] using this
theorem tdiv8 (x : Int) (h : 0 ≤ x) : Int.tdiv x 8 = x / 8 := Int.tdiv_eq_ediv_of_nonneg h
theorem tmod8 (x : Int) (h : 0 ≤ x) : Int.tmod x 8 = x % 8 := Int.tmod_eq_emod_of_nonneg h
theorem light_loop (s : ByteArray) (l : List S32) (v b m u : Int) (hl : l.length ≤ 40) : ∀ (n i k : Nat), i + n = l.length → n < k → (∀ j, j < i → (rd_T32 l (j : Int)).f0.size ≤ 200) →
    ∃ r, shunterlaw08_light.l0 k (i : Int) s l v b m u = some r ∧ (r = true → ∀ j, j < l.length → (rd_T32 l (j : Int)).f0.size ≤ 200)
  | 0, i, k, hi, hk, h => by
    obtain ⟨k, rfl⟩ : ∃ m, k = m + 1 := ⟨k - 1, by omega⟩
    simp only [shunterlaw08_light.l0]
    rw [if_neg (by omega)]
    exact ⟨_, rfl, fun _ j hj => h j (by omega)⟩
  | n + 1, i, k, hi, hk, h => by
    obtain ⟨k, rfl⟩ : ∃ m, k = m + 1 := ⟨k - 1, by omega⟩
    simp only [shunterlaw08_light.l0]
    rw [if_pos (by omega), if_pos (by omega)]
    split
    · exact ⟨_, rfl, fun h => by cases h⟩
    · rw [wrap64_id _ (by omega) (by omega)]
      refine light_loop s l v b m u hl n (i + 1) k (by omega) (by omega) (fun j hj => ?_)
      rcases Nat.lt_or_ge j i with c | c
      · exact h j c
      · obtain rfl : j = i := by omega
        omega
theorem light_some (s : ByteArray) (l : List S32) (v b m u : Int) (k : Nat) (hk : 60 < k) : ∃ r, shunterlaw08_light.f k s l v b m u = some r ∧ (r = true → l.length ≤ 40 ∧ s.size ≤ 200 ∧ ∀ x ∈ l, x.f0.size ≤ 200) := by
  obtain ⟨k, rfl⟩ : ∃ m, k = m + 1 := ⟨k - 1, by omega⟩
  unfold shunterlaw08_light.f
  simp only [shunterlaw08_light.j0]
  split
  · rw [if_pos trivial]
    exact ⟨_, rfl, fun h => by cases h⟩
  · by_cases h2 : s.size ≤ 200
    · rw [decide_eq_false (by omega), if_neg (by simp)]
      obtain ⟨r, hr, h⟩ := light_loop s l v b m u (by omega) l.length 0 k (by omega) (by omega) (fun j hj => by omega)
      refine ⟨r, hr, fun ht => ⟨by omega, h2, fun x hx => ?_⟩⟩
      obtain ⟨j, hj, rfl⟩ := List.mem_iff_getElem.1 hx
      have := h ht j hj
      simpa [rd_T32, List.getD_eq_getElem?_getD, hj] using this
    · rw [decide_eq_true (by omega), if_pos rfl]
      exact ⟨_, rfl, fun h => by cases h⟩
theorem index_mem : ∀ (l : List UInt8) (c : UInt8), (0 ≤ Lib.indexByte l c) ↔ c ∈ l
  | [], c => by simp [Lib.indexByte]
  | b :: l, c => by
    have ih := index_mem l c
    unfold Lib.indexByte
    by_cases h : b = c
    · subst h; simp
    · have h1 : (b == c) = false := by simp [h]
      rw [h1, if_neg (by simp), List.mem_cons]
      have hc : ¬ c = b := fun e => h e.symm
      by_cases hm : Lib.indexByte l c = -1
      · rw [if_pos (by simp [hm])]
        constructor
        · intro hh; omega
        · intro hh
          rcases hh with e | e
          · exact absurd e hc
          · have := ih.2 e; omega
      · rw [if_neg (by simp [hm])]
        have hge := Lib.indexByte_ge l c
        constructor
        · intro hh; exact .inr (ih.1 (by omega))
        · intro hh
          rcases hh with e | e
          · exact absurd e hc
          · have := ih.2 e; omega
theorem dot_mem (s : ByteArray) : (46 : UInt8) ∈ s.data.toList ↔ ∃ j, j < s.size ∧ bt s (j : Int) = 46 := by
  have hsz : s.size = s.data.size := rfl
  constructor
  · intro h
    obtain ⟨j, hj, e⟩ := List.mem_iff_getElem.1 h
    have hj2 : j < s.data.size := by simpa using hj
    refine ⟨j, by omega, ?_⟩
    rw [bt_get]
    have : s.get! j = 46 := by
      rw [show s.get! j = s.data[j] from by have := getElem!_pos s.data j hj2; simpa [ByteArray.get!] using this]
      rw [← e]; simp
    rw [this]; rfl
  · rintro ⟨j, hj, e⟩
    rw [bt_get] at e
    have hj2 : j < s.data.size := by omega
    have h2 : s.get! j = 46 := by
      apply UInt8.toNat_inj.1
      have : ((46 : UInt8).toNat) = 46 := rfl
      omega
    rw [show s.get! j = s.data[j] from by have := getElem!_pos s.data j hj2; simpa [ByteArray.get!] using this] at h2
    rw [← h2]
    simp
/-- A name without a full stop. -/
def plainP (s : ByteArray) : Bool := mayP (runes s) && !decide (0 ≤ Lib.indexByte s.data.toList 46)
theorem plain_eq (s : ByteArray) (h : s.size ≤ 200) : shape_plain.f s = some (plainP s) := by
  unfold shape_plain.f
  rw [nMay_eq s (by omega), Option.bind_some]
  unfold plainP
  cases mayP (runes s) with
  | false => rfl
  | true =>
    rw [if_pos rfl]
    unfold strings_Contains.f
    rw [if_pos (show ({ data := #[46] } : ByteArray).size = 1 from rfl)]
    rfl
theorem rPlain_loop (s : ByteArray) (h : s.size ≤ 200) : ∀ (n i k : Nat), i + n = s.size → n + 300 < k → (∀ j, j < i → bt s (j : Int) ≠ 46) → shunterref08_Plain.l0 k s (i : Int) = some (plainP s)
  | 0, i, k, hi, hk, hd => by
    obtain ⟨k, rfl⟩ : ∃ m, k = m + 1 := ⟨k - 1, by omega⟩
    simp only [shunterref08_Plain.l0]
    rw [if_neg (by omega), May_eq k s (by omega) (by omega), Option.bind_some]
    have hno : ¬ 0 ≤ Lib.indexByte s.data.toList 46 := fun hh => by
      obtain ⟨j, hj, e⟩ := (dot_mem s).1 ((index_mem _ _).1 hh)
      exact hd j (by omega) e
    unfold plainP
    rw [decide_eq_false hno]
    simp
  | n + 1, i, k, hi, hk, hd => by
    obtain ⟨k, rfl⟩ : ∃ m, k = m + 1 := ⟨k - 1, by omega⟩
    simp only [shunterref08_Plain.l0]
    rw [if_pos (by omega), if_pos (by omega)]
    by_cases hb : bt s (i : Int) = 46
    · rw [if_pos hb]
      unfold plainP
      rw [decide_eq_true ((index_mem _ _).2 ((dot_mem s).2 ⟨i, by omega, hb⟩))]
      simp
    · rw [if_neg hb, wrap64_id _ (by omega) (by omega)]
      refine rPlain_loop s h n (i + 1) k (by omega) (by omega) (fun j hj => ?_)
      rcases Nat.lt_or_ge j i with c | c
      · exact hd j c
      · obtain rfl : j = i := by omega
        exact hb
theorem rPlain_eq (s : ByteArray) (h : s.size ≤ 200) (k : Nat) (hk : 1000 ≤ k) : shunterref08_Plain.f k s = some (plainP s) := by
  unfold shunterref08_Plain.f
  exact rPlain_loop s h s.size 0 k (by omega) (by omega) (fun j hj => by omega)
theorem rAlike_eq (a b : ByteArray) (ha : a.size ≤ 200) (hb : b.size ≤ 200) (k : Nat) (hk : 1000 ≤ k) : shunterref08_Alike.f k a b = some (decide (keys a = keys b)) := by
  have h1 := keys_len a
  have h2 := keys_len b
  unfold shunterref08_Alike.f
  rw [Keys_eq k a (by omega) (by omega), Option.bind_some, Keys_eq k b (by omega) (by omega), Option.bind_some, Order_eq k _ _ (by omega) (by omega) (by omega), Option.bind_some]
  congr 1
  have := cmpL_zero (keys a) (keys b)
  by_cases h : keys a = keys b
  · rw [decide_eq_true h, this.2 h]; rfl
  · rw [decide_eq_false h]
    have h0 : ¬ cmpL (keys a) (keys b) = 0 := fun e => h (this.1 e)
    simpa using h0
theorem idx_spec (a : ByteArray) (ha : a.size ≤ 200) : ∀ (l : List ByteArray) (i : Nat), (∀ t ∈ l, t.size ≤ 200) → ∃ r, idxGo (keyB a) l i = some r ∧ (r ≥ 0 ↔ ∃ t ∈ l, keys t = keys a)
  | [], i, _ => ⟨-1, rfl, by simp⟩
  | t :: ts, i, h => by
    have ht := h t (by simp)
    obtain ⟨r, hr, hi⟩ := idx_spec a ha ts (i + 1) (fun s hs => h s (by simp [hs]))
    unfold idxGo
    rw [Key_eq t (by omega), Option.bind_some]
    by_cases hk : keys t = keys a
    · rw [if_pos ((toList_inj _ _).2 ((key_inj _ _).2 hk))]
      exact ⟨_, rfl, by constructor
                        · intro _; exact ⟨t, by simp, hk⟩
                        · intro _; omega⟩
    · rw [if_neg (fun e => hk ((key_inj _ _).1 ((toList_inj _ _).1 e)))]
      refine ⟨r, hr, hi.trans ?_⟩
      constructor
      · rintro ⟨x, hx, e⟩; exact ⟨x, by simp [hx], e⟩
      · rintro ⟨x, hx, e⟩
        rcases List.mem_cons.1 hx with rfl | hx
        · exact absurd e hk
        · exact ⟨x, hx, e⟩
theorem Index_spec (l : List ByteArray) (a : ByteArray) (h : ∀ t ∈ l, t.size ≤ 200) (ha : a.size ≤ 200) (hl : l.length ≤ 1000) : ∃ r, name_Index.f l a = some r ∧ (r ≥ 0 ↔ ∃ t ∈ l, keys t = keys a) := by
  unfold name_Index.f
  rw [if_pos (by omega), Key_eq a (by omega), Option.bind_some]
  exact idx_spec a ha l 0 h
theorem tail_eq (k : Nat) (s : ByteArray) (l : List S32) (hl : l.length ≤ 1000) (v b m u : Int) : ∃ vr, shape_varies.f s l v b m u = some vr ∧ (vr = true → 0 ≤ v ∧ v ≤ 64) ∧
    (if v = 0 then (if b = 0 then (if m = 0 then (shunterref08_May.j2 (k + 1) (u != 0)) else (shunterref08_May.j2 (k + 1) true)) else (shunterref08_May.j2 (k + 1) true)) else (if v < 1 then (some 7) else (if v > 64 then (some 7) else (if b < 0 then (some 7) else (if b ≥ (l.length : Int) then (some 7) else (if 0 ≤ b then (if b < (l.length : Int) then (if ((rd_T32 l b).f1) > 16 then (some 7) else (if m < 1 then (some 7) else (if m > 64 then (some 7) else (if u < 0 then (some 7) else (if u > 4096 then (some 7) else (some 0)))))) else (none)) else (none))))))) = some (if vr = true then (0 : Int) else 7) := by
  unfold shape_varies.f
  by_cases hv : v = 0
  · subst hv
    rw [if_pos rfl, if_pos rfl]
    by_cases hb : b = 0
    · rw [if_pos hb, if_pos hb]
      by_cases hm : m = 0
      · rw [if_pos hm, if_pos hm]
        refine ⟨_, rfl, fun _ => (by omega), ?_⟩
        simp only [shunterref08_May.j2]
        by_cases hu : u = 0
        · subst hu; rfl
        · have e1 : (u != 0) = true := by simpa using hu
          have e2 : (u == 0) = false := by simpa using hu
          rw [e1, e2]; rfl
      · rw [if_neg hm, if_neg hm]
        exact ⟨_, rfl, fun h => (by cases h), by simp [shunterref08_May.j2]⟩
    · rw [if_neg hb, if_neg hb]
      exact ⟨_, rfl, fun h => (by cases h), by simp [shunterref08_May.j2]⟩
  · rw [if_neg hv, if_neg hv, within_eq, Option.bind_some]
    by_cases h1 : 1 ≤ v ∧ v ≤ 64
    · rw [decide_eq_true h1, if_pos rfl, if_neg (show ¬ v < 1 by omega), if_neg (show ¬ v > 64 by omega), wrap64_id _ (by omega) (by omega), within_eq, Option.bind_some]
      by_cases h2 : 0 ≤ b ∧ b ≤ (l.length : Int) - 1
      · rw [decide_eq_true h2, if_pos rfl, if_pos (show 0 ≤ b by omega), if_pos (show b < (l.length : Int) by omega), if_neg (show ¬ b < 0 by omega), if_neg (show ¬ b ≥ (l.length : Int) by omega), if_pos (show 0 ≤ b by omega), if_pos (show b < (l.length : Int) by omega)]
        by_cases h3 : (rd_T32 l b).f1 ≤ 16
        · rw [if_pos h3, if_neg (show ¬ (rd_T32 l b).f1 > 16 by omega), within_eq, Option.bind_some]
          by_cases h4 : 1 ≤ m ∧ m ≤ 64
          · rw [decide_eq_true h4, if_pos rfl, if_neg (show ¬ m < 1 by omega), if_neg (show ¬ m > 64 by omega), within_eq, Option.bind_some]
            refine ⟨_, rfl, fun _ => (by omega), ?_⟩
            by_cases h5 : 0 ≤ u ∧ u ≤ 4096
            · rw [decide_eq_true h5, if_neg (show ¬ u < 0 by omega), if_neg (show ¬ u > 4096 by omega)]; rfl
            · rw [decide_eq_false h5]
              by_cases h6 : u < 0
              · rw [if_pos h6]; rfl
              · rw [if_neg h6, if_pos (by omega)]; rfl
          · rw [decide_eq_false h4, if_neg (by simp)]
            refine ⟨_, rfl, fun h => (by cases h), ?_⟩
            by_cases h6 : m < 1
            · rw [if_pos h6]; rfl
            · rw [if_neg h6, if_pos (by omega)]; rfl
        · rw [if_neg h3, if_pos (show (rd_T32 l b).f1 > 16 by omega)]
          exact ⟨_, rfl, fun h => (by cases h), rfl⟩
      · rw [decide_eq_false h2, if_neg (by simp)]
        refine ⟨_, rfl, fun h => (by cases h), ?_⟩
        by_cases h6 : b < 0
        · rw [if_pos h6]; rfl
        · rw [if_neg h6, if_pos (by omega)]; rfl
    · rw [decide_eq_false h1, if_neg (by simp)]
      refine ⟨_, rfl, fun h => (by cases h), ?_⟩
      by_cases h6 : v < 1
      · rw [if_pos h6]; rfl
      · rw [if_neg h6, if_pos (by omega)]; rfl
theorem l1_hit (s : ByteArray) (l : List S32) (v b m u : Int) (hs : ∀ x ∈ l, x.f0.size ≤ 200) (acc : Int) (i : Nat) (hi : i < l.length) (hl : l.length ≤ 1000) (a : ByteArray) (ha : a.size ≤ 200) (W : Int) (q : Nat) (hq : q < i) (he : keys (rd_T32 l (q : Int)).f0 = keys a) :
    ∀ (n p k : Nat), p + n = q → n + 1100 < k → shunterref08_May.l1 k acc (i : Int) (p : Int) s l v b m u a W = some 6
  | 0, p, k, hp, hk => by
    obtain ⟨k, rfl⟩ : ∃ m, k = m + 1 := ⟨k - 1, by omega⟩
    obtain rfl : p = q := by omega
    simp only [shunterref08_May.l1]
    rw [if_pos (by omega), if_pos (by omega), if_pos (by omega), rAlike_eq _ a (hs _ (rd_in l p (by omega))) ha k (by omega), Option.bind_some, decide_eq_true he, if_pos rfl]
  | n + 1, p, k, hp, hk => by
    obtain ⟨k, rfl⟩ : ∃ m, k = m + 1 := ⟨k - 1, by omega⟩
    simp only [shunterref08_May.l1]
    rw [if_pos (by omega), if_pos (by omega), if_pos (by omega), rAlike_eq _ a (hs _ (rd_in l p (by omega))) ha k (by omega), Option.bind_some]
    split
    · rfl
    · rw [wrap64_id _ (by omega) (by omega)]
      exact l1_hit s l v b m u hs acc i hi hl a ha W q hq he n (p + 1) k (by omega) (by omega)
theorem l1_miss (s : ByteArray) (l : List S32) (v b m u : Int) (hs : ∀ x ∈ l, x.f0.size ≤ 200) (acc : Int) (i : Nat) (hi : i < l.length) (hl : l.length ≤ 1000) (a : ByteArray) (ha : a.size ≤ 200) (W : Int) (hno : ∀ q, q < i → keys (rd_T32 l (q : Int)).f0 ≠ keys a) :
    ∀ (n p k : Nat), p + n = i → 1100 < k → shunterref08_May.l1 (k + n + 1) acc (i : Int) (p : Int) s l v b m u a W = if W < 1 then some 9 else if W > 128 then some 9 else shunterref08_May.l0 k (wrap64 (acc + W)) (wrap64 ((i : Int) + 1)) s l v b m u
  | 0, p, k, hp, hk => by
    obtain rfl : p = i := by omega
    simp only [shunterref08_May.l1, Nat.add_zero]
    rw [if_neg (by omega)]
  | n + 1, p, k, hp, hk => by
    have ih := l1_miss s l v b m u hs acc i hi hl a ha W hno n (p + 1) k (by omega) hk
    rw [show k + (n + 1) + 1 = (k + n + 1) + 1 by omega, shunterref08_May.l1]
    rw [if_pos (show (p : Int) < (i : Int) by omega), if_pos (show 0 ≤ (p : Int) by omega), if_pos (show (p : Int) < (l.length : Int) by omega), rAlike_eq _ a (hs _ (rd_in l p (by omega))) ha (k + n + 1) (by omega), Option.bind_some, decide_eq_false (hno p (by omega)), if_neg (by simp), wrap64_id _ (by omega) (by omega)]
    exact ih
theorem mem_names (l : List S32) (i : Nat) (hi : i ≤ l.length) (a : ByteArray) : (∃ t ∈ (l.take i).map (·.f0), keys t = keys a) ↔ ∃ q, q < i ∧ keys (rd_T32 l (q : Int)).f0 = keys a := by
  constructor
  · rintro ⟨t, ht, e⟩
    obtain ⟨x, hx, rfl⟩ := List.mem_map.1 ht
    obtain ⟨q, hq, e2⟩ := List.mem_iff_getElem.1 hx
    have hq2 : q < i := by simp at hq; omega
    refine ⟨q, hq2, ?_⟩
    have e3 : rd_T32 l (q : Int) = x := by
      rw [← e2]
      simp [rd_T32, List.getD_eq_getElem?_getD, show q < l.length by omega]
    rw [e3]; exact e
  · rintro ⟨q, hq, e⟩
    refine ⟨_, List.mem_map.2 ⟨rd_T32 l (q : Int), ?_, rfl⟩, e⟩
    apply List.mem_iff_getElem.2
    exact ⟨q, by simp; omega, by simp [rd_T32, List.getD_eq_getElem?_getD, show q < l.length by omega]⟩
theorem fields_both (s : ByteArray) (l : List S32) (v b m u : Int) (hl : l.length ≤ 16) (hs : ∀ x ∈ l, x.f0.size ≤ 200) (vr : Bool) (hv : shape_varies.f s l v b m u = some vr)
    (ht : ∀ k, (if v = 0 then (if b = 0 then (if m = 0 then (shunterref08_May.j2 (k + 1) (u != 0)) else (shunterref08_May.j2 (k + 1) true)) else (shunterref08_May.j2 (k + 1) true)) else (if v < 1 then (some 7) else (if v > 64 then (some 7) else (if b < 0 then (some 7) else (if b ≥ (l.length : Int) then (some 7) else (if 0 ≤ b then (if b < (l.length : Int) then (if ((rd_T32 l b).f1) > 16 then (some 7) else (if m < 1 then (some 7) else (if m > 64 then (some 7) else (if u < 0 then (some 7) else (if u > 4096 then (some 7) else (some 0)))))) else (none)) else (none))))))) = some (if vr = true then (0 : Int) else 7)) :
    ∀ (n i k k2 : Nat), i + n = l.length → n < k → 1200 + 20 * n < k2 → okW (l.take i) →
    ∃ e, shape_fields.l0 k ((l.take i).map (·.f0)) (sumW (l.take i)) l (l.length : Int) (i : Int) = some e ∧ shunterref08_May.l0 k2 (sumW (l.take i)) (i : Int) s l v b m u = some (if e = 0 then (if vr = true then (0 : Int) else 7) else e)
  | 0, i, k, k2, hi, hk, hk2, hw => by
    obtain ⟨k, rfl⟩ : ∃ m, k = m + 1 := ⟨k - 1, by omega⟩
    obtain ⟨k2, rfl⟩ : ∃ m, k2 = m + 1 + 1 := ⟨k2 - 2, by omega⟩
    rw [shape_fields.l0, shunterref08_May.l0]
    rw [if_neg (show ¬ (i : Int) < (l.length : Int) by omega), if_neg (show ¬ (i : Int) < (l.length : Int) by omega)]
    by_cases h8 : Int.tmod (sumW (l.take i)) 8 = 0
    · rw [if_pos h8, if_pos h8]
      exact ⟨0, rfl, by rw [if_pos rfl]; exact ht k2⟩
    · rw [if_neg h8, if_neg h8]
      exact ⟨9, rfl, rfl⟩
  | n + 1, i, k, k2, hi, hk, hk2, hw => by
    obtain ⟨k, rfl⟩ : ∃ m, k = m + 1 := ⟨k - 1, by omega⟩
    have hx := hs _ (rd_in l i (by omega))
    have hbd := sumW_bd _ hw
    have hln : (l.take i).length = i := by simp; omega
    have hnm : ∀ t ∈ (l.take i).map (·.f0), t.size ≤ 200 := fun t ht => by
      obtain ⟨x, hx, rfl⟩ := List.mem_map.1 ht
      exact hs x (List.mem_of_mem_take hx)
    obtain ⟨r, hr, hri⟩ := Index_spec ((l.take i).map (·.f0)) (rd_T32 l (i : Int)).f0 hnm hx (by simp; omega)
    rw [mem_names l i (by omega)] at hri
    obtain ⟨k3, hk3⟩ : ∃ k3, k2 = (k3 + i + 1) + 1 := ⟨k2 - i - 2, by omega⟩
    subst hk3
    rw [shape_fields.l0, shunterref08_May.l0]
    rw [if_pos (show (i : Int) < (l.length : Int) by omega), if_pos (show 0 ≤ (i : Int) by omega), if_pos (show (i : Int) < (l.length : Int) by omega), if_pos (show (i : Int) < (l.length : Int) by omega), if_pos (show 0 ≤ (i : Int) by omega), plain_eq _ hx, Option.bind_some, rPlain_eq _ hx (k3 + i + 1) (by omega), Option.bind_some]
    by_cases hp : plainP (rd_T32 l (i : Int)).f0 = true
    · rw [if_pos hp, if_pos hp, hr, Option.bind_some]
      by_cases hr0 : r ≥ 0
      · rw [if_pos hr0]
        obtain ⟨q, hq, he⟩ := hri.1 hr0
        refine ⟨6, rfl, ?_⟩
        rw [if_neg (by decide)]
        have := l1_hit s l v b m u hs (sumW (l.take i)) i (by omega) (by omega) (rd_T32 l (i : Int)).f0 hx (rd_T32 l (i : Int)).f1 q hq he q 0 (k3 + i + 1) (by omega) (by omega)
        exact this
      · rw [if_neg hr0, within_eq, Option.bind_some]
        have hm := l1_miss s l v b m u hs (sumW (l.take i)) i (by omega) (by omega) (rd_T32 l (i : Int)).f0 hx (rd_T32 l (i : Int)).f1 (fun q hq e => hr0 (hri.2 ⟨q, hq, e⟩)) i 0 k3 (by omega) (by omega)
        rw [show ((0 : Nat) : Int) = 0 from rfl] at hm
        rw [hm]
        by_cases hwd : 1 ≤ (rd_T32 l (i : Int)).f1 ∧ (rd_T32 l (i : Int)).f1 ≤ 128
        · rw [decide_eq_true hwd, if_pos rfl, if_pos (by simp; omega), if_neg (by omega), if_neg (by omega), wrap64_id (sumW (l.take i) + _) (by omega) (by omega), wrap64_id ((i : Int) + 1) (by omega) (by omega)]
          have := fields_both s l v b m u hl hs vr hv ht n (i + 1) k k3 (by omega) (by omega) (by omega) (by
            intro y hy
            rw [takeF l i (by omega)] at hy
            rcases List.mem_append.1 hy with h1 | h1
            · exact hw y h1
            · rw [List.mem_singleton.1 h1]; exact hwd)
          rw [sumW_nx l i (by omega), takeF l i (by omega), List.map_append] at this
          exact this
        · rw [decide_eq_false hwd, if_neg (by simp)]
          refine ⟨9, rfl, ?_⟩
          by_cases h6 : (rd_T32 l (i : Int)).f1 < 1
          · rw [if_pos h6, if_neg (show ¬ (9 : Int) = 0 by decide)]
          · rw [if_neg h6, if_pos (show (rd_T32 l (i : Int)).f1 > 128 by omega), if_neg (show ¬ (9 : Int) = 0 by decide)]
    · rw [if_neg hp, if_neg hp]
      exact ⟨4, rfl, rfl⟩
theorem May_both (s : ByteArray) (l : List S32) (v b m u : Int) (hs0 : s.size ≤ 200) (hs : ∀ x ∈ l, x.f0.size ≤ 200) (k : Nat) (hk : 2000 ≤ k) :
    ∃ e, shape_May.f k s l v b m u = some e ∧ shunterref08_May.f k s l v b m u = some e ∧ (e = 0 → 0 ≤ v ∧ v ≤ 64) := by
  unfold shape_May.f shunterref08_May.f
  rw [plain_eq s hs0, Option.bind_some, rPlain_eq s hs0 k (by omega), Option.bind_some]
  by_cases hp : plainP s = true
  · rw [if_pos hp, if_pos hp]
    by_cases h1 : (l.length : Int) > 16
    · rw [if_pos h1, if_pos h1]
      exact ⟨2, rfl, rfl, fun h => by cases h⟩
    · rw [if_neg h1, if_neg h1]
      by_cases h2 : (l.length : Int) = 0
      · rw [if_pos h2, if_pos h2]
        exact ⟨5, rfl, rfl, fun h => by cases h⟩
      · rw [if_neg h2, if_neg h2]
        obtain ⟨vr, hvr, hv1, _⟩ := tail_eq 0 s l (by omega) v b m u
        obtain ⟨e, he1, he2⟩ := fields_both s l v b m u (by omega) hs vr hvr (fun k => by
          obtain ⟨vr2, hvr2, _, h⟩ := tail_eq k s l (by omega) v b m u
          rw [hvr] at hvr2
          obtain rfl := Option.some.inj hvr2
          exact h) l.length 0 k k (by omega) (by omega) (by omega) (by intro x hx; simp at hx)
        have he1' : shape_fields.f k l = some e := by
          unfold shape_fields.f
          simpa [sumW] using he1
        rw [he1', Option.bind_some]
        have he2' : shunterref08_May.l0 k 0 0 s l v b m u = some (if e = 0 then (if vr = true then (0 : Int) else 7) else e) := by simpa [sumW] using he2
        rw [he2']
        by_cases hz : e = 0
        · rw [if_pos hz, if_pos hz, hvr, Option.bind_some]
          cases vr with
          | true => exact ⟨0, rfl, rfl, fun _ => hv1 rfl⟩
          | false => exact ⟨7, rfl, rfl, fun h => by cases h⟩
        · rw [if_neg hz, if_neg hz]
          exact ⟨e, rfl, rfl, fun h => absurd h hz⟩
  · rw [if_neg hp, if_neg hp]
    exact ⟨4, rfl, rfl, fun h => by cases h⟩
/-- The first field whose name is alike; -1: none is. -/
def wfL (a : ByteArray) : List S32 → Nat → Int
  | [], _ => -1
  | x :: t, i => if keys x.f0 = keys a then (i : Int) else wfL a t (i + 1)
theorem idxGo_wf (a : ByteArray) : ∀ (l : List S32) (i : Nat), (∀ x ∈ l, x.f0.size ≤ 200) → idxGo (keyB a) (l.map (·.f0)) i = some (wfL a l i)
  | [], i, _ => rfl
  | x :: t, i, h => by
    have hx := h x (by simp)
    show idxGo (keyB a) (x.f0 :: t.map (·.f0)) i = _
    unfold idxGo
    rw [Key_eq x.f0 (by omega), Option.bind_some]
    by_cases hk : keys x.f0 = keys a
    · rw [if_pos ((toList_inj _ _).2 ((key_inj _ _).2 hk)), wfL, if_pos hk]
    · rw [if_neg (fun e => hk ((key_inj _ _).1 ((toList_inj _ _).1 e))), wfL, if_neg hk]
      exact idxGo_wf a t (i + 1) (fun y hy => h y (by simp [hy]))
theorem Field_loop (s : ByteArray) (l : List S32) (a : ByteArray) (hl : l.length ≤ 1000) (hs : ∀ x ∈ l, x.f0.size ≤ 200) (ha : a.size ≤ 200) : ∀ (n i k : Nat), i + n = l.length → n < k → shape_Field.l0 k a ((l.take i).map (·.f0)) l (l.length : Int) (i : Int) = some (wfL a l 0)
  | 0, i, k, hi, hk => by
    obtain ⟨k, rfl⟩ : ∃ m, k = m + 1 := ⟨k - 1, by omega⟩
    rw [shape_Field.l0, if_neg (show ¬ (i : Int) < (l.length : Int) by omega), List.take_of_length_le (by omega)]
    unfold name_Index.f
    rw [if_pos (by simp; omega), Key_eq a (by omega), Option.bind_some, idxGo_wf a l 0 hs]
    rfl
  | n + 1, i, k, hi, hk => by
    obtain ⟨k, rfl⟩ : ∃ m, k = m + 1 := ⟨k - 1, by omega⟩
    rw [shape_Field.l0, if_pos (show (i : Int) < (l.length : Int) by omega), if_pos (show 0 ≤ (i : Int) by omega), if_pos (show (i : Int) < (l.length : Int) by omega), if_pos (by simp; omega), wrap64_id _ (by omega) (by omega)]
    have := Field_loop s l a hl hs ha n (i + 1) k (by omega) (by omega)
    rw [takeF l i (by omega), List.map_append] at this
    exact this
theorem Field_eq (s : ByteArray) (l : List S32) (v b m u : Int) (a : ByteArray) (hl : l.length ≤ 1000) (hs : ∀ x ∈ l, x.f0.size ≤ 200) (ha : a.size ≤ 200) : shape_Field.f 4000 s l v b m u a = some (wfL a l 0) := by
  unfold shape_Field.f
  have := Field_loop s l a hl hs ha l.length 0 4000 (by omega) (by omega)
  simpa using this
theorem rBits_loop (s : ByteArray) (l : List S32) (v b m u : Int) (hl : l.length ≤ 1000) (hw : okW l) : ∀ (n i k : Nat), i + n = l.length → n < k → shunterref08_Bits.l0 k (sumW (l.take i)) (i : Int) s l v b m u = some (sumW l)
  | 0, i, k, hi, hk => by
    obtain ⟨k, rfl⟩ : ∃ m, k = m + 1 := ⟨k - 1, by omega⟩
    rw [shunterref08_Bits.l0, if_neg (show ¬ (i : Int) < (l.length : Int) by omega), List.take_of_length_le (by omega)]
  | n + 1, i, k, hi, hk => by
    obtain ⟨k, rfl⟩ : ∃ m, k = m + 1 := ⟨k - 1, by omega⟩
    have hbd := sumW_bd _ (okW_take hw i)
    have hln : (l.take i).length = i := by simp; omega
    have hx := hw _ (rd_in l i (by omega))
    rw [shunterref08_Bits.l0, if_pos (show (i : Int) < (l.length : Int) by omega), if_pos (show 0 ≤ (i : Int) by omega), wrap64_id _ (by omega) (by omega), wrap64_id _ (by omega) (by omega)]
    have := rBits_loop s l v b m u hl hw n (i + 1) k (by omega) (by omega)
    rw [sumW_nx l i (by omega)] at this
    exact this
theorem rBits_eq (s : ByteArray) (l : List S32) (v b m u : Int) (hl : l.length ≤ 1000) (hw : okW l) : shunterref08_Bits.f 4000 s l v b m u = some (sumW l) := by
  unfold shunterref08_Bits.f
  have := rBits_loop s l v b m u hl hw l.length 0 4000 (by omega) (by omega)
  simpa [sumW] using this
theorem Bits_0 (k : Nat) (s : ByteArray) (l : List S32) (v b m u : Int) (hl : l.length ≤ 16) (hk : 20 < k) (hw : okW l) (h : shape_May.f k s l v b m u = some 0) : shape_Bits.f k s l v b m u = some (sumW l) := by
  unfold shape_Bits.f
  rw [h, Option.bind_some, if_pos rfl, ahead_eq s l v b m u (by omega) hw l.length k (Nat.le_refl _) (by omega), Option.bind_some, List.take_length]
theorem Bits_e (k : Nat) (s : ByteArray) (l : List S32) (v b m u e : Int) (h : shape_May.f k s l v b m u = some e) (he : e ≠ 0) : shape_Bits.f k s l v b m u = some 0 := by
  unfold shape_Bits.f
  rw [h, Option.bind_some, if_neg he]
theorem Bytes_of (k : Nat) (s : ByteArray) (l : List S32) (v b m u n : Int) (h : shape_Bits.f k s l v b m u = some n) (h0 : 0 ≤ n) (h1 : n ≤ 100000) : shape_Bytes.f k s l v b m u = some (n / 8) := by
  unfold shape_Bytes.f
  rw [h, Option.bind_some, tdiv8 _ h0, wrap64_id _ (by omega) (by omega)]
theorem Most_0 (k : Nat) (s : ByteArray) (l : List S32) (v b m u n : Int) (hm : shape_May.f k s l v b m u = some 0) (h : shape_Bytes.f k s l v b m u = some n) (h0 : 0 ≤ n) (h1 : n ≤ 100000) (hv : 0 ≤ v ∧ v ≤ 64) : shape_Most.f k s l v b m u = some (n + v) := by
  unfold shape_Most.f
  rw [hm, Option.bind_some, if_pos rfl, h, Option.bind_some, wrap64_id _ (by omega) (by omega)]
theorem Most_e (k : Nat) (s : ByteArray) (l : List S32) (v b m u e : Int) (h : shape_May.f k s l v b m u = some e) (he : e ≠ 0) : shape_Most.f k s l v b m u = some 0 := by
  unfold shape_Most.f
  rw [h, Option.bind_some, if_neg he]
theorem Offset_e (k : Nat) (s : ByteArray) (l : List S32) (v b m u e f : Int) (h : shape_May.f k s l v b m u = some e) (he : e ≠ 0) : shape_Offset.f k s l v b m u f = some (0, false) := by
  unfold shape_Offset.f
  rw [h, Option.bind_some, if_neg he]
theorem Offset_out (k : Nat) (s : ByteArray) (l : List S32) (v b m u f : Int) (hl : l.length ≤ 1000) (h : shape_May.f k s l v b m u = some 0) (hf : ¬ (0 ≤ f ∧ f < (l.length : Int))) : shape_Offset.f k s l v b m u f = some (0, false) := by
  unfold shape_Offset.f
  rw [h, Option.bind_some, if_pos rfl, wrap64_id _ (by omega) (by omega), within_eq, Option.bind_some, decide_eq_false (by omega), if_neg (by simp)]
theorem Offset_in (k : Nat) (s : ByteArray) (l : List S32) (v b m u : Int) (j : Nat) (hl : l.length ≤ 1000) (hk : 1000 < k) (hw : okW l) (h : shape_May.f k s l v b m u = some 0) (hj : j < l.length) : shape_Offset.f k s l v b m u (j : Int) = some (sumW (l.take j), true) := by
  unfold shape_Offset.f
  rw [h, Option.bind_some, if_pos rfl, wrap64_id _ (by omega) (by omega), within_eq, Option.bind_some, decide_eq_true (by omega), if_pos rfl, ahead_eq s l v b m u (by omega) hw j k (by omega) (by omega), Option.bind_some]

end Go.Proofs.Ytpdjiiikfjjfjaa.XH
