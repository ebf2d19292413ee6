/- The pure law of ShapeVaries. -/
import Derived.Test.YtpdjiiikfjjfjaaLemV
namespace Go.Proofs.Ytpdjiiikfjjfjaa.XV
open Go.RowKit Go.Proofs.YtpdjiiikfjjfjaaW.PrintWords Go.Proofs.YtpdjiiikfjjfjaaW.PrintLast Go.Proofs.YtpdjiiikfjjfjaaW.PrintMore
attribute [local go_sem] max2_int min2_int max_two min_two max_three min_three max_four min_four   -- for this text's walks alone
set_option linter.unusedVariables false
set_option linter.unusedSimpArgs false
theorem wrap64_id (n : Int) (h : -9223372036854775808 ≤ n) (h' : n ≤ 9223372036854775807) : wrap64 n = n := by
  unfold wrap64
  omega
theorem within_eq (a b c : Int) : shape_within.f a b c = some (decide (b ≤ a ∧ a ≤ c)) := by
  unfold shape_within.f
  split
  · rename_i h; simp [show b ≤ a from h]
  · rename_i h; simp [show ¬ b ≤ a from h]
theorem lives_at (k : Nat) (hk : 60 ≤ k) : shunterlaw08_lives.f k = some true := by
  obtain ⟨m, rfl⟩ : ∃ m, k = 60 + m := ⟨k - 60, by omega⟩
  clear hk
  induction m with
  | zero => kernel_rfl
  | succ m ih => exact shunterlaw08_lives.mono _ _ ih
/-- The fields' widths, summed up. -/
def sumW : List S32 → Int
  | [] => 0
  | x :: t => x.f1 + sumW t
theorem sumW_app (a b : List S32) : sumW (a ++ b) = sumW a + sumW b := by
  induction a with
  | nil => simp [sumW]
  | cons x a ih => simp [sumW, ih]; omega
theorem takeF (l : List S32) (i : Nat) (h : i < l.length) : l.take (i + 1) = l.take i ++ [rd_T32 l (i : Int)] := by
  rw [List.take_add_one, List.getElem?_eq_getElem h]
  simp [rd_T32, List.getD_eq_getElem?_getD, h]
theorem sumW_nx (l : List S32) (i : Nat) (h : i < l.length) : sumW (l.take (i + 1)) = sumW (l.take i) + (rd_T32 l (i : Int)).f1 := by
  rw [takeF l i h, sumW_app]
  simp [sumW]
theorem rd_in (l : List S32) (i : Nat) (h : i < l.length) : rd_T32 l (i : Int) ∈ l := by
  simp [rd_T32, List.getD_eq_getElem?_getD, h]
def okW (l : List S32) : Prop := ∀ x ∈ l, 1 ≤ x.f1 ∧ x.f1 ≤ 128
theorem sumW_bd : ∀ (l : List S32), okW l → 0 ≤ sumW l ∧ sumW l ≤ 128 * (l.length : Int)
  | [], _ => by simp [sumW]
  | x :: t, h => by
    have h1 := h x (by simp)
    have h2 := sumW_bd t (fun y hy => h y (by simp [hy]))
    simp only [sumW, List.length_cons]
    omega
theorem okW_take {l : List S32} (h : okW l) (i : Nat) : okW (l.take i) := fun x hx => h x (List.mem_of_mem_take hx)
theorem light_loop (s : ByteArray) (l : List S32) (v b m u : Int) (hl : l.length ≤ 40) : ∀ (n i k : Nat), i + n = l.length → n < k → (∀ j, j < i → (rd_T32 l (j : Int)).f0.size ≤ 200) →
    ∃ r, shunterlaw08_light.l0 k (i : Int) s l v b m u = some r ∧ (r = true → ∀ j, j < l.length → (rd_T32 l (j : Int)).f0.size ≤ 200)
  | 0, i, k, hi, hk, h => by
    obtain ⟨k, rfl⟩ : ∃ m, k = m + 1 := ⟨k - 1, by omega⟩
    simp only [shunterlaw08_light.l0]
    rw [if_neg (by omega)]
    exact ⟨_, rfl, fun _ j hj => h j (by omega)⟩
  | n + 1, i, k, hi, hk, h => by
    obtain ⟨k, rfl⟩ : ∃ m, k = m + 1 := ⟨k - 1, by omega⟩
    simp only [shunterlaw08_light.l0]
    rw [if_pos (by omega), if_pos (by omega)]
    split
    · exact ⟨_, rfl, fun h => by cases h⟩
    · rw [wrap64_id _ (by omega) (by omega)]
      refine light_loop s l v b m u hl n (i + 1) k (by omega) (by omega) (fun j hj => ?_)
      rcases Nat.lt_or_ge j i with c | c
      · exact h j c
      · obtain rfl : j = i := by omega
        omega
theorem light_some (s : ByteArray) (l : List S32) (v b m u : Int) (k : Nat) (hk : 60 < k) : ∃ r, shunterlaw08_light.f k s l v b m u = some r ∧ (r = true → l.length ≤ 40 ∧ s.size ≤ 200 ∧ ∀ x ∈ l, x.f0.size ≤ 200) := by
  obtain ⟨k, rfl⟩ : ∃ m, k = m + 1 := ⟨k - 1, by omega⟩
  unfold shunterlaw08_light.f
  simp only [shunterlaw08_light.j0]
  split
  · rw [if_pos trivial]
    exact ⟨_, rfl, fun h => by cases h⟩
  · by_cases h2 : s.size ≤ 200
    · rw [decide_eq_false (by omega), if_neg (by simp)]
      obtain ⟨r, hr, h⟩ := light_loop s l v b m u (by omega) l.length 0 k (by omega) (by omega) (fun j hj => by omega)
      refine ⟨r, hr, fun ht => ⟨by omega, h2, fun x hx => ?_⟩⟩
      obtain ⟨j, hj, rfl⟩ := List.mem_iff_getElem.1 hx
      have := h ht j hj
      simpa [rd_T32, List.getD_eq_getElem?_getD, hj] using this
    · rw [decide_eq_true (by omega), if_pos rfl]
      exact ⟨_, rfl, fun h => by cases h⟩
theorem index_mem : ∀ (l : List UInt8) (c : UInt8), (0 ≤ Lib.indexByte l c) ↔ c ∈ l
  | [], c => by simp [Lib.indexByte]
  | b :: l, c => by
    have ih := index_mem l c
    unfold Lib.indexByte
    by_cases h : b = c
    · subst h; simp
    · have h1 : (b == c) = false := by simp [h]
      rw [h1, if_neg (by simp), List.mem_cons]
      have hc : ¬ c = b := fun e => h e.symm
      by_cases hm : Lib.indexByte l c = -1
      · rw [if_pos (by simp [hm])]
        constructor
        · intro hh; omega
        · intro hh
          rcases hh with e | e
          · exact absurd e hc
          · have := ih.2 e; omega
      · rw [if_neg (by simp [hm])]
        have hge := Lib.indexByte_ge l c
        constructor
        · intro hh; exact .inr (ih.1 (by omega))
        · intro hh
          rcases hh with e | e
          · exact absurd e hc
          · have := ih.2 e; omega
theorem dot_mem (s : ByteArray) : (46 : UInt8) ∈ s.data.toList ↔ ∃ j, j < s.size ∧ bt s (j : Int) = 46 := by
  have hsz : s.size = s.data.size := rfl
  constructor
  · intro h
    obtain ⟨j, hj, e⟩ := List.mem_iff_getElem.1 h
    have hj2 : j < s.data.size := by simpa using hj
    refine ⟨j, by omega, ?_⟩
    rw [bt_get]
    have : s.get! j = 46 := by
      rw [show s.get! j = s.data[j] from by have := getElem!_pos s.data j hj2; simpa [ByteArray.get!] using this]
      rw [← e]; simp
    rw [this]; rfl
  · rintro ⟨j, hj, e⟩
    rw [bt_get] at e
    have hj2 : j < s.data.size := by omega
    have h2 : s.get! j = 46 := by
      apply UInt8.toNat_inj.1
      have : ((46 : UInt8).toNat) = 46 := rfl
      omega
    rw [show s.get! j = s.data[j] from by have := getElem!_pos s.data j hj2; simpa [ByteArray.get!] using this] at h2
    rw [← h2]
    simp
/-- A name without a full stop. -/
def plainP (s : ByteArray) : Bool := mayP (runes s) && !decide (0 ≤ Lib.indexByte s.data.toList 46)
theorem plain_eq (s : ByteArray) (h : s.size ≤ 200) : shape_plain.f s = some (plainP s) := by
  unfold shape_plain.f
  rw [nMay_eq s (by omega), Option.bind_some]
  unfold plainP
  cases mayP (runes s) with
  | false => rfl
  | true =>
    rw [if_pos rfl]
    unfold strings_Contains.f
    rw [if_pos (show ({ data := #[46] } : ByteArray).size = 1 from rfl)]
    rfl
theorem rPlain_loop (s : ByteArray) (h : s.size ≤ 200) : ∀ (n i k : Nat), i + n = s.size → n + 300 < k → (∀ j, j < i → bt s (j : Int) ≠ 46) → shunterref08_Plain.l0 k s (i : Int) = some (plainP s)
  | 0, i, k, hi, hk, hd => by
    obtain ⟨k, rfl⟩ : ∃ m, k = m + 1 := ⟨k - 1, by omega⟩
    simp only [shunterref08_Plain.l0]
    rw [if_neg (by omega), May_eq k s (by omega) (by omega), Option.bind_some]
    have hno : ¬ 0 ≤ Lib.indexByte s.data.toList 46 := fun hh => by
      obtain ⟨j, hj, e⟩ := (dot_mem s).1 ((index_mem _ _).1 hh)
      exact hd j (by omega) e
    unfold plainP
    rw [decide_eq_false hno]
    simp
  | n + 1, i, k, hi, hk, hd => by
    obtain ⟨k, rfl⟩ : ∃ m, k = m + 1 := ⟨k - 1, by omega⟩
    simp only [shunterref08_Plain.l0]
    rw [if_pos (by omega), if_pos (by omega)]
    by_cases hb : bt s (i : Int) = 46
    · rw [if_pos hb]
      unfold plainP
      rw [decide_eq_true ((index_mem _ _).2 ((dot_mem s).2 ⟨i, by omega, hb⟩))]
      simp
    · rw [if_neg hb, wrap64_id _ (by omega) (by omega)]
      refine rPlain_loop s h n (i + 1) k (by omega) (by omega) (fun j hj => ?_)
      rcases Nat.lt_or_ge j i with c | c
      · exact hd j c
      · obtain rfl : j = i := by omega
        exact hb
theorem rPlain_eq (s : ByteArray) (h : s.size ≤ 200) (k : Nat) (hk : 1000 ≤ k) : shunterref08_Plain.f k s = some (plainP s) := by
  unfold shunterref08_Plain.f
  exact rPlain_loop s h s.size 0 k (by omega) (by omega) (fun j hj => by omega)
theorem rAlike_eq (a b : ByteArray) (ha : a.size ≤ 200) (hb : b.size ≤ 200) (k : Nat) (hk : 1000 ≤ k) : shunterref08_Alike.f k a b = some (decide (keys a = keys b)) := by
  have h1 := keys_len a
  have h2 := keys_len b
  unfold shunterref08_Alike.f
  rw [Keys_eq k a (by omega) (by omega), Option.bind_some, Keys_eq k b (by omega) (by omega), Option.bind_some, Order_eq k _ _ (by omega) (by omega) (by omega), Option.bind_some]
  congr 1
  have := cmpL_zero (keys a) (keys b)
  by_cases h : keys a = keys b
  · rw [decide_eq_true h, this.2 h]; rfl
  · rw [decide_eq_false h]
    have h0 : ¬ cmpL (keys a) (keys b) = 0 := fun e => h (this.1 e)
    simpa using h0
theorem idx_spec (a : ByteArray) (ha : a.size ≤ 200) : ∀ (l : List ByteArray) (i : Nat), (∀ t ∈ l, t.size ≤ 200) → ∃ r, idxGo (keyB a) l i = some r ∧ (r ≥ 0 ↔ ∃ t ∈ l, keys t = keys a)
  | [], i, _ => ⟨-1, rfl, by simp⟩
  | t :: ts, i, h => by
    have ht := h t (by simp)
    obtain ⟨r, hr, hi⟩ := idx_spec a ha ts (i + 1) (fun s hs => h s (by simp [hs]))
    unfold idxGo
    rw [Key_eq t (by omega), Option.bind_some]
    by_cases hk : keys t = keys a
    · rw [if_pos ((toList_inj _ _).2 ((key_inj _ _).2 hk))]
      exact ⟨_, rfl, by constructor
                        · intro _; exact ⟨t, by simp, hk⟩
                        · intro _; omega⟩
    · rw [if_neg (fun e => hk ((key_inj _ _).1 ((toList_inj _ _).1 e)))]
      refine ⟨r, hr, hi.trans ?_⟩
      constructor
      · rintro ⟨x, hx, e⟩; exact ⟨x, by simp [hx], e⟩
      · rintro ⟨x, hx, e⟩
        rcases List.mem_cons.1 hx with rfl | hx
        · exact absurd e hk
        · exact ⟨x, hx, e⟩
theorem Index_spec (l : List ByteArray) (a : ByteArray) (h : ∀ t ∈ l, t.size ≤ 200) (ha : a.size ≤ 200) (hl : l.length ≤ 1000) : ∃ r, name_Index.f l a = some r ∧ (r ≥ 0 ↔ ∃ t ∈ l, keys t = keys a) := by
  unfold name_Index.f
  rw [if_pos (by omega), Key_eq a (by omega), Option.bind_some]
  exact idx_spec a ha l 0 h
theorem tail_eq (k : Nat) (s : ByteArray) (l : List S32) (hl : l.length ≤ 1000) (v b m u : Int) : ∃ vr, shape_varies.f s l v b m u = some vr ∧ (vr = true → 0 ≤ v ∧ v ≤ 64) ∧
    (if v = 0 then (if b = 0 then (if m = 0 then (shunterref08_May.j2 (k + 1) (u != 0)) else (shunterref08_May.j2 (k + 1) true)) else (shunterref08_May.j2 (k + 1) true)) else (if v < 1 then (some 7) else (if v > 64 then (some 7) else (if b < 0 then (some 7) else (if b ≥ (l.length : Int) then (some 7) else (if 0 ≤ b then (if b < (l.length : Int) then (if ((rd_T32 l b).f1) > 16 then (some 7) else (if m < 1 then (some 7) else (if m > 64 then (some 7) else (if u < 0 then (some 7) else (if u > 4096 then (some 7) else (some 0)))))) else (none)) else (none))))))) = some (if vr = true then (0 : Int) else 7) := by
  unfold shape_varies.f
  by_cases hv : v = 0
  · subst hv
    rw [if_pos rfl, if_pos rfl]
    by_cases hb : b = 0
    · rw [if_pos hb, if_pos hb]
      by_cases hm : m = 0
      · rw [if_pos hm, if_pos hm]
        refine ⟨_, rfl, fun _ => (by omega), ?_⟩
        simp only [shunterref08_May.j2]
        by_cases hu : u = 0
        · subst hu; rfl
        · have e1 : (u != 0) = true := by simpa using hu
          have e2 : (u == 0) = false := by simpa using hu
          rw [e1, e2]; rfl
      · rw [if_neg hm, if_neg hm]
        exact ⟨_, rfl, fun h => (by cases h), by simp [shunterref08_May.j2]⟩
    · rw [if_neg hb, if_neg hb]
      exact ⟨_, rfl, fun h => (by cases h), by simp [shunterref08_May.j2]⟩
  · rw [if_neg hv, if_neg hv, within_eq, Option.bind_some]
    by_cases h1 : 1 ≤ v ∧ v ≤ 64
    · rw [decide_eq_true h1, if_pos rfl, if_neg (show ¬ v < 1 by omega), if_neg (show ¬ v > 64 by omega), wrap64_id _ (by omega) (by omega), within_eq, Option.bind_some]
      by_cases h2 : 0 ≤ b ∧ b ≤ (l.length : Int) - 1
      · rw [decide_eq_true h2, if_pos rfl, if_pos (show 0 ≤ b by omega), if_pos (show b < (l.length : Int) by omega), if_neg (show ¬ b < 0 by omega), if_neg (show ¬ b ≥ (l.length : Int) by omega), if_pos (show 0 ≤ b by omega), if_pos (show b < (l.length : Int) by omega)]
        by_cases h3 : (rd_T32 l b).f1 ≤ 16
        · rw [if_pos h3, if_neg (show ¬ (rd_T32 l b).f1 > 16 by omega), within_eq, Option.bind_some]
          by_cases h4 : 1 ≤ m ∧ m ≤ 64
          · rw [decide_eq_true h4, if_pos rfl, if_neg (show ¬ m < 1 by omega), if_neg (show ¬ m > 64 by omega), within_eq, Option.bind_some]
            refine ⟨_, rfl, fun _ => (by omega), ?_⟩
            by_cases h5 : 0 ≤ u ∧ u ≤ 4096
            · rw [decide_eq_true h5, if_neg (show ¬ u < 0 by omega), if_neg (show ¬ u > 4096 by omega)]; rfl
            · rw [decide_eq_false h5]
              by_cases h6 : u < 0
              · rw [if_pos h6]; rfl
              · rw [if_neg h6, if_pos (by omega)]; rfl
          · rw [decide_eq_false h4, if_neg (by simp)]
            refine ⟨_, rfl, fun h => (by cases h), ?_⟩
            by_cases h6 : m < 1
            · rw [if_pos h6]; rfl
            · rw [if_neg h6, if_pos (by omega)]; rfl
        · rw [if_neg h3, if_pos (show (rd_T32 l b).f1 > 16 by omega)]
          exact ⟨_, rfl, fun h => (by cases h), rfl⟩
      · rw [decide_eq_false h2, if_neg (by simp)]
        refine ⟨_, rfl, fun h => (by cases h), ?_⟩
        by_cases h6 : b < 0
        · rw [if_pos h6]; rfl
        · rw [if_neg h6, if_pos (by omega)]; rfl
    · rw [decide_eq_false h1, if_neg (by simp)]
      refine ⟨_, rfl, fun h => (by cases h), ?_⟩
      by_cases h6 : v < 1
      · rw [if_pos h6]; rfl
      · rw [if_neg h6, if_pos (by omega)]; rfl
theorem l1_hit (s : ByteArray) (l : List S32) (v b m u : Int) (hs : ∀ x ∈ l, x.f0.size ≤ 200) (acc : Int) (i : Nat) (hi : i < l.length) (hl : l.length ≤ 1000) (a : ByteArray) (ha : a.size ≤ 200) (W : Int) (q : Nat) (hq : q < i) (he : keys (rd_T32 l (q : Int)).f0 = keys a) :
    ∀ (n p k : Nat), p + n = q → n + 1100 < k → shunterref08_May.l1 k acc (i : Int) (p : Int) s l v b m u a W = some 6
  | 0, p, k, hp, hk => by
    obtain ⟨k, rfl⟩ : ∃ m, k = m + 1 := ⟨k - 1, by omega⟩
    obtain rfl : p = q := by omega
    simp only [shunterref08_May.l1]
    rw [if_pos (by omega), if_pos (by omega), if_pos (by omega), rAlike_eq _ a (hs _ (rd_in l p (by omega))) ha k (by omega), Option.bind_some, decide_eq_true he, if_pos rfl]
  | n + 1, p, k, hp, hk => by
    obtain ⟨k, rfl⟩ : ∃ m, k = m + 1 := ⟨k - 1, by omega⟩
    simp only [shunterref08_May.l1]
    rw [if_pos (by omega), if_pos (by omega), if_pos (by omega), rAlike_eq _ a (hs _ (rd_in l p (by omega))) ha k (by omega), Option.bind_some]
    split
    · rfl
    · rw [wrap64_id _ (by omega) (by omega)]
      exact l1_hit s l v b m u hs acc i hi hl a ha W q hq he n (p + 1) k (by omega) (by omega)
theorem l1_miss (s : ByteArray) (l : List S32) (v b m u : Int) (hs : ∀ x ∈ l, x.f0.size ≤ 200) (acc : Int) (i : Nat) (hi : i < l.length) (hl : l.length ≤ 1000) (a : ByteArray) (ha : a.size ≤ 200) (W : Int) (hno : ∀ q, q < i → keys (rd_T32 l (q : Int)).f0 ≠ keys a) :
    ∀ (n p k : Nat), p + n = i → 1100 < k → shunterref08_May.l1 (k + n + 1) acc (i : Int) (p : Int) s l v b m u a W = if W < 1 then some 9 else if W > 128 then some 9 else shunterref08_May.l0 k (wrap64 (acc + W)) (wrap64 ((i : Int) + 1)) s l v b m u
  | 0, p, k, hp, hk => by
    obtain rfl : p = i := by omega
    simp only [shunterref08_May.l1, Nat.add_zero]
    rw [if_neg (by omega)]
  | n + 1, p, k, hp, hk => by
    have ih := l1_miss s l v b m u hs acc i hi hl a ha W hno n (p + 1) k (by omega) hk
    rw [show k + (n + 1) + 1 = (k + n + 1) + 1 by omega, shunterref08_May.l1]
    rw [if_pos (show (p : Int) < (i : Int) by omega), if_pos (show 0 ≤ (p : Int) by omega), if_pos (show (p : Int) < (l.length : Int) by omega), rAlike_eq _ a (hs _ (rd_in l p (by omega))) ha (k + n + 1) (by omega), Option.bind_some, decide_eq_false (hno p (by omega)), if_neg (by simp), wrap64_id _ (by omega) (by omega)]
    exact ih
theorem mem_names (l : List S32) (i : Nat) (hi : i ≤ l.length) (a : ByteArray) : (∃ t ∈ (l.take i).map (·.f0), keys t = keys a) ↔ ∃ q, q < i ∧ keys (rd_T32 l (q : Int)).f0 = keys a := by
  constructor
  · rintro ⟨t, ht, e⟩
    obtain ⟨x, hx, rfl⟩ := List.mem_map.1 ht
    obtain ⟨q, hq, e2⟩ := List.mem_iff_getElem.1 hx
    have hq2 : q < i := by simp at hq; omega
    refine ⟨q, hq2, ?_⟩
    have e3 : rd_T32 l (q : Int) = x := by
      rw [← e2]
      simp [rd_T32, List.getD_eq_getElem?_getD, show q < l.length by omega]
    rw [e3]; exact e
  · rintro ⟨q, hq, e⟩
    refine ⟨_, List.mem_map.2 ⟨rd_T32 l (q : Int), ?_, rfl⟩, e⟩
    apply List.mem_iff_getElem.2
    exact ⟨q, by simp; omega, by simp [rd_T32, List.getD_eq_getElem?_getD, show q < l.length by omega]⟩
theorem fields_both (s : ByteArray) (l : List S32) (v b m u : Int) (hl : l.length ≤ 16) (hs : ∀ x ∈ l, x.f0.size ≤ 200) (vr : Bool) (hv : shape_varies.f s l v b m u = some vr)
    (ht : ∀ k, (if v = 0 then (if b = 0 then (if m = 0 then (shunterref08_May.j2 (k + 1) (u != 0)) else (shunterref08_May.j2 (k + 1) true)) else (shunterref08_May.j2 (k + 1) true)) else (if v < 1 then (some 7) else (if v > 64 then (some 7) else (if b < 0 then (some 7) else (if b ≥ (l.length : Int) then (some 7) else (if 0 ≤ b then (if b < (l.length : Int) then (if ((rd_T32 l b).f1) > 16 then (some 7) else (if m < 1 then (some 7) else (if m > 64 then (some 7) else (if u < 0 then (some 7) else (if u > 4096 then (some 7) else (some 0)))))) else (none)) else (none))))))) = some (if vr = true then (0 : Int) else 7)) :
    ∀ (n i k k2 : Nat), i + n = l.length → n < k → 1200 + 20 * n < k2 → okW (l.take i) →
    ∃ e, shape_fields.l0 k ((l.take i).map (·.f0)) (sumW (l.take i)) l (l.length : Int) (i : Int) = some e ∧ shunterref08_May.l0 k2 (sumW (l.take i)) (i : Int) s l v b m u = some (if e = 0 then (if vr = true then (0 : Int) else 7) else e)
  | 0, i, k, k2, hi, hk, hk2, hw => by
    obtain ⟨k, rfl⟩ : ∃ m, k = m + 1 := ⟨k - 1, by omega⟩
    obtain ⟨k2, rfl⟩ : ∃ m, k2 = m + 1 + 1 := ⟨k2 - 2, by omega⟩
    rw [shape_fields.l0, shunterref08_May.l0]
    rw [if_neg (show ¬ (i : Int) < (l.length : Int) by omega), if_neg (show ¬ (i : Int) < (l.length : Int) by omega)]
    by_cases h8 : Int.tmod (sumW (l.take i)) 8 = 0
    · rw [if_pos h8, if_pos h8]
      exact ⟨0, rfl, by rw [if_pos rfl]; exact ht k2⟩
    · rw [if_neg h8, if_neg h8]
      exact ⟨9, rfl, rfl⟩
  | n + 1, i, k, k2, hi, hk, hk2, hw => by
    obtain ⟨k, rfl⟩ : ∃ m, k = m + 1 := ⟨k - 1, by omega⟩
    have hx := hs _ (rd_in l i (by omega))
    have hbd := sumW_bd _ hw
    have hln : (l.take i).length = i := by simp; omega
    have hnm : ∀ t ∈ (l.take i).map (·.f0), t.size ≤ 200 := fun t ht => by
      obtain ⟨x, hx, rfl⟩ := List.mem_map.1 ht
      exact hs x (List.mem_of_mem_take hx)
    obtain ⟨r, hr, hri⟩ := Index_spec ((l.take i).map (·.f0)) (rd_T32 l (i : Int)).f0 hnm hx (by simp; omega)
    rw [mem_names l i (by omega)] at hri
    obtain ⟨k3, hk3⟩ : ∃ k3, k2 = (k3 + i + 1) + 1 := ⟨k2 - i - 2, by omega⟩
    subst hk3
    rw [shape_fields.l0, shunterref08_May.l0]
    rw [if_pos (show (i : Int) < (l.length : Int) by omega), if_pos (show 0 ≤ (i : Int) by omega), if_pos (show (i : Int) < (l.length : Int) by omega), if_pos (show (i : Int) < (l.length : Int) by omega), if_pos (show 0 ≤ (i : Int) by omega), plain_eq _ hx, Option.bind_some, rPlain_eq _ hx (k3 + i + 1) (by omega), Option.bind_some]
    by_cases hp : plainP (rd_T32 l (i : Int)).f0 = true
    · rw [if_pos hp, if_pos hp, hr, Option.bind_some]
      by_cases hr0 : r ≥ 0
      · rw [if_pos hr0]
        obtain ⟨q, hq, he⟩ := hri.1 hr0
        refine ⟨6, rfl, ?_⟩
        rw [if_neg (by decide)]
        have := l1_hit s l v b m u hs (sumW (l.take i)) i (by omega) (by omega) (rd_T32 l (i : Int)).f0 hx (rd_T32 l (i : Int)).f1 q hq he q 0 (k3 + i + 1) (by omega) (by omega)
        exact this
      · rw [if_neg hr0, within_eq, Option.bind_some]
        have hm := l1_miss s l v b m u hs (sumW (l.take i)) i (by omega) (by omega) (rd_T32 l (i : Int)).f0 hx (rd_T32 l (i : Int)).f1 (fun q hq e => hr0 (hri.2 ⟨q, hq, e⟩)) i 0 k3 (by omega) (by omega)
        rw [show ((0 : Nat) : Int) = 0 from rfl] at hm
        rw [hm]
        by_cases hwd : 1 ≤ (rd_T32 l (i : Int)).f1 ∧ (rd_T32 l (i : Int)).f1 ≤ 128
        · rw [decide_eq_true hwd, if_pos rfl, if_pos (by simp; omega), if_neg (by omega), if_neg (by omega), wrap64_id (sumW (l.take i) + _) (by omega) (by omega), wrap64_id ((i : Int) + 1) (by omega) (by omega)]
          have := fields_both s l v b m u hl hs vr hv ht n (i + 1) k k3 (by omega) (by omega) (by omega) (by
            intro y hy
            rw [takeF l i (by omega)] at hy
            rcases List.mem_append.1 hy with h1 | h1
            · exact hw y h1
            · rw [List.mem_singleton.1 h1]; exact hwd)
          rw [sumW_nx l i (by omega), takeF l i (by omega), List.map_append] at this
          exact this
        · rw [decide_eq_false hwd, if_neg (by simp)]
          refine ⟨9, rfl, ?_⟩
          by_cases h6 : (rd_T32 l (i : Int)).f1 < 1
          · rw [if_pos h6, if_neg (show ¬ (9 : Int) = 0 by decide)]
          · rw [if_neg h6, if_pos (show (rd_T32 l (i : Int)).f1 > 128 by omega), if_neg (show ¬ (9 : Int) = 0 by decide)]
    · rw [if_neg hp, if_neg hp]
      exact ⟨4, rfl, rfl⟩
theorem May_both (s : ByteArray) (l : List S32) (v b m u : Int) (hs0 : s.size ≤ 200) (hs : ∀ x ∈ l, x.f0.size ≤ 200) (k : Nat) (hk : 2000 ≤ k) :
    ∃ e, shape_May.f k s l v b m u = some e ∧ shunterref08_May.f k s l v b m u = some e ∧ (e = 0 → 0 ≤ v ∧ v ≤ 64) := by
  unfold shape_May.f shunterref08_May.f
  rw [plain_eq s hs0, Option.bind_some, rPlain_eq s hs0 k (by omega), Option.bind_some]
  by_cases hp : plainP s = true
  · rw [if_pos hp, if_pos hp]
    by_cases h1 : (l.length : Int) > 16
    · rw [if_pos h1, if_pos h1]
      exact ⟨2, rfl, rfl, fun h => by cases h⟩
    · rw [if_neg h1, if_neg h1]
      by_cases h2 : (l.length : Int) = 0
      · rw [if_pos h2, if_pos h2]
        exact ⟨5, rfl, rfl, fun h => by cases h⟩
      · rw [if_neg h2, if_neg h2]
        obtain ⟨vr, hvr, hv1, _⟩ := tail_eq 0 s l (by omega) v b m u
        obtain ⟨e, he1, he2⟩ := fields_both s l v b m u (by omega) hs vr hvr (fun k => by
          obtain ⟨vr2, hvr2, _, h⟩ := tail_eq k s l (by omega) v b m u
          rw [hvr] at hvr2
          obtain rfl := Option.some.inj hvr2
          exact h) l.length 0 k k (by omega) (by omega) (by omega) (by intro x hx; simp at hx)
        have he1' : shape_fields.f k l = some e := by
          unfold shape_fields.f
          simpa [sumW] using he1
        rw [he1', Option.bind_some]
        have he2' : shunterref08_May.l0 k 0 0 s l v b m u = some (if e = 0 then (if vr = true then (0 : Int) else 7) else e) := by simpa [sumW] using he2
        rw [he2']
        by_cases hz : e = 0
        · rw [if_pos hz, if_pos hz, hvr, Option.bind_some]
          cases vr with
          | true => exact ⟨0, rfl, rfl, fun _ => hv1 rfl⟩
          | false => exact ⟨7, rfl, rfl, fun h => by cases h⟩
        · rw [if_neg hz, if_neg hz]
          exact ⟨e, rfl, rfl, fun h => absurd h hz⟩
  · rw [if_neg hp, if_neg hp]
    exact ⟨4, rfl, rfl, fun h => by cases h⟩
/-- How many bytes vary, by the document. -/
def varyP (v m u n : Int) : Int × Bool := if 0 ≤ n ∧ n ≤ 65535 then (if v = 0 then (0, true) else if 0 ≤ wrap64 (wrap64 (m * n) - u) ∧ wrap64 (wrap64 (m * n) - u) ≤ v then (wrap64 (wrap64 (m * n) - u), true) else (0, false)) else (0, false)
theorem varyP_bd (v m u n : Int) (h : 0 ≤ v) : 0 ≤ (varyP v m u n).1 ∧ (varyP v m u n).1 ≤ v := by
  unfold varyP
  split
  · split
    · exact ⟨by simp, by simpa using h⟩
    · split
      · rename_i hx; exact hx
      · exact ⟨by simp, by simpa using h⟩
  · exact ⟨by simp, by simpa using h⟩
theorem sVary_j0t (k : Nat) (s : ByteArray) (l : List S32) (v b m u n : Int) : shape_Vary.j0 (k + 1) n true s l v b m u = some (0, false) := by
  rw [shape_Vary.j0, if_pos rfl]
theorem sVary_j0f (k : Nat) (s : ByteArray) (l : List S32) (v b m u n : Int) : shape_Vary.j0 (k + 1) n false s l v b m u = some (if v = 0 then (0, true) else if 0 ≤ wrap64 (wrap64 (m * n) - u) ∧ wrap64 (wrap64 (m * n) - u) ≤ v then (wrap64 (wrap64 (m * n) - u), true) else (0, false)) := by
  rw [shape_Vary.j0, if_neg (by simp)]
  by_cases hv : v = 0
  · rw [if_pos hv, if_pos hv]
  · rw [if_neg hv, if_neg hv, within_eq, Option.bind_some]
    generalize wrap64 (wrap64 (m * n) - u) = x
    by_cases hx : 0 ≤ x ∧ x ≤ v
    · rw [decide_eq_true hx, if_pos rfl, if_pos hx]
    · rw [decide_eq_false hx, if_neg (by simp), if_neg hx]
theorem rVary_j0t (k : Nat) (s : ByteArray) (l : List S32) (v b m u n : Int) : shunterref08_Vary.j0 (k + 1) n true s l v b m u = some (0, false) := by
  rw [shunterref08_Vary.j0, if_pos rfl]
theorem rVary_j0f (k : Nat) (s : ByteArray) (l : List S32) (v b m u n : Int) : shunterref08_Vary.j0 (k + 1) n false s l v b m u = some (if v = 0 then (0, true) else if 0 ≤ wrap64 (wrap64 (m * n) - u) ∧ wrap64 (wrap64 (m * n) - u) ≤ v then (wrap64 (wrap64 (m * n) - u), true) else (0, false)) := by
  rw [shunterref08_Vary.j0, if_neg (by simp)]
  by_cases hv : v = 0
  · rw [if_pos hv, if_pos hv]
  · rw [if_neg hv, if_neg hv]
    generalize wrap64 (wrap64 (m * n) - u) = x
    by_cases h1 : x < 0
    · rw [if_pos h1, if_neg (show ¬ (0 ≤ x ∧ x ≤ v) by omega)]
    · rw [if_neg h1]
      by_cases h2 : x > v
      · rw [if_pos h2, if_neg (show ¬ (0 ≤ x ∧ x ≤ v) by omega)]
      · rw [if_neg h2, if_pos (show 0 ≤ x ∧ x ≤ v by omega)]
theorem sVary_eq (k : Nat) (s : ByteArray) (l : List S32) (v b m u n : Int) (h : shape_May.f (k + 1) s l v b m u = some 0) : shape_Vary.f (k + 1) s l v b m u n = some (varyP v m u n) := by
  unfold shape_Vary.f varyP
  rw [h, Option.bind_some, if_pos rfl, within_eq, Option.bind_some]
  by_cases hn : 0 ≤ n ∧ n ≤ 65535
  · rw [decide_eq_true hn, if_pos hn]
    exact sVary_j0f k s l v b m u n
  · rw [decide_eq_false hn, if_neg hn]
    exact sVary_j0t k s l v b m u n
theorem sVary_no (k : Nat) (s : ByteArray) (l : List S32) (v b m u n e : Int) (h : shape_May.f (k + 1) s l v b m u = some e) (he : e ≠ 0) : shape_Vary.f (k + 1) s l v b m u n = some (0, false) := by
  unfold shape_Vary.f
  rw [h, Option.bind_some, if_neg he]
  exact sVary_j0t k s l v b m u n
theorem rVary_eq (k : Nat) (s : ByteArray) (l : List S32) (v b m u n : Int) : shunterref08_Vary.f (k + 1) s l v b m u n = some (varyP v m u n) := by
  unfold shunterref08_Vary.f varyP
  by_cases h1 : n < 0
  · rw [if_pos h1, if_neg (show ¬ (0 ≤ n ∧ n ≤ 65535) by omega)]
    exact rVary_j0t k s l v b m u n
  · rw [if_neg h1]
    by_cases h2 : n > 65535
    · rw [decide_eq_true h2, if_neg (show ¬ (0 ≤ n ∧ n ≤ 65535) by omega)]
      exact rVary_j0t k s l v b m u n
    · rw [decide_eq_false h2, if_pos (show 0 ≤ n ∧ n ≤ 65535 by omega)]
      exact rVary_j0f k s l v b m u n
theorem ShapeVaries_true (s : ByteArray) (l : List S32) (v b m u n : Int) : shunterlaw08_ShapeVaries.f 4000 s l v b m u n = some true := by
  unfold shunterlaw08_ShapeVaries.f
  obtain ⟨r, hr, h⟩ := light_some s l v b m u 4000 (by omega)
  rw [hr, Option.bind_some]
  cases r with
  | false => rw [if_neg (by simp), lives_at 4000 (by omega)]; rfl
  | true =>
    rw [if_pos rfl]
    obtain ⟨h1, h2, h3⟩ := h rfl
    obtain ⟨e, he1, he2, hv⟩ := May_both s l v b m u h2 h3 4000 (by omega)
    by_cases hz : e = 0
    · subst hz
      obtain ⟨v0, v1⟩ := hv rfl
      obtain ⟨b1, b2⟩ := varyP_bd v m u n v0
      rw [sVary_eq 3999 s l v b m u n he1, Option.bind_some, he2, Option.bind_some, if_pos rfl, rVary_eq 3999 s l v b m u n, Option.bind_some]
      generalize varyP v m u n = x at *
      rw [if_pos rfl, if_pos (by simp), if_pos b1, if_pos b2, lives_at 4000 (by omega)]
      rfl
    · rw [sVary_no 3999 s l v b m u n e he1 hz, Option.bind_some, he2, Option.bind_some, if_neg hz]
      dsimp only
      rw [if_pos rfl, if_neg (by simp), lives_at 4000 (by omega)]
      rfl

end Go.Proofs.Ytpdjiiikfjjfjaa.XV
