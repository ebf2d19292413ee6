/- The pure law of ShapeOffsets. -/
import Derived.Test.YtpdjiiikfjjfjaaLemSa
namespace Go.Proofs.Ytpdjiiikfjjfjaa.XF
open Go.RowKit Go.Proofs.YtpdjiiikfjjfjaaW.PrintWords Go.Proofs.YtpdjiiikfjjfjaaW.PrintLast Go.Proofs.YtpdjiiikfjjfjaaW.PrintMore
attribute [local go_sem] max2_int min2_int max_two min_two max_three min_three max_four min_four   -- for this text's walks alone
set_option linter.unusedVariables false
set_option linter.unusedSimpArgs false
theorem plain_some (s : ByteArray) (h : s.size ≤ 200) : ∃ b, shape_plain.f s = some b := by
  unfold shape_plain.f name_May.f
  rw [if_pos (by omega), Option.bind_some]
  split
  · unfold strings_Contains.f
    rw [if_pos (show ({ data := #[46] } : ByteArray).size = 1 from rfl)]
    exact ⟨_, rfl⟩
  · exact ⟨_, rfl⟩
theorem idxGo_some (key : ByteArray) : ∀ (l : List ByteArray) (i : Nat), (∀ s ∈ l, s.size ≤ 200) → ∃ r, idxGo key l i = some r
  | [], i, _ => ⟨_, rfl⟩
  | t :: ts, i, h => by
    have ht := h t (by simp)
    unfold idxGo name_Key.f
    rw [if_pos (by omega), Option.bind_some]
    split
    · exact ⟨_, rfl⟩
    · exact idxGo_some key ts (i + 1) (fun s hs => h s (by simp [hs]))
theorem Index_some (l : List ByteArray) (s : ByteArray) (h : ∀ s ∈ l, s.size ≤ 200) (hs : s.size ≤ 200) (hl : l.length ≤ 1000) : ∃ r, name_Index.f l s = some r := by
  unfold name_Index.f
  rw [if_pos (by omega)]
  obtain ⟨key, hk⟩ : ∃ key, name_Key.f s = some key := by
    unfold name_Key.f
    rw [if_pos (by omega)]
    exact ⟨_, rfl⟩
  rw [hk, Option.bind_some]
  exact idxGo_some key l 0 h
/-- The fields' widths, summed up. -/
def sumW : List S32 → Int
  | [] => 0
  | x :: t => x.f1 + sumW t
theorem sumW_app (a b : List S32) : sumW (a ++ b) = sumW a + sumW b := by
  induction a with
  | nil => simp [sumW]
  | cons x a ih => simp [sumW, ih]; omega
theorem takeF (l : List S32) (i : Nat) (h : i < l.length) : l.take (i + 1) = l.take i ++ [rd_T32 l (i : Int)] := by
  rw [List.take_add_one, List.getElem?_eq_getElem h]
  simp [rd_T32, List.getD_eq_getElem?_getD, h]
theorem sumW_nx (l : List S32) (i : Nat) (h : i < l.length) : sumW (l.take (i + 1)) = sumW (l.take i) + (rd_T32 l (i : Int)).f1 := by
  rw [takeF l i h, sumW_app]
  simp [sumW]
theorem rd_in (l : List S32) (i : Nat) (h : i < l.length) : rd_T32 l (i : Int) ∈ l := by
  simp [rd_T32, List.getD_eq_getElem?_getD, h]
def okW (l : List S32) : Prop := ∀ x ∈ l, 1 ≤ x.f1 ∧ x.f1 ≤ 128
theorem sumW_bd : ∀ (l : List S32), okW l → 0 ≤ sumW l ∧ sumW l ≤ 128 * (l.length : Int)
  | [], _ => by simp [sumW]
  | x :: t, h => by
    have h1 := h x (by simp)
    have h2 := sumW_bd t (fun y hy => h y (by simp [hy]))
    simp only [sumW, List.length_cons]
    omega
theorem okW_take {l : List S32} (h : okW l) (i : Nat) : okW (l.take i) := fun x hx => h x (List.mem_of_mem_take hx)
theorem fields_loop (l : List S32) (hl : l.length ≤ 1000) (hs : ∀ x ∈ l, x.f0.size ≤ 200) : ∀ (n i k : Nat) (names : List ByteArray), i + n = l.length → n < k → names.length = i → (∀ s ∈ names, s.size ≤ 200) → okW (l.take i) →
    ∃ e, shape_fields.l0 k names (sumW (l.take i)) l (l.length : Int) (i : Int) = some e ∧ (e = 0 → okW l ∧ Int.tmod (sumW l) 8 = 0)
  | 0, i, k, names, hi, hk, hn, hns, hw => by
    obtain ⟨k, rfl⟩ : ∃ m, k = m + 1 := ⟨k - 1, by omega⟩
    simp only [shape_fields.l0]
    rw [if_neg (by omega), List.take_of_length_le (by omega)]
    rw [List.take_of_length_le (by omega)] at hw
    split
    · rename_i h; exact ⟨_, rfl, fun _ => ⟨hw, h⟩⟩
    · exact ⟨_, rfl, fun h => by cases h⟩
  | n + 1, i, k, names, hi, hk, hn, hns, hw => by
    obtain ⟨k, rfl⟩ : ∃ m, k = m + 1 := ⟨k - 1, by omega⟩
    have hx := hs _ (rd_in l i (by omega))
    obtain ⟨b, hb⟩ := plain_some _ hx
    obtain ⟨r, hr⟩ := Index_some names _ hns hx (by omega)
    have hbd := sumW_bd _ hw
    have hln : (l.take i).length = i := by simp; omega
    simp only [shape_fields.l0]
    rw [if_pos (by omega), if_pos (by omega), if_pos (by omega), hb, Option.bind_some]
    split
    · rw [hr, Option.bind_some]
      split
      · exact ⟨_, rfl, fun h => by cases h⟩
      · rw [within_eq, Option.bind_some]
        by_cases hwd : 1 ≤ (rd_T32 l (i : Int)).f1 ∧ (rd_T32 l (i : Int)).f1 ≤ 128
        · rw [decide_eq_true hwd, if_pos rfl, if_pos (by omega), wrap64_id _ (by omega) (by omega), wrap64_id _ (by omega) (by omega)]
          have := fields_loop l hl hs n (i + 1) k (names ++ [(rd_T32 l (i : Int)).f0]) (by omega) (by omega) (by simp [hn]) (by
            intro s hs'
            rcases List.mem_append.1 hs' with h1 | h1
            · exact hns s h1
            · rw [List.mem_singleton.1 h1]; exact hx) (by
            intro y hy
            rw [takeF l i (by omega)] at hy
            rcases List.mem_append.1 hy with h1 | h1
            · exact hw y h1
            · rw [List.mem_singleton.1 h1]; exact hwd)
          rw [sumW_nx l i (by omega)] at this
          exact this
        · rw [decide_eq_false hwd, if_neg (by simp)]
          exact ⟨_, rfl, fun h => by cases h⟩
    · exact ⟨_, rfl, fun h => by cases h⟩
theorem fields_some (l : List S32) (hl : l.length ≤ 1000) (hs : ∀ x ∈ l, x.f0.size ≤ 200) (k : Nat) (hk : l.length < k) : ∃ e, shape_fields.f k l = some e ∧ (e = 0 → okW l ∧ Int.tmod (sumW l) 8 = 0) := by
  unfold shape_fields.f
  have := fields_loop l hl hs l.length 0 k [] (by omega) hk rfl (by simp) (by intro x hx; simp at hx)
  simpa [sumW] using this
theorem varies_some (s : ByteArray) (l : List S32) (hl : l.length ≤ 1000) (v b m u : Int) : ∃ r, shape_varies.f s l v b m u = some r ∧ (r = true → 0 ≤ v ∧ v ≤ 64) := by
  unfold shape_varies.f
  split
  · rename_i h
    subst h
    split
    · split
      · exact ⟨_, rfl, fun _ => by omega⟩
      · exact ⟨_, rfl, fun _ => by omega⟩
    · exact ⟨_, rfl, fun _ => by omega⟩
  · rw [within_eq, Option.bind_some]
    by_cases h1 : 1 ≤ v ∧ v ≤ 64
    · rw [decide_eq_true h1, if_pos rfl, wrap64_id _ (by omega) (by omega), within_eq, Option.bind_some]
      by_cases h2 : 0 ≤ b ∧ b ≤ (l.length : Int) - 1
      · rw [decide_eq_true h2, if_pos rfl, if_pos (by omega), if_pos (by omega)]
        split
        · rw [within_eq, Option.bind_some]
          split
          · rw [within_eq, Option.bind_some]
            exact ⟨_, rfl, fun _ => by omega⟩
          · exact ⟨_, rfl, fun _ => by omega⟩
        · exact ⟨_, rfl, fun _ => by omega⟩
      · rw [decide_eq_false h2, if_neg (by simp)]
        exact ⟨_, rfl, fun _ => by omega⟩
    · rw [decide_eq_false h1, if_neg (by simp)]
      exact ⟨_, rfl, fun h => by cases h⟩
theorem May_some (s : ByteArray) (l : List S32) (v b m u : Int) (hs0 : s.size ≤ 200) (hs : ∀ x ∈ l, x.f0.size ≤ 200) (k : Nat) (hk : 60 < k) :
    ∃ e, shape_May.f k s l v b m u = some e ∧ (e = 0 → l.length ≤ 16 ∧ okW l ∧ Int.tmod (sumW l) 8 = 0 ∧ 0 ≤ v ∧ v ≤ 64) := by
  unfold shape_May.f
  obtain ⟨p, hp⟩ := plain_some s hs0
  rw [hp, Option.bind_some]
  split
  · split
    · exact ⟨_, rfl, fun h => by cases h⟩
    · split
      · exact ⟨_, rfl, fun h => by cases h⟩
      · obtain ⟨e, he, h0⟩ := fields_some l (by omega) hs k (by omega)
        rw [he, Option.bind_some]
        split
        · rename_i hz
          obtain ⟨r, hr, h1⟩ := varies_some s l (by omega) v b m u
          rw [hr, Option.bind_some]
          split
          · rename_i ht
            exact ⟨_, rfl, fun _ => ⟨by omega, (h0 hz).1, (h0 hz).2, (h1 ht).1, (h1 ht).2⟩⟩
          · exact ⟨_, rfl, fun h => by cases h⟩
        · rename_i hz
          exact ⟨_, rfl, fun h => absurd h hz⟩
  · exact ⟨_, rfl, fun h => by cases h⟩
theorem ahead_loop (s : ByteArray) (l : List S32) (v b m u : Int) (hl : l.length ≤ 1000) (hw : okW l) (j : Nat) (hj : j ≤ l.length) : ∀ (n i k : Nat), i + n = j → n < k → shape_ahead.l0 k (sumW (l.take i)) (j : Int) (i : Int) s l v b m u = some (sumW (l.take j), true)
  | 0, i, k, hi, hk => by
    obtain ⟨k, rfl⟩ : ∃ m, k = m + 1 := ⟨k - 1, by omega⟩
    obtain rfl : i = j := by omega
    simp only [shape_ahead.l0]
    rw [if_neg (by omega)]
  | n + 1, i, k, hi, hk => by
    obtain ⟨k, rfl⟩ : ∃ m, k = m + 1 := ⟨k - 1, by omega⟩
    have hbd := sumW_bd _ (okW_take hw i)
    have hln : (l.take i).length = i := by simp; omega
    have hx := hw _ (rd_in l i (by omega))
    simp only [shape_ahead.l0]
    rw [if_pos (by omega), if_pos (by omega), if_pos (by omega), wrap64_id _ (by omega) (by omega), wrap64_id _ (by omega) (by omega)]
    have := ahead_loop s l v b m u hl hw j hj n (i + 1) k (by omega) (by omega)
    rw [sumW_nx l i (by omega)] at this
    exact this
theorem ahead_eq (s : ByteArray) (l : List S32) (v b m u : Int) (hl : l.length ≤ 1000) (hw : okW l) (j k : Nat) (hj : j ≤ l.length) (hk : l.length < k) : shape_ahead.f k s l v b m u (j : Int) = some (sumW (l.take j), true) := by
  unfold shape_ahead.f
  have := ahead_loop s l v b m u hl hw j hj j 0 k (by omega) (by omega)
  simpa [sumW] using this
theorem tdiv8 (x : Int) (h : 0 ≤ x) : Int.tdiv x 8 = x / 8 := Int.tdiv_eq_ediv_of_nonneg h
theorem tmod8 (x : Int) (h : 0 ≤ x) : Int.tmod x 8 = x % 8 := Int.tmod_eq_emod_of_nonneg h
/-- A header that may be: all that is asked of it. -/
theorem Off_loop (s : ByteArray) (l : List S32) (v b m u : Int) (hl : l.length ≤ 16) (hw : okW l) (h8 : Int.tmod (sumW l) 8 = 0) (hv : 0 ≤ v ∧ v ≤ 64) (hmay : ∀ k, 60 < k → shape_May.f k s l v b m u = some 0) :
    ∀ (n i k : Nat), i + n = l.length → n + 100 < k → shunterlaw08_ShapeOffsets.l0 k (sumW (l.take i)) (i : Int) s l v b m u = some true
  | 0, i, k, hi, hk => by
    obtain ⟨k, rfl⟩ : ∃ m, k = m + 1 := ⟨k - 1, by omega⟩
    have hbd := sumW_bd l hw
    rw [tmod8 _ hbd.1] at h8
    have hB : shape_Bits.f k s l v b m u = some (sumW l) := by
      unfold shape_Bits.f
      rw [hmay k (by omega), Option.bind_some, if_pos rfl, ahead_eq s l v b m u (by omega) hw l.length k (Nat.le_refl _) (by omega), Option.bind_some, List.take_length]
    have hY : shape_Bytes.f k s l v b m u = some (sumW l / 8) := by
      unfold shape_Bytes.f
      rw [hB, Option.bind_some, tdiv8 _ hbd.1, wrap64_id _ (by omega) (by omega)]
    have hM : shape_Most.f k s l v b m u = some (sumW l / 8 + v) := by
      unfold shape_Most.f
      rw [hmay k (by omega), Option.bind_some, if_pos rfl, hY, Option.bind_some, wrap64_id _ (by omega) (by omega)]
    simp only [shunterlaw08_ShapeOffsets.l0]
    rw [if_neg (by omega), hB, Option.bind_some, List.take_of_length_le (by omega), if_pos rfl, hY, Option.bind_some, wrap64_id _ (by omega) (by omega), if_pos (by omega), hM, Option.bind_some, Option.bind_some, if_pos (by omega), Option.bind_some, if_pos (by omega), lives_at k (by omega)]
    rfl
  | n + 1, i, k, hi, hk => by
    obtain ⟨k, rfl⟩ : ∃ m, k = m + 1 := ⟨k - 1, by omega⟩
    have hbd := sumW_bd _ (okW_take hw i)
    have hln : (l.take i).length = i := by simp; omega
    have hx := hw _ (rd_in l i (by omega))
    have hO : shape_Offset.f k s l v b m u (i : Int) = some (sumW (l.take i), true) := by
      unfold shape_Offset.f
      rw [hmay k (by omega), Option.bind_some, if_pos rfl, wrap64_id _ (by omega) (by omega), within_eq, Option.bind_some, decide_eq_true (by omega), if_pos rfl, ahead_eq s l v b m u (by omega) hw i k (by omega) (by omega), Option.bind_some]
    simp only [shunterlaw08_ShapeOffsets.l0]
    rw [if_pos (by omega), hO, Option.bind_some]
    dsimp only
    rw [if_pos rfl, if_pos rfl, if_pos (by omega), wrap64_id _ (by omega) (by omega), wrap64_id _ (by omega) (by omega)]
    have := Off_loop s l v b m u hl hw h8 hv hmay n (i + 1) k (by omega) (by omega)
    rw [sumW_nx l i (by omega)] at this
    exact this
theorem light_loop (s : ByteArray) (l : List S32) (v b m u : Int) (hl : l.length ≤ 40) : ∀ (n i k : Nat), i + n = l.length → n < k → (∀ j, j < i → (rd_T32 l (j : Int)).f0.size ≤ 200) →
    ∃ r, shunterlaw08_light.l0 k (i : Int) s l v b m u = some r ∧ (r = true → ∀ j, j < l.length → (rd_T32 l (j : Int)).f0.size ≤ 200)
  | 0, i, k, hi, hk, h => by
    obtain ⟨k, rfl⟩ : ∃ m, k = m + 1 := ⟨k - 1, by omega⟩
    simp only [shunterlaw08_light.l0]
    rw [if_neg (by omega)]
    exact ⟨_, rfl, fun _ j hj => h j (by omega)⟩
  | n + 1, i, k, hi, hk, h => by
    obtain ⟨k, rfl⟩ : ∃ m, k = m + 1 := ⟨k - 1, by omega⟩
    simp only [shunterlaw08_light.l0]
    rw [if_pos (by omega), if_pos (by omega)]
    split
    · exact ⟨_, rfl, fun h => by cases h⟩
    · rw [wrap64_id _ (by omega) (by omega)]
      refine light_loop s l v b m u hl n (i + 1) k (by omega) (by omega) (fun j hj => ?_)
      rcases Nat.lt_or_ge j i with c | c
      · exact h j c
      · obtain rfl : j = i := by omega
        omega
theorem light_some (s : ByteArray) (l : List S32) (v b m u : Int) (k : Nat) (hk : 60 < k) : ∃ r, shunterlaw08_light.f k s l v b m u = some r ∧ (r = true → l.length ≤ 40 ∧ s.size ≤ 200 ∧ ∀ x ∈ l, x.f0.size ≤ 200) := by
  obtain ⟨k, rfl⟩ : ∃ m, k = m + 1 := ⟨k - 1, by omega⟩
  unfold shunterlaw08_light.f
  simp only [shunterlaw08_light.j0]
  split
  · rw [if_pos trivial]
    exact ⟨_, rfl, fun h => by cases h⟩
  · by_cases h2 : s.size ≤ 200
    · rw [decide_eq_false (by omega), if_neg (by simp)]
      obtain ⟨r, hr, h⟩ := light_loop s l v b m u (by omega) l.length 0 k (by omega) (by omega) (fun j hj => by omega)
      refine ⟨r, hr, fun ht => ⟨by omega, h2, fun x hx => ?_⟩⟩
      obtain ⟨j, hj, rfl⟩ := List.mem_iff_getElem.1 hx
      have := h ht j hj
      simpa [rd_T32, List.getD_eq_getElem?_getD, hj] using this
    · rw [decide_eq_true (by omega), if_pos rfl]
      exact ⟨_, rfl, fun h => by cases h⟩
theorem May_same (s : ByteArray) (l : List S32) (v b m u : Int) (hs0 : s.size ≤ 200) (hs : ∀ x ∈ l, x.f0.size ≤ 200) (e : Int) (k0 : Nat) (hk0 : 60 < k0) (h : shape_May.f k0 s l v b m u = some e) : ∀ k, 60 < k → shape_May.f k s l v b m u = some e := by
  have up : ∀ d k r, shape_May.f k s l v b m u = some r → shape_May.f (k + d) s l v b m u = some r := by
    intro d
    induction d with
    | zero => intro k r h; exact h
    | succ d ih => intro k r h; exact shape_May.mono _ _ _ _ _ _ _ _ (ih k r h)
  intro k hk
  obtain ⟨r, hr, _⟩ := May_some s l v b m u hs0 hs k hk
  have h1 := up k0 k r hr
  have h2 := up k k0 e h
  rw [Nat.add_comm] at h2
  rw [h1] at h2
  rw [hr, h2]
theorem ShapeOffsets_true (s : ByteArray) (l : List S32) (v b m u : Int) : shunterlaw08_ShapeOffsets.f 1000 s l v b m u = some true := by
  unfold shunterlaw08_ShapeOffsets.f
  obtain ⟨r, hr, h⟩ := light_some s l v b m u 1000 (by omega)
  rw [hr, Option.bind_some]
  split
  · rename_i ht
    obtain ⟨h1, h2, h3⟩ := h ht
    obtain ⟨e, he, h0⟩ := May_some s l v b m u h2 h3 1000 (by omega)
    rw [he, Option.bind_some]
    simp only [shunterlaw08_ShapeOffsets.j0]
    by_cases hz : e = 0
    · subst hz
      obtain ⟨g1, g2, g3, g4, g5⟩ := h0 rfl
      rw [if_neg (by simp)]
      have := Off_loop s l v b m u g1 g2 g3 ⟨g4, g5⟩ (May_same s l v b m u h2 h3 0 1000 (by omega) he) l.length 0 999 (by omega) (by omega)
      simpa [sumW] using this
    · rw [if_pos (by simpa using hz), lives_at 999 (by omega)]
      rfl
  · simp only [shunterlaw08_ShapeOffsets.j0]
    rw [if_pos trivial, lives_at 999 (by omega)]
    rfl

end Go.Proofs.Ytpdjiiikfjjfjaa.XF
