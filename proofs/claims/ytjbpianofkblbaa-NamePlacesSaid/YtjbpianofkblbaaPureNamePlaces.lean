import Derived.Test.YtjbpianofkblbaaLemNb
import Derived.Lib.Strings
namespace Go.Proofs.Ytjbpianofkblbaa.Pure
open Go.RowKit Go.Proofs.Ytjbpianofkblbaa.XN Go.Proofs.YtjbpianofkblbaaW.PrintWords Go.Proofs.YtjbpianofkblbaaW.PrintLast Go.Proofs.Ytjbpianofkblbaa.LemN
set_option linter.unusedSimpArgs false
theorem idx_hit : ∀ (l : List UInt8) (j : Nat), l[j]? = some 10 → (∀ i, i < j → l[i]? ≠ some 10) → Lib.indexByte l 10 = (j : Int)
  | [], j, h, _ => by simp at h
  | b :: l, 0, h, _ => by
    simp at h
    subst h
    simp [Lib.indexByte]
  | b :: l, j + 1, h, h' => by
    have h0 := h' 0 (by omega)
    have ih := idx_hit l j (by simpa using h) (fun i hi => by simpa using h' (i + 1) (by omega))
    have hb : (b == 10) = false := by simpa using h0
    rw [Lib.indexByte, hb, ih]
    have : ((j : Int) == -1) = false := by rw [beq_eq_false_iff_ne]; omega
    rw [this]
    simp
theorem idx_miss : ∀ (l : List UInt8), (∀ i : Nat, l[i]? ≠ some 10) → Lib.indexByte l 10 = -1
  | [], _ => rfl
  | b :: l, h => by
    have h0 := h 0
    have hb : (b == 10) = false := by simpa using h0
    rw [Lib.indexByte, hb, idx_miss l (fun i => by simpa using h (i + 1))]
    rfl
theorem ext_list (s : ByteArray) (p m : Nat) : (s.extract p m).data.toList = (s.data.toList.drop p).take (m - p) := by
  rw [← Lib.toList_data, Lib.extract_toList]
theorem ext_ext2 (s : ByteArray) (p q m : Nat) (hm : m ≤ s.size) (hp : p ≤ m) : (s.extract p m).extract q (s.extract p m).size = s.extract (p + q) m := by
  apply ByteArray.ext
  apply Array.ext'
  rw [ext_list, ext_list, ext_list]
  have hl : s.data.toList.length = s.size := by simp
  have hsz : (s.extract p m).size = m - p := by simp; omega
  rw [hsz]
  simp only [List.drop_take, List.drop_drop, List.take_take]
  congr 1
  omega
theorem bt_ten (s : ByteArray) (i : Nat) (h : i < s.size) : bt s (i : Int) = 10 ↔ s.data.toList[i]? = some 10 := by
  have hl : s.data.toList.length = s.size := by simp
  unfold bt
  simp only [Int.toNat_natCast, dif_pos h]
  rw [List.getElem?_eq_getElem (by omega)]
  simp only [Option.some.injEq, Array.getElem_toList]
  show ((s[i].toNat : Nat) : Int) = 10 ↔ s[i] = 10
  constructor
  · intro e
    apply UInt8.toNat_inj.1
    show s[i].toNat = 10
    omega
  · intro e
    rw [e]
    rfl
theorem Place_l0 (a : ByteArray) (hs : a.size < 1000000) (m : Nat) (hm : m ≤ a.size) : ∀ (d i fr k f line : Nat), i + d = m → fr ≤ i → (∀ j, fr ≤ j → j < i → a.data.toList[j]? ≠ some 10) → line + d < 9000000 → 1000100 + d ≤ k → d + 1 ≤ f →
    shunterref05_Place.l0 k a (m : Int) (line : Int) (fr : Int) (i : Int) = placeGo f (a.extract fr m) (line : Int)
  | 0, i, fr, k, f, line, h, h1, h2, h3, hk, hf => by
    obtain ⟨k, rfl⟩ : ∃ j, k = j + 1 := ⟨k - 1, by omega⟩
    obtain ⟨f, rfl⟩ : ∃ j, f = j + 1 := ⟨f - 1, by omega⟩
    have hsz : (a.extract fr m).size = m - fr := by simp; omega
    have hi : Lib.indexByte (a.extract fr m).data.toList 10 = -1 := idx_miss _ (fun j => by
      rw [ext_list, List.getElem?_take]
      split
      · rw [List.getElem?_drop]
        exact h2 (fr + j) (by omega) (by omega)
      · simp)
    rw [shunterref05_Place.l0, if_neg (by omega), if_pos (by omega), if_pos (by omega), if_pos (by omega), Int.toNat_natCast, Int.toNat_natCast, Runes_eq k _ (by omega) (by omega), Option.bind_some, placeGo, hi, if_pos (by decide)]
    unfold runes
    rw [List.length_map]
  | d + 1, i, fr, k, f, line, h, h1, h2, h3, hk, hf => by
    obtain ⟨k, rfl⟩ : ∃ j, k = j + 1 := ⟨k - 1, by omega⟩
    have w1 : wrap64 ((i : Int) + 1) = ((i + 1 : Nat) : Int) := by unfold wrap64; omega
    have w2 : wrap64 ((line : Int) + 1) = ((line + 1 : Nat) : Int) := by unfold wrap64; omega
    rw [shunterref05_Place.l0, if_pos (by omega), if_pos (by omega), if_pos (by omega), w1, w2]
    by_cases hb : bt a (i : Int) = 10
    · obtain ⟨f, rfl⟩ : ∃ j, f = j + 1 := ⟨f - 1, by omega⟩
      have hb2 := (bt_ten a i (by omega)).1 hb
      have hi : Lib.indexByte (a.extract fr m).data.toList 10 = ((i - fr : Nat) : Int) := idx_hit _ _ (by
        rw [ext_list, List.getElem?_take, if_pos (by omega), List.getElem?_drop, show fr + (i - fr) = i by omega]
        exact hb2) (fun j hj => by
        rw [ext_list, List.getElem?_take, if_pos (by omega), List.getElem?_drop]
        exact h2 (fr + j) (by omega) (by omega))
      rw [if_pos hb, placeGo, hi, if_neg (by omega), Int.toNat_natCast, ext_ext2 a fr _ m hm (by omega), w2, show fr + (i - fr + 1) = i + 1 by omega]
      exact Place_l0 a hs m hm d (i + 1) (i + 1) k f (line + 1) (by omega) (by omega) (fun j _ _ => by omega) (by omega) (by omega) (by omega)
    · rw [if_neg hb]
      exact Place_l0 a hs m hm d (i + 1) fr k f line (by omega) (by omega) (fun j hj hj2 => by
        by_cases e : j = i
        · subst e
          exact fun e => hb ((bt_ten a j (by omega)).2 e)
        · exact h2 j hj (by omega)) (by omega) (by omega) (by omega)
theorem place_some (f : Nat) : ∀ (d : Nat) (s : ByteArray) (l : Int), s.size ≤ d → d + 1 ≤ f → ∃ r, placeGo f s l = some r := by
  induction f with
  | zero => intro d s l _ h; omega
  | succ f ih =>
    intro d s l h h'
    rw [placeGo]
    split
    · exact ⟨_, rfl⟩
    · rename_i hn
      have h1 := indexB_hit s _ rfl (by omega)
      cases d with
      | zero => omega
      | succ d => exact ih d _ _ (by simp; omega) (by omega)
theorem NamePlaces : shunterlaw05_NamePlaces.Pure := by
  intro a n h0 h1
  refine ⟨1002002, ?_⟩
  unfold shunterlaw05_NamePlaces.f
  by_cases hs : (a.size : Int) > 500
  · rw [if_pos hs, lives_eq]
    rfl
  · rw [if_neg hs]
    obtain ⟨m, hm⟩ : ∃ m, m = (max 0 (min n (a.size : Int))).toNat := ⟨_, rfl⟩
    have hm1 : m ≤ a.size := by omega
    have hP : name_Place.f a n = placeGo (a.size + 1) (a.extract 0 m) 1 := by
      unfold name_Place.f
      rw [if_pos (by omega), ← hm]
    have hL : shunterref05_Place.l0 1002000 a (m : Int) ((1 : Nat) : Int) ((0 : Nat) : Int) ((0 : Nat) : Int) = placeGo (a.size + 1) (a.extract 0 m) 1 := Place_l0 a (by omega) m hm1 m 0 0 1002000 (a.size + 1) 1 (by omega) (by omega) (fun j _ _ => by omega) (by omega) (by omega) (by omega)
    have hR : shunterref05_Place.f 1002002 a n = placeGo (a.size + 1) (a.extract 0 m) 1 := by
      unfold shunterref05_Place.f
      rw [← hL]
      have hj : shunterref05_Place.j0 1002002 a ((m : Nat) : Int) = shunterref05_Place.l0 1002000 a (m : Int) ((1 : Nat) : Int) ((0 : Nat) : Int) ((0 : Nat) : Int) := by
        show shunterref05_Place.j0 (1002001 + 1) a ((m : Nat) : Int) = _
        rw [shunterref05_Place.j0, if_neg (by omega)]
        show shunterref05_Place.j1 (1002000 + 1) a ((m : Nat) : Int) = _
        rw [shunterref05_Place.j1]
        rfl
      by_cases hn : n < 0
      · rw [if_pos hn, show (0 : Int) = ((m : Nat) : Int) by omega]
        rw [hj, show (m : Int) = 0 by omega]
      · rw [if_neg hn]
        by_cases hn2 : n > (a.size : Int)
        · have e : (a.size : Int) = (m : Int) := by omega
          show shunterref05_Place.j0 (1002001 + 1) a n = _
          rw [shunterref05_Place.j0, if_pos hn2]
          show shunterref05_Place.j1 (1002000 + 1) a (a.size : Int) = _
          rw [shunterref05_Place.j1, e]
          rfl
        · rw [show n = ((m : Nat) : Int) by omega, hj]
    rw [hP, hR]
    obtain ⟨⟨r1, r2⟩, hr⟩ := place_some (a.size + 1) a.size (a.extract 0 m) 1 (by simp; omega) (by omega)
    rw [hr]
    simp only [Option.bind_some]
    rw [if_pos trivial, if_pos trivial, lives_eq]
    rfl
end Go.Proofs.Ytjbpianofkblbaa.Pure
