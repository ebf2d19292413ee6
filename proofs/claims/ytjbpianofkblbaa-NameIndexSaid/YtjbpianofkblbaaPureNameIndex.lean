import Derived.Test.YtjbpianofkblbaaLemNe
namespace Go.Proofs.Ytjbpianofkblbaa.Pure
open Go.RowKit Go.Proofs.Ytjbpianofkblbaa.XN Go.Proofs.YtjbpianofkblbaaW.PrintWords Go.Proofs.YtjbpianofkblbaaW.PrintLast Go.Proofs.Ytjbpianofkblbaa.LemN
def idxP (key : ByteArray) : List ByteArray → Nat → Int
  | [], _ => -1
  | t :: ts, i => if (keyB t).toList = key.toList then (i : Int) else idxP key ts (i + 1)
theorem idxGo_eq (key : ByteArray) : ∀ (l : List ByteArray) (i : Nat), (∀ t ∈ l, t.size ≤ 300) → idxGo key l i = some (idxP key l i)
  | [], i, h => rfl
  | t :: ts, i, h => by
    have := h t (List.mem_cons_self ..)
    rw [idxGo, Key_eq t (by omega), Option.bind_some, idxP, idxGo_eq key ts (i + 1) (fun x hx => h x (List.mem_cons_of_mem _ hx))]
    split <;> rfl
theorem NI_l0 (l : List ByteArray) (a : ByteArray) (hl : l.length ≤ 30) (ha : a.size ≤ 300) : ∀ (m k : Nat), m ≤ l.length → (∀ t ∈ l.drop m, t.size ≤ 300) → m + 2 ≤ k → shunterlaw05_NameIndex.l0 k l a (idxP (keyB a) (l.drop m) m) ((m : Int) - 1) = some true
  | 0, k, hm, h, hk => by
    obtain ⟨k, rfl⟩ : ∃ j, k = j + 1 := ⟨k - 1, by omega⟩
    rw [shunterlaw05_NameIndex.l0, if_neg (by omega)]
    unfold name_Index.f
    rw [if_pos (by omega), Key_eq a (by omega), Option.bind_some, idxGo_eq _ _ _ (by simpa using h), Option.bind_some, List.drop_zero, if_pos rfl, lives_eq]
    rfl
  | m + 1, k, hm, h, hk => by
    obtain ⟨k, rfl⟩ : ∃ j, k = j + 1 := ⟨k - 1, by omega⟩
    have e : ((m + 1 : Nat) : Int) - 1 = (m : Int) := by omega
    have er : rdOf ByteArray.empty l (m : Int) = l[m] := by simp [rdOf, List.getD, show m < l.length by omega]
    rw [shunterlaw05_NameIndex.l0, e, if_pos (by omega), if_pos (by omega), if_pos (by omega), er]
    by_cases hs : (l[m].size : Int) > 300
    · rw [if_pos hs, lives_eq]
      rfl
    · have h2 : ∀ t ∈ l.drop m, t.size ≤ 300 := by
        intro t ht
        rw [List.drop_eq_getElem_cons (show m < l.length by omega)] at ht
        rcases List.mem_cons.1 ht with rfl | ht
        · omega
        · exact h t ht
      have ih := NI_l0 l a hl ha m k (by omega) h2 (by omega)
      rw [List.drop_eq_getElem_cons (show m < l.length by omega), idxP] at ih
      rw [if_neg hs, Alike_eq _ a (by omega) (by omega), Option.bind_some, show wrap64 ((m : Int) - 1) = (m : Int) - 1 from by unfold wrap64; omega]
      by_cases hq : (keyB l[m]).toList = (keyB a).toList
      · rw [if_pos (by simpa using hq)]
        rw [if_pos hq] at ih
        exact ih
      · rw [if_neg (by simpa using hq)]
        rw [if_neg hq] at ih
        exact ih
theorem NameIndex (l : List ByteArray) (a : ByteArray) : shunterlaw05_NameIndex.f 100 l a = some true := by
  have e : shunterlaw05_NameIndex.j0 (99 + 1) l a true = some true := by
    rw [shunterlaw05_NameIndex.j0, if_pos rfl, lives_eq]
    rfl
  unfold shunterlaw05_NameIndex.f
  by_cases h1 : (l.length : Int) > 30
  · rw [if_pos h1]
    exact e
  · rw [if_neg h1]
    by_cases h2 : (a.size : Int) > 300
    · rw [decide_eq_true h2]
      exact e
    · rw [decide_eq_false h2]
      show shunterlaw05_NameIndex.j0 (99 + 1) l a false = _
      rw [shunterlaw05_NameIndex.j0, if_neg (by decide), show wrap64 ((l.length : Int) - 1) = (l.length : Int) - 1 from by unfold wrap64; omega]
      have := NI_l0 l a (by omega) (by omega) l.length 99 (Nat.le_refl _) (by rw [List.drop_length]; simp) (by omega)
      rwa [List.drop_length] at this
end Go.Proofs.Ytjbpianofkblbaa.Pure
