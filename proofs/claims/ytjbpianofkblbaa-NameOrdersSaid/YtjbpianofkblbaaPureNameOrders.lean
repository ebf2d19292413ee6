import Derived.Test.YtjbpianofkblbaaLemNe
import Derived.Test.YtjbpianofkblbaaLemNc
namespace Go.Proofs.Ytjbpianofkblbaa.Pure
open Go.RowKit Go.Proofs.Ytjbpianofkblbaa.XN Go.Proofs.YtjbpianofkblbaaW.PrintWords Go.Proofs.YtjbpianofkblbaaW.PrintLast Go.Proofs.Ytjbpianofkblbaa.LemN
set_option linter.unusedSimpArgs false
theorem cmp_rev : ∀ x y : List Int, cmpL y x = - cmpL x y
  | [], [] => rfl
  | [], _ :: _ => rfl
  | _ :: _, [] => rfl
  | a :: s, b :: t => by
    have ih := cmp_rev s t
    unfold cmpL
    repeat' split
    all_goals first | rfl | omega
theorem cmp_vals : ∀ x y : List Int, cmpL x y = -1 ∨ cmpL x y = 0 ∨ cmpL x y = 1
  | [], [] => by simp [cmpL]
  | [], _ :: _ => by simp [cmpL]
  | _ :: _, [] => by simp [cmpL]
  | a :: s, b :: t => by
    have ih := cmp_vals s t
    unfold cmpL
    repeat' split
    all_goals omega
theorem cmp_trans : ∀ x y z : List Int, cmpL x y < 0 → cmpL y z < 0 → cmpL x z < 0
  | [], [], _, h, _ => by simp [cmpL] at h
  | [], _ :: _, [], _, h => by simp [cmpL] at h
  | [], _ :: _, _ :: _, _, _ => by simp [cmpL]
  | _ :: _, [], _, h, _ => by simp [cmpL] at h
  | _ :: _, _ :: _, [], _, h => by simp [cmpL] at h
  | a :: s, b :: t, c :: u, h, h' => by
    have ih := cmp_trans s t u
    unfold cmpL at h h' ⊢
    repeat' split at h
    all_goals (repeat' split at h')
    all_goals (repeat' split)
    all_goals first | omega | (exact ih h h') | skip
theorem bl_irrefl : ∀ x : List UInt8, Op.bytesLess x x = false
  | [] => rfl
  | a :: x => by simp [Op.bytesLess, bl_irrefl x]
theorem u8_eq (a b : UInt8) : a = b ↔ a.toNat = b.toNat := UInt8.toNat_inj.symm
theorem bl_cons (a b : UInt8) (x y : List UInt8) : Op.bytesLess (a :: x) (b :: y) = true ↔ (a.toNat < b.toNat ∨ (a.toNat = b.toNat ∧ Op.bytesLess x y = true)) := by
  simp [Op.bytesLess, UInt8.lt_iff_toNat_lt, u8_eq]
theorem bl_anti : ∀ x y : List UInt8, Op.bytesLess x y = true → Op.bytesLess y x = true → False
  | _, [], h, _ => by simp [Op.bytesLess] at h
  | [], _ :: _, _, h => by simp [Op.bytesLess] at h
  | a :: x, b :: y, h, h' => by
    rw [bl_cons] at h h'
    have ih := bl_anti x y
    rcases h with h | ⟨h, h1⟩
    · omega
    · rcases h' with h' | ⟨h', h2⟩
      · omega
      · exact ih h1 h2
theorem bl_total : ∀ x y : List UInt8, Op.bytesLess x y = false → Op.bytesLess y x = false → x = y
  | [], [], _, _ => rfl
  | [], _ :: _, h, _ => by simp [Op.bytesLess] at h
  | _ :: _, [], _, h => by simp [Op.bytesLess] at h
  | a :: x, b :: y, h, h' => by
    have ih := bl_total x y
    rw [← Bool.not_eq_true, bl_cons] at h h'
    have e : a.toNat = b.toNat := by omega
    have h1 : Op.bytesLess x y = false := by cases hh : Op.bytesLess x y <;> simp [hh, e] at h ⊢
    have h2 : Op.bytesLess y x = false := by cases hh : Op.bytesLess y x <;> simp [hh, e] at h' ⊢
    rw [ih h1 h2, (u8_eq a b).2 e]
theorem bl_trans : ∀ x y z : List UInt8, Op.bytesLess x y = true → Op.bytesLess y z = true → Op.bytesLess x z = true
  | _, [], _, h, _ => by simp [Op.bytesLess] at h
  | _, _ :: _, [], _, h => by simp [Op.bytesLess] at h
  | [], _ :: _, _ :: _, _, _ => by simp [Op.bytesLess]
  | a :: x, b :: y, c :: z, h, h' => by
    have ih := bl_trans x y z
    rw [bl_cons] at *
    rcases h with h | ⟨h, h1⟩
    · rcases h' with h' | ⟨h', h2⟩
      · left; omega
      · left; omega
    · rcases h' with h' | ⟨h', h2⟩
      · left; omega
      · exact Or.inr ⟨by omega, ih h1 h2⟩
theorem lessP_iff (a b : ByteArray) : lessP a b = true ↔ (cmpL (keys a) (keys b) < 0 ∨ (cmpL (keys a) (keys b) = 0 ∧ Op.bytesLess a.toList b.toList = true)) := by
  simp [lessP]
theorem less_anti (a b : ByteArray) (h : lessP a b = true) (h' : lessP b a = true) : False := by
  rw [lessP_iff] at h h'
  rw [cmp_rev (keys a) (keys b)] at h'
  rcases h with h | ⟨h, h1⟩
  · omega
  · rcases h' with h' | ⟨h', h2⟩
    · omega
    · exact bl_anti _ _ h1 h2
theorem less_total (a b : ByteArray) (h : lessP a b = false) (h' : lessP b a = false) : a = b := by
  rw [← Bool.not_eq_true, lessP_iff] at h h'
  rw [cmp_rev (keys a) (keys b)] at h'
  have hz : cmpL (keys a) (keys b) = 0 := by have := cmp_vals (keys a) (keys b); omega
  rw [← toList_inj]
  apply bl_total
  · cases hh : Op.bytesLess a.toList b.toList <;> simp [hh, hz] at h ⊢
  · cases hh : Op.bytesLess b.toList a.toList <;> simp [hh, hz] at h' ⊢
theorem less_irrefl (a : ByteArray) : lessP a a = false := by
  cases h : lessP a a
  · rfl
  · exact (less_anti a a h h).elim
theorem less_trans (a b c : ByteArray) (h : lessP a b = true) (h' : lessP b c = true) : lessP a c = true := by
  rw [lessP_iff] at *
  rcases h with h | ⟨h, h1⟩
  · rcases h' with h' | ⟨h', h2⟩
    · exact Or.inl (cmp_trans _ _ _ h h')
    · rw [cmpL_zero] at h'
      rw [← h']
      exact Or.inl h
  · rw [cmpL_zero] at h
    rw [h]
    rcases h' with h' | ⟨h', h2⟩
    · exact Or.inl h'
    · exact Or.inr ⟨h', bl_trans _ _ _ h1 h2⟩
theorem less_between (a b c : ByteArray) (hk : keys a = keys c) (h : lessP a b = true) (h' : lessP b c = true) : keys a = keys b := by
  rw [lessP_iff] at h h'
  rw [← hk, cmp_rev (keys a) (keys b)] at h'
  rw [← cmpL_zero]
  omega
theorem okB_fold (c : Int) : okB (foldI c) = okB c := by
  have h1 := eq_fold c 45 (Or.inl rfl)
  have h2 := eq_fold c 46 (Or.inr rfl)
  rw [Bool.eq_iff_iff]
  simp [okB, letB_fold, digB_fold, h1, h2]
theorem mayP_fold (l : List Int) : mayP (l.map foldI) = mayP l := by
  cases l with
  | nil => rfl
  | cons c t =>
    have e : (t.map foldI).all okB = t.all okB := by
      rw [List.all_map]
      congr 1
      funext x
      exact okB_fold x
    simp only [List.map_cons, mayP, letB_fold, e, List.length_map]
theorem clip_all (s : ByteArray) : ∀ (l : List (Nat × Nat)) (n : Int), (l.length : Int) ≤ n → n < 9223372036854775807 → clipGo l n s = s
  | [], _, _, _ => rfl
  | (p, c) :: t, n, h, hn => by
    simp only [List.length_cons] at h
    rw [clipGo, if_neg (by omega), show wrap64 (n - 1) = n - 1 from by unfold wrap64; omega]
    exact clip_all s t _ (by omega) (by omega)
section
variable (a b c : ByteArray) (ha : a.size ≤ 300) (hb : b.size ≤ 300) (hc : c.size ≤ 300)
include ha hb
theorem NO_j3 : shunterlaw05_NameOrders.j3 (6000 + 1) a b false = some true := by
  have h1 := key_size a
  have h2 := runes_len a
  rw [shunterlaw05_NameOrders.j3, if_neg (by decide), Alike_eq a b (by omega) (by omega), Option.bind_some, Alike_eq b a (by omega) (by omega), Option.bind_some]
  rw [if_pos (by rw [beq_iff_eq, Bool.eq_iff_iff, beq_iff_eq, beq_iff_eq]; exact eq_comm), Key_eq a (by omega), Option.bind_some, Alike_eq a (keyB a) (by omega) (by omega), Option.bind_some, key_key, if_pos (by simp), Key_eq (keyB a) (by omega), Option.bind_some, key_key, if_pos rfl, nMay_eq _ (by omega), Option.bind_some, nMay_eq _ (by omega), Option.bind_some, runes_key, keys, mayP_fold, if_pos (by simp), nLen_eq a (by omega), Option.bind_some]
  unfold name_Clip.f
  rw [Option.bind_some, clip_all a (rn a) _ (by unfold runes; simp) (by omega), if_pos rfl, lives_eq]
  rfl
include hc
theorem NO_j2 : shunterlaw05_NameOrders.j2 (6001 + 1) a b c false = some true := by
  have h3 := NO_j3 a b ha hb
  rw [shunterlaw05_NameOrders.j2, if_neg (by decide), Alike_eq a c (by omega) (by omega), Option.bind_some, Less_eq _ a b (by omega) (by omega) (by omega), Less_eq _ b c (by omega) (by omega) (by omega), Alike_eq a b (by omega) (by omega)]
  simp only [Option.bind_some]
  by_cases e1 : ((keyB a).toList == (keyB c).toList) = true
  · rw [if_pos e1]
    cases e2 : lessP a b
    · exact h3
    · cases e3 : lessP b c
      · exact h3
      · rw [if_pos rfl, if_pos rfl]
        rw [beq_iff_eq, toList_inj, key_inj] at e1
        have e4 := less_between a b c e1 e2 e3
        rw [← key_inj] at e4
        rw [e4]
        simpa using h3
  · rw [if_neg e1]
    exact h3
theorem NO_j1 : shunterlaw05_NameOrders.j1 (6002 + 1) a b c false = some true := by
  have h3 := NO_j2 a b c ha hb hc
  rw [shunterlaw05_NameOrders.j1, if_neg (by decide), Less_eq _ a b (by omega) (by omega) (by omega), Less_eq _ b c (by omega) (by omega) (by omega), Less_eq _ a c (by omega) (by omega) (by omega)]
  simp only [Option.bind_some]
  cases e2 : lessP a b
  · exact h3
  · cases e3 : lessP b c
    · exact h3
    · rw [if_pos rfl, if_pos rfl, less_trans a b c e2 e3]
      exact h3
theorem NO_j0 : shunterlaw05_NameOrders.j0 (6003 + 1) a b c false = some true := by
  have h3 := NO_j1 a b c ha hb hc
  rw [shunterlaw05_NameOrders.j0, if_neg (by decide), Less_eq _ a b (by omega) (by omega) (by omega), Less_eq _ b a (by omega) (by omega) (by omega)]
  simp only [Option.bind_some]
  cases e2 : lessP a b
  · rw [if_neg (by decide)]
    cases e3 : lessP b a
    · have : a = b := less_total a b e2 e3
      subst this
      simpa using h3
    · have : (a.toList == b.toList) = false := by
        rw [beq_eq_false_iff_ne, Ne, toList_inj]
        rintro rfl
        rw [less_irrefl] at e3
        cases e3
      rw [this]
      exact h3
  · rw [if_pos rfl]
    cases e3 : lessP b a
    · have : (a.toList == b.toList) = false := by
        rw [beq_eq_false_iff_ne, Ne, toList_inj]
        rintro rfl
        rw [less_irrefl] at e2
        cases e2
      rw [if_neg (by decide), this]
      exact h3
    · exact (less_anti a b e2 e3).elim
end
theorem NameOrders : shunterlaw05_NameOrders.Pure := by
  intro a b c _ _ _
  refine ⟨6003 + 1, ?_⟩
  have e : shunterlaw05_NameOrders.j0 (6003 + 1) a b c true = some true := by
    rw [shunterlaw05_NameOrders.j0, if_pos rfl, lives_eq]
    rfl
  unfold shunterlaw05_NameOrders.f
  by_cases h1 : (a.size : Int) > 300
  · rw [if_pos h1, e]
  · rw [if_neg h1]
    by_cases h2 : (b.size : Int) > 300
    · rw [if_pos h2, e]
    · rw [if_neg h2]
      by_cases h3 : (c.size : Int) > 300
      · rw [decide_eq_true h3, e]
      · rw [decide_eq_false h3]
        exact NO_j0 a b c (by omega) (by omega) (by omega)
end Go.Proofs.Ytjbpianofkblbaa.Pure
