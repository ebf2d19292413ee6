import Derived.Test.YtjbpianofkblbaaLemNe
namespace Go.Proofs.Ytjbpianofkblbaa.Pure
open Go.RowKit Go.Proofs.Ytjbpianofkblbaa.XN Go.Proofs.YtjbpianofkblbaaW.PrintWords Go.Proofs.YtjbpianofkblbaaW.PrintLast Go.Proofs.Ytjbpianofkblbaa.LemN
theorem NK_l0 (a b : ByteArray) (ha : a.size ≤ 1000) (hb : b.size ≤ 1000) : ∀ (m i k : Nat), i + m = (keys a).length → m + 5001 ≤ k → shunterlaw05_NameKeys.l0 k a b (keys a) (keys a) (i : Int) = some true
  | 0, i, k, h, hk => by
    obtain ⟨k, rfl⟩ : ∃ j, k = j + 1 := ⟨k - 1, by omega⟩
    have h3 := keys_len a
    have h4 := keys_len b
    rw [shunterlaw05_NameKeys.l0, if_neg (by omega), lives_eq, Keys_eq k a (by omega) (by omega), Option.bind_some, Keys_eq k b (by omega) (by omega), Option.bind_some, Order_eq k _ _ (by omega) (by omega) (by omega), Option.bind_some, Alike_eq a b (by omega) (by omega), Option.bind_some, Less_eq k a b ha hb (by omega), rLess_eq k a b ha hb (by omega)]
    simp only [Option.bind_some]
    rw [if_pos, if_pos (by simp)]
    rw [beq_iff_eq, Bool.eq_iff_iff, beq_iff_eq, beq_iff_eq, toList_inj, key_inj, cmpL_zero]
  | m + 1, i, k, h, hk => by
    obtain ⟨k, rfl⟩ : ∃ j, k = j + 1 := ⟨k - 1, by omega⟩
    have h3 := keys_len a
    rw [shunterlaw05_NameKeys.l0, if_pos (by omega), if_pos (by omega), if_pos (by omega), if_pos rfl, wrap_s i (keys a).length (by omega) (by omega)]
    exact NK_l0 a b ha hb m (i + 1) k (by omega) (by omega)
theorem NameKeys : shunterlaw05_NameKeys.Pure := by
  intro a0 a1 h0 h1
  refine ⟨7000 + 1, ?_⟩
  unfold shunterlaw05_NameKeys.f
  have e : ∀ b, shunterlaw05_NameKeys.j0 (7000 + 1) a0 a1 b = if b = true then some true else ((shunterref05_Keys.f 7000 a0).bind fun t204 => ((name_Key.f a0).bind fun t207 => ((shunterref05_Runes.f 7000 t207).bind fun t208 => (if (t208.length : Int) = (t204.length : Int) then (shunterlaw05_NameKeys.l0 7000 a0 a1 t204 t208 0) else (some false))))) := by
    intro b
    rw [shunterlaw05_NameKeys.j0, lives_eq]
    rfl
  rw [e, e]
  by_cases hs : (a0.size : Int) > 500
  · rw [if_pos hs, if_pos rfl]
  · rw [if_neg hs]
    by_cases hs2 : (a1.size : Int) > 500
    · rw [if_pos (by simpa using hs2)]
    · have h3 := keys_len a0
      have h4 := key_size a0
      rw [if_neg (by simpa using hs2), Keys_eq 7000 a0 (by omega) (by omega), Option.bind_some, Key_eq a0 (by omega), Option.bind_some, Runes_eq 7000 _ (by omega) (by omega), Option.bind_some, runes_key, if_pos rfl]
      exact NK_l0 a0 a1 (by omega) (by omega) (keys a0).length 0 7000 (by omega) (by omega)
end Go.Proofs.Ytjbpianofkblbaa.Pure
