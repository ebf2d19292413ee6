import Derived.Test.YtfdbcnbakchcgaaRn
namespace Go.Proofs.Ytfdbcnbakchcgaa.XR
open Go.RowKit Go.Proofs.YtfdbcnbakchcgaaW.PrintWords Go.Proofs.YtfdbcnbakchcgaaW.PrintLast Go.Proofs.YtfdbcnbakchcgaaW.PrintMore
attribute [local go_sem] max2_int min2_int max_two min_two max_three min_three max_four min_four   -- for this text's walks alone
set_option linter.unusedVariables false
set_option linter.unusedSimpArgs false
theorem nodeAt_deep {l : List TI} {W i k : Nat} (hl : ∀ y ∈ l, y.len ≤ W ∧ y.key < 2 ^ y.len) (h : W < i) : nodeAt l i k = none := by
  unfold nodeAt
  rw [if_neg]
  rintro (⟨e, _⟩ | e)
  · omega
  · obtain ⟨y, hy, e1, _⟩ := (nodeIn_iff l i k).1 e
    have := (hl y hy).1
    omega
theorem nodeAt_key {l : List TI} {W i k : Nat} (hl : ∀ y ∈ l, y.len ≤ W ∧ y.key < 2 ^ y.len) (h : ¬ nodeAt l i k = none) : k < 2 ^ i := by
  unfold nodeAt at h
  split at h
  case isTrue c =>
    rcases c with ⟨e1, e2⟩ | e
    · subst e1 e2; decide
    · obtain ⟨y, hy, e1, e2⟩ := (nodeIn_iff l i k).1 e
      have e3 := (hl y hy).2
      rw [← e2, Nat.div_lt_iff_lt_mul (Nat.two_pow_pos _), ← Nat.pow_add, Nat.add_sub_cancel' e1]
      exact e3
  case isFalse => exact absurd rfl h
theorem word_of (W i k : Nat) (h : i + 1 ≤ W) : k * 2 ^ (W - i) = 2 * k * 2 ^ (W - (i + 1)) := by
  rw [show W - i = (W - (i + 1)) + 1 by omega, Nat.pow_succ]
  generalize 2 ^ (W - (i + 1)) = p
  rw [Nat.mul_comm 2 k, Nat.mul_assoc, Nat.mul_comm 2 p]
theorem walk_words (W i k d : Nat) (h1 : 1 ≤ W) (h2 : W ≤ 128) (hd : i + (d + 1) = W + 1) : ∃ r1 r2 q1 q2 : Int, word_Shl.f 5 0 1 (wrap64 (wrap64 ((W : Int) - 1) - (i : Int))) = some (r1, r2) ∧ word_Or.f (hiW (k * 2 ^ (W - i))) (loW (k * 2 ^ (W - i))) r1 r2 = some (q1, q2) ∧ (d ≠ 0 → q1 = hiW ((2 * k + 1) * 2 ^ (W - (i + 1))) ∧ q2 = loW ((2 * k + 1) * 2 ^ (W - (i + 1)))) := by
  rw [wrap64_id ((W : Int) - 1) (by omega) (by omega), wrap64_id _ (by omega) (by omega)]
  by_cases c : d = 0
  · rw [show (W : Int) - 1 - (i : Int) = -1 by omega]
    exact ⟨_, _, _, _, show word_Shl.f 5 0 1 (-1) = some (0, 0) from by kernel_rfl, rfl, fun h => absurd c h⟩
  · rw [show (W : Int) - 1 - (i : Int) = ((W - (i + 1) : Nat) : Int) by omega]
    have e := word_Shl_pos 4 1 (W - (i + 1)) (by omega)
    rw [hiW_one, loW_one, Nat.one_mul] at e
    refine ⟨_, _, _, _, e, word_Or_eq _ _, fun _ => ?_⟩
    rw [word_of W i k (by omega), or_shl]
    exact ⟨rfl, rfl⟩
theorem walk_calls (w00 w0 : World) (g pb pl pw : Nat) (M : NM) (W : Nat) (m N : Int) (l : List TI) (hlen : ∀ y ∈ l, y.len ≤ W ∧ y.key < 2 ^ y.len) (h1 : 1 ≤ W) (h2 : W ≤ 128) (hs : SH M l) : ∀ d, WalkP w00 w0 g pb pl pw M W m N l d
  | 0 => by
    intro i k ai hi lo w v out e0 e1 e2 hc hl
    have hm : M i k = none := (hs.no i k).2 (nodeAt_deep hlen (by omega))
    unfold sonP
    rw [hm, show ptrN none = .pointer none from rfl]
    with_reducible refine (walk_nil ai hi lo pb pl pw w).mono ?_
    rintro e w' ⟨rfl, hb⟩
    refine ⟨rfl, ?_⟩
    rw [show walkT l 0 i k = [] from rfl, List.map_nil, List.append_nil]
    exact WPost.start hc hb
  | d + 1 => by
    have IH := walk_calls w00 w0 g pb pl pw M W m N l hlen h1 h2 hs d
    intro i k ai hi lo w v out e0 e1 e2 hc hl
    subst e0
    cases hm : M i k with
    | none =>
      unfold sonP
      rw [hm, show ptrN none = .pointer none from rfl]
      with_reducible refine (walk_nil _ hi lo pb pl pw w).mono ?_
      rintro e w' ⟨rfl, hb⟩
      refine ⟨rfl, ?_⟩
      rw [walkT_none ((hs.no i k).1 hm), List.map_nil, List.append_nil]
      exact WPost.start hc hb
    | some t =>
      obtain ⟨b, here, n0⟩ := t
      have hlk := hs.yes hm
      have hne : ¬ nodeAt l i k = none := by rw [← hs.no, hm]; simp
      have hk := nodeAt_key hlen hne
      obtain ⟨e3, e4⟩ := e2 (by omega)
      obtain ⟨r1, r2, q1, q2, hsh, hor, hv2⟩ := walk_words W i k d h1 h2 e1
      have hv1 : d ≠ 0 → hi = hiW (2 * k * 2 ^ (W - (i + 1))) ∧ lo = loW (2 * k * 2 ^ (W - (i + 1))) := fun hd0 => by
        rw [← word_of W i k (by omega)]; exact ⟨e3, e4⟩
      rw [← e3, ← e4] at hor
      have eW : walkT l (d + 1) i k = (if here = true then [⟨i, k, n0⟩] else []) ++ (walkT l d (i + 1) (2 * k) ++ walkT l d (i + 1) (2 * k + 1)) := by
        rw [walkT, if_neg hne, ← hlk]
      have eP : sonP M i k = .pointer (some ⟨b, 0, none⟩) := by unfold sonP; rw [hm]; rfl
      rw [eP, eW]
      rw [eW, List.length_append, List.length_append] at hl
      cases here with
      | false =>
        rw [if_neg (by decide), List.nil_append, List.map_append]
        rw [if_neg (by decide), List.length_nil] at hl
        exact walk_off w00 w0 g pb pl pw M W m N l (fun y hy => (hlen y hy).1) h1 h2 hs d IH i k b n0 hi lo r1 r2 q1 q2 w v out e1 hv1 hv2 hsh hor hc hm (by omega)
      | true =>
        rw [if_pos rfl, List.map_append, List.map_append, ← List.append_assoc]
        rw [if_pos rfl, List.length_singleton] at hl
        have hcut : vec_Cut.f 5 (W : Int) hi lo = some ((W : Int), hi, lo, 0) := by
          rw [e3, e4, vec_Cut_eq, if_pos ⟨by omega, by omega⟩, Int.toNat_natCast, Nat.mod_eq_of_lt]
          rw [show W = i + (W - i) by omega, Nat.pow_add, show i + (W - i) - i = W - i by omega]
          exact Nat.mul_lt_mul_of_pos_right hk (Nat.two_pow_pos _)
        rw [show [(⟨i, k, n0⟩ : TI)].map (outT W) = [(⟨⟨(W : Int), hi, lo⟩, (i : Int), n0⟩ : S44)] from by rw [e3, e4]; rfl]
        exact walk_on w00 w0 g pb pl pw M W m N l (fun y hy => (hlen y hy).1) h1 h2 hs d IH i k b n0 hi lo r1 r2 q1 q2 w v out e1 hv1 hv2 hsh hor hcut hc hm (by omega)
end Go.Proofs.Ytfdbcnbakchcgaa.XR
