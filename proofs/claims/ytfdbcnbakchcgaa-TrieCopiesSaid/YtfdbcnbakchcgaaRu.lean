import Derived.Test.YtfdbcnbakchcgaaRq
namespace Go.Proofs.Ytfdbcnbakchcgaa.XR
open Go.RowKit Go.Proofs.YtfdbcnbakchcgaaW.PrintWords Go.Proofs.YtfdbcnbakchcgaaW.PrintLast Go.Proofs.YtfdbcnbakchcgaaW.PrintMore
attribute [local go_sem] max2_int min2_int max_two min_two max_three min_three max_four min_four   -- for this text's walks alone
set_option linter.unusedVariables false
set_option linter.unusedSimpArgs false
/-- One prefix comes ahead of another. -/
def ltT (a b : TI) : Prop := (a.len < b.len ∧ b.key / 2 ^ (b.len - a.len) = a.key) ∨ ∃ i c, i < a.len ∧ i < b.len ∧ a.key / 2 ^ (a.len - (i + 1)) = 2 * c ∧ b.key / 2 ^ (b.len - (i + 1)) = 2 * c + 1
theorem ltT_irr (a : TI) : ¬ ltT a a := by
  rintro (⟨h, _⟩ | ⟨i, c, h1, h2, h3, h4⟩)
  · omega
  · omega
theorem walk_pairwise (l : List TI) : ∀ (d i k : Nat), (walkT l d i k).Pairwise ltT
  | 0, i, k => List.Pairwise.nil
  | d + 1, i, k => by
    unfold walkT
    by_cases c : nodeAt l i k = none
    · rw [if_pos c]; exact List.Pairwise.nil
    · rw [if_neg c, List.pairwise_append, List.pairwise_append]
      refine ⟨?_, ⟨walk_pairwise l d (i + 1) (2 * k), walk_pairwise l d (i + 1) (2 * k + 1), ?_⟩, ?_⟩
      · split
        · exact List.pairwise_singleton _ _
        · exact List.Pairwise.nil
      · intro a ha b hb
        obtain ⟨a1, a2, a3, a4⟩ := (mem_walk l a d _ _).1 ha
        obtain ⟨b1, b2, b3, b4⟩ := (mem_walk l b d _ _).1 hb
        exact .inr ⟨i, k, by omega, by omega, a3, b3⟩
      · intro a ha b hb
        split at ha
        case isTrue =>
          obtain rfl := List.mem_singleton.1 ha
          rw [List.mem_append] at hb
          left
          rcases hb with hb | hb
          · obtain ⟨b1, b2, b3, b4⟩ := (mem_walk l b d _ _).1 hb
            refine ⟨by simp only; omega, ?_⟩
            simp only
            rw [div_step _ _ _ b1, b3]; omega
          · obtain ⟨b1, b2, b3, b4⟩ := (mem_walk l b d _ _).1 hb
            refine ⟨by simp only; omega, ?_⟩
            simp only
            rw [div_step _ _ _ b1, b3]; omega
        case isFalse => cases ha
theorem ltT_nodup {l : List TI} (h : l.Pairwise ltT) : l.Nodup := h.imp (fun {a b} hab e => by subst e; exact ltT_irr a hab)
/-- Prefixes of a width. -/
def fitT (W : Nat) (l : List TI) : Prop := ∀ y ∈ l, y.len ≤ W ∧ y.key < 2 ^ y.len
theorem mem_list {l : List TI} {W : Nat} (hd : apartT l) (hf : fitT W l) (y : TI) : y ∈ walkT l (W + 1) 0 0 ↔ y ∈ l := by
  rw [mem_walk]
  constructor
  · rintro ⟨_, _, _, h⟩
    obtain ⟨z, hz, z1, z2, z3⟩ := lookT_in h
    have : z = y := by rcases z with ⟨a, b, c⟩; rcases y with ⟨d, e, f⟩; simp only at z1 z2 z3; rw [z1, z2, z3]
    rw [← this]; exact hz
  · intro h
    obtain ⟨h1, h2⟩ := hf y h
    refine ⟨Nat.zero_le _, by omega, ?_, lookT_mem hd h⟩
    rw [Nat.sub_zero]
    exact Nat.div_eq_of_lt h2
theorem apart_nodup {l : List TI} (hd : apartT l) : l.Nodup := by
  unfold apartT at hd
  exact hd.imp (fun {a b} hab e => by subst e; unfold sameP at hab; simp at hab)
theorem walk_perm {l : List TI} {W : Nat} (hd : apartT l) (hf : fitT W l) : (walkT l (W + 1) 0 0).Perm l :=
  (List.perm_ext_iff_of_nodup (ltT_nodup (walk_pairwise l _ _ _)) (apart_nodup hd)).2 (mem_list hd hf)
theorem walk_length {l : List TI} {W : Nat} (hd : apartT l) (hf : fitT W l) : (walkT l (W + 1) 0 0).length = l.length := (walk_perm hd hf).length_eq
theorem toTI_fit {W : Nat} {p : List S45} (h : ∀ y ∈ p, okP W y) : fitT W (p.map (toTI W)) := by
  intro y hy
  obtain ⟨z, hz, rfl⟩ := List.mem_map.1 hy
  obtain ⟨_, h2, j, h3, h4, _⟩ := okP_key (h z hz)
  unfold toTI
  simp only
  rw [h3, Int.toNat_natCast]
  refine ⟨h4, ?_⟩
  unfold preN
  rw [Nat.div_lt_iff_lt_mul (Nat.two_pow_pos _), ← Nat.pow_add, Nat.add_sub_cancel' h4]
  exact h2
end Go.Proofs.Ytfdbcnbakchcgaa.XR
