import Derived.Test.YtjbpianofkblbaaLemNb
namespace Go.Proofs.Ytjbpianofkblbaa.Pure
open Go.RowKit Go.Proofs.Ytjbpianofkblbaa.XN Go.Proofs.YtjbpianofkblbaaW.PrintWords Go.Proofs.YtjbpianofkblbaaW.PrintLast Go.Proofs.Ytjbpianofkblbaa.LemN
theorem ext_all (s : ByteArray) : s.extract 0 s.size = s := by
  apply ByteArray.ext
  apply Array.ext'
  simp
theorem Clip_l0 (s : ByteArray) (hs : s.size < 17592186044416) : ∀ (f pos k : Nat) (n : Int), pos ≤ s.size → s.size ≤ pos + f → f + 5 ≤ k → shunterref05_Clip.l0 k s n (pos : Int) = some (clipGo (rnFrom s f pos) n s)
  | 0, pos, k, n, h, h1, hk => by
    obtain ⟨k, rfl⟩ : ∃ j, k = j + 1 := ⟨k - 1, by omega⟩
    have e : pos = s.size := by omega
    subst e
    rw [shunterref05_Clip.l0, if_neg (by omega), if_pos (by omega), if_pos (by omega), rnFrom_end _ _ _ (by omega), Int.toNat_natCast, ext_all]
    rfl
  | f + 1, pos, k, n, h, h1, hk => by
    obtain ⟨k, rfl⟩ : ∃ j, k = j + 5 := ⟨k - 5, by omega⟩
    by_cases hp : pos < s.size
    · have hw := Lib.decode_width_pos s pos hp
      have hf := decode_fits s pos hp
      rw [rnFrom_cons _ _ _ hp, clipGo]
      by_cases hn : n < 1
      · rw [shunterref05_Clip.l0, if_pos (by omega), if_neg (by omega), if_pos (by omega), if_pos (by omega), if_pos hn, Int.toNat_natCast]
      · rw [shunterref05_Clip.l0, if_pos (by omega), if_pos (by omega), if_pos (by omega), if_pos (by omega), if_neg hn, Int.toNat_natCast, First_eq _ _ (by rw [ext_size]; omega), Option.bind_some, Go.Extern.FmtText.decode_extract]
        dsimp only
        rw [show wrap64 ((pos : Int) + ((Utf8.decode s pos).2 : Int)) = ((pos + (Utf8.decode s pos).2 : Nat) : Int) from by unfold wrap64; omega]
        exact Clip_l0 s hs f _ _ _ (by omega) (by omega) (by omega)
    · have e : pos = s.size := by omega
      subst e
      rw [shunterref05_Clip.l0, if_neg (by omega), if_pos (by omega), if_pos (by omega), rnFrom_end _ _ _ (by omega), Int.toNat_natCast, ext_all]
      rfl
theorem Clip_eq (s : ByteArray) (hs : s.size < 17592186044416) (k : Nat) (n : Int) (hk : s.size + 5 ≤ k) : shunterref05_Clip.f k s n = some (clipGo (rn s) n s) := Clip_l0 s hs s.size 0 k n (by omega) (by omega) hk
theorem rune_bound (s : ByteArray) : ∀ x ∈ runes s, 0 ≤ x ∧ x ≤ 2147483647 := by
  have : ∀ f pos, ∀ p ∈ rnFrom s f pos, p.2 ≤ 2147483647 := by
    intro f
    induction f with
    | zero => intro pos p hp; simp [rnFrom] at hp
    | succ f ih =>
      intro pos p hp
      unfold rnFrom at hp
      split at hp
      · rcases List.mem_cons.1 hp with rfl | hp
        · exact decode_le s pos
        · exact ih _ _ hp
      · simp at hp
  intro x hx
  unfold runes at hx
  obtain ⟨p, hp, rfl⟩ := List.mem_map.1 hx
  have := this _ _ p hp
  omega
theorem NR_l0 (s : ByteArray) (hs : s.size < 17592186044416) : ∀ (m i k : Nat), i + m = (runes s).length → m + 1 ≤ k → shunterlaw05_NameRunes.l0 k (runes s) (runes s) (i : Int) = some true
  | 0, i, k, h, hk => by
    obtain ⟨k, rfl⟩ : ∃ j, k = j + 1 := ⟨k - 1, by omega⟩
    rw [shunterlaw05_NameRunes.l0, if_neg (by omega), lives_eq]
    rfl
  | m + 1, i, k, h, hk => by
    obtain ⟨k, rfl⟩ : ∃ j, k = j + 1 := ⟨k - 1, by omega⟩
    have hl := runes_len s
    have hb := rune_bound s ((runes s).getD i 0) (by simp [List.getD, show i < (runes s).length by omega])
    rw [shunterlaw05_NameRunes.l0, if_pos (by omega), if_pos (by omega), if_pos (by omega)]
    have e : rd (runes s) (i : Int) = (runes s).getD i 0 := by simp [rd]
    rw [e, if_pos (by unfold wrap64; omega), show wrap64 ((i : Int) + 1) = ((i + 1 : Nat) : Int) from by unfold wrap64; omega]
    exact NR_l0 s hs m (i + 1) k (by omega) (by omega)
theorem NameRunes : shunterlaw05_NameRunes.Pure := by
  intro a0 a1 h0 h1
  refine ⟨a0.size + 7, ?_⟩
  unfold shunterlaw05_NameRunes.f
  by_cases hs : (a0.size : Int) > 500
  · rw [if_pos hs, lives_eq]
    rfl
  · have hl := runes_len a0
    rw [if_neg hs, Runes_eq _ a0 (by omega) (by omega), nRunes_eq a0 (by omega), Option.bind_some, Option.bind_some, if_pos rfl, nLen_eq a0 (by omega), Option.bind_some, if_pos rfl]
    unfold name_Clip.f
    rw [Option.bind_some, Clip_eq a0 (by omega) _ _ (by omega), Option.bind_some, shunterlaw05_NameRunes.j0, if_neg (by simp)]
    exact NR_l0 a0 (by omega) (runes a0).length 0 _ (by omega) (by omega)
end Go.Proofs.Ytjbpianofkblbaa.Pure
