import Derived.Test.YtjbpianofkblbaaLemNa
namespace Go.Proofs.Ytjbpianofkblbaa.LemN
open Go.RowKit Go.Proofs.Ytjbpianofkblbaa.XN Go.Proofs.YtjbpianofkblbaaW.PrintWords Go.Proofs.YtjbpianofkblbaaW.PrintLast
set_option linter.unusedVariables false
set_option linter.unusedSimpArgs false
theorem width_le (n b0 b1 b2 b3 : Nat) (h : 1 ≤ n) : (Lib.decodeN n b0 b1 b2 b3).2 ≤ n := by
  unfold Lib.decodeN
  repeat' split
  all_goals omega
theorem decode_fits (s : ByteArray) (pos : Nat) (h : pos < s.size) : pos + (Utf8.decode s pos).2 ≤ s.size := by
  have := width_le (s.size - pos) (s.get! pos).toNat (s.get! (pos + 1)).toNat (s.get! (pos + 2)).toNat (s.get! (pos + 3)).toNat (by omega)
  rw [Lib.decode_at]
  omega
theorem ext_size (s : ByteArray) (p : Nat) : (s.extract p s.size).size = s.size - p := by simp
theorem ext_ext (s : ByteArray) (p q : Nat) : (s.extract p s.size).extract q (s.extract p s.size).size = s.extract (p + q) s.size := by
  apply ByteArray.ext
  apply Array.ext'
  simp
  omega
theorem decode_ext (s : ByteArray) (p q : Nat) (hp : p ≤ s.size) : Utf8.decode (s.extract p s.size) q = Utf8.decode s (p + q) := by
  rw [← Go.Extern.FmtText.decode_extract, ext_ext, Go.Extern.FmtText.decode_extract]
theorem rnFrom_ext (s : ByteArray) (p : Nat) (hp : p ≤ s.size) : ∀ (f q : Nat), (rnFrom s f (p + q)).map (·.2) = (rnFrom (s.extract p s.size) f q).map (·.2)
  | 0, q => rfl
  | f + 1, q => by
    by_cases h : p + q < s.size
    · rw [rnFrom_cons _ _ _ h, rnFrom_cons _ _ _ (by rw [ext_size]; omega), decode_ext s p q hp, List.map_cons, List.map_cons, ← rnFrom_ext s p hp f, Nat.add_assoc]
    · rw [rnFrom_end _ _ _ h, rnFrom_end _ _ _ (by rw [ext_size]; omega)]
/-- A text's runes, as numbers. -/
def runes (s : ByteArray) : List Int := (rn s).map (fun p => (p.2 : Int))
theorem rnFrom_fuel (s : ByteArray) : ∀ (f g pos : Nat), s.size ≤ pos + f → s.size ≤ pos + g → rnFrom s f pos = rnFrom s g pos
  | 0, g, pos, h, _ => by rw [rnFrom_end _ _ _ (by omega), rnFrom_end _ _ _ (by omega)]
  | f + 1, 0, pos, _, h => by rw [rnFrom_end _ _ _ (by omega), rnFrom_end _ _ _ (by omega)]
  | f + 1, g + 1, pos, h, h' => by
    by_cases hp : pos < s.size
    · have hw := Lib.decode_width_pos s pos hp
      rw [rnFrom_cons _ _ _ hp, rnFrom_cons _ _ _ hp, rnFrom_fuel s f g _ (by omega) (by omega)]
    · rw [rnFrom_end _ _ _ hp, rnFrom_end _ _ _ hp]
theorem map_int (l : List (Nat × Nat)) : l.map (fun p => (p.2 : Int)) = (l.map (·.2)).map (fun (n : Nat) => (n : Int)) := by simp
theorem runes_cons (s : ByteArray) (h : 0 < s.size) : runes s = ((Utf8.decode s 0).1 : Int) :: runes (s.extract (Utf8.decode s 0).2 s.size) := by
  have hw := Lib.decode_width_pos s 0 h
  have hf := decode_fits s 0 h
  unfold runes rn
  obtain ⟨n, hn⟩ : ∃ n, s.size = n + 1 := ⟨s.size - 1, by omega⟩
  rw [hn, rnFrom_cons _ _ _ h, ← hn, List.map_cons, map_int, map_int, Nat.zero_add]
  have := rnFrom_ext s (Utf8.decode s 0).2 (by omega) n 0
  rw [Nat.add_zero] at this
  rw [this, rnFrom_fuel (s.extract (Utf8.decode s 0).2 s.size) n (s.extract (Utf8.decode s 0).2 s.size).size 0 (by rw [ext_size]; omega) (by omega)]
theorem runes_nil (s : ByteArray) (h : ¬ 0 < s.size) : runes s = [] := by
  unfold runes rn
  rw [rnFrom_end _ _ _ h]
  rfl
theorem runes_len (s : ByteArray) : (runes s).length ≤ s.size := by
  unfold runes
  rw [List.length_map]
  exact rn_le s
theorem Runes_l0 : ∀ (f j : Nat) (s : ByteArray) (acc : List Int), s.size ≤ f → acc.length + f < 17592186044416 → shunterref05_Runes.l0 (f + 5 + j) s acc = some (acc ++ runes s)
  | 0, j, s, acc, h, hl => by
    rw [show 0 + 5 + j = (4 + j) + 1 from by omega, shunterref05_Runes.l0, if_neg (by omega), runes_nil s (by omega), List.append_nil]
  | f + 1, j, s, acc, h, hl => by
    rw [show f + 1 + 5 + j = (f + 5 + j) + 1 from by omega, shunterref05_Runes.l0]
    by_cases hs : 0 < s.size
    · have hw := Lib.decode_width_pos s 0 hs
      have hf := decode_fits s 0 hs
      rw [if_pos (by omega), show f + 5 + j = (f + 1 + j) + 4 from by omega, First_eq _ _ hs, Option.bind_some]
      dsimp only
      rw [if_pos (by omega), if_pos (by omega), if_pos (by omega), show (f + 1 + j) + 4 = f + 5 + j from by omega, Int.toNat_natCast, Runes_l0 f j _ _ (by rw [ext_size]; omega) (by simp; omega), runes_cons s hs]
      simp
    · rw [if_neg (by omega), runes_nil s hs, List.append_nil]
theorem Runes_eq (k : Nat) (s : ByteArray) (h : s.size + 5 ≤ k) (hs : s.size < 17592186044416) : shunterref05_Runes.f k s = some (runes s) := by
  unfold shunterref05_Runes.f
  obtain ⟨j, rfl⟩ : ∃ j, k = s.size + 5 + j := ⟨k - (s.size + 5), by omega⟩
  rw [Runes_l0 _ _ _ _ (Nat.le_refl _) (by simpa using hs)]
  rfl
theorem nRunes_eq (s : ByteArray) (hs : s.size < 17592186044416) : name_Runes.f s = some (runes s) := by
  unfold name_Runes.f
  rw [if_pos hs]
  rfl
theorem nLen_eq (s : ByteArray) (hs : s.size < 17592186044416) : name_Len.f s = some ((runes s).length : Int) := by
  unfold name_Len.f
  rw [if_pos (by omega)]
  unfold runes
  rw [List.length_map]
theorem Letter_j0 (k : Nat) (c : Int) (b : Bool) : shunterref05_Letter.j0 (k + 1) c b = some (b || (!(c == 215 || c == 247 || c == 930) && (decide (192 ≤ c ∧ c ≤ 591) || decide (913 ≤ c ∧ c ≤ 969) || decide (1024 ≤ c ∧ c ≤ 1279)))) := by
  cases b
  · simp only [shunterref05_Letter.j0]
    rw [if_neg (by decide)]
    repeat' split
    all_goals (congr 1; rw [Bool.eq_iff_iff]; simp; omega)
  · simp [shunterref05_Letter.j0]
theorem Letter_eq (k : Nat) (c : Int) : shunterref05_Letter.f (k + 1) c = some (letB c) := by
  unfold shunterref05_Letter.f
  simp only [Letter_j0]
  unfold letB
  repeat' split
  all_goals (congr 1; rw [Bool.eq_iff_iff]; simp; omega)
theorem Fold_j1 (k : Nat) (c : Int) (b : Bool) (h : -2147483648 ≤ c) (h1 : c ≤ 2147483647) : shunterref05_Fold.j1 (k + 1) c b = some (if b then c + 80 else if c = 962 then 963 else c) := by
  have e : wrap64 (c + 80) = c + 80 := by unfold wrap64; omega
  cases b
  · simp only [shunterref05_Fold.j1, e]
    rw [if_neg (by decide)]
    by_cases c = 962 <;> simp [*]
  · simp [shunterref05_Fold.j1, e]
theorem Fold_j0 (k : Nat) (c : Int) (b : Bool) (h : -2147483648 ≤ c) (h1 : c ≤ 2147483647) : shunterref05_Fold.j0 (k + 2) c b = some (if b then c + 32 else if 1024 ≤ c ∧ c ≤ 1039 then c + 80 else if c = 962 then 963 else c) := by
  have e : wrap64 (c + 32) = c + 32 := by unfold wrap64; omega
  cases b
  · simp only [shunterref05_Fold.j0, e, Fold_j1 k c _ h h1]
    rw [if_neg (by decide)]
    by_cases h3 : c ≥ 1024
    · by_cases h4 : c ≤ 1039
      · simp [h3, h4, show 1024 ≤ c from h3]
      · simp [h3, h4]
    · simp [h3, show ¬ (1024 ≤ c) from h3]
  · simp [shunterref05_Fold.j0, e]
theorem letB_iff (c : Int) : letB c = true ↔ ((c ≠ 215 ∧ c ≠ 247 ∧ c ≠ 930) ∧ ((65 ≤ c ∧ c ≤ 90) ∨ (97 ≤ c ∧ c ≤ 122) ∨ c = 95 ∨ (192 ≤ c ∧ c ≤ 591) ∨ (913 ≤ c ∧ c ≤ 969) ∨ (1024 ≤ c ∧ c ≤ 1279))) := by
  simp [letB]
  omega
theorem Fold_eq (k : Nat) (c : Int) (h : -2147483648 ≤ c) (h1 : c ≤ 2147483647) : shunterref05_Fold.f (k + 2) c = some (foldI c) := by
  have e : foldI c = (if (65 ≤ c ∧ c ≤ 90) ∨ (192 ≤ c ∧ c ≤ 222 ∧ c ≠ 215) ∨ (913 ≤ c ∧ c ≤ 937 ∧ c ≠ 930) ∨ (1040 ≤ c ∧ c ≤ 1071) then c + 32 else if 1024 ≤ c ∧ c ≤ 1039 then c + 80 else if c = 962 then 963 else c) := by
    unfold foldI
    simp only [letB_iff]
    repeat' split
    all_goals first | rfl | omega
  rw [e]
  unfold shunterref05_Fold.f
  simp only [Fold_j0 k c _ h h1, decide_eq_true_eq, reduceIte, Bool.false_eq_true]
  clear e
  have hc : c < 65 ∨ (65 ≤ c ∧ c ≤ 90) ∨ (91 ≤ c ∧ c ≤ 191) ∨ (192 ≤ c ∧ c ≤ 214) ∨ c = 215 ∨ (216 ≤ c ∧ c ≤ 222) ∨ (223 ≤ c ∧ c ≤ 912) ∨ (913 ≤ c ∧ c ≤ 929) ∨ c = 930 ∨ (931 ≤ c ∧ c ≤ 937) ∨ (938 ≤ c ∧ c ≤ 961) ∨ c = 962 ∨ (963 ≤ c ∧ c ≤ 1023) ∨ (1024 ≤ c ∧ c ≤ 1039) ∨ (1040 ≤ c ∧ c ≤ 1071) ∨ 1072 ≤ c := by omega
  rcases hc with hc | hc | hc | hc | hc | hc | hc | hc | hc | hc | hc | hc | hc | hc | hc | hc
  all_goals repeat (first | rfl | rw [if_pos (by omega)] | rw [if_neg (by omega)])
end Go.Proofs.Ytjbpianofkblbaa.LemN
