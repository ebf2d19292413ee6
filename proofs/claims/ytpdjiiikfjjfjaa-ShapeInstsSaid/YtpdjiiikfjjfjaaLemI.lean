/- Names, runes and keys: plain lemmas. -/
import Derived.Test.YtpdjiiikfjjfjaaXIx
import Derived.Lib.DecodeN
import Derived.Lib.MapLaws
import Derived.Lib.TrimUEq
import Derived.Stop.FmtQuoteTie
import Derived.Lib.Strings
namespace Go.Proofs.Ytpdjiiikfjjfjaa.XI
open Go.RowKit Go.Proofs.YtpdjiiikfjjfjaaW.PrintWords Go.Proofs.YtpdjiiikfjjfjaaW.PrintLast
set_option linter.unusedVariables false
set_option linter.unusedSimpArgs false
theorem bt_get (s : ByteArray) (i : Nat) : bt s (i : Int) = (((s.get! i).toNat : Nat) : Int) := by
  unfold bt
  simp only [Int.toNat_natCast]
  split
  · rename_i h
    rw [show s.get! i = s[i] from by simp [ByteArray.get!, getElem!_pos, h]; rfl]
  · rename_i h
    rw [show s.get! i = 0 from by
      have hh : s.data.size ≤ i := by have := (show s.size = s.data.size from rfl); omega
      obtain ⟨bs⟩ := s
      show bs[i]! = 0
      simp at hh
      simp [hh]; rfl]
    rfl
theorem more_eq (c : Int) : shunterref05_more.f c = some (decide (128 ≤ c ∧ c < 192)) := by
  unfold shunterref05_more.f
  split <;> simp <;> omega
theorem w64 (x : Int) (h : -1000000000 ≤ x) (h1 : x ≤ 1000000000) : wrap64 x = x := by unfold wrap64; omega
def B (n : Int) : Prop := 0 ≤ n ∧ n < 256
theorem E2 (b0 b1 : Int) (h0 : B b0) (h1 : B b1) : wrap64 (wrap64 (wrap64 (64 * wrap64 (b0 - 192)) + b1) - 128) = 64 * (b0 - 192) + b1 - 128 := by
  obtain ⟨_, _⟩ := h0; obtain ⟨_, _⟩ := h1
  rw [w64 (b0 - 192) (by omega) (by omega), w64 (64 * (b0 - 192)) (by omega) (by omega), w64 (64 * (b0 - 192) + b1) (by omega) (by omega), w64 (64 * (b0 - 192) + b1 - 128) (by omega) (by omega)]
theorem E3 (b0 b1 b2 : Int) (h0 : B b0) (h1 : B b1) (h2 : B b2) : wrap64 (wrap64 (wrap64 (wrap64 (4096 * wrap64 (b0 - 224)) + wrap64 (64 * wrap64 (b1 - 128))) + b2) - 128) = 4096 * (b0 - 224) + 64 * (b1 - 128) + b2 - 128 := by
  obtain ⟨_, _⟩ := h0; obtain ⟨_, _⟩ := h1; obtain ⟨_, _⟩ := h2
  rw [w64 (b0 - 224) (by omega) (by omega), w64 (4096 * (b0 - 224)) (by omega) (by omega), w64 (b1 - 128) (by omega) (by omega), w64 (64 * (b1 - 128)) (by omega) (by omega), w64 (4096 * (b0 - 224) + 64 * (b1 - 128)) (by omega) (by omega), w64 (4096 * (b0 - 224) + 64 * (b1 - 128) + b2) (by omega) (by omega), w64 (4096 * (b0 - 224) + 64 * (b1 - 128) + b2 - 128) (by omega) (by omega)]
theorem E4 (b0 b1 b2 b3 : Int) (h0 : B b0) (h1 : B b1) (h2 : B b2) (h3 : B b3) : wrap64 (wrap64 (wrap64 (wrap64 (wrap64 (262144 * wrap64 (b0 - 240)) + wrap64 (4096 * wrap64 (b1 - 128))) + wrap64 (64 * wrap64 (b2 - 128))) + b3) - 128) = 262144 * (b0 - 240) + 4096 * (b1 - 128) + 64 * (b2 - 128) + b3 - 128 := by
  obtain ⟨_, _⟩ := h0; obtain ⟨_, _⟩ := h1; obtain ⟨_, _⟩ := h2; obtain ⟨_, _⟩ := h3
  rw [w64 (b0 - 240) (by omega) (by omega), w64 (262144 * (b0 - 240)) (by omega) (by omega), w64 (b1 - 128) (by omega) (by omega), w64 (4096 * (b1 - 128)) (by omega) (by omega), w64 (b2 - 128) (by omega) (by omega), w64 (64 * (b2 - 128)) (by omega) (by omega), w64 (262144 * (b0 - 240) + 4096 * (b1 - 128)) (by omega) (by omega), w64 (262144 * (b0 - 240) + 4096 * (b1 - 128) + 64 * (b2 - 128)) (by omega) (by omega), w64 (262144 * (b0 - 240) + 4096 * (b1 - 128) + 64 * (b2 - 128) + b3) (by omega) (by omega), w64 (262144 * (b0 - 240) + 4096 * (b1 - 128) + 64 * (b2 - 128) + b3 - 128) (by omega) (by omega)]
section
variable (s : ByteArray) (b0 b1 b2 b3 : Int)
theorem j3_false (m : Nat) : shunterref05_First.j3 (m + 1) s b0 false = some (65533, 1) := by simp [shunterref05_First.j3]
theorem j3_true (m : Nat) (h0 : B b0) (h1 : B b1) (h2 : B b2) (h3 : B b3) (e1 : bt s 1 = b1) (e2 : bt s 2 = b2) (e3 : bt s 3 = b3) (hs : (3 : Int) < s.size) (v : Int) (hv : v = 262144 * (b0 - 240) + 4096 * (b1 - 128) + 64 * (b2 - 128) + b3 - 128) :
    shunterref05_First.j3 (m + 1) s b0 true = some (if 65536 ≤ v ∧ v ≤ 1114111 then (v, 4) else (65533, 1)) := by
  simp only [shunterref05_First.j3, e1, e2, e3, w64 b1 (by have := h1.1; omega) (by have := h1.2; omega), w64 b2 (by have := h2.1; omega) (by have := h2.2; omega), w64 b3 (by have := h3.1; omega) (by have := h3.2; omega), E4 b0 b1 b2 b3 h0 h1 h2 h3, ← hv]
  rw [if_pos trivial, if_pos (by omega), if_pos (by omega), if_pos hs]
  by_cases c1 : v ≥ 65536
  · rw [if_pos c1]
    by_cases c2 : v ≤ 1114111
    · rw [if_pos c2, if_pos ⟨c1, c2⟩]
    · rw [if_neg c2, if_neg (fun h => c2 h.2)]
  · rw [if_neg c1, if_neg (fun h => c1 h.1)]
/-- Four bytes, or none. -/
def four (n : Nat) : Int × Int := if 240 ≤ b0 ∧ b0 < 245 ∧ 4 ≤ n ∧ (128 ≤ b1 ∧ b1 < 192) ∧ (128 ≤ b2 ∧ b2 < 192) ∧ (128 ≤ b3 ∧ b3 < 192) ∧ 65536 ≤ 262144 * (b0 - 240) + 4096 * (b1 - 128) + 64 * (b2 - 128) + b3 - 128 ∧ 262144 * (b0 - 240) + 4096 * (b1 - 128) + 64 * (b2 - 128) + b3 - 128 ≤ 1114111 then (262144 * (b0 - 240) + 4096 * (b1 - 128) + 64 * (b2 - 128) + b3 - 128, 4) else (65533, 1)
theorem j2_eq (m : Nat) (h0 : B b0) (h1 : B b1) (h2 : B b2) (h3 : B b3) (e1 : bt s 1 = b1) (e2 : bt s 2 = b2) (e3 : bt s 3 = b3) :
    shunterref05_First.j2 (m + 2) s b0 = some (four b0 b1 b2 b3 s.size) := by
  simp only [shunterref05_First.j2, more_eq, e1, e2, e3, Option.bind_some, decide_eq_true_eq, j3_false]
  unfold four
  by_cases c1 : b0 ≥ 240
  · by_cases c2 : b0 < 245
    · by_cases c3 : (s.size : Int) ≥ 4
      · rw [if_pos c1, if_pos c2, if_pos c3, if_pos (by omega)]
        by_cases c4 : 128 ≤ b1 ∧ b1 < 192
        · rw [if_pos c4, if_pos (by omega)]
          by_cases c5 : 128 ≤ b2 ∧ b2 < 192
          · rw [if_pos c5, if_pos (by omega)]
            by_cases c6 : 128 ≤ b3 ∧ b3 < 192
            · rw [decide_eq_true c6, j3_true s b0 b1 b2 b3 m h0 h1 h2 h3 e1 e2 e3 (by omega) _ rfl]
              simp only [c4, c5, c6, c2, true_and, and_true, show 240 ≤ b0 from c1, show 4 ≤ s.size by omega]
            · rw [decide_eq_false c6, j3_false, if_neg (fun h => c6 h.2.2.2.2.2.1)]
          · rw [if_neg c5, if_neg (fun h => c5 h.2.2.2.2.1)]
        · rw [if_neg c4, if_neg (fun h => c4 h.2.2.2.1)]
      · rw [if_pos c1, if_pos c2, if_neg c3, if_neg (fun h => c3 (by omega))]
    · rw [if_pos c1, if_neg c2, if_neg (fun h => c2 h.2.1)]
  · rw [if_neg c1, if_neg (fun h => c1 h.1)]
/-- Three bytes, or what follows. -/
def three (n : Nat) : Int × Int := if 224 ≤ b0 ∧ b0 < 240 ∧ 3 ≤ n ∧ (128 ≤ b1 ∧ b1 < 192) ∧ (128 ≤ b2 ∧ b2 < 192) ∧ 2048 ≤ 4096 * (b0 - 224) + 64 * (b1 - 128) + b2 - 128 ∧ (4096 * (b0 - 224) + 64 * (b1 - 128) + b2 - 128 < 55296 ∨ 4096 * (b0 - 224) + 64 * (b1 - 128) + b2 - 128 > 57343) then (4096 * (b0 - 224) + 64 * (b1 - 128) + b2 - 128, 3) else four b0 b1 b2 b3 n
theorem j1_false (m : Nat) (h0 : B b0) (h1 : B b1) (h2 : B b2) (h3 : B b3) (e1 : bt s 1 = b1) (e2 : bt s 2 = b2) (e3 : bt s 3 = b3) :
    shunterref05_First.j1 (m + 3) s b0 false = some (four b0 b1 b2 b3 s.size) := by
  simp only [shunterref05_First.j1, j2_eq s b0 b1 b2 b3 m h0 h1 h2 h3 e1 e2 e3]
  rfl
theorem j1_true (m : Nat) (h0 : B b0) (h1 : B b1) (h2 : B b2) (h3 : B b3) (e1 : bt s 1 = b1) (e2 : bt s 2 = b2) (e3 : bt s 3 = b3) (hs : (2 : Int) < s.size) (v : Int) (hv : v = 4096 * (b0 - 224) + 64 * (b1 - 128) + b2 - 128) :
    shunterref05_First.j1 (m + 3) s b0 true = some (if 2048 ≤ v ∧ (v < 55296 ∨ v > 57343) then (v, 3) else four b0 b1 b2 b3 s.size) := by
  simp only [shunterref05_First.j1, e1, e2, e3, w64 b1 (by have := h1.1; omega) (by have := h1.2; omega), w64 b2 (by have := h2.1; omega) (by have := h2.2; omega), E3 b0 b1 b2 h0 h1 h2, ← hv, j2_eq s b0 b1 b2 b3 m h0 h1 h2 h3 e1 e2 e3]
  rw [if_pos trivial, if_pos (by omega), if_pos hs]
  by_cases c1 : v ≥ 2048
  · rw [if_pos c1]
    by_cases c2 : v < 55296
    · rw [if_pos c2, if_pos ⟨c1, Or.inl c2⟩]
    · rw [if_neg c2]
      by_cases c3 : v > 57343
      · rw [if_pos c3, if_pos ⟨c1, Or.inr c3⟩]
      · rw [if_neg c3, if_neg (fun h => by omega)]
  · rw [if_neg c1, if_neg (fun h => c1 h.1)]
theorem j0_false (m : Nat) (h0 : B b0) (h1 : B b1) (h2 : B b2) (h3 : B b3) (e1 : bt s 1 = b1) (e2 : bt s 2 = b2) (e3 : bt s 3 = b3) :
    shunterref05_First.j0 (m + 4) s b0 false = some (three b0 b1 b2 b3 s.size) := by
  simp only [shunterref05_First.j0, more_eq, e1, e2, Option.bind_some, decide_eq_true_eq, j1_false s b0 b1 b2 b3 m h0 h1 h2 h3 e1 e2 e3]
  rw [if_neg (by decide)]
  unfold three
  by_cases c1 : b0 ≥ 224
  · by_cases c2 : b0 < 240
    · by_cases c3 : (s.size : Int) ≥ 3
      · rw [if_pos c1, if_pos c2, if_pos c3, if_pos (by omega)]
        by_cases c4 : 128 ≤ b1 ∧ b1 < 192
        · rw [if_pos c4, if_pos (by omega)]
          by_cases c5 : 128 ≤ b2 ∧ b2 < 192
          · rw [decide_eq_true c5, j1_true s b0 b1 b2 b3 m h0 h1 h2 h3 e1 e2 e3 (by omega) _ rfl]
            simp only [c4, c5, c2, true_and, and_true, show 224 ≤ b0 from c1, show 3 ≤ s.size by omega]
          · rw [decide_eq_false c5, j1_false s b0 b1 b2 b3 m h0 h1 h2 h3 e1 e2 e3, if_neg (fun h => c5 h.2.2.2.2.1)]
        · rw [if_neg c4, if_neg (fun h => c4 h.2.2.2.1)]
      · rw [if_pos c1, if_pos c2, if_neg c3, if_neg (fun h => c3 (by omega))]
    · rw [if_pos c1, if_neg c2, if_neg (fun h => c2 h.2.1)]
  · rw [if_neg c1, if_neg (fun h => c1 h.1)]
theorem j0_true (m : Nat) (h0 : B b0) (h1 : B b1) (e1 : bt s 1 = b1) (hs : (1 : Int) < s.size) :
    shunterref05_First.j0 (m + 1) s b0 true = some (64 * (b0 - 192) + b1 - 128, 2) := by
  simp only [shunterref05_First.j0, e1, w64 b1 (by have := h1.1; omega) (by have := h1.2; omega), E2 b0 b1 h0 h1]
  rw [if_pos trivial, if_pos hs]
/-- All of it. -/
def firstP (n : Nat) : Int × Int := if b0 < 128 then (b0, 1) else if 194 ≤ b0 ∧ b0 < 224 ∧ 2 ≤ n ∧ (128 ≤ b1 ∧ b1 < 192) then (64 * (b0 - 192) + b1 - 128, 2) else three b0 b1 b2 b3 n
theorem First_p (m : Nat) (h : 0 < s.size) (h0 : B b0) (h1 : B b1) (h2 : B b2) (h3 : B b3) (e0 : bt s 0 = b0) (e1 : bt s 1 = b1) (e2 : bt s 2 = b2) (e3 : bt s 3 = b3) : shunterref05_First.f (m + 4) s = some (firstP b0 b1 b2 b3 s.size) := by
  unfold shunterref05_First.f
  simp only [e0, e1, w64 b0 (by have := h0.1; omega) (by have := h0.2; omega), more_eq, Option.bind_some, j0_false s b0 b1 b2 b3 m h0 h1 h2 h3 e1 e2 e3]
  unfold firstP
  rw [if_neg (by omega), if_pos (by omega)]
  by_cases c0 : b0 < 128
  · rw [if_pos c0, if_pos c0]
  rw [if_neg c0, if_neg c0]
  by_cases c1 : b0 ≥ 194
  · by_cases c2 : b0 < 224
    · by_cases c3 : (s.size : Int) ≥ 2
      · rw [if_pos c1, if_pos c2, if_pos c3, if_pos (by omega)]
        by_cases c4 : 128 ≤ b1 ∧ b1 < 192
        · rw [decide_eq_true c4, j0_true s b0 b1 (m + 3) h0 h1 e1 (by omega), if_pos ⟨c1, c2, by omega, c4⟩]
        · rw [decide_eq_false c4, j0_false s b0 b1 b2 b3 m h0 h1 h2 h3 e1 e2 e3, if_neg (fun h => c4 h.2.2.2)]
      · rw [if_pos c1, if_pos c2, if_neg c3, if_neg (fun h => c3 (by omega))]
    · rw [if_pos c1, if_neg c2, if_neg (fun h => c2 h.2.1)]
  · rw [if_neg c1, if_neg (fun h => c1 h.1)]
end
theorem firstP_eq (n b0 b1 b2 b3 : Nat) (h0 : b0 < 256) (h1 : b1 < 256) (h2 : b2 < 256) (h3 : b3 < 256) : firstP b0 b1 b2 b3 n = (((Lib.decodeN n b0 b1 b2 b3).1 : Int), ((Lib.decodeN n b0 b1 b2 b3).2 : Int)) := by
  unfold firstP three four Lib.decodeN
  by_cases c0 : b0 < 128
  · rw [if_pos (by omega), if_pos c0]
    rfl
  rw [if_neg (by omega), if_neg c0]
  repeat' split
  all_goals first | (exfalso; omega) | (simp only [Prod.mk.injEq]; omega) | rfl
theorem First_eq (k : Nat) (s : ByteArray) (h : 0 < s.size) : shunterref05_First.f (k + 4) s = some (((Utf8.decode s 0).1 : Int), ((Utf8.decode s 0).2 : Int)) := by
  have hb0 := (s.get! 0).toNat_lt
  have hb1 := (s.get! 1).toNat_lt
  have hb2 := (s.get! 2).toNat_lt
  have hb3 := (s.get! 3).toNat_lt
  rw [Lib.decode_at, First_p s _ _ _ _ k h ⟨by omega, by omega⟩ ⟨by omega, by omega⟩ ⟨by omega, by omega⟩ ⟨by omega, by omega⟩ (bt_get s 0) (bt_get s 1) (bt_get s 2) (bt_get s 3), firstP_eq _ _ _ _ _ hb0 hb1 hb2 hb3]
  rfl
theorem width_le (n b0 b1 b2 b3 : Nat) (h : 1 ≤ n) : (Lib.decodeN n b0 b1 b2 b3).2 ≤ n := by
  unfold Lib.decodeN
  repeat' split
  all_goals omega
theorem decode_fits (s : ByteArray) (pos : Nat) (h : pos < s.size) : pos + (Utf8.decode s pos).2 ≤ s.size := by
  have := width_le (s.size - pos) (s.get! pos).toNat (s.get! (pos + 1)).toNat (s.get! (pos + 2)).toNat (s.get! (pos + 3)).toNat (by omega)
  rw [Lib.decode_at]
  omega
theorem ext_size (s : ByteArray) (p : Nat) : (s.extract p s.size).size = s.size - p := by simp
theorem ext_ext (s : ByteArray) (p q : Nat) : (s.extract p s.size).extract q (s.extract p s.size).size = s.extract (p + q) s.size := by
  apply ByteArray.ext
  apply Array.ext'
  simp
  omega
theorem decode_ext (s : ByteArray) (p q : Nat) (hp : p ≤ s.size) : Utf8.decode (s.extract p s.size) q = Utf8.decode s (p + q) := by
  rw [← Go.Extern.FmtText.decode_extract, ext_ext, Go.Extern.FmtText.decode_extract]
theorem rnFrom_ext (s : ByteArray) (p : Nat) (hp : p ≤ s.size) : ∀ (f q : Nat), (rnFrom s f (p + q)).map (·.2) = (rnFrom (s.extract p s.size) f q).map (·.2)
  | 0, q => rfl
  | f + 1, q => by
    by_cases h : p + q < s.size
    · rw [rnFrom_cons _ _ _ h, rnFrom_cons _ _ _ (by rw [ext_size]; omega), decode_ext s p q hp, List.map_cons, List.map_cons, ← rnFrom_ext s p hp f, Nat.add_assoc]
    · rw [rnFrom_end _ _ _ h, rnFrom_end _ _ _ (by rw [ext_size]; omega)]
/-- A text's runes, as numbers. -/
def runes (s : ByteArray) : List Int := (rn s).map (fun p => (p.2 : Int))
theorem rnFrom_fuel (s : ByteArray) : ∀ (f g pos : Nat), s.size ≤ pos + f → s.size ≤ pos + g → rnFrom s f pos = rnFrom s g pos
  | 0, g, pos, h, _ => by rw [rnFrom_end _ _ _ (by omega), rnFrom_end _ _ _ (by omega)]
  | f + 1, 0, pos, _, h => by rw [rnFrom_end _ _ _ (by omega), rnFrom_end _ _ _ (by omega)]
  | f + 1, g + 1, pos, h, h' => by
    by_cases hp : pos < s.size
    · have hw := Lib.decode_width_pos s pos hp
      rw [rnFrom_cons _ _ _ hp, rnFrom_cons _ _ _ hp, rnFrom_fuel s f g _ (by omega) (by omega)]
    · rw [rnFrom_end _ _ _ hp, rnFrom_end _ _ _ hp]
theorem map_int (l : List (Nat × Nat)) : l.map (fun p => (p.2 : Int)) = (l.map (·.2)).map (fun (n : Nat) => (n : Int)) := by simp
theorem runes_cons (s : ByteArray) (h : 0 < s.size) : runes s = ((Utf8.decode s 0).1 : Int) :: runes (s.extract (Utf8.decode s 0).2 s.size) := by
  have hw := Lib.decode_width_pos s 0 h
  have hf := decode_fits s 0 h
  unfold runes rn
  obtain ⟨n, hn⟩ : ∃ n, s.size = n + 1 := ⟨s.size - 1, by omega⟩
  rw [hn, rnFrom_cons _ _ _ h, ← hn, List.map_cons, map_int, map_int, Nat.zero_add]
  have := rnFrom_ext s (Utf8.decode s 0).2 (by omega) n 0
  rw [Nat.add_zero] at this
  rw [this, rnFrom_fuel (s.extract (Utf8.decode s 0).2 s.size) n (s.extract (Utf8.decode s 0).2 s.size).size 0 (by rw [ext_size]; omega) (by omega)]
theorem runes_nil (s : ByteArray) (h : ¬ 0 < s.size) : runes s = [] := by
  unfold runes rn
  rw [rnFrom_end _ _ _ h]
  rfl
theorem runes_len (s : ByteArray) : (runes s).length ≤ s.size := by
  unfold runes
  rw [List.length_map]
  exact rn_le s
theorem Runes_l0 : ∀ (f j : Nat) (s : ByteArray) (acc : List Int), s.size ≤ f → acc.length + f < 17592186044416 → shunterref05_Runes.l0 (f + 5 + j) s acc = some (acc ++ runes s)
  | 0, j, s, acc, h, hl => by
    rw [show 0 + 5 + j = (4 + j) + 1 from by omega, shunterref05_Runes.l0, if_neg (by omega), runes_nil s (by omega), List.append_nil]
  | f + 1, j, s, acc, h, hl => by
    rw [show f + 1 + 5 + j = (f + 5 + j) + 1 from by omega, shunterref05_Runes.l0]
    by_cases hs : 0 < s.size
    · have hw := Lib.decode_width_pos s 0 hs
      have hf := decode_fits s 0 hs
      rw [if_pos (by omega), show f + 5 + j = (f + 1 + j) + 4 from by omega, First_eq _ _ hs, Option.bind_some]
      dsimp only
      rw [if_pos (by omega), if_pos (by omega), if_pos (by omega), show (f + 1 + j) + 4 = f + 5 + j from by omega, Int.toNat_natCast, Runes_l0 f j _ _ (by rw [ext_size]; omega) (by simp; omega), runes_cons s hs]
      simp
    · rw [if_neg (by omega), runes_nil s hs, List.append_nil]
theorem Runes_eq (k : Nat) (s : ByteArray) (h : s.size + 5 ≤ k) (hs : s.size < 17592186044416) : shunterref05_Runes.f k s = some (runes s) := by
  unfold shunterref05_Runes.f
  obtain ⟨j, rfl⟩ : ∃ j, k = s.size + 5 + j := ⟨k - (s.size + 5), by omega⟩
  rw [Runes_l0 _ _ _ _ (Nat.le_refl _) (by simpa using hs)]
  rfl
theorem Letter_j0 (k : Nat) (c : Int) (b : Bool) : shunterref05_Letter.j0 (k + 1) c b = some (b || (!(c == 215 || c == 247 || c == 930) && (decide (192 ≤ c ∧ c ≤ 591) || decide (913 ≤ c ∧ c ≤ 969) || decide (1024 ≤ c ∧ c ≤ 1279)))) := by
  cases b
  · simp only [shunterref05_Letter.j0]
    rw [if_neg (by decide)]
    repeat' split
    all_goals (congr 1; rw [Bool.eq_iff_iff]; simp; omega)
  · simp [shunterref05_Letter.j0]
theorem Letter_eq (k : Nat) (c : Int) : shunterref05_Letter.f (k + 1) c = some (letB c) := by
  unfold shunterref05_Letter.f
  simp only [Letter_j0]
  unfold letB
  repeat' split
  all_goals (congr 1; rw [Bool.eq_iff_iff]; simp; omega)
theorem Fold_j1 (k : Nat) (c : Int) (b : Bool) (h : -2147483648 ≤ c) (h1 : c ≤ 2147483647) : shunterref05_Fold.j1 (k + 1) c b = some (if b then c + 80 else if c = 962 then 963 else c) := by
  have e : wrap64 (c + 80) = c + 80 := by unfold wrap64; omega
  cases b
  · simp only [shunterref05_Fold.j1, e]
    rw [if_neg (by decide)]
    by_cases c = 962 <;> simp [*]
  · simp [shunterref05_Fold.j1, e]
theorem Fold_j0 (k : Nat) (c : Int) (b : Bool) (h : -2147483648 ≤ c) (h1 : c ≤ 2147483647) : shunterref05_Fold.j0 (k + 2) c b = some (if b then c + 32 else if 1024 ≤ c ∧ c ≤ 1039 then c + 80 else if c = 962 then 963 else c) := by
  have e : wrap64 (c + 32) = c + 32 := by unfold wrap64; omega
  cases b
  · simp only [shunterref05_Fold.j0, e, Fold_j1 k c _ h h1]
    rw [if_neg (by decide)]
    by_cases h3 : c ≥ 1024
    · by_cases h4 : c ≤ 1039
      · simp [h3, h4, show 1024 ≤ c from h3]
      · simp [h3, h4]
    · simp [h3, show ¬ (1024 ≤ c) from h3]
  · simp [shunterref05_Fold.j0, e]
theorem letB_iff (c : Int) : letB c = true ↔ ((c ≠ 215 ∧ c ≠ 247 ∧ c ≠ 930) ∧ ((65 ≤ c ∧ c ≤ 90) ∨ (97 ≤ c ∧ c ≤ 122) ∨ c = 95 ∨ (192 ≤ c ∧ c ≤ 591) ∨ (913 ≤ c ∧ c ≤ 969) ∨ (1024 ≤ c ∧ c ≤ 1279))) := by
  simp [letB]
  omega
theorem Fold_eq (k : Nat) (c : Int) (h : -2147483648 ≤ c) (h1 : c ≤ 2147483647) : shunterref05_Fold.f (k + 2) c = some (foldI c) := by
  have e : foldI c = (if (65 ≤ c ∧ c ≤ 90) ∨ (192 ≤ c ∧ c ≤ 222 ∧ c ≠ 215) ∨ (913 ≤ c ∧ c ≤ 937 ∧ c ≠ 930) ∨ (1040 ≤ c ∧ c ≤ 1071) then c + 32 else if 1024 ≤ c ∧ c ≤ 1039 then c + 80 else if c = 962 then 963 else c) := by
    unfold foldI
    simp only [letB_iff]
    repeat' split
    all_goals first | rfl | omega
  rw [e]
  unfold shunterref05_Fold.f
  simp only [Fold_j0 k c _ h h1, decide_eq_true_eq, reduceIte, Bool.false_eq_true]
  clear e
  have hc : c < 65 ∨ (65 ≤ c ∧ c ≤ 90) ∨ (91 ≤ c ∧ c ≤ 191) ∨ (192 ≤ c ∧ c ≤ 214) ∨ c = 215 ∨ (216 ≤ c ∧ c ≤ 222) ∨ (223 ≤ c ∧ c ≤ 912) ∨ (913 ≤ c ∧ c ≤ 929) ∨ c = 930 ∨ (931 ≤ c ∧ c ≤ 937) ∨ (938 ≤ c ∧ c ≤ 961) ∨ c = 962 ∨ (963 ≤ c ∧ c ≤ 1023) ∨ (1024 ≤ c ∧ c ≤ 1039) ∨ (1040 ≤ c ∧ c ≤ 1071) ∨ 1072 ≤ c := by omega
  rcases hc with hc | hc | hc | hc | hc | hc | hc | hc | hc | hc | hc | hc | hc | hc | hc | hc
  all_goals repeat (first | rfl | rw [if_pos (by omega)] | rw [if_neg (by omega)])
/-- What may stand in a name behind its first rune. -/
def okB (c : Int) : Bool := letB c || digB c || c == 45 || c == 46
theorem mayGo_pos : ∀ (l : List (Nat × Nat)) (n : Nat), 0 < n → mayGo l n = ((l.map (fun p => (p.2 : Int))).all okB && decide (n + l.length ≤ 24))
  | [], n, h => by simp [mayGo, Nat.succ_le_of_lt h]
  | (p, c) :: t, n, h => by
    rw [mayGo, mayGo_pos t (n + 1) (by omega), List.map_cons, List.all_cons, List.length_cons, show n + 1 + t.length = n + (t.length + 1) from by omega]
    simp [okB, h, Bool.and_assoc, Bool.or_assoc]
/-- May, of the runes. -/
def mayP (l : List Int) : Bool := match l with
  | [] => false
  | c :: t => letB c && t.all okB && decide (1 + t.length ≤ 24)
theorem mayGo_zero (l : List (Nat × Nat)) : mayGo l 0 = mayP (l.map (fun p => (p.2 : Int))) := by
  cases l with
  | nil => rfl
  | cons x t =>
    obtain ⟨p, c⟩ := x
    rw [mayGo, mayGo_pos t 1 (by omega)]
    simp [mayP, Bool.and_assoc]
theorem nMay_eq (s : ByteArray) (hs : s.size < 17592186044416) : name_May.f s = some (mayP (runes s)) := by
  unfold name_May.f
  rw [if_pos (by omega), mayGo_zero]
  rfl
theorem wrap_succ (i n : Nat) (h : i < n) (hn : n < 9223372036854775807) : wrap64 ((i : Int) + 1) = ((i + 1 : Nat) : Int) := by unfold wrap64; omega
theorem rd_nat (l : List Int) (i : Nat) : rd l (i : Int) = l.getD i 0 := by simp [rd]
theorem May_l0 (l : List Int) (hl : l.length < 9223372036854775807) : ∀ (m i k : Nat), i + m = l.length → m + 2 ≤ k → shunterref05_May.l0 k l (i : Int) = some ((l.drop i).all okB)
  | 0, i, k, h, hk => by
    obtain ⟨k, rfl⟩ : ∃ j, k = j + 2 := ⟨k - 2, by omega⟩
    rw [shunterref05_May.l0, if_neg (by omega), List.drop_of_length_le (by omega)]
    rfl
  | m + 1, i, k, h, hk => by
    obtain ⟨k, rfl⟩ : ∃ j, k = j + 2 := ⟨k - 2, by omega⟩
    have ih := May_l0 l hl m (i + 1) (k + 1) (by omega) (by omega)
    rw [shunterref05_May.l0, if_pos (by omega), if_pos (by omega), Letter_eq, Option.bind_some, rd_nat, wrap_succ i _ (by omega) hl, ih, List.drop_eq_getElem_cons (show i < l.length by omega), List.all_cons]
    have e : l.getD i 0 = l[i]'(by omega) := by simp [List.getD, show i < l.length by omega]
    rw [e]
    generalize l[i]'(by omega) = c
    have hok : okB c = true ↔ (letB c = true ∨ (48 ≤ c ∧ c ≤ 57) ∨ c = 45 ∨ c = 46) := by simp [okB, digB]; exact Iff.intro (fun h => by rcases h with ((h | h) | h) | h <;> simp [h]) (fun h => by rcases h with h | h | h | h <;> simp [h])
    cases hl : letB c
    · simp only [Bool.false_eq_true, if_false]
      by_cases h1 : c ≥ 48
      · by_cases h2 : c ≤ 57
        · rw [if_pos h1, if_pos h2, hok.2 (Or.inr (Or.inl ⟨h1, h2⟩)), Bool.true_and]
        · rw [if_pos h1, if_neg h2, if_neg (by omega), if_neg (by omega)]
          have : okB c = false := by rw [← Bool.not_eq_true, hok, hl]; simp; omega
          rw [this, Bool.false_and]
      · rw [if_neg h1]
        by_cases h3 : c = 45
        · rw [if_pos h3, hok.2 (Or.inr (Or.inr (Or.inl h3))), Bool.true_and]
        · rw [if_neg h3]
          by_cases h4 : c = 46
          · rw [if_pos h4, hok.2 (Or.inr (Or.inr (Or.inr h4))), Bool.true_and]
          · rw [if_neg h4]
            have : okB c = false := by rw [← Bool.not_eq_true, hok, hl]; simp; omega
            rw [this, Bool.false_and]
    · rw [if_pos rfl, hok.2 (Or.inl hl), Bool.true_and]
theorem May_eq (k : Nat) (s : ByteArray) (hs : s.size < 17592186044416) (hk : s.size + 40 ≤ k) : shunterref05_May.f k s = some (mayP (runes s)) := by
  unfold shunterref05_May.f
  rw [Runes_eq k s (by omega) hs, Option.bind_some]
  have hl := runes_len s
  generalize runes s = l at *
  obtain ⟨k, rfl⟩ : ∃ j, k = j + 2 := ⟨k - 2, by omega⟩
  simp only [shunterref05_May.j0]
  cases l with
  | nil => simp [mayP]
  | cons c t =>
    rw [if_neg (by rw [List.length_cons]; omega)]
    by_cases h24 : ((c :: t).length : Int) > 24
    · rw [if_pos h24]
      simp [mayP]
      intro _ _
      simp at h24
      omega
    · rw [if_neg h24, if_pos (by rw [List.length_cons]; omega), Letter_eq, Option.bind_some]
      have e := May_l0 (c :: t) (by simp at hl ⊢; omega) (c :: t).length 0 (k + 1) (by omega) (by simp at h24 hl ⊢; omega)
      rw [show ((0 : Nat) : Int) = 0 from rfl] at e
      rw [e]
      have e0 : rd (c :: t) 0 = c := rfl
      rw [e0]
      simp only [List.drop_zero, List.all_cons, mayP]
      simp at h24
      cases hL : letB c
      · simp
      · have : okB c = true := by simp [okB, hL]
        simp [this]
        omega
def Vd (r : Int) : Prop := (0 ≤ r ∧ r < 55296) ∨ (57343 < r ∧ r ≤ 1114111)
theorem decodeN_valid (n b0 b1 b2 b3 : Nat) (h0 : b0 < 256) : Vd ((Lib.decodeN n b0 b1 b2 b3).1 : Int) := by
  unfold Lib.decodeN Vd
  repeat' split
  all_goals simp only
  all_goals omega
theorem decode_valid (s : ByteArray) (p : Nat) : Vd ((Utf8.decode s p).1 : Int) := by
  rw [Lib.decode_at]
  exact decodeN_valid _ _ _ _ _ (s.get! p).toNat_lt
theorem runes_valid (s : ByteArray) : ∀ x ∈ runes s, Vd x := by
  have : ∀ f pos, ∀ p ∈ rnFrom s f pos, Vd (p.2 : Int) := by
    intro f
    induction f with
    | zero => intro pos p hp; simp [rnFrom] at hp
    | succ f ih =>
      intro pos p hp
      unfold rnFrom at hp
      split at hp
      · rcases List.mem_cons.1 hp with rfl | hp
        · exact decode_valid s pos
        · exact ih _ _ hp
      · simp at hp
  intro x hx
  unfold runes at hx
  obtain ⟨p, hp, rfl⟩ := List.mem_map.1 hx
  exact this _ _ p hp
theorem foldI_val (c : Int) : foldI c = (if (65 ≤ c ∧ c ≤ 90) ∨ (192 ≤ c ∧ c ≤ 222 ∧ c ≠ 215) ∨ (913 ≤ c ∧ c ≤ 937 ∧ c ≠ 930) ∨ (1040 ≤ c ∧ c ≤ 1071) then c + 32 else if 1024 ≤ c ∧ c ≤ 1039 then c + 80 else if c = 962 then 963 else c) := by
  unfold foldI
  simp only [letB_iff]
  repeat' split
  all_goals first | rfl | omega
theorem foldI_valid (c : Int) (h : Vd c) : Vd (foldI c) := by
  rw [foldI_val]
  unfold Vd at *
  repeat' split
  all_goals omega
theorem foldI_idem (c : Int) : foldI (foldI c) = foldI c := by
  rw [foldI_val (foldI c), foldI_val c]
  repeat' split
  all_goals omega
theorem letB_fold (c : Int) : letB (foldI c) = letB c := by
  rw [Bool.eq_iff_iff, letB_iff, letB_iff, foldI_val]
  repeat' split
  all_goals omega
theorem digB_fold (c : Int) : digB (foldI c) = digB c := by
  rw [Bool.eq_iff_iff]
  simp only [digB, decide_eq_true_eq]
  rw [foldI_val]
  repeat' split
  all_goals omega
theorem eq_fold (c d : Int) (h : d = 45 ∨ d = 46) : (foldI c = d ↔ c = d) := by
  rw [foldI_val]
  repeat' split
  all_goals omega
theorem byte_of (x : Int) (h0 : 0 ≤ x) (h1 : x < 256) : ((x.toNat.toUInt8).toNat : Int) = x := by
  simp
  omega
theorem dn_one (n b0 b1 b2 b3 : Nat) (h : b0 < 128) : Lib.decodeN n b0 b1 b2 b3 = (b0, 1) := by simp [Lib.decodeN, h]
theorem dn_two (n b0 b1 b2 b3 v : Nat) (hn : 1 < n) (h0 : b0 = 192 + v / 64) (h1 : b1 = 128 + v % 64) (h : 128 ≤ v) (hv : v < 2048) : Lib.decodeN n b0 b1 b2 b3 = (v, 2) := by
  unfold Lib.decodeN
  rw [if_neg (by omega), if_pos (by omega), if_pos (by omega), show b0 % 32 * 64 + b1 % 64 = v by omega]
theorem dn_three (n b0 b1 b2 b3 v : Nat) (hn : 2 < n) (h0 : b0 = 224 + v / 4096) (h1 : b1 = 128 + v / 64 % 64) (h2 : b2 = 128 + v % 64) (h : 2048 ≤ v) (hv : v < 65536) (hs : v < 55296 ∨ 57343 < v) : Lib.decodeN n b0 b1 b2 b3 = (v, 3) := by
  have e : b0 % 16 * 4096 + b1 % 64 * 64 + b2 % 64 = v := by omega
  unfold Lib.decodeN
  rw [if_neg (by omega), if_neg (by omega), if_pos (by omega), e, if_pos (by omega)]
theorem dn_four (n b0 b1 b2 b3 v : Nat) (hn : 3 < n) (h0 : b0 = 240 + v / 262144) (h1 : b1 = 128 + v / 4096 % 64) (h2 : b2 = 128 + v / 64 % 64) (h3 : b3 = 128 + v % 64) (h : 65536 ≤ v) (hv : v ≤ 1114111) : Lib.decodeN n b0 b1 b2 b3 = (v, 4) := by
  have e : b0 % 8 * 262144 + b1 % 64 * 4096 + b2 % 64 * 64 + b3 % 64 = v := by omega
  unfold Lib.decodeN
  rw [if_neg (by omega), if_neg (by omega), if_neg (by omega), if_pos (by omega), e, if_pos (by omega)]
theorem decode_encode (v : Nat) (h : Vd (v : Int)) (rest : List UInt8) : Lib.decodeL (Lib.encodeRune (v : Int) ++ rest) = (v, (Lib.encodeRune (v : Int)).length) := by
  unfold Vd at h
  rw [Lib.decodeL_N]
  unfold Lib.encodeRune
  have c : v < 128 ∨ (128 ≤ v ∧ v < 2048) ∨ (2048 ≤ v ∧ v < 65536 ∧ (v < 55296 ∨ 57343 < v)) ∨ (65536 ≤ v ∧ v ≤ 1114111) := by omega
  rcases c with c | c | c | c
  · rw [Lib.encodeRuneZ_one (by omega) (by omega)]
    have k0 := byte_of (v : Int) (by omega) (by omega)
    rw [dn_one _ _ _ _ _ (by simp [List.getD]; omega)]
    simp [List.getD]
    omega
  · rw [Lib.encodeRuneZ_two (by omega) (by omega)]
    rw [dn_two _ _ _ _ _ v (by simp) (by simp [List.getD]; omega) (by simp [List.getD]; omega) (by omega) (by omega)]
    simp
  · rw [Lib.encodeRuneZ_three (by omega)]
    rw [dn_three _ _ _ _ _ v (by simp) (by simp [List.getD]; omega) (by simp [List.getD]; omega) (by simp [List.getD]; omega) (by omega) (by omega) c.2.2]
    simp
  · rw [Lib.encodeRuneZ_four (by omega) (by omega)]
    rw [dn_four _ _ _ _ _ v (by simp) (by simp [List.getD]; omega) (by simp [List.getD]; omega) (by simp [List.getD]; omega) (by simp [List.getD]; omega) (by omega) (by omega)]
    simp
theorem runes_encode : ∀ l : List Int, (∀ x ∈ l, Vd x) → runes ⟨(l.flatMap Lib.encodeRune).toArray⟩ = l
  | [], _ => rfl
  | x :: t, h => by
    have hx := h x (List.mem_cons_self ..)
    obtain ⟨v, rfl⟩ : ∃ v : Nat, x = (v : Int) := ⟨x.toNat, by unfold Vd at hx; omega⟩
    have hd := decode_encode v hx (t.flatMap Lib.encodeRune)
    unfold Lib.decodeL at hd
    have hl : 1 ≤ (Lib.encodeRune (v : Int)).length := by
      have := (Lib.runeCells_le (v : Int)).1
      rwa [Lib.runeCells_length] at this
    rw [List.flatMap_cons, runes_cons _ (by
      show 0 < (Lib.encodeRune (v : Int) ++ t.flatMap Lib.encodeRune).toArray.size
      simp; omega), hd]
    have e : (ByteArray.mk (Lib.encodeRune (v : Int) ++ t.flatMap Lib.encodeRune).toArray).extract (Lib.encodeRune (v : Int)).length (ByteArray.mk (Lib.encodeRune (v : Int) ++ t.flatMap Lib.encodeRune).toArray).size = ⟨(t.flatMap Lib.encodeRune).toArray⟩ := by
      apply ByteArray.ext
      apply Array.ext'
      simp
      apply List.take_of_length_le
      show _ ≤ (Lib.encodeRune (v : Int) ++ t.flatMap Lib.encodeRune).toArray.size - _
      simp
    dsimp only
    rw [e, runes_encode t (fun y hy => h y (List.mem_cons_of_mem _ hy))]
/-- A key's runes. -/
def keys (s : ByteArray) : List Int := (runes s).map foldI
def keyB (s : ByteArray) : ByteArray := ⟨(keyL s).toArray⟩
theorem keyL_eq (s : ByteArray) : keyL s = (keys s).flatMap Lib.encodeRune := by
  unfold keyL keys runes
  rw [List.map_map, List.flatMap_map]
  rfl
theorem keys_valid (s : ByteArray) : ∀ x ∈ keys s, Vd x := by
  intro x hx
  obtain ⟨y, hy, rfl⟩ := List.mem_map.1 hx
  exact foldI_valid y (runes_valid s y hy)
theorem runes_key (s : ByteArray) : runes (keyB s) = keys s := by
  unfold keyB
  rw [keyL_eq]
  exact runes_encode _ (keys_valid s)
theorem keys_key (s : ByteArray) : keys (keyB s) = keys s := by
  unfold keys
  rw [runes_key, keys, List.map_map]
  apply List.map_congr_left
  intro c _
  exact foldI_idem c
theorem key_key (s : ByteArray) : keyB (keyB s) = keyB s := by
  rw [show keyB (keyB s) = ⟨(keyL (keyB s)).toArray⟩ from rfl, keyL_eq, keys_key, ← keyL_eq]
  rfl
theorem key_inj (a b : ByteArray) : keyB a = keyB b ↔ keys a = keys b := by
  constructor
  · intro h
    rw [← runes_key, ← runes_key, h]
  · intro h
    unfold keyB
    rw [keyL_eq, keyL_eq, h]
theorem Key_eq (s : ByteArray) (hs : s.size ≤ 35184372088832) : name_Key.f s = some (keyB s) := by
  unfold name_Key.f
  rw [if_pos hs]
  rfl
theorem key_size (s : ByteArray) : (keyB s).size ≤ 4 * s.size := by
  have : ∀ l : List Int, (l.flatMap Lib.encodeRune).length ≤ 4 * l.length := by
    intro l
    induction l with
    | nil => simp
    | cons x t ih =>
      have := (Lib.runeCells_le x).2
      rw [Lib.runeCells_length] at this
      simp only [List.flatMap_cons, List.length_append, List.length_cons]
      omega
  have h2 := this (keys s)
  have h3 := runes_len s
  rw [← keyL_eq] at h2
  unfold keys at h2
  rw [List.length_map] at h2
  show (keyL s).toArray.size ≤ _
  rw [List.size_toArray]
  omega
theorem toList_inj (a b : ByteArray) : a.toList = b.toList ↔ a = b := by
  rw [Lib.toList_data, Lib.toList_data]
  exact ⟨fun h => ByteArray.ext (Array.toList_inj.mp h), fun h => by rw [h]⟩
theorem wrap_s (i n : Nat) (h : i < n) (hn : n < 9223372036854775807) : wrap64 ((i : Int) + 1) = ((i + 1 : Nat) : Int) := by unfold wrap64; omega
theorem rdN (l : List Int) (i : Nat) (h : i < l.length) : rd l (i : Int) = l[i] := by simp [rd, List.getD, h]
theorem vd_range (x : Int) (h : Vd x) : -2147483648 ≤ x ∧ x ≤ 2147483647 := by unfold Vd at h; omega
theorem Keys_l0 : ∀ (m : Nat) (k : Nat) (p l : List Int), l.length = m → p.length + m < 9223372036854775807 → (∀ x ∈ l, Vd x) → m + 3 ≤ k → shunterref05_Keys.l0 k (p.map foldI ++ l) (p.length : Int) = some ((p ++ l).map foldI)
  | 0, k, p, l, h, hl, hv, hk => by
    obtain ⟨k, rfl⟩ : ∃ j, k = j + 1 := ⟨k - 1, by omega⟩
    obtain rfl := List.length_eq_zero_iff.1 h
    rw [shunterref05_Keys.l0, if_neg (by simp)]
    simp
  | m + 1, k, p, [], h, hl, hv, hk => by simp at h
  | m + 1, k, p, c :: t, h, hl, hv, hk => by
    obtain ⟨k, rfl⟩ : ∃ j, k = j + 3 := ⟨k - 3, by omega⟩
    have hc := vd_range c (hv c (List.mem_cons_self ..))
    have hlen : (p.map foldI ++ c :: t).length = p.length + (m + 1) := by simp at h ⊢; omega
    rw [shunterref05_Keys.l0, if_pos (by rw [hlen]; omega), if_pos (by omega), rdN _ _ (by rw [hlen]; omega)]
    have e : (p.map foldI ++ c :: t)[p.length]'(by rw [hlen]; omega) = c := by simp [List.getElem_append_right]
    rw [e, Fold_eq _ c hc.1 hc.2, Option.bind_some, Int.toNat_natCast, wrap_s _ (p.length + (m + 1)) (by omega) (by omega)]
    have e2 : (p.map foldI ++ c :: t).set p.length (foldI c) = (p ++ [c]).map foldI ++ t := by
      rw [List.set_append_right _ _ (by simp)]
      simp
    have ih := Keys_l0 m (k + 2) (p ++ [c]) t (by simpa using h) (by simp; omega) (fun x hx => hv x (List.mem_cons_of_mem _ hx)) (by omega)
    rw [e2]
    rw [show (p ++ [c]).length = p.length + 1 by simp] at ih
    rw [ih]
    simp
theorem Keys_eq (k : Nat) (s : ByteArray) (hs : s.size < 17592186044416) (hk : s.size + 10 ≤ k) : shunterref05_Keys.f k s = some (keys s) := by
  unfold shunterref05_Keys.f
  have hl := runes_len s
  rw [Runes_eq k s (by omega) hs, Option.bind_some]
  exact Keys_l0 (runes s).length k [] (runes s) rfl (by simp; omega) (runes_valid s) (by omega)
/-- How two rows stand to each other. -/
def cmpL : List Int → List Int → Int
  | [], [] => 0
  | [], _ :: _ => -1
  | _ :: _, [] => 1
  | a :: s, b :: t => if a < b then -1 else if a > b then 1 else cmpL s t
theorem Order_l0 (x y : List Int) (hx : x.length < 9223372036854775807) (hy : y.length < 9223372036854775807) : ∀ (m i k : Nat), x.length - i = m → i ≤ x.length → i ≤ y.length → (x.take i = y.take i) → 2 * m + 3 ≤ k → shunterref05_Order.l0 k x y (i : Int) = some (cmpL (x.drop i) (y.drop i))
  | 0, i, k, h, h1, h2, he, hk => by
    obtain ⟨k, rfl⟩ : ∃ j, k = j + 2 := ⟨k - 2, by omega⟩
    have e : i = x.length := by omega
    rw [shunterref05_Order.l0, if_neg (by omega), shunterref05_Order.j1, if_neg (by decide), e, List.drop_length]
    by_cases hy2 : (x.length : Int) < (y.length : Int)
    · rw [if_pos hy2]
      rw [List.drop_eq_getElem_cons (show x.length < y.length by omega)]
      rfl
    · rw [if_neg hy2, if_neg (by omega), List.drop_of_length_le (by omega)]
      rfl
  | m + 1, i, k, h, h1, h2, he, hk => by
    obtain ⟨k, rfl⟩ : ∃ j, k = j + 2 := ⟨k - 2, by omega⟩
    rw [shunterref05_Order.l0, if_pos (by omega), shunterref05_Order.j1]
    by_cases hy2 : i < y.length
    · rw [decide_eq_true (by omega), if_pos rfl, if_pos (by omega), if_pos (by omega), if_pos (by omega), rdN x i (by omega), rdN y i hy2, List.drop_eq_getElem_cons (show i < x.length by omega), List.drop_eq_getElem_cons hy2, cmpL]
      by_cases c1 : x[i]'(by omega) < y[i]
      · rw [if_pos c1, if_pos c1]
      · rw [if_neg c1, if_neg c1]
        by_cases c2 : x[i]'(by omega) > y[i]
        · rw [if_pos c2, if_pos c2]
        · rw [if_neg c2, if_neg c2, wrap_s i _ (show i < x.length by omega) hx]
          exact Order_l0 x y hx hy m (i + 1) k (by omega) (by omega) (by omega) (by
            rw [List.take_succ_eq_append_getElem (show i < x.length by omega), List.take_succ_eq_append_getElem hy2, he, show x[i]'(by omega) = y[i] by omega]) (by omega)
    · rw [decide_eq_false (by omega), if_neg (by decide), if_neg (by omega), if_pos (by omega), List.drop_of_length_le (show y.length ≤ i by omega), List.drop_eq_getElem_cons (show i < x.length by omega)]
      rfl
theorem Order_eq (k : Nat) (x y : List Int) (hx : x.length < 9223372036854775807) (hy : y.length < 9223372036854775807) (hk : 2 * x.length + 3 ≤ k) : shunterref05_Order.f k x y = some (cmpL x y) :=
  Order_l0 x y hx hy x.length 0 k rfl (by omega) (by omega) rfl hk
/-- What comes ahead of what. -/
def lessP (a b : ByteArray) : Bool := decide (cmpL (keys a) (keys b) < 0) || (cmpL (keys a) (keys b) == 0 && Op.bytesLess a.toList b.toList)
theorem keys_len (s : ByteArray) : (keys s).length ≤ s.size := by
  unfold keys
  rw [List.length_map]
  exact runes_len s
theorem cmpL_zero : ∀ x y : List Int, cmpL x y = 0 ↔ x = y
  | [], [] => by simp [cmpL]
  | [], _ :: _ => by simp [cmpL]
  | _ :: _, [] => by simp [cmpL]
  | a :: s, b :: t => by
    have ih := cmpL_zero s t
    unfold cmpL
    split
    · simp; omega
    · split
      · simp; omega
      · rw [ih]
        simp
        omega
end Go.Proofs.Ytpdjiiikfjjfjaa.XI
