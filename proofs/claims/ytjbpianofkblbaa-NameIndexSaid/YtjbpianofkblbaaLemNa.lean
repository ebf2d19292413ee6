import Derived.Test.YtjbpianofkblbaaXNx
import Derived.Lib.DecodeN
import Derived.Lib.MapLaws
import Derived.Lib.TrimUEq
import Derived.Stop.FmtQuoteTie
namespace Go.Proofs.Ytjbpianofkblbaa.LemN
open Go.RowKit Go.Proofs.Ytjbpianofkblbaa.XN Go.Proofs.YtjbpianofkblbaaW.PrintWords Go.Proofs.YtjbpianofkblbaaW.PrintLast
set_option linter.unusedVariables false
set_option linter.unusedSimpArgs false
theorem lives_eq : shunterlaw05_lives.f = some true := by kernel_rfl
theorem bt_get (s : ByteArray) (i : Nat) : bt s (i : Int) = (((s.get! i).toNat : Nat) : Int) := by
  unfold bt
  simp only [Int.toNat_natCast]
  split
  · rename_i h
    rw [show s.get! i = s[i] from by simp [ByteArray.get!, getElem!_pos, h]; rfl]
  · rename_i h
    rw [show s.get! i = 0 from by
      have hh : s.data.size ≤ i := by have := (show s.size = s.data.size from rfl); omega
      obtain ⟨bs⟩ := s
      show bs[i]! = 0
      simp at hh
      simp [hh]; rfl]
    rfl
theorem more_eq (c : Int) : shunterref05_more.f c = some (decide (128 ≤ c ∧ c < 192)) := by
  unfold shunterref05_more.f
  split <;> simp <;> omega
theorem w64 (x : Int) (h : -1000000000 ≤ x) (h1 : x ≤ 1000000000) : wrap64 x = x := by unfold wrap64; omega
def B (n : Int) : Prop := 0 ≤ n ∧ n < 256
theorem E2 (b0 b1 : Int) (h0 : B b0) (h1 : B b1) : wrap64 (wrap64 (wrap64 (64 * wrap64 (b0 - 192)) + b1) - 128) = 64 * (b0 - 192) + b1 - 128 := by
  obtain ⟨_, _⟩ := h0; obtain ⟨_, _⟩ := h1
  rw [w64 (b0 - 192) (by omega) (by omega), w64 (64 * (b0 - 192)) (by omega) (by omega), w64 (64 * (b0 - 192) + b1) (by omega) (by omega), w64 (64 * (b0 - 192) + b1 - 128) (by omega) (by omega)]
theorem E3 (b0 b1 b2 : Int) (h0 : B b0) (h1 : B b1) (h2 : B b2) : wrap64 (wrap64 (wrap64 (wrap64 (4096 * wrap64 (b0 - 224)) + wrap64 (64 * wrap64 (b1 - 128))) + b2) - 128) = 4096 * (b0 - 224) + 64 * (b1 - 128) + b2 - 128 := by
  obtain ⟨_, _⟩ := h0; obtain ⟨_, _⟩ := h1; obtain ⟨_, _⟩ := h2
  rw [w64 (b0 - 224) (by omega) (by omega), w64 (4096 * (b0 - 224)) (by omega) (by omega), w64 (b1 - 128) (by omega) (by omega), w64 (64 * (b1 - 128)) (by omega) (by omega), w64 (4096 * (b0 - 224) + 64 * (b1 - 128)) (by omega) (by omega), w64 (4096 * (b0 - 224) + 64 * (b1 - 128) + b2) (by omega) (by omega), w64 (4096 * (b0 - 224) + 64 * (b1 - 128) + b2 - 128) (by omega) (by omega)]
theorem E4 (b0 b1 b2 b3 : Int) (h0 : B b0) (h1 : B b1) (h2 : B b2) (h3 : B b3) : wrap64 (wrap64 (wrap64 (wrap64 (wrap64 (262144 * wrap64 (b0 - 240)) + wrap64 (4096 * wrap64 (b1 - 128))) + wrap64 (64 * wrap64 (b2 - 128))) + b3) - 128) = 262144 * (b0 - 240) + 4096 * (b1 - 128) + 64 * (b2 - 128) + b3 - 128 := by
  obtain ⟨_, _⟩ := h0; obtain ⟨_, _⟩ := h1; obtain ⟨_, _⟩ := h2; obtain ⟨_, _⟩ := h3
  rw [w64 (b0 - 240) (by omega) (by omega), w64 (262144 * (b0 - 240)) (by omega) (by omega), w64 (b1 - 128) (by omega) (by omega), w64 (4096 * (b1 - 128)) (by omega) (by omega), w64 (b2 - 128) (by omega) (by omega), w64 (64 * (b2 - 128)) (by omega) (by omega), w64 (262144 * (b0 - 240) + 4096 * (b1 - 128)) (by omega) (by omega), w64 (262144 * (b0 - 240) + 4096 * (b1 - 128) + 64 * (b2 - 128)) (by omega) (by omega), w64 (262144 * (b0 - 240) + 4096 * (b1 - 128) + 64 * (b2 - 128) + b3) (by omega) (by omega), w64 (262144 * (b0 - 240) + 4096 * (b1 - 128) + 64 * (b2 - 128) + b3 - 128) (by omega) (by omega)]
section
variable (s : ByteArray) (b0 b1 b2 b3 : Int)
theorem j3_false (m : Nat) : shunterref05_First.j3 (m + 1) s b0 false = some (65533, 1) := by simp [shunterref05_First.j3]
theorem j3_true (m : Nat) (h0 : B b0) (h1 : B b1) (h2 : B b2) (h3 : B b3) (e1 : bt s 1 = b1) (e2 : bt s 2 = b2) (e3 : bt s 3 = b3) (hs : (3 : Int) < s.size) (v : Int) (hv : v = 262144 * (b0 - 240) + 4096 * (b1 - 128) + 64 * (b2 - 128) + b3 - 128) :
    shunterref05_First.j3 (m + 1) s b0 true = some (if 65536 ≤ v ∧ v ≤ 1114111 then (v, 4) else (65533, 1)) := by
  simp only [shunterref05_First.j3, e1, e2, e3, w64 b1 (by have := h1.1; omega) (by have := h1.2; omega), w64 b2 (by have := h2.1; omega) (by have := h2.2; omega), w64 b3 (by have := h3.1; omega) (by have := h3.2; omega), E4 b0 b1 b2 b3 h0 h1 h2 h3, ← hv]
  rw [if_pos trivial, if_pos (by omega), if_pos (by omega), if_pos hs]
  by_cases c1 : v ≥ 65536
  · rw [if_pos c1]
    by_cases c2 : v ≤ 1114111
    · rw [if_pos c2, if_pos ⟨c1, c2⟩]
    · rw [if_neg c2, if_neg (fun h => c2 h.2)]
  · rw [if_neg c1, if_neg (fun h => c1 h.1)]
/-- Four bytes, or none. -/
def four (n : Nat) : Int × Int := if 240 ≤ b0 ∧ b0 < 245 ∧ 4 ≤ n ∧ (128 ≤ b1 ∧ b1 < 192) ∧ (128 ≤ b2 ∧ b2 < 192) ∧ (128 ≤ b3 ∧ b3 < 192) ∧ 65536 ≤ 262144 * (b0 - 240) + 4096 * (b1 - 128) + 64 * (b2 - 128) + b3 - 128 ∧ 262144 * (b0 - 240) + 4096 * (b1 - 128) + 64 * (b2 - 128) + b3 - 128 ≤ 1114111 then (262144 * (b0 - 240) + 4096 * (b1 - 128) + 64 * (b2 - 128) + b3 - 128, 4) else (65533, 1)
theorem j2_eq (m : Nat) (h0 : B b0) (h1 : B b1) (h2 : B b2) (h3 : B b3) (e1 : bt s 1 = b1) (e2 : bt s 2 = b2) (e3 : bt s 3 = b3) :
    shunterref05_First.j2 (m + 2) s b0 = some (four b0 b1 b2 b3 s.size) := by
  simp only [shunterref05_First.j2, more_eq, e1, e2, e3, Option.bind_some, decide_eq_true_eq, j3_false]
  unfold four
  by_cases c1 : b0 ≥ 240
  · by_cases c2 : b0 < 245
    · by_cases c3 : (s.size : Int) ≥ 4
      · rw [if_pos c1, if_pos c2, if_pos c3, if_pos (by omega)]
        by_cases c4 : 128 ≤ b1 ∧ b1 < 192
        · rw [if_pos c4, if_pos (by omega)]
          by_cases c5 : 128 ≤ b2 ∧ b2 < 192
          · rw [if_pos c5, if_pos (by omega)]
            by_cases c6 : 128 ≤ b3 ∧ b3 < 192
            · rw [decide_eq_true c6, j3_true s b0 b1 b2 b3 m h0 h1 h2 h3 e1 e2 e3 (by omega) _ rfl]
              simp only [c4, c5, c6, c2, true_and, and_true, show 240 ≤ b0 from c1, show 4 ≤ s.size by omega]
            · rw [decide_eq_false c6, j3_false, if_neg (fun h => c6 h.2.2.2.2.2.1)]
          · rw [if_neg c5, if_neg (fun h => c5 h.2.2.2.2.1)]
        · rw [if_neg c4, if_neg (fun h => c4 h.2.2.2.1)]
      · rw [if_pos c1, if_pos c2, if_neg c3, if_neg (fun h => c3 (by omega))]
    · rw [if_pos c1, if_neg c2, if_neg (fun h => c2 h.2.1)]
  · rw [if_neg c1, if_neg (fun h => c1 h.1)]
/-- Three bytes, or what follows. -/
def three (n : Nat) : Int × Int := if 224 ≤ b0 ∧ b0 < 240 ∧ 3 ≤ n ∧ (128 ≤ b1 ∧ b1 < 192) ∧ (128 ≤ b2 ∧ b2 < 192) ∧ 2048 ≤ 4096 * (b0 - 224) + 64 * (b1 - 128) + b2 - 128 ∧ (4096 * (b0 - 224) + 64 * (b1 - 128) + b2 - 128 < 55296 ∨ 4096 * (b0 - 224) + 64 * (b1 - 128) + b2 - 128 > 57343) then (4096 * (b0 - 224) + 64 * (b1 - 128) + b2 - 128, 3) else four b0 b1 b2 b3 n
theorem j1_false (m : Nat) (h0 : B b0) (h1 : B b1) (h2 : B b2) (h3 : B b3) (e1 : bt s 1 = b1) (e2 : bt s 2 = b2) (e3 : bt s 3 = b3) :
    shunterref05_First.j1 (m + 3) s b0 false = some (four b0 b1 b2 b3 s.size) := by
  simp only [shunterref05_First.j1, j2_eq s b0 b1 b2 b3 m h0 h1 h2 h3 e1 e2 e3]
  rfl
theorem j1_true (m : Nat) (h0 : B b0) (h1 : B b1) (h2 : B b2) (h3 : B b3) (e1 : bt s 1 = b1) (e2 : bt s 2 = b2) (e3 : bt s 3 = b3) (hs : (2 : Int) < s.size) (v : Int) (hv : v = 4096 * (b0 - 224) + 64 * (b1 - 128) + b2 - 128) :
    shunterref05_First.j1 (m + 3) s b0 true = some (if 2048 ≤ v ∧ (v < 55296 ∨ v > 57343) then (v, 3) else four b0 b1 b2 b3 s.size) := by
  simp only [shunterref05_First.j1, e1, e2, e3, w64 b1 (by have := h1.1; omega) (by have := h1.2; omega), w64 b2 (by have := h2.1; omega) (by have := h2.2; omega), E3 b0 b1 b2 h0 h1 h2, ← hv, j2_eq s b0 b1 b2 b3 m h0 h1 h2 h3 e1 e2 e3]
  rw [if_pos trivial, if_pos (by omega), if_pos hs]
  by_cases c1 : v ≥ 2048
  · rw [if_pos c1]
    by_cases c2 : v < 55296
    · rw [if_pos c2, if_pos ⟨c1, Or.inl c2⟩]
    · rw [if_neg c2]
      by_cases c3 : v > 57343
      · rw [if_pos c3, if_pos ⟨c1, Or.inr c3⟩]
      · rw [if_neg c3, if_neg (fun h => by omega)]
  · rw [if_neg c1, if_neg (fun h => c1 h.1)]
theorem j0_false (m : Nat) (h0 : B b0) (h1 : B b1) (h2 : B b2) (h3 : B b3) (e1 : bt s 1 = b1) (e2 : bt s 2 = b2) (e3 : bt s 3 = b3) :
    shunterref05_First.j0 (m + 4) s b0 false = some (three b0 b1 b2 b3 s.size) := by
  simp only [shunterref05_First.j0, more_eq, e1, e2, Option.bind_some, decide_eq_true_eq, j1_false s b0 b1 b2 b3 m h0 h1 h2 h3 e1 e2 e3]
  rw [if_neg (by decide)]
  unfold three
  by_cases c1 : b0 ≥ 224
  · by_cases c2 : b0 < 240
    · by_cases c3 : (s.size : Int) ≥ 3
      · rw [if_pos c1, if_pos c2, if_pos c3, if_pos (by omega)]
        by_cases c4 : 128 ≤ b1 ∧ b1 < 192
        · rw [if_pos c4, if_pos (by omega)]
          by_cases c5 : 128 ≤ b2 ∧ b2 < 192
          · rw [decide_eq_true c5, j1_true s b0 b1 b2 b3 m h0 h1 h2 h3 e1 e2 e3 (by omega) _ rfl]
            simp only [c4, c5, c2, true_and, and_true, show 224 ≤ b0 from c1, show 3 ≤ s.size by omega]
          · rw [decide_eq_false c5, j1_false s b0 b1 b2 b3 m h0 h1 h2 h3 e1 e2 e3, if_neg (fun h => c5 h.2.2.2.2.1)]
        · rw [if_neg c4, if_neg (fun h => c4 h.2.2.2.1)]
      · rw [if_pos c1, if_pos c2, if_neg c3, if_neg (fun h => c3 (by omega))]
    · rw [if_pos c1, if_neg c2, if_neg (fun h => c2 h.2.1)]
  · rw [if_neg c1, if_neg (fun h => c1 h.1)]
theorem j0_true (m : Nat) (h0 : B b0) (h1 : B b1) (e1 : bt s 1 = b1) (hs : (1 : Int) < s.size) :
    shunterref05_First.j0 (m + 1) s b0 true = some (64 * (b0 - 192) + b1 - 128, 2) := by
  simp only [shunterref05_First.j0, e1, w64 b1 (by have := h1.1; omega) (by have := h1.2; omega), E2 b0 b1 h0 h1]
  rw [if_pos trivial, if_pos hs]
/-- All of it. -/
def firstP (n : Nat) : Int × Int := if b0 < 128 then (b0, 1) else if 194 ≤ b0 ∧ b0 < 224 ∧ 2 ≤ n ∧ (128 ≤ b1 ∧ b1 < 192) then (64 * (b0 - 192) + b1 - 128, 2) else three b0 b1 b2 b3 n
theorem First_p (m : Nat) (h : 0 < s.size) (h0 : B b0) (h1 : B b1) (h2 : B b2) (h3 : B b3) (e0 : bt s 0 = b0) (e1 : bt s 1 = b1) (e2 : bt s 2 = b2) (e3 : bt s 3 = b3) : shunterref05_First.f (m + 4) s = some (firstP b0 b1 b2 b3 s.size) := by
  unfold shunterref05_First.f
  simp only [e0, e1, w64 b0 (by have := h0.1; omega) (by have := h0.2; omega), more_eq, Option.bind_some, j0_false s b0 b1 b2 b3 m h0 h1 h2 h3 e1 e2 e3]
  unfold firstP
  rw [if_neg (by omega), if_pos (by omega)]
  by_cases c0 : b0 < 128
  · rw [if_pos c0, if_pos c0]
  rw [if_neg c0, if_neg c0]
  by_cases c1 : b0 ≥ 194
  · by_cases c2 : b0 < 224
    · by_cases c3 : (s.size : Int) ≥ 2
      · rw [if_pos c1, if_pos c2, if_pos c3, if_pos (by omega)]
        by_cases c4 : 128 ≤ b1 ∧ b1 < 192
        · rw [decide_eq_true c4, j0_true s b0 b1 (m + 3) h0 h1 e1 (by omega), if_pos ⟨c1, c2, by omega, c4⟩]
        · rw [decide_eq_false c4, j0_false s b0 b1 b2 b3 m h0 h1 h2 h3 e1 e2 e3, if_neg (fun h => c4 h.2.2.2)]
      · rw [if_pos c1, if_pos c2, if_neg c3, if_neg (fun h => c3 (by omega))]
    · rw [if_pos c1, if_neg c2, if_neg (fun h => c2 h.2.1)]
  · rw [if_neg c1, if_neg (fun h => c1 h.1)]
end
theorem firstP_eq (n b0 b1 b2 b3 : Nat) (h0 : b0 < 256) (h1 : b1 < 256) (h2 : b2 < 256) (h3 : b3 < 256) : firstP b0 b1 b2 b3 n = (((Lib.decodeN n b0 b1 b2 b3).1 : Int), ((Lib.decodeN n b0 b1 b2 b3).2 : Int)) := by
  unfold firstP three four Lib.decodeN
  by_cases c0 : b0 < 128
  · rw [if_pos (by omega), if_pos c0]
    rfl
  rw [if_neg (by omega), if_neg c0]
  repeat' split
  all_goals first | (exfalso; omega) | (simp only [Prod.mk.injEq]; omega) | rfl
theorem First_eq (k : Nat) (s : ByteArray) (h : 0 < s.size) : shunterref05_First.f (k + 4) s = some (((Utf8.decode s 0).1 : Int), ((Utf8.decode s 0).2 : Int)) := by
  have hb0 := (s.get! 0).toNat_lt
  have hb1 := (s.get! 1).toNat_lt
  have hb2 := (s.get! 2).toNat_lt
  have hb3 := (s.get! 3).toNat_lt
  rw [Lib.decode_at, First_p s _ _ _ _ k h ⟨by omega, by omega⟩ ⟨by omega, by omega⟩ ⟨by omega, by omega⟩ ⟨by omega, by omega⟩ (bt_get s 0) (bt_get s 1) (bt_get s 2) (bt_get s 3), firstP_eq _ _ _ _ _ hb0 hb1 hb2 hb3]
  rfl
end Go.Proofs.Ytjbpianofkblbaa.LemN
