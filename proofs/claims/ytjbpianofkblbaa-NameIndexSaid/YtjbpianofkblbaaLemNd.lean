import Derived.Test.YtjbpianofkblbaaLemNb
import Derived.Lib.Strings
namespace Go.Proofs.Ytjbpianofkblbaa.LemN
open Go.RowKit Go.Proofs.Ytjbpianofkblbaa.XN Go.Proofs.YtjbpianofkblbaaW.PrintWords Go.Proofs.YtjbpianofkblbaaW.PrintLast
set_option linter.unusedVariables false
set_option linter.unusedSimpArgs false
def Vd (r : Int) : Prop := (0 ≤ r ∧ r < 55296) ∨ (57343 < r ∧ r ≤ 1114111)
theorem decodeN_valid (n b0 b1 b2 b3 : Nat) (h0 : b0 < 256) : Vd ((Lib.decodeN n b0 b1 b2 b3).1 : Int) := by
  unfold Lib.decodeN Vd
  repeat' split
  all_goals simp only
  all_goals omega
theorem decode_valid (s : ByteArray) (p : Nat) : Vd ((Utf8.decode s p).1 : Int) := by
  rw [Lib.decode_at]
  exact decodeN_valid _ _ _ _ _ (s.get! p).toNat_lt
theorem runes_valid (s : ByteArray) : ∀ x ∈ runes s, Vd x := by
  have : ∀ f pos, ∀ p ∈ rnFrom s f pos, Vd (p.2 : Int) := by
    intro f
    induction f with
    | zero => intro pos p hp; simp [rnFrom] at hp
    | succ f ih =>
      intro pos p hp
      unfold rnFrom at hp
      split at hp
      · rcases List.mem_cons.1 hp with rfl | hp
        · exact decode_valid s pos
        · exact ih _ _ hp
      · simp at hp
  intro x hx
  unfold runes at hx
  obtain ⟨p, hp, rfl⟩ := List.mem_map.1 hx
  exact this _ _ p hp
theorem foldI_val (c : Int) : foldI c = (if (65 ≤ c ∧ c ≤ 90) ∨ (192 ≤ c ∧ c ≤ 222 ∧ c ≠ 215) ∨ (913 ≤ c ∧ c ≤ 937 ∧ c ≠ 930) ∨ (1040 ≤ c ∧ c ≤ 1071) then c + 32 else if 1024 ≤ c ∧ c ≤ 1039 then c + 80 else if c = 962 then 963 else c) := by
  unfold foldI
  simp only [letB_iff]
  repeat' split
  all_goals first | rfl | omega
theorem foldI_valid (c : Int) (h : Vd c) : Vd (foldI c) := by
  rw [foldI_val]
  unfold Vd at *
  repeat' split
  all_goals omega
theorem foldI_idem (c : Int) : foldI (foldI c) = foldI c := by
  rw [foldI_val (foldI c), foldI_val c]
  repeat' split
  all_goals omega
theorem letB_fold (c : Int) : letB (foldI c) = letB c := by
  rw [Bool.eq_iff_iff, letB_iff, letB_iff, foldI_val]
  repeat' split
  all_goals omega
theorem digB_fold (c : Int) : digB (foldI c) = digB c := by
  rw [Bool.eq_iff_iff]
  simp only [digB, decide_eq_true_eq]
  rw [foldI_val]
  repeat' split
  all_goals omega
theorem eq_fold (c d : Int) (h : d = 45 ∨ d = 46) : (foldI c = d ↔ c = d) := by
  rw [foldI_val]
  repeat' split
  all_goals omega
theorem byte_of (x : Int) (h0 : 0 ≤ x) (h1 : x < 256) : ((x.toNat.toUInt8).toNat : Int) = x := by
  simp
  omega
theorem dn_one (n b0 b1 b2 b3 : Nat) (h : b0 < 128) : Lib.decodeN n b0 b1 b2 b3 = (b0, 1) := by simp [Lib.decodeN, h]
theorem dn_two (n b0 b1 b2 b3 v : Nat) (hn : 1 < n) (h0 : b0 = 192 + v / 64) (h1 : b1 = 128 + v % 64) (h : 128 ≤ v) (hv : v < 2048) : Lib.decodeN n b0 b1 b2 b3 = (v, 2) := by
  unfold Lib.decodeN
  rw [if_neg (by omega), if_pos (by omega), if_pos (by omega), show b0 % 32 * 64 + b1 % 64 = v by omega]
theorem dn_three (n b0 b1 b2 b3 v : Nat) (hn : 2 < n) (h0 : b0 = 224 + v / 4096) (h1 : b1 = 128 + v / 64 % 64) (h2 : b2 = 128 + v % 64) (h : 2048 ≤ v) (hv : v < 65536) (hs : v < 55296 ∨ 57343 < v) : Lib.decodeN n b0 b1 b2 b3 = (v, 3) := by
  have e : b0 % 16 * 4096 + b1 % 64 * 64 + b2 % 64 = v := by omega
  unfold Lib.decodeN
  rw [if_neg (by omega), if_neg (by omega), if_pos (by omega), e, if_pos (by omega)]
theorem dn_four (n b0 b1 b2 b3 v : Nat) (hn : 3 < n) (h0 : b0 = 240 + v / 262144) (h1 : b1 = 128 + v / 4096 % 64) (h2 : b2 = 128 + v / 64 % 64) (h3 : b3 = 128 + v % 64) (h : 65536 ≤ v) (hv : v ≤ 1114111) : Lib.decodeN n b0 b1 b2 b3 = (v, 4) := by
  have e : b0 % 8 * 262144 + b1 % 64 * 4096 + b2 % 64 * 64 + b3 % 64 = v := by omega
  unfold Lib.decodeN
  rw [if_neg (by omega), if_neg (by omega), if_neg (by omega), if_pos (by omega), e, if_pos (by omega)]
theorem decode_encode (v : Nat) (h : Vd (v : Int)) (rest : List UInt8) : Lib.decodeL (Lib.encodeRune (v : Int) ++ rest) = (v, (Lib.encodeRune (v : Int)).length) := by
  unfold Vd at h
  rw [Lib.decodeL_N]
  unfold Lib.encodeRune
  have c : v < 128 ∨ (128 ≤ v ∧ v < 2048) ∨ (2048 ≤ v ∧ v < 65536 ∧ (v < 55296 ∨ 57343 < v)) ∨ (65536 ≤ v ∧ v ≤ 1114111) := by omega
  rcases c with c | c | c | c
  · rw [Lib.encodeRuneZ_one (by omega) (by omega)]
    have k0 := byte_of (v : Int) (by omega) (by omega)
    rw [dn_one _ _ _ _ _ (by simp [List.getD]; omega)]
    simp [List.getD]
    omega
  · rw [Lib.encodeRuneZ_two (by omega) (by omega)]
    rw [dn_two _ _ _ _ _ v (by simp) (by simp [List.getD]; omega) (by simp [List.getD]; omega) (by omega) (by omega)]
    simp
  · rw [Lib.encodeRuneZ_three (by omega)]
    rw [dn_three _ _ _ _ _ v (by simp) (by simp [List.getD]; omega) (by simp [List.getD]; omega) (by simp [List.getD]; omega) (by omega) (by omega) c.2.2]
    simp
  · rw [Lib.encodeRuneZ_four (by omega) (by omega)]
    rw [dn_four _ _ _ _ _ v (by simp) (by simp [List.getD]; omega) (by simp [List.getD]; omega) (by simp [List.getD]; omega) (by simp [List.getD]; omega) (by omega) (by omega)]
    simp
theorem runes_encode : ∀ l : List Int, (∀ x ∈ l, Vd x) → runes ⟨(l.flatMap Lib.encodeRune).toArray⟩ = l
  | [], _ => rfl
  | x :: t, h => by
    have hx := h x (List.mem_cons_self ..)
    obtain ⟨v, rfl⟩ : ∃ v : Nat, x = (v : Int) := ⟨x.toNat, by unfold Vd at hx; omega⟩
    have hd := decode_encode v hx (t.flatMap Lib.encodeRune)
    unfold Lib.decodeL at hd
    have hl : 1 ≤ (Lib.encodeRune (v : Int)).length := by
      have := (Lib.runeCells_le (v : Int)).1
      rwa [Lib.runeCells_length] at this
    rw [List.flatMap_cons, runes_cons _ (by
      show 0 < (Lib.encodeRune (v : Int) ++ t.flatMap Lib.encodeRune).toArray.size
      simp; omega), hd]
    have e : (ByteArray.mk (Lib.encodeRune (v : Int) ++ t.flatMap Lib.encodeRune).toArray).extract (Lib.encodeRune (v : Int)).length (ByteArray.mk (Lib.encodeRune (v : Int) ++ t.flatMap Lib.encodeRune).toArray).size = ⟨(t.flatMap Lib.encodeRune).toArray⟩ := by
      apply ByteArray.ext
      apply Array.ext'
      simp
      apply List.take_of_length_le
      show _ ≤ (Lib.encodeRune (v : Int) ++ t.flatMap Lib.encodeRune).toArray.size - _
      simp
    dsimp only
    rw [e, runes_encode t (fun y hy => h y (List.mem_cons_of_mem _ hy))]
/-- A key's runes. -/
def keys (s : ByteArray) : List Int := (runes s).map foldI
def keyB (s : ByteArray) : ByteArray := ⟨(keyL s).toArray⟩
theorem keyL_eq (s : ByteArray) : keyL s = (keys s).flatMap Lib.encodeRune := by
  unfold keyL keys runes
  rw [List.map_map, List.flatMap_map]
  rfl
theorem keys_valid (s : ByteArray) : ∀ x ∈ keys s, Vd x := by
  intro x hx
  obtain ⟨y, hy, rfl⟩ := List.mem_map.1 hx
  exact foldI_valid y (runes_valid s y hy)
theorem runes_key (s : ByteArray) : runes (keyB s) = keys s := by
  unfold keyB
  rw [keyL_eq]
  exact runes_encode _ (keys_valid s)
theorem keys_key (s : ByteArray) : keys (keyB s) = keys s := by
  unfold keys
  rw [runes_key, keys, List.map_map]
  apply List.map_congr_left
  intro c _
  exact foldI_idem c
theorem key_key (s : ByteArray) : keyB (keyB s) = keyB s := by
  rw [show keyB (keyB s) = ⟨(keyL (keyB s)).toArray⟩ from rfl, keyL_eq, keys_key, ← keyL_eq]
  rfl
theorem key_inj (a b : ByteArray) : keyB a = keyB b ↔ keys a = keys b := by
  constructor
  · intro h
    rw [← runes_key, ← runes_key, h]
  · intro h
    unfold keyB
    rw [keyL_eq, keyL_eq, h]
theorem Key_eq (s : ByteArray) (hs : s.size ≤ 35184372088832) : name_Key.f s = some (keyB s) := by
  unfold name_Key.f
  rw [if_pos hs]
  rfl
theorem key_size (s : ByteArray) : (keyB s).size ≤ 4 * s.size := by
  have : ∀ l : List Int, (l.flatMap Lib.encodeRune).length ≤ 4 * l.length := by
    intro l
    induction l with
    | nil => simp
    | cons x t ih =>
      have := (Lib.runeCells_le x).2
      rw [Lib.runeCells_length] at this
      simp only [List.flatMap_cons, List.length_append, List.length_cons]
      omega
  have h2 := this (keys s)
  have h3 := runes_len s
  rw [← keyL_eq] at h2
  unfold keys at h2
  rw [List.length_map] at h2
  show (keyL s).toArray.size ≤ _
  rw [List.size_toArray]
  omega
theorem toList_inj (a b : ByteArray) : a.toList = b.toList ↔ a = b := by
  rw [Lib.toList_data, Lib.toList_data]
  exact ⟨fun h => ByteArray.ext (Array.toList_inj.mp h), fun h => by rw [h]⟩
end Go.Proofs.Ytjbpianofkblbaa.LemN
