/- The Lean functions that this claim's Go functions compute, and that the machine's calls return them; laid by a program of this session (xprint.py), partly typed by hand. -/
import Derived.Test.YtjbpianofkblbaaXNx0
import Derived.Test.YtjbpianofkblbaaXNx1
import Derived.Test.YtjbpianofkblbaaXNx2
import Derived.Test.YtjbpianofkblbaaXNx4
namespace Go.Proofs.Ytjbpianofkblbaa.XN
open Go.RowKit Go.Proofs.YtjbpianofkblbaaW.PrintWords Go.Proofs.YtjbpianofkblbaaW.PrintLast Go.Proofs.YtjbpianofkblbaaW.PrintMore
attribute [local go_sem] max2_int min2_int max_two min_two max_three min_three max_four min_four   -- for this text's walks alone
set_option linter.unusedVariables false
set_option linter.unusedSimpArgs false

/-! ### name_Place: function 55 -/
-- EXT shunter/name.Place ROUNDS=0 MAKING=1 DEPS=shunter/name.Len
theorem indexB_hit (s : ByteArray) (i : Int) (h : Lib.indexByte s.data.toList 10 = i) (hi : 0 ≤ i) : i < s.size := by
  subst h
  have : ∀ l : List UInt8, Lib.indexByte l 10 < l.length ∨ Lib.indexByte l 10 = -1 := by
    intro l
    induction l with
    | nil => right; rfl
    | cons b l ih =>
      unfold Lib.indexByte
      split
      · left; rw [List.length_cons]; omega
      · split
        · right; rfl
        · rename_i h1 h2
          rcases ih with h | h
          · left; rw [List.length_cons]; omega
          · simp [h] at h2
  rcases this s.data.toList with h | h
  · simpa using h
  · omega
set_option maxHeartbeats 1000000 in
set_option maxRecDepth 100000 in
theorem lite_cut_miss (s : ByteArray) (w : World) (hi : Lib.indexByte s.data.toList 10 < 0) :
    Calls Try.prog 93 #[.string s, .string ⟨#[10]⟩] w fun e w' => e = .returned (.tuple #[.string s, .string ⟨#[]⟩, .bool false]) ∧ Drawn0 w w' := by
  have e : Lib.indexByte s.data.toList 10 = -1 := by have := Lib.indexByte_ge s.data.toList 10; omega
  go_enter Try.func93, Try.ntmps93
  go_wp2_with (go_at_call 100; refine (Try.stringslite_Index_one _ _ _).mono ?_; rintro e w' ⟨rfl, rfl⟩; rw [e])
  go_ret3
  exact ⟨rfl, 0, rfl⟩
set_option maxHeartbeats 1000000 in
set_option maxRecDepth 100000 in
theorem lite_cut_hit (s : ByteArray) (w : World) (i : Nat) (hi : Lib.indexByte s.data.toList 10 = (i : Int)) (hs : s.size < 4611686018427387904) :
    Calls Try.prog 93 #[.string s, .string ⟨#[10]⟩] w fun e w' => e = .returned (.tuple #[.string (s.extract 0 i), .string (s.extract (i + 1) s.size), .bool true]) ∧ Drawn0 w w' := by
  have h1 := indexB_hit s _ hi (by omega)
  go_enter Try.func93, Try.ntmps93
  go_wp2_with (go_at_call 100; refine (Try.stringslite_Index_one _ _ _).mono ?_; rintro e w' ⟨rfl, rfl⟩; rw [hi])
  go_region
  go_wp2
  go_ret3
  exact ⟨rfl, 1, rfl⟩
set_option maxHeartbeats 1000000 in
set_option maxRecDepth 100000 in
theorem cut_miss (s : ByteArray) (w : World) (hi : Lib.indexByte s.data.toList 10 < 0) :
    Calls Try.prog 78 #[.string s, .string ⟨#[10]⟩] w fun e w' => e = .returned (.tuple #[.string s, .string ⟨#[]⟩, .bool false]) ∧ Drawn0 w w' := by
  go_enter Try.func78, Try.ntmps78
  go_wp2_with (go_at_call 93; refine (lite_cut_miss _ _ hi).mono ?_; rintro e w' ⟨rfl, ⟨n, rfl⟩⟩)
  go_ret3
  exact ⟨rfl, ⟨_, rfl⟩⟩
set_option maxHeartbeats 1000000 in
set_option maxRecDepth 100000 in
theorem cut_hit (s : ByteArray) (w : World) (i : Nat) (hi : Lib.indexByte s.data.toList 10 = (i : Int)) (hs : s.size < 4611686018427387904) :
    Calls Try.prog 78 #[.string s, .string ⟨#[10]⟩] w fun e w' => e = .returned (.tuple #[.string (s.extract 0 i), .string (s.extract (i + 1) s.size), .bool true]) ∧ Drawn0 w w' := by
  go_enter Try.func78, Try.ntmps78
  go_wp2_with (go_at_call 93; refine (lite_cut_hit _ _ i hi hs).mono ?_; rintro e w' ⟨rfl, ⟨n, rfl⟩⟩)
  go_ret3
  exact ⟨rfl, ⟨_, rfl⟩⟩
def strSize : Value → Nat
  | .string s => s.size
  | _ => 0
/-- The lines of a text, cut one by one. -/
def placeGo : Nat → ByteArray → Int → Option (Int × Int)
  | 0, _, _ => none
  | k + 1, s, l => if Lib.indexByte s.data.toList 10 < 0 then some (l, wrap64 (((rn s).length : Int) + 1)) else placeGo k (s.extract ((Lib.indexByte s.data.toList 10).toNat + 1) s.size) (wrap64 (l + 1))
def name_Place.f (a0 : ByteArray) (a1 : Int) : Option (Int × Int) :=
  if a0.size < 4611686018427387904 then placeGo (a0.size + 1) (a0.extract 0 (max 0 (min a1 (a0.size : Int))).toNat) 1 else none
set_option maxHeartbeats 1000000 in
set_option maxRecDepth 100000 in
theorem name_Place.calls (a0 : ByteArray) (a1 : Int) (r1 r2 : Int) (w : World) (h : name_Place.f a0 a1 = some (r1, r2)) :
    Calls Try.prog 55 #[.string a0, .int .i64 a1] w fun e w' => e = .returned (.tuple #[.int .i64 r1, .int .i64 r2]) ∧ Below w.heap.size w w' := by
  unfold name_Place.f at h
  split at h
  case isFalse => cases h
  rename_i hs
  have H := Aside0.mk h
  clear h
  have HS := Aside0.mk hs
  clear hs
  have c : (a1 ≤ 0 ∧ ¬ (a0.size : Int) < a1 ∧ ¬ 0 < a1) ∨ (0 < a1 ∧ ¬ (a0.size : Int) < a1 ∧ a1 ≤ (a0.size : Int)) ∨ ((a0.size : Int) < a1 ∧ 0 < (a0.size : Int)) ∨ ((a0.size : Int) < a1 ∧ ¬ 0 < (a0.size : Int)) := by omega
  rcases c with ⟨c1, c2, c3⟩ | ⟨c1, c2, c3⟩ | ⟨c1, c2⟩ | ⟨c1, c2⟩
  · have e : (max 0 (min a1 (a0.size : Int))).toNat = 0 := by omega
    rw [e] at H
    go_enter Try.func55, Try.ntmps55
    go_wp2
    go_loopw [6, 7] (fun u6 u7 w' => ∃ (kk : Nat) (s : ByteArray) (l : Int), u6 = .string s ∧ u7 = .int .i64 l ∧ Aside0 (placeGo kk s l = some (r1, r2)) ∧ Aside0 (s.size ≤ a0.size) ∧ Aside0 (Below w.heap.size w w')) (fun u6 _ _ => strSize u6)
    case atStart => exact ⟨a0.size + 1, _, 1, rfl, rfl, by simpa using H, ⟨by first | omega | (simp; done) | (simp; omega)⟩, ⟨Below.refl _ _⟩⟩
    case round =>
      obtain ⟨kk, s, l, rfl, rfl, HP, HZ, HB⟩ := hrel
      cases kk with
      | zero => have := HP.out; simp [placeGo] at this
      | succ kk =>
        by_cases hi : Lib.indexByte s.data.toList 10 < 0
        · have HP2 := HP.out
          rw [placeGo, if_pos hi] at HP2
          obtain ⟨rfl, rfl⟩ := Prod.mk.inj (Option.some.inj HP2)
          have HL := Aside0.mk (show name_Len.f s = some ((rn s).length : Int) from by unfold name_Len.f; rw [if_pos (by have := HS.out; have := HZ.out; omega)])
          have HLE := rn_le s
          have HS2 := HS.out
          have HZ2 := HZ.out
          have hw : wrap64 (((rn s).length : Int) + 1) = ((rn s).length : Int) + 1 := by unfold wrap64; omega
          have HB2 := Aside0.mk (fun n => pw_below_drewN HB.out n)
          clear HB HP2
          go_wp2_with (first | (go_at_call 78; refine (cut_miss _ _ hi).mono ?_; rintro e w1 ⟨rfl, ⟨n1, rfl⟩⟩) | (go_at_call 30; refine (name_Len.calls _ _ _ HL.out).mono ?_; rintro e w2 ⟨rfl, hb⟩; have HBN := Aside0.mk hb; clear hb))
          go_ret2
          exact ⟨by rw [hw]; rfl, below_step (HB2.out _) HBN.out⟩
        · obtain ⟨i, hii⟩ : ∃ i : Nat, Lib.indexByte s.data.toList 10 = (i : Int) := ⟨(Lib.indexByte s.data.toList 10).toNat, by omega⟩
          have HP2 := HP.out
          rw [placeGo, if_neg hi, hii] at HP2
          have HP3 := Aside0.mk HP2
          have h1 := indexB_hit s _ hii (by omega)
          have HSS := Aside0.mk (show s.size < 4611686018427387904 from by have := HS.out; have := HZ.out; omega)
          have HB2 := Aside0.mk (fun n => pw_below_drewN HB.out n)
          have HI := Aside0.mk hii
          clear HB HP2 HP hi hii
          go_wp2_with (first | (go_at_call 78; refine (cut_hit _ _ i HI.out HSS.out).mono ?_; rintro e w1 ⟨rfl, ⟨n1, rfl⟩⟩))
          go_roundw
          case rel => exact ⟨kk, _, _, rfl, rfl, HP3, ⟨by have := HZ.out; simp; omega⟩, ⟨HB2.out _⟩⟩
          case measure =>
            simp [strSize]
            omega
  · have e : (max 0 (min a1 (a0.size : Int))).toNat = a1.toNat := by omega
    rw [e] at H
    go_enter Try.func55, Try.ntmps55
    go_wp2
    go_loopw [6, 7] (fun u6 u7 w' => ∃ (kk : Nat) (s : ByteArray) (l : Int), u6 = .string s ∧ u7 = .int .i64 l ∧ Aside0 (placeGo kk s l = some (r1, r2)) ∧ Aside0 (s.size ≤ a0.size) ∧ Aside0 (Below w.heap.size w w')) (fun u6 _ _ => strSize u6)
    case atStart => exact ⟨a0.size + 1, _, 1, rfl, rfl, H, ⟨by first | omega | (simp; done) | (simp; omega)⟩, ⟨Below.refl _ _⟩⟩
    case round =>
      obtain ⟨kk, s, l, rfl, rfl, HP, HZ, HB⟩ := hrel
      cases kk with
      | zero => have := HP.out; simp [placeGo] at this
      | succ kk =>
        by_cases hi : Lib.indexByte s.data.toList 10 < 0
        · have HP2 := HP.out
          rw [placeGo, if_pos hi] at HP2
          obtain ⟨rfl, rfl⟩ := Prod.mk.inj (Option.some.inj HP2)
          have HL := Aside0.mk (show name_Len.f s = some ((rn s).length : Int) from by unfold name_Len.f; rw [if_pos (by have := HS.out; have := HZ.out; omega)])
          have HLE := rn_le s
          have HS2 := HS.out
          have HZ2 := HZ.out
          have hw : wrap64 (((rn s).length : Int) + 1) = ((rn s).length : Int) + 1 := by unfold wrap64; omega
          have HB2 := Aside0.mk (fun n => pw_below_drewN HB.out n)
          clear HB HP2
          go_wp2_with (first | (go_at_call 78; refine (cut_miss _ _ hi).mono ?_; rintro e w1 ⟨rfl, ⟨n1, rfl⟩⟩) | (go_at_call 30; refine (name_Len.calls _ _ _ HL.out).mono ?_; rintro e w2 ⟨rfl, hb⟩; have HBN := Aside0.mk hb; clear hb))
          go_ret2
          exact ⟨by rw [hw]; rfl, below_step (HB2.out _) HBN.out⟩
        · obtain ⟨i, hii⟩ : ∃ i : Nat, Lib.indexByte s.data.toList 10 = (i : Int) := ⟨(Lib.indexByte s.data.toList 10).toNat, by omega⟩
          have HP2 := HP.out
          rw [placeGo, if_neg hi, hii] at HP2
          have HP3 := Aside0.mk HP2
          have h1 := indexB_hit s _ hii (by omega)
          have HSS := Aside0.mk (show s.size < 4611686018427387904 from by have := HS.out; have := HZ.out; omega)
          have HB2 := Aside0.mk (fun n => pw_below_drewN HB.out n)
          have HI := Aside0.mk hii
          clear HB HP2 HP hi hii
          go_wp2_with (first | (go_at_call 78; refine (cut_hit _ _ i HI.out HSS.out).mono ?_; rintro e w1 ⟨rfl, ⟨n1, rfl⟩⟩))
          go_roundw
          case rel => exact ⟨kk, _, _, rfl, rfl, HP3, ⟨by have := HZ.out; simp; omega⟩, ⟨HB2.out _⟩⟩
          case measure =>
            simp [strSize]
            omega
  · have e : (max 0 (min a1 (a0.size : Int))).toNat = a0.size := by omega
    rw [e] at H
    go_enter Try.func55, Try.ntmps55
    go_wp2
    go_loopw [6, 7] (fun u6 u7 w' => ∃ (kk : Nat) (s : ByteArray) (l : Int), u6 = .string s ∧ u7 = .int .i64 l ∧ Aside0 (placeGo kk s l = some (r1, r2)) ∧ Aside0 (s.size ≤ a0.size) ∧ Aside0 (Below w.heap.size w w')) (fun u6 _ _ => strSize u6)
    case atStart => exact ⟨a0.size + 1, _, 1, rfl, rfl, by simpa using H, ⟨by first | omega | (simp; done) | (simp; omega)⟩, ⟨Below.refl _ _⟩⟩
    case round =>
      obtain ⟨kk, s, l, rfl, rfl, HP, HZ, HB⟩ := hrel
      cases kk with
      | zero => have := HP.out; simp [placeGo] at this
      | succ kk =>
        by_cases hi : Lib.indexByte s.data.toList 10 < 0
        · have HP2 := HP.out
          rw [placeGo, if_pos hi] at HP2
          obtain ⟨rfl, rfl⟩ := Prod.mk.inj (Option.some.inj HP2)
          have HL := Aside0.mk (show name_Len.f s = some ((rn s).length : Int) from by unfold name_Len.f; rw [if_pos (by have := HS.out; have := HZ.out; omega)])
          have HLE := rn_le s
          have HS2 := HS.out
          have HZ2 := HZ.out
          have hw : wrap64 (((rn s).length : Int) + 1) = ((rn s).length : Int) + 1 := by unfold wrap64; omega
          have HB2 := Aside0.mk (fun n => pw_below_drewN HB.out n)
          clear HB HP2
          go_wp2_with (first | (go_at_call 78; refine (cut_miss _ _ hi).mono ?_; rintro e w1 ⟨rfl, ⟨n1, rfl⟩⟩) | (go_at_call 30; refine (name_Len.calls _ _ _ HL.out).mono ?_; rintro e w2 ⟨rfl, hb⟩; have HBN := Aside0.mk hb; clear hb))
          go_ret2
          exact ⟨by rw [hw]; rfl, below_step (HB2.out _) HBN.out⟩
        · obtain ⟨i, hii⟩ : ∃ i : Nat, Lib.indexByte s.data.toList 10 = (i : Int) := ⟨(Lib.indexByte s.data.toList 10).toNat, by omega⟩
          have HP2 := HP.out
          rw [placeGo, if_neg hi, hii] at HP2
          have HP3 := Aside0.mk HP2
          have h1 := indexB_hit s _ hii (by omega)
          have HSS := Aside0.mk (show s.size < 4611686018427387904 from by have := HS.out; have := HZ.out; omega)
          have HB2 := Aside0.mk (fun n => pw_below_drewN HB.out n)
          have HI := Aside0.mk hii
          clear HB HP2 HP hi hii
          go_wp2_with (first | (go_at_call 78; refine (cut_hit _ _ i HI.out HSS.out).mono ?_; rintro e w1 ⟨rfl, ⟨n1, rfl⟩⟩))
          go_roundw
          case rel => exact ⟨kk, _, _, rfl, rfl, HP3, ⟨by have := HZ.out; simp; omega⟩, ⟨HB2.out _⟩⟩
          case measure =>
            simp [strSize]
            omega
  · have e : (max 0 (min a1 (a0.size : Int))).toNat = 0 := by omega
    rw [e] at H
    go_enter Try.func55, Try.ntmps55
    go_wp2
    go_loopw [6, 7] (fun u6 u7 w' => ∃ (kk : Nat) (s : ByteArray) (l : Int), u6 = .string s ∧ u7 = .int .i64 l ∧ Aside0 (placeGo kk s l = some (r1, r2)) ∧ Aside0 (s.size ≤ a0.size) ∧ Aside0 (Below w.heap.size w w')) (fun u6 _ _ => strSize u6)
    case atStart => exact ⟨a0.size + 1, _, 1, rfl, rfl, by simpa using H, ⟨by first | omega | (simp; done) | (simp; omega)⟩, ⟨Below.refl _ _⟩⟩
    case round =>
      obtain ⟨kk, s, l, rfl, rfl, HP, HZ, HB⟩ := hrel
      cases kk with
      | zero => have := HP.out; simp [placeGo] at this
      | succ kk =>
        by_cases hi : Lib.indexByte s.data.toList 10 < 0
        · have HP2 := HP.out
          rw [placeGo, if_pos hi] at HP2
          obtain ⟨rfl, rfl⟩ := Prod.mk.inj (Option.some.inj HP2)
          have HL := Aside0.mk (show name_Len.f s = some ((rn s).length : Int) from by unfold name_Len.f; rw [if_pos (by have := HS.out; have := HZ.out; omega)])
          have HLE := rn_le s
          have HS2 := HS.out
          have HZ2 := HZ.out
          have hw : wrap64 (((rn s).length : Int) + 1) = ((rn s).length : Int) + 1 := by unfold wrap64; omega
          have HB2 := Aside0.mk (fun n => pw_below_drewN HB.out n)
          clear HB HP2
          go_wp2_with (first | (go_at_call 78; refine (cut_miss _ _ hi).mono ?_; rintro e w1 ⟨rfl, ⟨n1, rfl⟩⟩) | (go_at_call 30; refine (name_Len.calls _ _ _ HL.out).mono ?_; rintro e w2 ⟨rfl, hb⟩; have HBN := Aside0.mk hb; clear hb))
          go_ret2
          exact ⟨by rw [hw]; rfl, below_step (HB2.out _) HBN.out⟩
        · obtain ⟨i, hii⟩ : ∃ i : Nat, Lib.indexByte s.data.toList 10 = (i : Int) := ⟨(Lib.indexByte s.data.toList 10).toNat, by omega⟩
          have HP2 := HP.out
          rw [placeGo, if_neg hi, hii] at HP2
          have HP3 := Aside0.mk HP2
          have h1 := indexB_hit s _ hii (by omega)
          have HSS := Aside0.mk (show s.size < 4611686018427387904 from by have := HS.out; have := HZ.out; omega)
          have HB2 := Aside0.mk (fun n => pw_below_drewN HB.out n)
          have HI := Aside0.mk hii
          clear HB HP2 HP hi hii
          go_wp2_with (first | (go_at_call 78; refine (cut_hit _ _ i HI.out HSS.out).mono ?_; rintro e w1 ⟨rfl, ⟨n1, rfl⟩⟩))
          go_roundw
          case rel => exact ⟨kk, _, _, rfl, rfl, HP3, ⟨by have := HZ.out; simp; omega⟩, ⟨HB2.out _⟩⟩
          case measure =>
            simp [strSize]
            omega

/-! ### shunterref05_Place: function 56 -/
mutual
def shunterref05_Place.j0 : Nat → ByteArray → Int → Option (Int × Int)
  | 0, _, _ => none
  | k + 1, x0, x1 => if x1 > (x0.size : Int) then (shunterref05_Place.j1 k x0 (x0.size : Int)) else (shunterref05_Place.j1 k x0 x1)
def shunterref05_Place.j1 : Nat → ByteArray → Int → Option (Int × Int)
  | 0, _, _ => none
  | k + 1, x0, x1 => shunterref05_Place.l0 k x0 x1 1 0 0
def shunterref05_Place.l0 : Nat → ByteArray → Int → Int → Int → Int → Option (Int × Int)
  | 0, _, _, _, _, _ => none
  | k + 1, x0, x1, x6, x7, x8 => if x8 < x1 then (if 0 ≤ x8 then (if x8 < (x0.size : Int) then (if (bt x0 x8) = 10 then (shunterref05_Place.l0 k x0 x1 (wrap64 (x6 + 1)) (wrap64 (x8 + 1)) (wrap64 (x8 + 1))) else (shunterref05_Place.l0 k x0 x1 x6 x7 (wrap64 (x8 + 1)))) else (none)) else (none)) else (if 0 ≤ x7 then (if x7 ≤ x1 then (if x1 ≤ (x0.size : Int) then ((shunterref05_Runes.f k (x0.extract (x7 : Int).toNat (x1 : Int).toNat)).bind fun t245 => (some (x6, wrap64 ((t245.length : Int) + 1)))) else (none)) else (none)) else (none))
end
def shunterref05_Place.f (k : Nat) (a0 : ByteArray) (a1 : Int) : Option (Int × Int) := if a1 < 0 then (shunterref05_Place.j0 k a0 0) else (shunterref05_Place.j0 k a0 a1)
theorem shunterref05_Place.mono_l : ∀ k, (∀ y0 y1, LeO (shunterref05_Place.j0 k y0 y1) (shunterref05_Place.j0 (k + 1) y0 y1)) ∧ (∀ y0 y1, LeO (shunterref05_Place.j1 k y0 y1) (shunterref05_Place.j1 (k + 1) y0 y1)) ∧ (∀ y0 y1 y2 y3 y4, LeO (shunterref05_Place.l0 k y0 y1 y2 y3 y4) (shunterref05_Place.l0 (k + 1) y0 y1 y2 y3 y4))
  | 0 => ⟨fun _ _ r h => by simp [shunterref05_Place.j0] at h, fun _ _ r h => by simp [shunterref05_Place.j1] at h, fun _ _ _ _ _ r h => by simp [shunterref05_Place.l0] at h⟩
  | k + 1 => by
    obtain ⟨ih0, ih1, ih2⟩ := shunterref05_Place.mono_l k
    refine ⟨?_, ?_, ?_⟩
    · intro y0 y1
      unfold shunterref05_Place.j0
      repeat' first
      | (with_reducible exact ih0 _ _)
      | (with_reducible exact ih1 _ _)
      | (with_reducible exact ih2 _ _ _ _ _)
      | (with_reducible exact shunterref05_Runes.mono _ _)
      | (with_reducible exact LeO.refl _)
      | (with_reducible exact LeO.none _)
      | (with_reducible refine LeO.ite ?_ ?_)
      | (with_reducible refine LeO.bind ?_ (fun _ => ?_))
      | exact ih0 _ _
      | exact ih1 _ _
      | exact ih2 _ _ _ _ _
      | exact shunterref05_Runes.mono _ _
      | exact LeO.none _
      | refine LeO.ite ?_ ?_
      | refine LeO.bind ?_ (fun _ => ?_)
    · intro y0 y1
      unfold shunterref05_Place.j1
      repeat' first
      | (with_reducible exact ih0 _ _)
      | (with_reducible exact ih1 _ _)
      | (with_reducible exact ih2 _ _ _ _ _)
      | (with_reducible exact shunterref05_Runes.mono _ _)
      | (with_reducible exact LeO.refl _)
      | (with_reducible exact LeO.none _)
      | (with_reducible refine LeO.ite ?_ ?_)
      | (with_reducible refine LeO.bind ?_ (fun _ => ?_))
      | exact ih0 _ _
      | exact ih1 _ _
      | exact ih2 _ _ _ _ _
      | exact shunterref05_Runes.mono _ _
      | exact LeO.none _
      | refine LeO.ite ?_ ?_
      | refine LeO.bind ?_ (fun _ => ?_)
    · intro y0 y1 y2 y3 y4
      unfold shunterref05_Place.l0
      repeat' first
      | (with_reducible exact ih0 _ _)
      | (with_reducible exact ih1 _ _)
      | (with_reducible exact ih2 _ _ _ _ _)
      | (with_reducible exact shunterref05_Runes.mono _ _)
      | (with_reducible exact LeO.refl _)
      | (with_reducible exact LeO.none _)
      | (with_reducible refine LeO.ite ?_ ?_)
      | (with_reducible refine LeO.bind ?_ (fun _ => ?_))
      | exact ih0 _ _
      | exact ih1 _ _
      | exact ih2 _ _ _ _ _
      | exact shunterref05_Runes.mono _ _
      | exact LeO.none _
      | refine LeO.ite ?_ ?_
      | refine LeO.bind ?_ (fun _ => ?_)
theorem shunterref05_Place.mono : ∀ a0 a1 k, LeO (shunterref05_Place.f k a0 a1) (shunterref05_Place.f (k + 1) a0 a1) := by
  intro a0 a1 k
  obtain ⟨ih0, ih1, ih2⟩ := shunterref05_Place.mono_l k
  unfold shunterref05_Place.f
  repeat' first
      | (with_reducible exact ih0 _ _)
      | (with_reducible exact ih1 _ _)
      | (with_reducible exact ih2 _ _ _ _ _)
      | (with_reducible exact shunterref05_Runes.mono _ _)
      | (with_reducible exact LeO.refl _)
      | (with_reducible exact LeO.none _)
      | (with_reducible refine LeO.ite ?_ ?_)
      | (with_reducible refine LeO.bind ?_ (fun _ => ?_))
      | exact ih0 _ _
      | exact ih1 _ _
      | exact ih2 _ _ _ _ _
      | exact shunterref05_Runes.mono _ _
      | exact LeO.none _
      | refine LeO.ite ?_ ?_
      | refine LeO.bind ?_ (fun _ => ?_)
set_option maxHeartbeats 8000000 in
set_option maxRecDepth 100000 in
theorem shunterref05_Place.calls (k : Nat) (a0 : ByteArray) (a1 : Int) (r1 : Int) (r2 : Int) (w : World) (h : shunterref05_Place.f k a0 a1 = some (r1, r2)) :
    Calls Try.prog 56 #[.string a0, .int .i64 a1] w fun e w' => e = .returned (.tuple #[.int .i64 r1, .int .i64 r2]) ∧ Below w.heap.size w w' := by
  have HB := Aside0.mk (Below.refl w.heap.size w)
  have H : (if a1 < 0 then (shunterref05_Place.j0 k a0 0) else (shunterref05_Place.j0 k a0 a1)) = some (r1, r2) := h
  clear h
  have HC3 := Aside0.mk H
  clear H
  go_enter Try.func56, Try.ntmps56
  go_upto_if 10 with (fail)
  go_cut [1] (fun v1 wc => ∃ (kq : Nat) (x1_2 : Int), v1 = .int .i64 x1_2 ∧ Aside0 (shunterref05_Place.j0 kq a0 x1_2 = some (r1, r2)) ∧ Aside0 (kq ≤ k) ∧ Aside0 (Below w.heap.size w wc))
  case first =>
    have H := HC3.out
    clear HC3
    by_cases c4 : a1 < 0
    · rw [if_pos c4] at H
      have c4b0 : decide (a1 < 0) = true := decide_eq_true c4
      clear c4
      (first | rw [c4b0] | (simp only [i64_w, i32_w]; rw [c4b0]) | skip)
      have H' := Aside0.mk H
      clear H
      go_wp2
      go_meet
      case rel => exact ⟨_, (0), (by first | rfl | (simp; done) | (simp [*]; done)), H', ⟨by first | omega | exact Nat.le_refl _⟩, ⟨by repeat (first | (with_reducible first | exact HB.out | apply below_alloc | apply pw_below_drewN | apply below_drew1) | exact HB.out)⟩⟩
    · rw [if_neg c4] at H
      have c4b0 : decide (a1 < 0) = false := decide_eq_false c4
      clear c4
      (first | rw [c4b0] | (simp only [i64_w, i32_w]; rw [c4b0]) | skip)
      have H' := Aside0.mk H
      clear H
      go_wp2
      go_meet
      case rel => exact ⟨_, (a1), (by first | rfl | (simp; done) | (simp [*]; done)), H', ⟨by first | omega | exact Nat.le_refl _⟩, ⟨by repeat (first | (with_reducible first | exact HB.out | apply below_alloc | apply pw_below_drewN | apply below_drew1) | exact HB.out)⟩⟩
  case rest =>
    clear HC3
    try clear p2
    try clear c4
    try clear c4b0
    obtain ⟨kq, x1_2, rfl, HA, HJ2, HB⟩ := hcut
    cases kq with
    | zero => exact absurd HA.out (by simp [shunterref05_Place.j0])
    | succ kj2 =>
      have H := HA.out
      clear HA
      simp only [shunterref05_Place.j0] at H
      have HC5 := Aside0.mk H
      clear H
      go_upto_if 14 with (fail)
      go_cut [1] (fun v1 wc => ∃ (kq : Nat) (x1_4 : Int), v1 = .int .i64 x1_4 ∧ Aside0 (shunterref05_Place.j1 kq a0 x1_4 = some (r1, r2)) ∧ Aside0 (kq ≤ kj2) ∧ Aside0 (Below w.heap.size w wc))
      case first =>
        have H := HC5.out
        clear HC5
        by_cases c6 : x1_2 > (a0.size : Int)
        · rw [if_pos c6] at H
          have c6b0 : decide ((a0.size : Int) < x1_2) = true := decide_eq_true c6
          clear c6
          (first | rw [c6b0] | (simp only [i64_w, i32_w]; rw [c6b0]) | skip)
          have H' := Aside0.mk H
          clear H
          go_wp2
          go_meet
          case rel => exact ⟨_, ((a0.size : Int)), (by first | rfl | (simp; done) | (simp [*]; done)), H', ⟨by have := HJ2.out; first | omega | exact Nat.le_refl _⟩, ⟨by repeat (first | (with_reducible first | exact HB.out | apply below_alloc | apply pw_below_drewN | apply below_drew1) | exact HB.out)⟩⟩
        · rw [if_neg c6] at H
          have c6b0 : decide ((a0.size : Int) < x1_2) = false := decide_eq_false c6
          clear c6
          (first | rw [c6b0] | (simp only [i64_w, i32_w]; rw [c6b0]) | skip)
          have H' := Aside0.mk H
          clear H
          go_wp2
          go_meet
          case rel => exact ⟨_, (x1_2), (by first | rfl | (simp; done) | (simp [*]; done)), H', ⟨by have := HJ2.out; first | omega | exact Nat.le_refl _⟩, ⟨by repeat (first | (with_reducible first | exact HB.out | apply below_alloc | apply pw_below_drewN | apply below_drew1) | exact HB.out)⟩⟩
      case rest =>
        clear HC5
        try clear p2
        try clear c4
        try clear c4b0
        try clear c5
        try clear c6
        try clear c6b0
        try clear p2
        obtain ⟨kq, x1_4, rfl, HA, HJ4, HB⟩ := hcut
        cases kq with
        | zero => exact absurd HA.out (by simp [shunterref05_Place.j1])
        | succ kj4 =>
          have H := HA.out
          clear HA
          simp only [shunterref05_Place.j1] at H
          have H' := Aside0.mk H
          clear H
          go_wp2
          go_loopg [6, 7, 8] kj4 (fun kq v6 v7 v8 w' => ∃ (x6_3 : Int) (x7_3 : Int) (x8_3 : Int), v6 = .int .i64 x6_3 ∧ v7 = .int .i64 x7_3 ∧ v8 = .int .i64 x8_3 ∧ Aside0 (shunterref05_Place.l0 kq a0 x1_4 x6_3 x7_3 x8_3 = some (r1, r2)) ∧ Aside0 (kq ≤ kj4) ∧ Aside0 (Below w.heap.size w w'))
          case atStart => exact ⟨(1), (0), (0), (by first | rfl | (simp; done) | (simp [*]; done)), (by first | rfl | (simp; done) | (simp [*]; done)), (by first | rfl | (simp; done) | (simp [*]; done)), H', ⟨Nat.le_refl _⟩, ⟨by repeat (first | (with_reducible first | exact HB.out | apply below_alloc | apply pw_below_drewN | apply below_drew1) | exact HB.out)⟩⟩
          case round =>
            clear H'
            try clear p2
            try clear c4
            try clear c4b0
            try clear c5
            try clear c6
            try clear c6b0
            try clear p2
            obtain ⟨x6_3, x7_3, x8_3, rfl, rfl, rfl, HA, HK3, HB⟩ := hrel
            cases gk with
            | zero => exact absurd HA.out (by simp [shunterref05_Place.l0])
            | succ k3 =>
              have H := HA.out
              clear HA
              simp only [shunterref05_Place.l0] at H
              by_cases c7 : x8_3 < x1_4
              · rw [if_pos c7] at H
                have c7b0 : decide (x8_3 < x1_4) = true := decide_eq_true c7
                clear c7
                by_cases c8 : 0 ≤ x8_3
                · rw [if_pos c8] at H
                  have c8b0 : decide (0 ≤ x8_3) = true := decide_eq_true c8
                  clear c8
                  by_cases c9 : x8_3 < (a0.size : Int)
                  · rw [if_pos c9] at H
                    have c9b0 : decide (x8_3 < (a0.size : Int)) = true := decide_eq_true c9
                    clear c9
                    by_cases c11 : (bt a0 x8_3) = 10
                    · rw [if_pos c11] at H
                      have c11b0 : ((bt a0 x8_3) == 10) = true := beq_iff_eq.mpr c11
                      have c11b1 : ((bt a0 x8_3) != 10) = false := bne_eq_false_iff_eq.mpr c11
                      clear c11
                      have H' := Aside0.mk H
                      clear H
                      have p10 : 0 ≤ (x8_3 : Int) := of_decide_eq_true (by first | (with_reducible assumption) | assumption)
                      have q10 : x8_3 < (a0.size : Int) := of_decide_eq_true (by first | (with_reducible assumption) | assumption)
                      have hx10 := bt_at a0 x8_3
                      replace p10 := eq_true p10
                      replace q10 := eq_true q10
                      go_wp2
                      go_roundg k3
                      case measure => have := HJ2.out; have := HJ4.out; have := HK3.out; omega
                      case rel => exact ⟨(wrap64 (x6_3 + 1)), (wrap64 (x8_3 + 1)), (wrap64 (x8_3 + 1)), (by first | rfl | (simp; done) | (simp [*]; done)), (by first | rfl | (simp; done) | (simp [*]; done)), (by first | rfl | (simp; done) | (simp [*]; done)), H', ⟨by have := HJ2.out; have := HJ4.out; have := HK3.out; omega⟩, ⟨by repeat (first | (with_reducible first | exact HB.out | apply below_alloc | apply pw_below_drewN | apply below_drew1) | exact HB.out)⟩⟩
                    · rw [if_neg c11] at H
                      have c11b0 : ((bt a0 x8_3) == 10) = false := beq_eq_false_iff_ne.mpr c11
                      have c11b1 : ((bt a0 x8_3) != 10) = true := bne_iff_ne.mpr c11
                      have H' := Aside0.mk H
                      clear H
                      have p10 : 0 ≤ (x8_3 : Int) := of_decide_eq_true (by first | (with_reducible assumption) | assumption)
                      have q10 : x8_3 < (a0.size : Int) := of_decide_eq_true (by first | (with_reducible assumption) | assumption)
                      have hx10 := bt_at a0 x8_3
                      replace p10 := eq_true p10
                      replace q10 := eq_true q10
                      go_wp2
                      go_roundg k3
                      case measure => have := HJ2.out; have := HJ4.out; have := HK3.out; omega
                      case rel => exact ⟨(x6_3), (x7_3), (wrap64 (x8_3 + 1)), (by first | rfl | (simp; done) | (simp [*]; done)), (by first | rfl | (simp; done) | (simp [*]; done)), (by first | rfl | (simp; done) | (simp [*]; done)), H', ⟨by have := HJ2.out; have := HJ4.out; have := HK3.out; omega⟩, ⟨by repeat (first | (with_reducible first | exact HB.out | apply below_alloc | apply pw_below_drewN | apply below_drew1) | exact HB.out)⟩⟩
                  · rw [if_neg c9] at H
                    exact absurd H (by simp)
                · rw [if_neg c8] at H
                  exact absurd H (by simp)
              · rw [if_neg c7] at H
                have c7b0 : decide (x8_3 < x1_4) = false := decide_eq_false c7
                clear c7
                by_cases c12 : 0 ≤ x7_3
                · rw [if_pos c12] at H
                  have c12b0 := eq_true c12
                  have c12b1 : decide (0 ≤ x7_3) = true := decide_eq_true c12
                  clear c12
                  by_cases c13 : x7_3 ≤ x1_4
                  · rw [if_pos c13] at H
                    have c13b0 := eq_true c13
                    have c13b1 : decide (x7_3 ≤ x1_4) = true := decide_eq_true c13
                    clear c13
                    by_cases c14 : x1_4 ≤ (a0.size : Int)
                    · rw [if_pos c14] at H
                      have c14b0 := eq_true c14
                      have c14b1 : decide (x1_4 ≤ (a0.size : Int)) = true := decide_eq_true c14
                      clear c14
                      replace H := Option.bind_eq_some_iff.mp H
                      obtain ⟨t245, A150, H⟩ := H
                      replace H : (some (x6_3, wrap64 ((t245.length : Int) + 1))) = some (r1, r2) := H
                      have A15 := Aside0.mk A150
                      clear A150
                      simp only [Option.some.injEq, Prod.mk.injEq] at H
                      obtain ⟨rfl, rfl⟩ := H
                      go_wp2_with (first | ((with_reducible refine gate_callee (f := 28) rfl ?_); refine goesL_ (some 35) rfl rfl Try.func28 (by kernel_rfl) rfl #[.string (a0.extract (x7_3 : Int).toNat (x1_4 : Int).toNat)] rfl (by (try simp only [List.map_toArray, List.map_cons, List.map_nil]); first | done | rfl | (simp only [List.length_drop, List.length_take]; rfl)) ?_; (with_reducible refine (shunterref05_Runes.calls k3 (a0.extract (x7_3 : Int).toNat (x1_4 : Int).toNat) t245 _ A15.out).mono ?_); rintro e w16 ⟨v246, rfl, ho0, hb⟩; refine ⟨_, rfl, ?_⟩; have n0_ := Aside0.mk (Kd.R_lower ho0 (below_size (by repeat (first | (with_reducible first | exact HB.out | apply below_alloc | apply pw_below_drewN | apply below_drew1) | exact HB.out)))); have n1_ := Aside0.mk (below_step (by repeat (first | (with_reducible first | exact HB.out | apply below_alloc | apply pw_below_drewN | apply below_drew1) | exact HB.out)) hb); clear HB; have HO247 := n0_; have HB := n1_; clear n0_ n1_; (try clear hb); (try clear hb2); (try clear hk); (try clear hi); (try clear ho0); obtain ⟨Ao17, co17, eo17⟩ := Kd.R_slice HO247.out; subst eo17))
                      go_ret2
                      exact ⟨by first | rfl | (simp [errW_none, errW_some] <;> rfl) | (simp [*, errW_none, errW_some] <;> rfl), by repeat (first | (with_reducible first | exact HB.out | apply below_alloc | apply pw_below_drewN | apply below_drew1) | exact HB.out)⟩
                    · rw [if_neg c14] at H
                      exact absurd H (by simp)
                  · rw [if_neg c13] at H
                    exact absurd H (by simp)
                · rw [if_neg c12] at H
                  exact absurd H (by simp)

/-! ### shunterlaw05_NamePlaces: function 13 -/
def shunterlaw05_NamePlaces.f (k : Nat) (a0 : ByteArray) (a1 : Int) : Option (Bool) := if (a0.size : Int) > 500 then ((shunterlaw05_lives.f).bind fun t248 => (some t248)) else ((name_Place.f a0 a1).bind fun bt249 => ((shunterref05_Place.f k a0 a1).bind fun bt251 => (if bt249.1 = bt251.1 then (if bt249.2 = bt251.2 then ((shunterlaw05_lives.f).bind fun t253 => (some t253)) else (some false)) else (some false))))
theorem shunterlaw05_NamePlaces.mono : ∀ a0 a1 k, LeO (shunterlaw05_NamePlaces.f k a0 a1) (shunterlaw05_NamePlaces.f (k + 1) a0 a1) := by
  intro a0 a1 k
  unfold shunterlaw05_NamePlaces.f
  repeat' first
      | (with_reducible exact shunterref05_Place.mono _ _ _)
      | (with_reducible exact LeO.refl _)
      | (with_reducible exact LeO.none _)
      | (with_reducible refine LeO.ite ?_ ?_)
      | (with_reducible refine LeO.bind ?_ (fun _ => ?_))
      | exact shunterref05_Place.mono _ _ _
      | exact LeO.none _
      | refine LeO.ite ?_ ?_
      | refine LeO.bind ?_ (fun _ => ?_)
set_option maxHeartbeats 8000000 in
set_option maxRecDepth 100000 in
theorem shunterlaw05_NamePlaces.calls (k : Nat) (a0 : ByteArray) (a1 : Int) (r : Bool) (w : World) (h : shunterlaw05_NamePlaces.f k a0 a1 = some r) :
    Calls Try.prog 13 #[.string a0, .int .i64 a1] w fun e w' => e = .returned (.bool r) ∧ Below w.heap.size w w' := by
  have HB := Aside0.mk (Below.refl w.heap.size w)
  have H : (if (a0.size : Int) > 500 then ((shunterlaw05_lives.f).bind fun t248 => (some t248)) else ((name_Place.f a0 a1).bind fun bt249 => ((shunterref05_Place.f k a0 a1).bind fun bt251 => (if bt249.1 = bt251.1 then (if bt249.2 = bt251.2 then ((shunterlaw05_lives.f).bind fun t253 => (some t253)) else (some false)) else (some false))))) = some r := h
  clear h
  by_cases c3 : (a0.size : Int) > 500
  · rw [if_pos c3] at H
    have c3b0 : decide (500 < (a0.size : Int)) = true := decide_eq_true c3
    have c3b1 : decide (500 < a0.size) = true := decide_eq_true (by omega)
    clear c3
    replace H := Option.bind_eq_some_iff.mp H
    obtain ⟨t248, A40, H⟩ := H
    replace H : (some t248) = some r := H
    have A4 := Aside0.mk A40
    clear A40
    obtain rfl := Option.some.inj H
    go_enter Try.func13, Try.ntmps13
    go_wp2_with (first | ((with_reducible refine gate_callee (f := 18) rfl ?_); refine goesL_ (some 12) rfl rfl Try.func18 (by kernel_rfl) rfl #[] rfl (by (try simp only [List.map_toArray, List.map_cons, List.map_nil]); first | done | rfl | (simp only [List.length_drop, List.length_take]; rfl)) ?_; (with_reducible refine (shunterlaw05_lives.calls  t248 _ A4.out).mono ?_); rintro e w5 ⟨rfl, hb⟩; refine ⟨_, rfl, ?_⟩; have n0_ := Aside0.mk (below_step (by repeat (first | (with_reducible first | exact HB.out | apply below_alloc | apply pw_below_drewN | apply below_drew1) | exact HB.out)) hb); clear HB; have HB := n0_; clear n0_; (try clear hb); (try clear hb2); (try clear hk); (try clear hi)) | (go_at_call 18; (with_reducible refine (shunterlaw05_lives.calls  t248 _ A4.out).mono ?_); rintro e w5 ⟨rfl, hb⟩; have n0_ := Aside0.mk (below_step (by repeat (first | (with_reducible first | exact HB.out | apply below_alloc | apply pw_below_drewN | apply below_drew1) | exact HB.out)) hb); clear HB; have HB := n0_; clear n0_; (try clear hb); (try clear hb2); (try clear hk); (try clear hi)))
    go_ret
    exact ⟨by first | rfl | (simp [errW_none, errW_some] <;> rfl) | (simp [*, errW_none, errW_some] <;> rfl), by repeat (first | (with_reducible first | exact HB.out | apply below_alloc | apply pw_below_drewN | apply below_drew1) | exact HB.out)⟩
  · rw [if_neg c3] at H
    have c3b0 : decide (500 < (a0.size : Int)) = false := decide_eq_false c3
    have c3b1 : decide (500 < a0.size) = false := decide_eq_false (by omega)
    clear c3
    replace H := Option.bind_eq_some_iff.mp H
    obtain ⟨⟨t249, t250⟩, A60, H⟩ := H
    replace H : ((shunterref05_Place.f k a0 a1).bind fun bt251 => (if t249 = bt251.1 then (if t250 = bt251.2 then ((shunterlaw05_lives.f).bind fun t253 => (some t253)) else (some false)) else (some false))) = some r := H
    have A6 := Aside0.mk A60
    clear A60
    replace H := Option.bind_eq_some_iff.mp H
    obtain ⟨⟨t251, t252⟩, A70, H⟩ := H
    replace H : (if t249 = t251 then (if t250 = t252 then ((shunterlaw05_lives.f).bind fun t253 => (some t253)) else (some false)) else (some false)) = some r := H
    have A7 := Aside0.mk A70
    clear A70
    by_cases c8 : t249 = t251
    · rw [if_pos c8] at H
      have c8b0 : (t249 == t251) = true := beq_iff_eq.mpr c8
      have c8b1 : (t249 != t251) = false := bne_eq_false_iff_eq.mpr c8
      clear c8
      by_cases c9 : t250 = t252
      · rw [if_pos c9] at H
        have c9b0 : (t250 == t252) = true := beq_iff_eq.mpr c9
        have c9b1 : (t250 != t252) = false := bne_eq_false_iff_eq.mpr c9
        clear c9
        replace H := Option.bind_eq_some_iff.mp H
        obtain ⟨t253, A100, H⟩ := H
        replace H : (some t253) = some r := H
        have A10 := Aside0.mk A100
        clear A100
        obtain rfl := Option.some.inj H
        go_enter Try.func13, Try.ntmps13
        go_wp2_with (first | ((with_reducible refine gate_callee (f := 55) rfl ?_); refine goesL_ (some 16) rfl rfl Try.func55 (by kernel_rfl) rfl #[.string a0, .int .i64 a1] rfl (by (try simp only [List.map_toArray, List.map_cons, List.map_nil]); first | done | rfl | (simp only [List.length_drop, List.length_take]; rfl)) ?_; (with_reducible refine (name_Place.calls a0 a1 t249 t250 _ A6.out).mono ?_); rintro e w11 ⟨rfl, hb⟩; refine ⟨_, rfl, ?_⟩; have n0_ := Aside0.mk (below_step (by repeat (first | (with_reducible first | exact HB.out | apply below_alloc | apply pw_below_drewN | apply below_drew1) | exact HB.out)) hb); clear HB; have HB := n0_; clear n0_; (try clear hb); (try clear hb2); (try clear hk); (try clear hi)) | ((with_reducible refine gate_callee (f := 56) rfl ?_); refine goesL_ (some 22) rfl rfl Try.func56 (by kernel_rfl) rfl #[.string a0, .int .i64 a1] rfl (by (try simp only [List.map_toArray, List.map_cons, List.map_nil]); first | done | rfl | (simp only [List.length_drop, List.length_take]; rfl)) ?_; (with_reducible refine (shunterref05_Place.calls k a0 a1 t251 t252 _ A7.out).mono ?_); rintro e w12 ⟨rfl, hb⟩; refine ⟨_, rfl, ?_⟩; have n0_ := Aside0.mk (below_step (by repeat (first | (with_reducible first | exact HB.out | apply below_alloc | apply pw_below_drewN | apply below_drew1) | exact HB.out)) hb); clear HB; have HB := n0_; clear n0_; (try clear hb); (try clear hb2); (try clear hk); (try clear hi)) | (go_at_call 55; (with_reducible refine (name_Place.calls a0 a1 t249 t250 _ A6.out).mono ?_); rintro e w11 ⟨rfl, hb⟩; have n0_ := Aside0.mk (below_step (by repeat (first | (with_reducible first | exact HB.out | apply below_alloc | apply pw_below_drewN | apply below_drew1) | exact HB.out)) hb); clear HB; have HB := n0_; clear n0_; (try clear hb); (try clear hb2); (try clear hk); (try clear hi)) | (go_at_call 56; (with_reducible refine (shunterref05_Place.calls k a0 a1 t251 t252 _ A7.out).mono ?_); rintro e w12 ⟨rfl, hb⟩; have n0_ := Aside0.mk (below_step (by repeat (first | (with_reducible first | exact HB.out | apply below_alloc | apply pw_below_drewN | apply below_drew1) | exact HB.out)) hb); clear HB; have HB := n0_; clear n0_; (try clear hb); (try clear hb2); (try clear hk); (try clear hi)) | (go_at_call 18; (with_reducible refine (shunterlaw05_lives.calls  t253 _ A10.out).mono ?_); rintro e w13 ⟨rfl, hb⟩; have n0_ := Aside0.mk (below_step (by repeat (first | (with_reducible first | exact HB.out | apply below_alloc | apply pw_below_drewN | apply below_drew1) | exact HB.out)) hb); clear HB; have HB := n0_; clear n0_; (try clear hb); (try clear hb2); (try clear hk); (try clear hi)))
        go_ret
        exact ⟨by first | rfl | (simp [errW_none, errW_some] <;> rfl) | (simp [*, errW_none, errW_some] <;> rfl), by repeat (first | (with_reducible first | exact HB.out | apply below_alloc | apply pw_below_drewN | apply below_drew1) | exact HB.out)⟩
      · rw [if_neg c9] at H
        have c9b0 : (t250 == t252) = false := beq_eq_false_iff_ne.mpr c9
        have c9b1 : (t250 != t252) = true := bne_iff_ne.mpr c9
        obtain rfl := Option.some.inj H
        go_enter Try.func13, Try.ntmps13
        go_wp2_with (first | ((with_reducible refine gate_callee (f := 55) rfl ?_); refine goesL_ (some 16) rfl rfl Try.func55 (by kernel_rfl) rfl #[.string a0, .int .i64 a1] rfl (by (try simp only [List.map_toArray, List.map_cons, List.map_nil]); first | done | rfl | (simp only [List.length_drop, List.length_take]; rfl)) ?_; (with_reducible refine (name_Place.calls a0 a1 t249 t250 _ A6.out).mono ?_); rintro e w14 ⟨rfl, hb⟩; refine ⟨_, rfl, ?_⟩; have n0_ := Aside0.mk (below_step (by repeat (first | (with_reducible first | exact HB.out | apply below_alloc | apply pw_below_drewN | apply below_drew1) | exact HB.out)) hb); clear HB; have HB := n0_; clear n0_; (try clear hb); (try clear hb2); (try clear hk); (try clear hi)) | ((with_reducible refine gate_callee (f := 56) rfl ?_); refine goesL_ (some 22) rfl rfl Try.func56 (by kernel_rfl) rfl #[.string a0, .int .i64 a1] rfl (by (try simp only [List.map_toArray, List.map_cons, List.map_nil]); first | done | rfl | (simp only [List.length_drop, List.length_take]; rfl)) ?_; (with_reducible refine (shunterref05_Place.calls k a0 a1 t251 t252 _ A7.out).mono ?_); rintro e w15 ⟨rfl, hb⟩; refine ⟨_, rfl, ?_⟩; have n0_ := Aside0.mk (below_step (by repeat (first | (with_reducible first | exact HB.out | apply below_alloc | apply pw_below_drewN | apply below_drew1) | exact HB.out)) hb); clear HB; have HB := n0_; clear n0_; (try clear hb); (try clear hb2); (try clear hk); (try clear hi)) | (go_at_call 55; (with_reducible refine (name_Place.calls a0 a1 t249 t250 _ A6.out).mono ?_); rintro e w14 ⟨rfl, hb⟩; have n0_ := Aside0.mk (below_step (by repeat (first | (with_reducible first | exact HB.out | apply below_alloc | apply pw_below_drewN | apply below_drew1) | exact HB.out)) hb); clear HB; have HB := n0_; clear n0_; (try clear hb); (try clear hb2); (try clear hk); (try clear hi)) | (go_at_call 56; (with_reducible refine (shunterref05_Place.calls k a0 a1 t251 t252 _ A7.out).mono ?_); rintro e w15 ⟨rfl, hb⟩; have n0_ := Aside0.mk (below_step (by repeat (first | (with_reducible first | exact HB.out | apply below_alloc | apply pw_below_drewN | apply below_drew1) | exact HB.out)) hb); clear HB; have HB := n0_; clear n0_; (try clear hb); (try clear hb2); (try clear hk); (try clear hi)))
        go_ret
        exact ⟨by first | rfl | (simp [errW_none, errW_some] <;> rfl) | (simp [*, errW_none, errW_some] <;> rfl), by repeat (first | (with_reducible first | exact HB.out | apply below_alloc | apply pw_below_drewN | apply below_drew1) | exact HB.out)⟩
    · rw [if_neg c8] at H
      have c8b0 : (t249 == t251) = false := beq_eq_false_iff_ne.mpr c8
      have c8b1 : (t249 != t251) = true := bne_iff_ne.mpr c8
      obtain rfl := Option.some.inj H
      go_enter Try.func13, Try.ntmps13
      go_wp2_with (first | ((with_reducible refine gate_callee (f := 55) rfl ?_); refine goesL_ (some 16) rfl rfl Try.func55 (by kernel_rfl) rfl #[.string a0, .int .i64 a1] rfl (by (try simp only [List.map_toArray, List.map_cons, List.map_nil]); first | done | rfl | (simp only [List.length_drop, List.length_take]; rfl)) ?_; (with_reducible refine (name_Place.calls a0 a1 t249 t250 _ A6.out).mono ?_); rintro e w16 ⟨rfl, hb⟩; refine ⟨_, rfl, ?_⟩; have n0_ := Aside0.mk (below_step (by repeat (first | (with_reducible first | exact HB.out | apply below_alloc | apply pw_below_drewN | apply below_drew1) | exact HB.out)) hb); clear HB; have HB := n0_; clear n0_; (try clear hb); (try clear hb2); (try clear hk); (try clear hi)) | ((with_reducible refine gate_callee (f := 56) rfl ?_); refine goesL_ (some 22) rfl rfl Try.func56 (by kernel_rfl) rfl #[.string a0, .int .i64 a1] rfl (by (try simp only [List.map_toArray, List.map_cons, List.map_nil]); first | done | rfl | (simp only [List.length_drop, List.length_take]; rfl)) ?_; (with_reducible refine (shunterref05_Place.calls k a0 a1 t251 t252 _ A7.out).mono ?_); rintro e w17 ⟨rfl, hb⟩; refine ⟨_, rfl, ?_⟩; have n0_ := Aside0.mk (below_step (by repeat (first | (with_reducible first | exact HB.out | apply below_alloc | apply pw_below_drewN | apply below_drew1) | exact HB.out)) hb); clear HB; have HB := n0_; clear n0_; (try clear hb); (try clear hb2); (try clear hk); (try clear hi)) | (go_at_call 55; (with_reducible refine (name_Place.calls a0 a1 t249 t250 _ A6.out).mono ?_); rintro e w16 ⟨rfl, hb⟩; have n0_ := Aside0.mk (below_step (by repeat (first | (with_reducible first | exact HB.out | apply below_alloc | apply pw_below_drewN | apply below_drew1) | exact HB.out)) hb); clear HB; have HB := n0_; clear n0_; (try clear hb); (try clear hb2); (try clear hk); (try clear hi)) | (go_at_call 56; (with_reducible refine (shunterref05_Place.calls k a0 a1 t251 t252 _ A7.out).mono ?_); rintro e w17 ⟨rfl, hb⟩; have n0_ := Aside0.mk (below_step (by repeat (first | (with_reducible first | exact HB.out | apply below_alloc | apply pw_below_drewN | apply below_drew1) | exact HB.out)) hb); clear HB; have HB := n0_; clear n0_; (try clear hb); (try clear hb2); (try clear hk); (try clear hi)))
      go_ret
      exact ⟨by first | rfl | (simp [errW_none, errW_some] <;> rfl) | (simp [*, errW_none, errW_some] <;> rfl), by repeat (first | (with_reducible first | exact HB.out | apply below_alloc | apply pw_below_drewN | apply below_drew1) | exact HB.out)⟩

/-- THE ONE PURE STATEMENT of shunterlaw05_NamePlaces: yours. -/
def shunterlaw05_NamePlaces.Pure : Prop := ∀ (a0 : ByteArray) (a1 : Int), a0.size ≤ 140737488351232 → (Lit.int .i64 a1).wf = true → ∃ k, shunterlaw05_NamePlaces.f k a0 a1 = some true
theorem shunterlaw05_NamePlaces.walk (P : shunterlaw05_NamePlaces.Pure) (a0 : ByteArray) (a1 : Int) (w : World) (w0 : a0.size ≤ 140737488351232) (w1 : (Lit.int .i64 a1).wf = true) :
    Calls Try.prog 13 #[.string a0, .int .i64 a1] w fun e w' => e = .returned (.bool true) ∧ Below w.heap.size w w' := by
  obtain ⟨k, h⟩ := P a0 a1 w0 w1
  refine (shunterlaw05_NamePlaces.calls k a0 a1 true w h).mono ?_
  rintro e w' ⟨rfl, hd⟩
  exact ⟨rfl, hd⟩

/-! ### name_Index: function 27 -/
-- EXT shunter/name.Index ROUNDS=0 MAKING=1 DEPS=shunter/name.Key
/-- The place of the first text whose key is the given one. -/
def idxGo (key : ByteArray) : List ByteArray → Nat → Option Int
  | [], _ => some (-1)
  | t :: ts, i => (name_Key.f t).bind fun kt => if kt.toList = key.toList then some (i : Int) else idxGo key ts (i + 1)
def name_Index.f (l0 : List ByteArray) (a1 : ByteArray) : Option Int := if l0.length < 9223372036854775807 then (name_Key.f a1).bind fun key => idxGo key l0 0 else none
set_option maxHeartbeats 400000 in
set_option maxRecDepth 100000 in
theorem idx_closure (t key kt : ByteArray) (w : World) (kb : Nat) (hk : w.heap[kb]? = some (.cells #[.string key] 9 (0, 0))) (hK : name_Key.f t = some kt) :
    Calls Try.prog 64 #[.string t, .pointer (some ⟨kb, 0, none⟩)] w fun e w' => e = .returned (.bool (kt.toList == key.toList)) ∧ Below w.heap.size w w' := by
  have HK := Aside0.mk hK
  have HC := Aside0.mk hk
  clear hK hk
  have k0 : w.cell? ⟨kb, 0, none⟩ = some (.string key) := by rw [Lib.cell_of_heap HC.out]; rfl
  have hKl := heap_lt HC.out
  have HKl := Aside0.mk hKl
  clear hKl
  go_enter Try.func64, Try.ntmps64
  go_wp2
  refine start_ (n := 5) (S := fun w' => w'.cell? ⟨kb, 0, none⟩ = some (.string key)) (ds := []) #[false, false, false, false, false] (by kernel_rfl) rfl rfl (k0) (fun hHeld => ?_)
  refine pure_ (i := 0) (N := some 4) (v := ?_) (a' := ?_) #[true, false, false, false, false] rfl rfl (by kernel_rfl) (fun _ _ _ h => h) (Or.inl ⟨by rfl, ?_⟩) ?_ ?_
  rotate_left
  · intro w'
    go_simp
    with_reducible rfl
  rotate_left
  · simp only [Act.put, List.setIfInBounds_toArray, List.set_cons_zero, List.set_cons_succ, i64_w, i32_w]
    rfl
  refine take_ (i := 2) (N := some 6) (v := ?_) (a' := ?_) #[true, false, true, false, false] rfl rfl (by kernel_rfl) (fun _ _ _ h => h) (Or.inl ⟨by rfl, ?_⟩) hHeld ?_ ?_
  rotate_left
  · intro w' s0
    go_simp
    with_reducible rfl
  rotate_left
  · simp only [Act.put, List.setIfInBounds_toArray, List.set_cons_zero, List.set_cons_succ, i64_w, i32_w]
    rfl
  refine one_ (i := 1) (N := some 5) #[true, true, true, false, false] rfl rfl (by kernel_rfl) (by decide) (fun K hK => ?_)
  refine goes_ Try.func44 (by kernel_rfl) rfl #[.string t] (by rfl) rfl rfl (by simp only [List.map_toArray, List.map_cons, List.map_nil]; rfl) ?_
  with_reducible refine (name_Key.calls _ _ _ HK.out).mono ?_
  rintro e w1 ⟨rfl, hb⟩
  refine ⟨_, rfl, ?_⟩
  have HB1 := Aside0.mk hb
  clear hb
  have k1 : w1.cell? ⟨kb, 0, none⟩ = some (.string key) := (HB1.out.cell HKl.out).trans k0
  refine hK.out _ _ (k1) (fun hHeld => ?_)
  clear hK K
  refine norm_ (a' := ?_) ?_ ?_
  rotate_left
  · show Act.put _ (some 5) _ = _
    simp only [Act.put, List.setIfInBounds_toArray, List.set_cons_zero, List.set_cons_succ, i64_w, i32_w]
    rfl
  refine pure_ (i := 3) (N := some 7) (v := ?_) (a' := ?_) #[true, true, true, true, false] rfl rfl (by kernel_rfl) (fun _ _ _ h => h) (Or.inl ⟨by rfl, ?_⟩) ?_ ?_
  rotate_left
  · intro w'
    go_simp
    with_reducible rfl
  rotate_left
  · simp only [Act.put, List.setIfInBounds_toArray, List.set_cons_zero, List.set_cons_succ, i64_w, i32_w]
    rfl
  refine pure_ (i := 4) (N := some 3) (v := ?_) (a' := ?_) #[true, true, true, true, true] rfl rfl (by kernel_rfl) (fun _ _ _ h => h) (Or.inl ⟨by rfl, ?_⟩) ?_ ?_
  rotate_left
  · intro w'
    go_simp
    with_reducible rfl
  rotate_left
  · simp only [Act.put, List.setIfInBounds_toArray, List.set_cons_zero, List.set_cons_succ, i64_w, i32_w]
    rfl
  refine done_ (by kernel_rfl) ?_
  go_wp2
  go_ret
  exact ⟨rfl, (below_drew1 (Below.refl _ _)).trans HB1.out⟩
theorem idxGo_drop (key : ByteArray) (l : List ByteArray) (i : Nat) (hi : i < l.length) : idxGo key (l.drop i) i = (name_Key.f (rdOf ByteArray.empty l i)).bind fun kt => if kt.toList = key.toList then some (i : Int) else idxGo key (l.drop (i + 1)) (i + 1) := by
  rw [List.drop_eq_getElem_cons hi, idxGo]
  congr 2
  simp [rdOf, hi]
set_option maxHeartbeats 400000 in
set_option maxRecDepth 100000 in
theorem idx_func (l0 : List ByteArray) (A0 : Option Addr) (c0 : Nat) (key : ByteArray) (r : Int) (w : World) (kb : Nat) (hk : w.heap[kb]? = some (.cells #[.string key] 9 (0, 0))) (hr0 : Kd.C Kd.string w A0 l0.length l0) (hc0 : l0.length ≤ c0) (hl : l0.length < 9223372036854775807) (h : idxGo key l0 0 = some r) :
    Calls Try.prog 63 #[.slice A0 l0.length c0, .func (.func 64) #[] #[.pointer (some ⟨kb, 0, none⟩)]] w fun e w' => e = .returned (.int .i64 r) ∧ Below w.heap.size w w' := by
  have HK := Aside0.mk hk
  have HR0 := Aside0.mk hr0
  have HKl := Aside0.mk (heap_lt hk)
  have H := Aside0.mk h
  clear hk hr0 h
  go_enter Try.func63, Try.ntmps63
  go_wp2
  go_loopw [8] (fun n w' => ∃ i : Nat, i ≤ l0.length ∧ n = .int .i64 i ∧ Aside0 (idxGo key (l0.drop i) i = some r) ∧ Aside0 (Below w.heap.size w w')) (fun n _ => l0.length - (intOf n).toNat)
  case atStart => exact ⟨0, Nat.zero_le _, rfl, H, ⟨Below.refl _ _⟩⟩
  case round =>
    obtain ⟨i, hi, rfl, HG, HB⟩ := hrel
    by_cases hlt : i < l0.length
    · have hg := HG.out
      rw [idxGo_drop _ _ _ hlt] at hg
      obtain ⟨kt, hkt, hg2⟩ := Option.bind_eq_some_iff.mp hg
      have HT := Aside0.mk hkt
      have HN := Aside0.mk hg2
      clear hkt hg hg2
      obtain ⟨ad, hA, hx⟩ := Kd.at_string (Kd.C_below HR0.out HB.out) (i : Int) (by omega) (by omega)
      subst hA
      rw [Int.toNat_natCast] at hx
      have HKw := Aside0.mk (show wr.heap[kb]? = some (.cells #[.string key] 9 (0, 0)) from by rw [HB.out.block kb HKl.out]; exact HK.out)
      by_cases he : kt.toList = key.toList
      · have heq : (kt.toList == key.toList) = true := by simp [he]
        have hr := HN.out
        rw [if_pos he] at hr
        obtain rfl := Option.some.inj hr
        clear he hr
        go_wp2_with (first | (go_at_call 64; refine (idx_closure _ key kt _ kb HKw.out HT.out).mono ?_; rintro e w1 ⟨rfl, hb⟩; have HB1 := Aside0.mk hb; clear hb; rw [heq]))
        go_ret
        exact ⟨rfl, below_step HB.out HB1.out⟩
      · have heq : (kt.toList == key.toList) = false := by simp [he]
        have hr := HN.out
        rw [if_neg he] at hr
        have HN2 := Aside0.mk hr
        clear he hr
        go_wp2_with (first | (go_at_call 64; refine (idx_closure _ key kt _ kb HKw.out HT.out).mono ?_; rintro e w1 ⟨rfl, hb⟩; have HB1 := Aside0.mk hb; clear hb; rw [heq]))
        go_roundw
        case rel => exact ⟨i + 1, hlt, by go_num, HN2, ⟨below_step HB.out HB1.out⟩⟩
        case measure => simp [intOf]; omega
    · obtain rfl : i = l0.length := by omega
      have hg := HG.out
      rw [List.drop_length, idxGo] at hg
      obtain rfl := Option.some.inj hg
      clear hg
      go_wp2
      go_ret
      exact ⟨rfl, HB.out⟩
set_option maxHeartbeats 400000 in
set_option maxRecDepth 100000 in
theorem name_Index.calls (A0 : Option Addr) (c0 : Nat) (l0 : List ByteArray) (a1 : ByteArray) (r : Int) (w : World) (hr0 : Kd.C Kd.string w A0 l0.length l0) (hc0 : l0.length ≤ c0) (h : name_Index.f l0 a1 = some r) :
    Calls Try.prog 27 #[.slice A0 l0.length c0, .string a1] w fun e w' => e = .returned (.int .i64 r) ∧ Below w.heap.size w w' := by
  unfold name_Index.f at h
  split at h
  case isFalse => cases h
  rename_i hl
  obtain ⟨key, hk, hg⟩ := Option.bind_eq_some_iff.mp h
  have HK := Aside0.mk hk
  have HG := Aside0.mk hg
  have HL := Aside0.mk hl
  have HR0 := Aside0.mk hr0
  clear hk hg h hl hr0
  have hmf : ∀ (fn : Fn) (first cap : Array Value) (w : World), (Instr.makeFunc fn first cap).run Try.prog w = .ok (.func fn first cap) w := fun _ _ _ _ => rfl
  go_enter Try.func27, Try.ntmps27
  go_wp2_with (first | (go_at_call 44; refine (name_Key.calls _ _ _ HK.out).mono ?_; rintro e w1 ⟨rfl, hb⟩; have HB1 := Aside0.mk hb; clear hb))
  have HB2 := Aside0.mk (below_alloc HB1.out (.cells #[.string key] 9 (0, 0)))
  refine (idx_func l0 A0 c0 key r _ w1.heap.size (heap_alloc_new _ _) (Kd.C_below HR0.out HB2.out) hc0 HL.out HG.out).mono ?_
  rintro e w2 ⟨rfl, hb⟩
  have HB3 := Aside0.mk hb
  clear hb
  go_wp2
  go_ret
  exact ⟨rfl, below_step HB2.out HB3.out⟩

end Go.Proofs.Ytjbpianofkblbaa.XN
