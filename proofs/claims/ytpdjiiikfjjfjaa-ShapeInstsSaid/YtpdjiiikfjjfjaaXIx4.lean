/- The Lean functions that this claim's Go functions compute, and that the machine's calls return them; laid by a program of this session (xprint.py), partly typed by hand. -/
import Derived.Test.YtpdjiiikfjjfjaaXIx0
import Derived.Test.YtpdjiiikfjjfjaaXIx3
namespace Go.Proofs.Ytpdjiiikfjjfjaa.XI
open Go.RowKit Go.Proofs.YtpdjiiikfjjfjaaW.PrintWords Go.Proofs.YtpdjiiikfjjfjaaW.PrintLast Go.Proofs.YtpdjiiikfjjfjaaW.PrintMore
attribute [local go_sem] max2_int min2_int max_two min_two max_three min_three max_four min_four   -- for this text's walks alone
set_option linter.unusedVariables false
set_option linter.unusedSimpArgs false

/-! ### shunterref05_First: function 52 -/
mutual
def shunterref05_First.j0 : Nat → ByteArray → Int → Bool → Option (Int × Int)
  | 0, _, _, _ => none
  | k + 1, x0, x4, x31 => if x31 = true then (if 1 < (x0.size : Int) then (some (wrap64 ((wrap64 ((wrap64 (64 * (wrap64 (x4 - 192)))) + (wrap64 (bt x0 1)))) - 128), 2)) else (none)) else (if x4 ≥ 224 then (if x4 < 240 then (if (x0.size : Int) ≥ 3 then (if 1 < (x0.size : Int) then ((shunterref05_more.f (bt x0 1)).bind fun t159 => (if t159 = true then (if 2 < (x0.size : Int) then ((shunterref05_more.f (bt x0 2)).bind fun t160 => (shunterref05_First.j1 k x0 x4 t160)) else (none)) else (shunterref05_First.j1 k x0 x4 false))) else (none)) else (shunterref05_First.j1 k x0 x4 false)) else (shunterref05_First.j1 k x0 x4 false)) else (shunterref05_First.j1 k x0 x4 false))
def shunterref05_First.j1 : Nat → ByteArray → Int → Bool → Option (Int × Int)
  | 0, _, _, _ => none
  | k + 1, x0, x4, x60 => if x60 = true then (if 1 < (x0.size : Int) then (if 2 < (x0.size : Int) then (if (wrap64 ((wrap64 ((wrap64 ((wrap64 (4096 * (wrap64 (x4 - 224)))) + (wrap64 (64 * (wrap64 ((wrap64 (bt x0 1)) - 128)))))) + (wrap64 (bt x0 2)))) - 128)) ≥ 2048 then (if (wrap64 ((wrap64 ((wrap64 ((wrap64 (4096 * (wrap64 (x4 - 224)))) + (wrap64 (64 * (wrap64 ((wrap64 (bt x0 1)) - 128)))))) + (wrap64 (bt x0 2)))) - 128)) < 55296 then (some (wrap64 ((wrap64 ((wrap64 ((wrap64 (4096 * (wrap64 (x4 - 224)))) + (wrap64 (64 * (wrap64 ((wrap64 (bt x0 1)) - 128)))))) + (wrap64 (bt x0 2)))) - 128), 3)) else (if (wrap64 ((wrap64 ((wrap64 ((wrap64 (4096 * (wrap64 (x4 - 224)))) + (wrap64 (64 * (wrap64 ((wrap64 (bt x0 1)) - 128)))))) + (wrap64 (bt x0 2)))) - 128)) > 57343 then (some (wrap64 ((wrap64 ((wrap64 ((wrap64 (4096 * (wrap64 (x4 - 224)))) + (wrap64 (64 * (wrap64 ((wrap64 (bt x0 1)) - 128)))))) + (wrap64 (bt x0 2)))) - 128), 3)) else (shunterref05_First.j2 k x0 x4))) else (shunterref05_First.j2 k x0 x4)) else (none)) else (none)) else (shunterref05_First.j2 k x0 x4)
def shunterref05_First.j2 : Nat → ByteArray → Int → Option (Int × Int)
  | 0, _, _ => none
  | k + 1, x0, x4 => if x4 ≥ 240 then (if x4 < 245 then (if (x0.size : Int) ≥ 4 then (if 1 < (x0.size : Int) then ((shunterref05_more.f (bt x0 1)).bind fun t161 => (if t161 = true then (if 2 < (x0.size : Int) then ((shunterref05_more.f (bt x0 2)).bind fun t162 => (if t162 = true then (if 3 < (x0.size : Int) then ((shunterref05_more.f (bt x0 3)).bind fun t163 => (shunterref05_First.j3 k x0 x4 t163)) else (none)) else (shunterref05_First.j3 k x0 x4 false))) else (none)) else (shunterref05_First.j3 k x0 x4 false))) else (none)) else (shunterref05_First.j3 k x0 x4 false)) else (shunterref05_First.j3 k x0 x4 false)) else (shunterref05_First.j3 k x0 x4 false)
def shunterref05_First.j3 : Nat → ByteArray → Int → Bool → Option (Int × Int)
  | 0, _, _, _ => none
  | k + 1, x0, x4, x111 => if x111 = true then (if 1 < (x0.size : Int) then (if 2 < (x0.size : Int) then (if 3 < (x0.size : Int) then (if (wrap64 ((wrap64 ((wrap64 ((wrap64 ((wrap64 (262144 * (wrap64 (x4 - 240)))) + (wrap64 (4096 * (wrap64 ((wrap64 (bt x0 1)) - 128)))))) + (wrap64 (64 * (wrap64 ((wrap64 (bt x0 2)) - 128)))))) + (wrap64 (bt x0 3)))) - 128)) ≥ 65536 then (if (wrap64 ((wrap64 ((wrap64 ((wrap64 ((wrap64 (262144 * (wrap64 (x4 - 240)))) + (wrap64 (4096 * (wrap64 ((wrap64 (bt x0 1)) - 128)))))) + (wrap64 (64 * (wrap64 ((wrap64 (bt x0 2)) - 128)))))) + (wrap64 (bt x0 3)))) - 128)) ≤ 1114111 then (some (wrap64 ((wrap64 ((wrap64 ((wrap64 ((wrap64 (262144 * (wrap64 (x4 - 240)))) + (wrap64 (4096 * (wrap64 ((wrap64 (bt x0 1)) - 128)))))) + (wrap64 (64 * (wrap64 ((wrap64 (bt x0 2)) - 128)))))) + (wrap64 (bt x0 3)))) - 128), 4)) else (some (65533, 1))) else (some (65533, 1))) else (none)) else (none)) else (none)) else (some (65533, 1))
end
def shunterref05_First.f (k : Nat) (a0 : ByteArray) : Option (Int × Int) := if (a0.size : Int) = 0 then (some (65533, 0)) else (if 0 < (a0.size : Int) then (if (wrap64 (bt a0 0)) < 128 then (some (wrap64 (bt a0 0), 1)) else (if (wrap64 (bt a0 0)) ≥ 194 then (if (wrap64 (bt a0 0)) < 224 then (if (a0.size : Int) ≥ 2 then (if 1 < (a0.size : Int) then ((shunterref05_more.f (bt a0 1)).bind fun t158 => (shunterref05_First.j0 k a0 (wrap64 (bt a0 0)) t158)) else (none)) else (shunterref05_First.j0 k a0 (wrap64 (bt a0 0)) false)) else (shunterref05_First.j0 k a0 (wrap64 (bt a0 0)) false)) else (shunterref05_First.j0 k a0 (wrap64 (bt a0 0)) false))) else (none))
theorem shunterref05_First.mono_l : ∀ k, (∀ y0 y1 y2, LeO (shunterref05_First.j0 k y0 y1 y2) (shunterref05_First.j0 (k + 1) y0 y1 y2)) ∧ (∀ y0 y1 y2, LeO (shunterref05_First.j1 k y0 y1 y2) (shunterref05_First.j1 (k + 1) y0 y1 y2)) ∧ (∀ y0 y1, LeO (shunterref05_First.j2 k y0 y1) (shunterref05_First.j2 (k + 1) y0 y1)) ∧ (∀ y0 y1 y2, LeO (shunterref05_First.j3 k y0 y1 y2) (shunterref05_First.j3 (k + 1) y0 y1 y2))
  | 0 => ⟨fun _ _ _ r h => by simp [shunterref05_First.j0] at h, fun _ _ _ r h => by simp [shunterref05_First.j1] at h, fun _ _ r h => by simp [shunterref05_First.j2] at h, fun _ _ _ r h => by simp [shunterref05_First.j3] at h⟩
  | k + 1 => by
    obtain ⟨ih0, ih1, ih2, ih3⟩ := shunterref05_First.mono_l k
    refine ⟨?_, ?_, ?_, ?_⟩
    · intro y0 y1 y2
      unfold shunterref05_First.j0
      repeat' first
      | (with_reducible exact ih0 _ _ _)
      | (with_reducible exact ih1 _ _ _)
      | (with_reducible exact ih2 _ _)
      | (with_reducible exact ih3 _ _ _)
      | (with_reducible exact LeO.refl _)
      | (with_reducible exact LeO.none _)
      | (with_reducible refine LeO.ite ?_ ?_)
      | (with_reducible refine LeO.bind ?_ (fun _ => ?_))
      | exact ih0 _ _ _
      | exact ih1 _ _ _
      | exact ih2 _ _
      | exact ih3 _ _ _
      | exact LeO.none _
      | refine LeO.ite ?_ ?_
      | refine LeO.bind ?_ (fun _ => ?_)
    · intro y0 y1 y2
      unfold shunterref05_First.j1
      repeat' first
      | (with_reducible exact ih0 _ _ _)
      | (with_reducible exact ih1 _ _ _)
      | (with_reducible exact ih2 _ _)
      | (with_reducible exact ih3 _ _ _)
      | (with_reducible exact LeO.refl _)
      | (with_reducible exact LeO.none _)
      | (with_reducible refine LeO.ite ?_ ?_)
      | (with_reducible refine LeO.bind ?_ (fun _ => ?_))
      | exact ih0 _ _ _
      | exact ih1 _ _ _
      | exact ih2 _ _
      | exact ih3 _ _ _
      | exact LeO.none _
      | refine LeO.ite ?_ ?_
      | refine LeO.bind ?_ (fun _ => ?_)
    · intro y0 y1
      unfold shunterref05_First.j2
      repeat' first
      | (with_reducible exact ih0 _ _ _)
      | (with_reducible exact ih1 _ _ _)
      | (with_reducible exact ih2 _ _)
      | (with_reducible exact ih3 _ _ _)
      | (with_reducible exact LeO.refl _)
      | (with_reducible exact LeO.none _)
      | (with_reducible refine LeO.ite ?_ ?_)
      | (with_reducible refine LeO.bind ?_ (fun _ => ?_))
      | exact ih0 _ _ _
      | exact ih1 _ _ _
      | exact ih2 _ _
      | exact ih3 _ _ _
      | exact LeO.none _
      | refine LeO.ite ?_ ?_
      | refine LeO.bind ?_ (fun _ => ?_)
    · intro y0 y1 y2
      unfold shunterref05_First.j3
      repeat' first
      | (with_reducible exact ih0 _ _ _)
      | (with_reducible exact ih1 _ _ _)
      | (with_reducible exact ih2 _ _)
      | (with_reducible exact ih3 _ _ _)
      | (with_reducible exact LeO.refl _)
      | (with_reducible exact LeO.none _)
      | (with_reducible refine LeO.ite ?_ ?_)
      | (with_reducible refine LeO.bind ?_ (fun _ => ?_))
      | exact ih0 _ _ _
      | exact ih1 _ _ _
      | exact ih2 _ _
      | exact ih3 _ _ _
      | exact LeO.none _
      | refine LeO.ite ?_ ?_
      | refine LeO.bind ?_ (fun _ => ?_)
theorem shunterref05_First.mono : ∀ a0 k, LeO (shunterref05_First.f k a0) (shunterref05_First.f (k + 1) a0) := by
  intro a0 k
  obtain ⟨ih0, ih1, ih2, ih3⟩ := shunterref05_First.mono_l k
  unfold shunterref05_First.f
  repeat' first
      | (with_reducible exact ih0 _ _ _)
      | (with_reducible exact ih1 _ _ _)
      | (with_reducible exact ih2 _ _)
      | (with_reducible exact ih3 _ _ _)
      | (with_reducible exact LeO.refl _)
      | (with_reducible exact LeO.none _)
      | (with_reducible refine LeO.ite ?_ ?_)
      | (with_reducible refine LeO.bind ?_ (fun _ => ?_))
      | exact ih0 _ _ _
      | exact ih1 _ _ _
      | exact ih2 _ _
      | exact ih3 _ _ _
      | exact LeO.none _
      | refine LeO.ite ?_ ?_
      | refine LeO.bind ?_ (fun _ => ?_)
set_option maxHeartbeats 8000000 in
set_option maxRecDepth 100000 in
theorem shunterref05_First.calls (k : Nat) (a0 : ByteArray) (r1 : Int) (r2 : Int) (w : World) (h : shunterref05_First.f k a0 = some (r1, r2)) :
    Calls Try.prog 52 #[.string a0] w fun e w' => e = .returned (.tuple #[.int .i64 r1, .int .i64 r2]) ∧ Drawn0 w w' := by
  have H : (if (a0.size : Int) = 0 then (some (65533, 0)) else (if 0 < (a0.size : Int) then (if (wrap64 (bt a0 0)) < 128 then (some (wrap64 (bt a0 0), 1)) else (if (wrap64 (bt a0 0)) ≥ 194 then (if (wrap64 (bt a0 0)) < 224 then (if (a0.size : Int) ≥ 2 then (if 1 < (a0.size : Int) then ((shunterref05_more.f (bt a0 1)).bind fun t158 => (shunterref05_First.j0 k a0 (wrap64 (bt a0 0)) t158)) else (none)) else (shunterref05_First.j0 k a0 (wrap64 (bt a0 0)) false)) else (shunterref05_First.j0 k a0 (wrap64 (bt a0 0)) false)) else (shunterref05_First.j0 k a0 (wrap64 (bt a0 0)) false))) else (none))) = some (r1, r2) := h
  clear h
  by_cases c2 : (a0.size : Int) = 0
  · rw [if_pos c2] at H
    have c2b0 : ((a0.size : Int) == 0) = true := beq_iff_eq.mpr c2
    have c2b1 : ((a0.size : Int) != 0) = false := bne_eq_false_iff_eq.mpr c2
    clear c2
    simp only [Option.some.injEq, Prod.mk.injEq] at H
    obtain ⟨rfl, rfl⟩ := H
    go_enter Try.func52, Try.ntmps52
    go_wp2
    repeat (go_quiet (fail); try go_wp2)
    go_ret2
    exact ⟨by first | rfl | (simp; done) | (simp [*]; done), by repeat (first | exact Drawn0.refl _ | apply Drawn0.step)⟩
  · rw [if_neg c2] at H
    have c2b0 : ((a0.size : Int) == 0) = false := beq_eq_false_iff_ne.mpr c2
    have c2b1 : ((a0.size : Int) != 0) = true := bne_iff_ne.mpr c2
    by_cases c3 : 0 < (a0.size : Int)
    · rw [if_pos c3] at H
      have c3b0 : decide (0 < (a0.size : Int)) = true := decide_eq_true c3
      have c3b1 : decide (0 < a0.size) = true := decide_eq_true (by omega)
      clear c3
      by_cases c5 : (wrap64 (bt a0 0)) < 128
      · rw [if_pos c5] at H
        have c5b0 : decide ((wrap64 (bt a0 0)) < 128) = true := decide_eq_true c5
        clear c5
        simp only [Option.some.injEq, Prod.mk.injEq] at H
        obtain ⟨rfl, rfl⟩ := H
        have p4 : 0 ≤ (0 : Int) := (by omega)
        have q4 : 0 < a0.size := (by have : (0 : Int) < (a0.size : Int) := of_decide_eq_true (by first | (with_reducible assumption) | assumption); omega)
        have hx4 : ∀ h : 0 < a0.size, ((a0[0]'h).toNat : Int) = bt a0 0 := bt_at a0 0
        clear p4
        have qi4 : (0 < (a0.size : Int)) = True := eq_true (of_decide_eq_true (by first | (with_reducible assumption) | assumption))
        replace q4 := eq_true q4
        go_enter Try.func52, Try.ntmps52
        go_wp2
        repeat (go_quiet (fail); try go_wp2)
        go_ret2
        exact ⟨by first | rfl | (simp; done) | (simp [*]; done), by repeat (first | exact Drawn0.refl _ | apply Drawn0.step)⟩
      · rw [if_neg c5] at H
        have c5b0 : decide ((wrap64 (bt a0 0)) < 128) = false := decide_eq_false c5
        clear c5
        have HC6 := Aside0.mk H
        clear H
        have p4 : 0 ≤ (0 : Int) := (by omega)
        have q4 : 0 < a0.size := (by have : (0 : Int) < (a0.size : Int) := of_decide_eq_true (by first | (with_reducible assumption) | assumption); omega)
        have hx4 : ∀ h : 0 < a0.size, ((a0[0]'h).toNat : Int) = bt a0 0 := bt_at a0 0
        clear p4
        have qi4 : (0 < (a0.size : Int)) = True := eq_true (of_decide_eq_true (by first | (with_reducible assumption) | assumption))
        replace q4 := eq_true q4
        go_enter Try.func52, Try.ntmps52
        go_upto_region 6 with (fail)
        repeat (go_quiet (fail); go_upto_region 6 with (fail))
        go_cut [31] (fun v31 wc => ∃ (kq : Nat) (x31_5 : Bool), v31 = .bool x31_5 ∧ Aside0 (shunterref05_First.j0 kq a0 (wrap64 (bt a0 0)) x31_5 = some (r1, r2)) ∧ Aside0 (kq ≤ k) ∧ Drawn0 w wc)
        case first =>
          have H := HC6.out
          clear HC6
          by_cases c7 : (wrap64 (bt a0 0)) ≥ 194
          · rw [if_pos c7] at H
            have c7b0 : decide (194 ≤ (wrap64 (bt a0 0))) = true := decide_eq_true c7
            clear c7
            (first | rw [c7b0] | (simp only [i64_w, i32_w]; rw [c7b0]) | skip)
            by_cases c8 : (wrap64 (bt a0 0)) < 224
            · rw [if_pos c8] at H
              have c8b0 : decide ((wrap64 (bt a0 0)) < 224) = true := decide_eq_true c8
              clear c8
              by_cases c9 : (a0.size : Int) ≥ 2
              · rw [if_pos c9] at H
                have c9b0 : decide (2 ≤ (a0.size : Int)) = true := decide_eq_true c9
                have c9b1 : decide (2 ≤ a0.size) = true := decide_eq_true (by omega)
                clear c9
                by_cases c10 : 1 < (a0.size : Int)
                · rw [if_pos c10] at H
                  have c10b0 : decide (1 < (a0.size : Int)) = true := decide_eq_true c10
                  have c10b1 : decide (1 < a0.size) = true := decide_eq_true (by omega)
                  clear c10
                  replace H := Option.bind_eq_some_iff.mp H
                  obtain ⟨t158, A120, H⟩ := H
                  replace H : (shunterref05_First.j0 k a0 (wrap64 (bt a0 0)) t158) = some (r1, r2) := H
                  have A12 := Aside0.mk A120
                  clear A120
                  have H' := Aside0.mk H
                  clear H
                  have p11 : 0 ≤ (1 : Int) := (by omega)
                  have q11 : 1 < a0.size := (by have : (1 : Int) < (a0.size : Int) := of_decide_eq_true (by first | (with_reducible assumption) | assumption); omega)
                  have hx11 : ∀ h : 1 < a0.size, ((a0[1]'h).toNat : Int) = bt a0 1 := bt_at a0 1
                  clear p11
                  have qi11 : (1 < (a0.size : Int)) = True := eq_true (of_decide_eq_true (by first | (with_reducible assumption) | assumption))
                  replace q11 := eq_true q11
                  go_wp2_with (first | (go_at_call 58; (with_reducible refine (shunterref05_more.calls (bt a0 1) t158 _ A12.out).mono ?_); rintro e w' ⟨rfl, ⟨nd, rfl⟩⟩; (try first | exact ⟨rfl, _, World.drewN_drewN _ _ _⟩ | exact ⟨rfl, _, Eq.trans (World.drewN_drewN _ _ _) (congrArg (World.drewN _) (Nat.add_assoc _ _ _))⟩)))
                  repeat (go_quiet (first | (go_at_call 58; (with_reducible refine (shunterref05_more.calls (bt a0 1) t158 _ A12.out).mono ?_); rintro e w' ⟨rfl, ⟨nd, rfl⟩⟩; (try first | exact ⟨rfl, _, World.drewN_drewN _ _ _⟩ | exact ⟨rfl, _, Eq.trans (World.drewN_drewN _ _ _) (congrArg (World.drewN _) (Nat.add_assoc _ _ _))⟩))); try go_wp2_with (first | (go_at_call 58; (with_reducible refine (shunterref05_more.calls (bt a0 1) t158 _ A12.out).mono ?_); rintro e w' ⟨rfl, ⟨nd, rfl⟩⟩; (try first | exact ⟨rfl, _, World.drewN_drewN _ _ _⟩ | exact ⟨rfl, _, Eq.trans (World.drewN_drewN _ _ _) (congrArg (World.drewN _) (Nat.add_assoc _ _ _))⟩))))
                  go_meet
                  case rel => exact ⟨_, (t158), (by first | rfl | (simp; done) | (simp [*]; done)), H', ⟨by first | omega | exact Nat.le_refl _⟩, by repeat (first | exact Drawn0.refl _ | apply Drawn0.step)⟩
                · rw [if_neg c10] at H
                  exact absurd H (by simp)
              · rw [if_neg c9] at H
                have c9b0 : decide (2 ≤ (a0.size : Int)) = false := decide_eq_false c9
                have c9b1 : decide (2 ≤ a0.size) = false := decide_eq_false (by omega)
                clear c9
                have H' := Aside0.mk H
                clear H
                go_wp2
                repeat (go_quiet (fail); try go_wp2)
                go_meet
                case rel => exact ⟨_, (false), (by first | rfl | (simp; done) | (simp [*]; done)), H', ⟨by first | omega | exact Nat.le_refl _⟩, by repeat (first | exact Drawn0.refl _ | apply Drawn0.step)⟩
            · rw [if_neg c8] at H
              have c8b0 : decide ((wrap64 (bt a0 0)) < 224) = false := decide_eq_false c8
              clear c8
              have H' := Aside0.mk H
              clear H
              go_wp2
              repeat (go_quiet (fail); try go_wp2)
              go_meet
              case rel => exact ⟨_, (false), (by first | rfl | (simp; done) | (simp [*]; done)), H', ⟨by first | omega | exact Nat.le_refl _⟩, by repeat (first | exact Drawn0.refl _ | apply Drawn0.step)⟩
          · rw [if_neg c7] at H
            have c7b0 : decide (194 ≤ (wrap64 (bt a0 0))) = false := decide_eq_false c7
            clear c7
            (first | rw [c7b0] | (simp only [i64_w, i32_w]; rw [c7b0]) | skip)
            have H' := Aside0.mk H
            clear H
            go_wp2
            repeat (go_quiet (fail); try go_wp2)
            go_meet
            case rel => exact ⟨_, (false), (by first | rfl | (simp; done) | (simp [*]; done)), H', ⟨by first | omega | exact Nat.le_refl _⟩, by repeat (first | exact Drawn0.refl _ | apply Drawn0.step)⟩
        case rest =>
          clear HC6
          try clear c1
          try clear p1
          try clear q1
          try clear hx1
          try clear qi1
          try clear c2
          try clear c2b0
          try clear c2b1
          try clear p2
          try clear c3
          try clear c3b0
          try clear c3b1
          try clear p4
          try clear q4
          try clear hx4
          try clear qi4
          try clear c5
          try clear c5b0
          try clear p6
          try clear c7
          try clear c7b0
          try clear c8
          try clear c8b0
          try clear c9
          try clear c9b0
          try clear c9b1
          try clear c10
          try clear c10b0
          try clear c10b1
          try clear p11
          try clear q11
          try clear hx11
          try clear qi11
          try clear p11
          try clear p4
          try clear q11
          try clear q4
          obtain ⟨kq, x31_5, rfl, HA, HJ5, ⟨mc5, rfl⟩⟩ := hcut
          cases kq with
          | zero => exact absurd HA.out (by simp [shunterref05_First.j0])
          | succ kj5 =>
            have H := HA.out
            clear HA
            simp only [shunterref05_First.j0] at H
            by_cases c13 : x31_5 = true
            · subst c13
              have H1 : (if 1 < (a0.size : Int) then (some (wrap64 ((wrap64 ((wrap64 (64 * (wrap64 ((wrap64 (bt a0 0)) - 192)))) + (wrap64 (bt a0 1)))) - 128), 2)) else (none)) = some (r1, r2) := by rw [if_pos rfl] at H; exact H
              clear H
              have H := H1
              clear H1
              by_cases c14 : 1 < (a0.size : Int)
              · rw [if_pos c14] at H
                have c14b0 : decide (1 < (a0.size : Int)) = true := decide_eq_true c14
                have c14b1 : decide (1 < a0.size) = true := decide_eq_true (by omega)
                clear c14
                simp only [Option.some.injEq, Prod.mk.injEq] at H
                obtain ⟨rfl, rfl⟩ := H
                have p15 : 0 ≤ (1 : Int) := (by omega)
                have q15 : 1 < a0.size := (by have : (1 : Int) < (a0.size : Int) := of_decide_eq_true (by first | (with_reducible assumption) | assumption); omega)
                have hx15 : ∀ h : 1 < a0.size, ((a0[1]'h).toNat : Int) = bt a0 1 := bt_at a0 1
                clear p15
                have qi15 : (1 < (a0.size : Int)) = True := eq_true (of_decide_eq_true (by first | (with_reducible assumption) | assumption))
                replace q15 := eq_true q15
                go_wp2
                repeat (go_quiet (fail); try go_wp2)
                go_ret2
                exact ⟨by first | rfl | (simp; done) | (simp [*]; done), by repeat (first | exact Drawn0.refl _ | apply Drawn0.step)⟩
              · rw [if_neg c14] at H
                exact absurd H (by simp)
            · replace c13 := Bool.eq_false_iff.mpr c13
              subst c13
              have H1 : (if (wrap64 (bt a0 0)) ≥ 224 then (if (wrap64 (bt a0 0)) < 240 then (if (a0.size : Int) ≥ 3 then (if 1 < (a0.size : Int) then ((shunterref05_more.f (bt a0 1)).bind fun t159 => (if t159 = true then (if 2 < (a0.size : Int) then ((shunterref05_more.f (bt a0 2)).bind fun t160 => (shunterref05_First.j1 kj5 a0 (wrap64 (bt a0 0)) t160)) else (none)) else (shunterref05_First.j1 kj5 a0 (wrap64 (bt a0 0)) false))) else (none)) else (shunterref05_First.j1 kj5 a0 (wrap64 (bt a0 0)) false)) else (shunterref05_First.j1 kj5 a0 (wrap64 (bt a0 0)) false)) else (shunterref05_First.j1 kj5 a0 (wrap64 (bt a0 0)) false)) = some (r1, r2) := by rw [if_neg (show ¬ (false = true) by decide)] at H; exact H
              clear H
              have H := H1
              clear H1
              have HC16 := Aside0.mk H
              clear H
              go_upto_region 8 with (fail)
              repeat (go_quiet (fail); go_upto_region 8 with (fail))
              go_cut [60] (fun v60 wc => ∃ (kq : Nat) (x60_15 : Bool), v60 = .bool x60_15 ∧ Aside0 (shunterref05_First.j1 kq a0 (wrap64 (bt a0 0)) x60_15 = some (r1, r2)) ∧ Aside0 (kq ≤ kj5) ∧ Drawn0 w wc)
              case first =>
                have H := HC16.out
                clear HC16
                by_cases c17 : (wrap64 (bt a0 0)) ≥ 224
                · rw [if_pos c17] at H
                  have c17b0 : decide (224 ≤ (wrap64 (bt a0 0))) = true := decide_eq_true c17
                  clear c17
                  (first | rw [c17b0] | (simp only [i64_w, i32_w]; rw [c17b0]) | skip)
                  by_cases c18 : (wrap64 (bt a0 0)) < 240
                  · rw [if_pos c18] at H
                    have c18b0 : decide ((wrap64 (bt a0 0)) < 240) = true := decide_eq_true c18
                    clear c18
                    by_cases c19 : (a0.size : Int) ≥ 3
                    · rw [if_pos c19] at H
                      have c19b0 : decide (3 ≤ (a0.size : Int)) = true := decide_eq_true c19
                      have c19b1 : decide (3 ≤ a0.size) = true := decide_eq_true (by omega)
                      clear c19
                      by_cases c20 : 1 < (a0.size : Int)
                      · rw [if_pos c20] at H
                        have c20b0 : decide (1 < (a0.size : Int)) = true := decide_eq_true c20
                        have c20b1 : decide (1 < a0.size) = true := decide_eq_true (by omega)
                        clear c20
                        replace H := Option.bind_eq_some_iff.mp H
                        obtain ⟨t159, A220, H⟩ := H
                        replace H : (if t159 = true then (if 2 < (a0.size : Int) then ((shunterref05_more.f (bt a0 2)).bind fun t160 => (shunterref05_First.j1 kj5 a0 (wrap64 (bt a0 0)) t160)) else (none)) else (shunterref05_First.j1 kj5 a0 (wrap64 (bt a0 0)) false)) = some (r1, r2) := H
                        have A22 := Aside0.mk A220
                        clear A220
                        by_cases c23 : t159 = true
                        · subst c23
                          have H1 : (if 2 < (a0.size : Int) then ((shunterref05_more.f (bt a0 2)).bind fun t160 => (shunterref05_First.j1 kj5 a0 (wrap64 (bt a0 0)) t160)) else (none)) = some (r1, r2) := by rw [if_pos rfl] at H; exact H
                          clear H
                          have H := H1
                          clear H1
                          by_cases c24 : 2 < (a0.size : Int)
                          · rw [if_pos c24] at H
                            have c24b0 : decide (2 < (a0.size : Int)) = true := decide_eq_true c24
                            have c24b1 : decide (2 < a0.size) = true := decide_eq_true (by omega)
                            clear c24
                            replace H := Option.bind_eq_some_iff.mp H
                            obtain ⟨t160, A260, H⟩ := H
                            replace H : (shunterref05_First.j1 kj5 a0 (wrap64 (bt a0 0)) t160) = some (r1, r2) := H
                            have A26 := Aside0.mk A260
                            clear A260
                            have H' := Aside0.mk H
                            clear H
                            have p21 : 0 ≤ (1 : Int) := (by omega)
                            have q21 : 1 < a0.size := (by have : (1 : Int) < (a0.size : Int) := of_decide_eq_true (by first | (with_reducible assumption) | assumption); omega)
                            have hx21 : ∀ h : 1 < a0.size, ((a0[1]'h).toNat : Int) = bt a0 1 := bt_at a0 1
                            clear p21
                            have qi21 : (1 < (a0.size : Int)) = True := eq_true (of_decide_eq_true (by first | (with_reducible assumption) | assumption))
                            replace q21 := eq_true q21
                            go_wp2_with (first | (go_at_call 58; (with_reducible refine (shunterref05_more.calls (bt a0 1) true _ A22.out).mono ?_); rintro e w' ⟨rfl, ⟨nd, rfl⟩⟩; (try first | exact ⟨rfl, _, World.drewN_drewN _ _ _⟩ | exact ⟨rfl, _, Eq.trans (World.drewN_drewN _ _ _) (congrArg (World.drewN _) (Nat.add_assoc _ _ _))⟩); have p25 : 0 ≤ (2 : Int) := (by omega); have q25 : 2 < a0.size := (by have : (2 : Int) < (a0.size : Int) := of_decide_eq_true (by first | (with_reducible assumption) | assumption); omega); have hx25 : ∀ h : 2 < a0.size, ((a0[2]'h).toNat : Int) = bt a0 2 := bt_at a0 2; clear p25; have qi25 : (2 < (a0.size : Int)) = True := eq_true (of_decide_eq_true (by first | (with_reducible assumption) | assumption)); replace q25 := eq_true q25) | (go_at_call 58; (with_reducible refine (shunterref05_more.calls (bt a0 2) t160 _ A26.out).mono ?_); rintro e w' ⟨rfl, ⟨nd, rfl⟩⟩; (try first | exact ⟨rfl, _, World.drewN_drewN _ _ _⟩ | exact ⟨rfl, _, Eq.trans (World.drewN_drewN _ _ _) (congrArg (World.drewN _) (Nat.add_assoc _ _ _))⟩)))
                            repeat (go_quiet (first | (go_at_call 58; (with_reducible refine (shunterref05_more.calls (bt a0 1) true _ A22.out).mono ?_); rintro e w' ⟨rfl, ⟨nd, rfl⟩⟩; (try first | exact ⟨rfl, _, World.drewN_drewN _ _ _⟩ | exact ⟨rfl, _, Eq.trans (World.drewN_drewN _ _ _) (congrArg (World.drewN _) (Nat.add_assoc _ _ _))⟩); have p25 : 0 ≤ (2 : Int) := (by omega); have q25 : 2 < a0.size := (by have : (2 : Int) < (a0.size : Int) := of_decide_eq_true (by first | (with_reducible assumption) | assumption); omega); have hx25 : ∀ h : 2 < a0.size, ((a0[2]'h).toNat : Int) = bt a0 2 := bt_at a0 2; clear p25; have qi25 : (2 < (a0.size : Int)) = True := eq_true (of_decide_eq_true (by first | (with_reducible assumption) | assumption)); replace q25 := eq_true q25) | (go_at_call 58; (with_reducible refine (shunterref05_more.calls (bt a0 2) t160 _ A26.out).mono ?_); rintro e w' ⟨rfl, ⟨nd, rfl⟩⟩; (try first | exact ⟨rfl, _, World.drewN_drewN _ _ _⟩ | exact ⟨rfl, _, Eq.trans (World.drewN_drewN _ _ _) (congrArg (World.drewN _) (Nat.add_assoc _ _ _))⟩))); try go_wp2_with (first | (go_at_call 58; (with_reducible refine (shunterref05_more.calls (bt a0 1) true _ A22.out).mono ?_); rintro e w' ⟨rfl, ⟨nd, rfl⟩⟩; (try first | exact ⟨rfl, _, World.drewN_drewN _ _ _⟩ | exact ⟨rfl, _, Eq.trans (World.drewN_drewN _ _ _) (congrArg (World.drewN _) (Nat.add_assoc _ _ _))⟩); have p25 : 0 ≤ (2 : Int) := (by omega); have q25 : 2 < a0.size := (by have : (2 : Int) < (a0.size : Int) := of_decide_eq_true (by first | (with_reducible assumption) | assumption); omega); have hx25 : ∀ h : 2 < a0.size, ((a0[2]'h).toNat : Int) = bt a0 2 := bt_at a0 2; clear p25; have qi25 : (2 < (a0.size : Int)) = True := eq_true (of_decide_eq_true (by first | (with_reducible assumption) | assumption)); replace q25 := eq_true q25) | (go_at_call 58; (with_reducible refine (shunterref05_more.calls (bt a0 2) t160 _ A26.out).mono ?_); rintro e w' ⟨rfl, ⟨nd, rfl⟩⟩; (try first | exact ⟨rfl, _, World.drewN_drewN _ _ _⟩ | exact ⟨rfl, _, Eq.trans (World.drewN_drewN _ _ _) (congrArg (World.drewN _) (Nat.add_assoc _ _ _))⟩))))
                            go_meet
                            case rel => exact ⟨_, (t160), (by first | rfl | (simp; done) | (simp [*]; done)), H', ⟨by have := HJ5.out; first | omega | exact Nat.le_refl _⟩, by repeat (first | exact Drawn0.refl _ | apply Drawn0.step)⟩
                          · rw [if_neg c24] at H
                            exact absurd H (by simp)
                        · replace c23 := Bool.eq_false_iff.mpr c23
                          subst c23
                          have H1 : (shunterref05_First.j1 kj5 a0 (wrap64 (bt a0 0)) false) = some (r1, r2) := by rw [if_neg (show ¬ (false = true) by decide)] at H; exact H
                          clear H
                          have H := H1
                          clear H1
                          have H' := Aside0.mk H
                          clear H
                          have p21 : 0 ≤ (1 : Int) := (by omega)
                          have q21 : 1 < a0.size := (by have : (1 : Int) < (a0.size : Int) := of_decide_eq_true (by first | (with_reducible assumption) | assumption); omega)
                          have hx21 : ∀ h : 1 < a0.size, ((a0[1]'h).toNat : Int) = bt a0 1 := bt_at a0 1
                          clear p21
                          have qi21 : (1 < (a0.size : Int)) = True := eq_true (of_decide_eq_true (by first | (with_reducible assumption) | assumption))
                          replace q21 := eq_true q21
                          go_wp2_with (first | (go_at_call 58; (with_reducible refine (shunterref05_more.calls (bt a0 1) false _ A22.out).mono ?_); rintro e w' ⟨rfl, ⟨nd, rfl⟩⟩; (try first | exact ⟨rfl, _, World.drewN_drewN _ _ _⟩ | exact ⟨rfl, _, Eq.trans (World.drewN_drewN _ _ _) (congrArg (World.drewN _) (Nat.add_assoc _ _ _))⟩)))
                          repeat (go_quiet (first | (go_at_call 58; (with_reducible refine (shunterref05_more.calls (bt a0 1) false _ A22.out).mono ?_); rintro e w' ⟨rfl, ⟨nd, rfl⟩⟩; (try first | exact ⟨rfl, _, World.drewN_drewN _ _ _⟩ | exact ⟨rfl, _, Eq.trans (World.drewN_drewN _ _ _) (congrArg (World.drewN _) (Nat.add_assoc _ _ _))⟩))); try go_wp2_with (first | (go_at_call 58; (with_reducible refine (shunterref05_more.calls (bt a0 1) false _ A22.out).mono ?_); rintro e w' ⟨rfl, ⟨nd, rfl⟩⟩; (try first | exact ⟨rfl, _, World.drewN_drewN _ _ _⟩ | exact ⟨rfl, _, Eq.trans (World.drewN_drewN _ _ _) (congrArg (World.drewN _) (Nat.add_assoc _ _ _))⟩))))
                          go_meet
                          case rel => exact ⟨_, (false), (by first | rfl | (simp; done) | (simp [*]; done)), H', ⟨by have := HJ5.out; first | omega | exact Nat.le_refl _⟩, by repeat (first | exact Drawn0.refl _ | apply Drawn0.step)⟩
                      · rw [if_neg c20] at H
                        exact absurd H (by simp)
                    · rw [if_neg c19] at H
                      have c19b0 : decide (3 ≤ (a0.size : Int)) = false := decide_eq_false c19
                      have c19b1 : decide (3 ≤ a0.size) = false := decide_eq_false (by omega)
                      clear c19
                      have H' := Aside0.mk H
                      clear H
                      go_wp2
                      repeat (go_quiet (fail); try go_wp2)
                      go_meet
                      case rel => exact ⟨_, (false), (by first | rfl | (simp; done) | (simp [*]; done)), H', ⟨by have := HJ5.out; first | omega | exact Nat.le_refl _⟩, by repeat (first | exact Drawn0.refl _ | apply Drawn0.step)⟩
                  · rw [if_neg c18] at H
                    have c18b0 : decide ((wrap64 (bt a0 0)) < 240) = false := decide_eq_false c18
                    clear c18
                    have H' := Aside0.mk H
                    clear H
                    go_wp2
                    repeat (go_quiet (fail); try go_wp2)
                    go_meet
                    case rel => exact ⟨_, (false), (by first | rfl | (simp; done) | (simp [*]; done)), H', ⟨by have := HJ5.out; first | omega | exact Nat.le_refl _⟩, by repeat (first | exact Drawn0.refl _ | apply Drawn0.step)⟩
                · rw [if_neg c17] at H
                  have c17b0 : decide (224 ≤ (wrap64 (bt a0 0))) = false := decide_eq_false c17
                  clear c17
                  (first | rw [c17b0] | (simp only [i64_w, i32_w]; rw [c17b0]) | skip)
                  have H' := Aside0.mk H
                  clear H
                  go_wp2
                  repeat (go_quiet (fail); try go_wp2)
                  go_meet
                  case rel => exact ⟨_, (false), (by first | rfl | (simp; done) | (simp [*]; done)), H', ⟨by have := HJ5.out; first | omega | exact Nat.le_refl _⟩, by repeat (first | exact Drawn0.refl _ | apply Drawn0.step)⟩
              case rest =>
                clear HC16
                try clear c1
                try clear p1
                try clear q1
                try clear hx1
                try clear qi1
                try clear c2
                try clear c2b0
                try clear c2b1
                try clear p2
                try clear q2
                try clear hx2
                try clear qi2
                try clear c3
                try clear c3b0
                try clear c3b1
                try clear p4
                try clear q4
                try clear hx4
                try clear qi4
                try clear c5
                try clear c5b0
                try clear p6
                try clear c7
                try clear c7b0
                try clear c8
                try clear c8b0
                try clear c9
                try clear c9b0
                try clear c9b1
                try clear c10
                try clear c10b0
                try clear c10b1
                try clear p11
                try clear q11
                try clear hx11
                try clear qi11
                try clear c13
                try clear c14
                try clear c14b0
                try clear c14b1
                try clear p15
                try clear q15
                try clear hx15
                try clear qi15
                try clear c17
                try clear c17b0
                try clear c18
                try clear c18b0
                try clear c19
                try clear c19b0
                try clear c19b1
                try clear c20
                try clear c20b0
                try clear c20b1
                try clear p21
                try clear q21
                try clear hx21
                try clear qi21
                try clear c23
                try clear c24
                try clear c24b0
                try clear c24b1
                try clear p25
                try clear q25
                try clear hx25
                try clear qi25
                try clear p1
                try clear p11
                try clear p15
                try clear p2
                try clear p21
                try clear p25
                try clear p4
                try clear p6
                try clear q1
                try clear q11
                try clear q15
                try clear q21
                try clear q25
                try clear q4
                obtain ⟨kq, x60_15, rfl, HA, HJ15, ⟨mc15, rfl⟩⟩ := hcut
                cases kq with
                | zero => exact absurd HA.out (by simp [shunterref05_First.j1])
                | succ kj15 =>
                  have H := HA.out
                  clear HA
                  simp only [shunterref05_First.j1] at H
                  have HC27 := Aside0.mk H
                  clear H
                  go_upto_if 60 with (fail)
                  repeat (go_quiet (fail); go_upto_if 60 with (fail))
                  go_cut [] (fun wc => ∃ (kq : Nat), Aside0 (shunterref05_First.j2 kq a0 (wrap64 (bt a0 0)) = some (r1, r2)) ∧ Aside0 (kq ≤ kj15) ∧ Drawn0 w wc)
                  case first =>
                    have H := HC27.out
                    clear HC27
                    by_cases c28 : x60_15 = true
                    · subst c28
                      have H1 : (if 1 < (a0.size : Int) then (if 2 < (a0.size : Int) then (if (wrap64 ((wrap64 ((wrap64 ((wrap64 (4096 * (wrap64 ((wrap64 (bt a0 0)) - 224)))) + (wrap64 (64 * (wrap64 ((wrap64 (bt a0 1)) - 128)))))) + (wrap64 (bt a0 2)))) - 128)) ≥ 2048 then (if (wrap64 ((wrap64 ((wrap64 ((wrap64 (4096 * (wrap64 ((wrap64 (bt a0 0)) - 224)))) + (wrap64 (64 * (wrap64 ((wrap64 (bt a0 1)) - 128)))))) + (wrap64 (bt a0 2)))) - 128)) < 55296 then (some (wrap64 ((wrap64 ((wrap64 ((wrap64 (4096 * (wrap64 ((wrap64 (bt a0 0)) - 224)))) + (wrap64 (64 * (wrap64 ((wrap64 (bt a0 1)) - 128)))))) + (wrap64 (bt a0 2)))) - 128), 3)) else (if (wrap64 ((wrap64 ((wrap64 ((wrap64 (4096 * (wrap64 ((wrap64 (bt a0 0)) - 224)))) + (wrap64 (64 * (wrap64 ((wrap64 (bt a0 1)) - 128)))))) + (wrap64 (bt a0 2)))) - 128)) > 57343 then (some (wrap64 ((wrap64 ((wrap64 ((wrap64 (4096 * (wrap64 ((wrap64 (bt a0 0)) - 224)))) + (wrap64 (64 * (wrap64 ((wrap64 (bt a0 1)) - 128)))))) + (wrap64 (bt a0 2)))) - 128), 3)) else (shunterref05_First.j2 kj15 a0 (wrap64 (bt a0 0))))) else (shunterref05_First.j2 kj15 a0 (wrap64 (bt a0 0)))) else (none)) else (none)) = some (r1, r2) := by rw [if_pos rfl] at H; exact H
                      clear H
                      have H := H1
                      clear H1
                      by_cases c29 : 1 < (a0.size : Int)
                      · rw [if_pos c29] at H
                        have c29b0 : decide (1 < (a0.size : Int)) = true := decide_eq_true c29
                        have c29b1 : decide (1 < a0.size) = true := decide_eq_true (by omega)
                        clear c29
                        (first | rw [c29b0] | (simp only [i64_w, i32_w]; rw [c29b0]) | skip)
                        by_cases c31 : 2 < (a0.size : Int)
                        · rw [if_pos c31] at H
                          have c31b0 : decide (2 < (a0.size : Int)) = true := decide_eq_true c31
                          have c31b1 : decide (2 < a0.size) = true := decide_eq_true (by omega)
                          clear c31
                          by_cases c33 : (wrap64 ((wrap64 ((wrap64 ((wrap64 (4096 * (wrap64 ((wrap64 (bt a0 0)) - 224)))) + (wrap64 (64 * (wrap64 ((wrap64 (bt a0 1)) - 128)))))) + (wrap64 (bt a0 2)))) - 128)) ≥ 2048
                          · rw [if_pos c33] at H
                            have c33b0 : decide (2048 ≤ (wrap64 ((wrap64 ((wrap64 ((wrap64 (4096 * (wrap64 ((wrap64 (bt a0 0)) - 224)))) + (wrap64 (64 * (wrap64 ((wrap64 (bt a0 1)) - 128)))))) + (wrap64 (bt a0 2)))) - 128))) = true := decide_eq_true c33
                            clear c33
                            by_cases c34 : (wrap64 ((wrap64 ((wrap64 ((wrap64 (4096 * (wrap64 ((wrap64 (bt a0 0)) - 224)))) + (wrap64 (64 * (wrap64 ((wrap64 (bt a0 1)) - 128)))))) + (wrap64 (bt a0 2)))) - 128)) < 55296
                            · rw [if_pos c34] at H
                              have c34b0 : decide ((wrap64 ((wrap64 ((wrap64 ((wrap64 (4096 * (wrap64 ((wrap64 (bt a0 0)) - 224)))) + (wrap64 (64 * (wrap64 ((wrap64 (bt a0 1)) - 128)))))) + (wrap64 (bt a0 2)))) - 128)) < 55296) = true := decide_eq_true c34
                              clear c34
                              simp only [Option.some.injEq, Prod.mk.injEq] at H
                              obtain ⟨rfl, rfl⟩ := H
                              have p30 : 0 ≤ (1 : Int) := (by omega)
                              have q30 : 1 < a0.size := (by have : (1 : Int) < (a0.size : Int) := of_decide_eq_true (by first | (with_reducible assumption) | assumption); omega)
                              have hx30 : ∀ h : 1 < a0.size, ((a0[1]'h).toNat : Int) = bt a0 1 := bt_at a0 1
                              clear p30
                              have qi30 : (1 < (a0.size : Int)) = True := eq_true (of_decide_eq_true (by first | (with_reducible assumption) | assumption))
                              replace q30 := eq_true q30
                              have p32 : 0 ≤ (2 : Int) := (by omega)
                              have q32 : 2 < a0.size := (by have : (2 : Int) < (a0.size : Int) := of_decide_eq_true (by first | (with_reducible assumption) | assumption); omega)
                              have hx32 : ∀ h : 2 < a0.size, ((a0[2]'h).toNat : Int) = bt a0 2 := bt_at a0 2
                              clear p32
                              have qi32 : (2 < (a0.size : Int)) = True := eq_true (of_decide_eq_true (by first | (with_reducible assumption) | assumption))
                              replace q32 := eq_true q32
                              go_wp2
                              repeat (go_quiet (fail); try go_wp2)
                              go_ret2
                              exact ⟨by first | rfl | (simp; done) | (simp [*]; done), by repeat (first | exact Drawn0.refl _ | apply Drawn0.step)⟩
                            · rw [if_neg c34] at H
                              have c34b0 : decide ((wrap64 ((wrap64 ((wrap64 ((wrap64 (4096 * (wrap64 ((wrap64 (bt a0 0)) - 224)))) + (wrap64 (64 * (wrap64 ((wrap64 (bt a0 1)) - 128)))))) + (wrap64 (bt a0 2)))) - 128)) < 55296) = false := decide_eq_false c34
                              clear c34
                              by_cases c35 : (wrap64 ((wrap64 ((wrap64 ((wrap64 (4096 * (wrap64 ((wrap64 (bt a0 0)) - 224)))) + (wrap64 (64 * (wrap64 ((wrap64 (bt a0 1)) - 128)))))) + (wrap64 (bt a0 2)))) - 128)) > 57343
                              · rw [if_pos c35] at H
                                have c35b0 : decide (57343 < (wrap64 ((wrap64 ((wrap64 ((wrap64 (4096 * (wrap64 ((wrap64 (bt a0 0)) - 224)))) + (wrap64 (64 * (wrap64 ((wrap64 (bt a0 1)) - 128)))))) + (wrap64 (bt a0 2)))) - 128))) = true := decide_eq_true c35
                                clear c35
                                simp only [Option.some.injEq, Prod.mk.injEq] at H
                                obtain ⟨rfl, rfl⟩ := H
                                have p30 : 0 ≤ (1 : Int) := (by omega)
                                have q30 : 1 < a0.size := (by have : (1 : Int) < (a0.size : Int) := of_decide_eq_true (by first | (with_reducible assumption) | assumption); omega)
                                have hx30 : ∀ h : 1 < a0.size, ((a0[1]'h).toNat : Int) = bt a0 1 := bt_at a0 1
                                clear p30
                                have qi30 : (1 < (a0.size : Int)) = True := eq_true (of_decide_eq_true (by first | (with_reducible assumption) | assumption))
                                replace q30 := eq_true q30
                                have p32 : 0 ≤ (2 : Int) := (by omega)
                                have q32 : 2 < a0.size := (by have : (2 : Int) < (a0.size : Int) := of_decide_eq_true (by first | (with_reducible assumption) | assumption); omega)
                                have hx32 : ∀ h : 2 < a0.size, ((a0[2]'h).toNat : Int) = bt a0 2 := bt_at a0 2
                                clear p32
                                have qi32 : (2 < (a0.size : Int)) = True := eq_true (of_decide_eq_true (by first | (with_reducible assumption) | assumption))
                                replace q32 := eq_true q32
                                go_wp2
                                repeat (go_quiet (fail); try go_wp2)
                                go_ret2
                                exact ⟨by first | rfl | (simp; done) | (simp [*]; done), by repeat (first | exact Drawn0.refl _ | apply Drawn0.step)⟩
                              · rw [if_neg c35] at H
                                have c35b0 : decide (57343 < (wrap64 ((wrap64 ((wrap64 ((wrap64 (4096 * (wrap64 ((wrap64 (bt a0 0)) - 224)))) + (wrap64 (64 * (wrap64 ((wrap64 (bt a0 1)) - 128)))))) + (wrap64 (bt a0 2)))) - 128))) = false := decide_eq_false c35
                                clear c35
                                have H' := Aside0.mk H
                                clear H
                                have p30 : 0 ≤ (1 : Int) := (by omega)
                                have q30 : 1 < a0.size := (by have : (1 : Int) < (a0.size : Int) := of_decide_eq_true (by first | (with_reducible assumption) | assumption); omega)
                                have hx30 : ∀ h : 1 < a0.size, ((a0[1]'h).toNat : Int) = bt a0 1 := bt_at a0 1
                                clear p30
                                have qi30 : (1 < (a0.size : Int)) = True := eq_true (of_decide_eq_true (by first | (with_reducible assumption) | assumption))
                                replace q30 := eq_true q30
                                have p32 : 0 ≤ (2 : Int) := (by omega)
                                have q32 : 2 < a0.size := (by have : (2 : Int) < (a0.size : Int) := of_decide_eq_true (by first | (with_reducible assumption) | assumption); omega)
                                have hx32 : ∀ h : 2 < a0.size, ((a0[2]'h).toNat : Int) = bt a0 2 := bt_at a0 2
                                clear p32
                                have qi32 : (2 < (a0.size : Int)) = True := eq_true (of_decide_eq_true (by first | (with_reducible assumption) | assumption))
                                replace q32 := eq_true q32
                                go_wp2
                                repeat (go_quiet (fail); try go_wp2)
                                go_meet
                                case rel => exact ⟨_, H', ⟨by have := HJ5.out; have := HJ15.out; first | omega | exact Nat.le_refl _⟩, by repeat (first | exact Drawn0.refl _ | apply Drawn0.step)⟩
                          · rw [if_neg c33] at H
                            have c33b0 : decide (2048 ≤ (wrap64 ((wrap64 ((wrap64 ((wrap64 (4096 * (wrap64 ((wrap64 (bt a0 0)) - 224)))) + (wrap64 (64 * (wrap64 ((wrap64 (bt a0 1)) - 128)))))) + (wrap64 (bt a0 2)))) - 128))) = false := decide_eq_false c33
                            clear c33
                            have H' := Aside0.mk H
                            clear H
                            have p30 : 0 ≤ (1 : Int) := (by omega)
                            have q30 : 1 < a0.size := (by have : (1 : Int) < (a0.size : Int) := of_decide_eq_true (by first | (with_reducible assumption) | assumption); omega)
                            have hx30 : ∀ h : 1 < a0.size, ((a0[1]'h).toNat : Int) = bt a0 1 := bt_at a0 1
                            clear p30
                            have qi30 : (1 < (a0.size : Int)) = True := eq_true (of_decide_eq_true (by first | (with_reducible assumption) | assumption))
                            replace q30 := eq_true q30
                            have p32 : 0 ≤ (2 : Int) := (by omega)
                            have q32 : 2 < a0.size := (by have : (2 : Int) < (a0.size : Int) := of_decide_eq_true (by first | (with_reducible assumption) | assumption); omega)
                            have hx32 : ∀ h : 2 < a0.size, ((a0[2]'h).toNat : Int) = bt a0 2 := bt_at a0 2
                            clear p32
                            have qi32 : (2 < (a0.size : Int)) = True := eq_true (of_decide_eq_true (by first | (with_reducible assumption) | assumption))
                            replace q32 := eq_true q32
                            go_wp2
                            repeat (go_quiet (fail); try go_wp2)
                            go_meet
                            case rel => exact ⟨_, H', ⟨by have := HJ5.out; have := HJ15.out; first | omega | exact Nat.le_refl _⟩, by repeat (first | exact Drawn0.refl _ | apply Drawn0.step)⟩
                        · rw [if_neg c31] at H
                          exact absurd H (by simp)
                      · rw [if_neg c29] at H
                        exact absurd H (by simp)
                    · replace c28 := Bool.eq_false_iff.mpr c28
                      subst c28
                      have H1 : (shunterref05_First.j2 kj15 a0 (wrap64 (bt a0 0))) = some (r1, r2) := by rw [if_neg (show ¬ (false = true) by decide)] at H; exact H
                      clear H
                      have H := H1
                      clear H1
                      have H' := Aside0.mk H
                      clear H
                      go_wp2
                      repeat (go_quiet (fail); try go_wp2)
                      go_meet
                      case rel => exact ⟨_, H', ⟨by have := HJ5.out; have := HJ15.out; first | omega | exact Nat.le_refl _⟩, by repeat (first | exact Drawn0.refl _ | apply Drawn0.step)⟩
                  case rest =>
                    clear HC27
                    try clear c1
                    try clear p1
                    try clear q1
                    try clear hx1
                    try clear qi1
                    try clear c2
                    try clear c2b0
                    try clear c2b1
                    try clear p2
                    try clear q2
                    try clear hx2
                    try clear qi2
                    try clear c3
                    try clear c3b0
                    try clear c3b1
                    try clear p3
                    try clear q3
                    try clear hx3
                    try clear qi3
                    try clear p4
                    try clear q4
                    try clear hx4
                    try clear qi4
                    try clear c5
                    try clear c5b0
                    try clear p6
                    try clear c7
                    try clear c7b0
                    try clear c8
                    try clear c8b0
                    try clear c9
                    try clear c9b0
                    try clear c9b1
                    try clear c10
                    try clear c10b0
                    try clear c10b1
                    try clear p11
                    try clear q11
                    try clear hx11
                    try clear qi11
                    try clear c13
                    try clear c14
                    try clear c14b0
                    try clear c14b1
                    try clear c15
                    try clear p15
                    try clear q15
                    try clear hx15
                    try clear qi15
                    try clear c17
                    try clear c17b0
                    try clear c18
                    try clear c18b0
                    try clear c19
                    try clear c19b0
                    try clear c19b1
                    try clear c20
                    try clear c20b0
                    try clear c20b1
                    try clear p21
                    try clear q21
                    try clear hx21
                    try clear qi21
                    try clear c23
                    try clear c24
                    try clear c24b0
                    try clear c24b1
                    try clear p25
                    try clear q25
                    try clear hx25
                    try clear qi25
                    try clear c28
                    try clear c29
                    try clear c29b0
                    try clear c29b1
                    try clear p30
                    try clear q30
                    try clear hx30
                    try clear qi30
                    try clear c31
                    try clear c31b0
                    try clear c31b1
                    try clear p32
                    try clear q32
                    try clear hx32
                    try clear qi32
                    try clear c33
                    try clear c33b0
                    try clear c34
                    try clear c34b0
                    try clear c35
                    try clear c35b0
                    try clear p1
                    try clear p11
                    try clear p15
                    try clear p2
                    try clear p21
                    try clear p25
                    try clear p30
                    try clear p32
                    try clear p4
                    try clear p6
                    try clear q1
                    try clear q11
                    try clear q15
                    try clear q2
                    try clear q21
                    try clear q25
                    try clear q30
                    try clear q32
                    try clear q4
                    obtain ⟨kq, HA, HJ26, ⟨mc26, rfl⟩⟩ := hcut
                    cases kq with
                    | zero => exact absurd HA.out (by simp [shunterref05_First.j2])
                    | succ kj26 =>
                      have H := HA.out
                      clear HA
                      simp only [shunterref05_First.j2] at H
                      have HC36 := Aside0.mk H
                      clear H
                      go_upto_region 12 with (fail)
                      repeat (go_quiet (fail); go_upto_region 12 with (fail))
                      go_cut [111] (fun v111 wc => ∃ (kq : Nat) (x111_35 : Bool), v111 = .bool x111_35 ∧ Aside0 (shunterref05_First.j3 kq a0 (wrap64 (bt a0 0)) x111_35 = some (r1, r2)) ∧ Aside0 (kq ≤ kj26) ∧ Drawn0 w wc)
                      case first =>
                        have H := HC36.out
                        clear HC36
                        by_cases c37 : (wrap64 (bt a0 0)) ≥ 240
                        · rw [if_pos c37] at H
                          have c37b0 : decide (240 ≤ (wrap64 (bt a0 0))) = true := decide_eq_true c37
                          clear c37
                          (first | rw [c37b0] | (simp only [i64_w, i32_w]; rw [c37b0]) | skip)
                          by_cases c38 : (wrap64 (bt a0 0)) < 245
                          · rw [if_pos c38] at H
                            have c38b0 : decide ((wrap64 (bt a0 0)) < 245) = true := decide_eq_true c38
                            clear c38
                            by_cases c39 : (a0.size : Int) ≥ 4
                            · rw [if_pos c39] at H
                              have c39b0 : decide (4 ≤ (a0.size : Int)) = true := decide_eq_true c39
                              have c39b1 : decide (4 ≤ a0.size) = true := decide_eq_true (by omega)
                              clear c39
                              by_cases c40 : 1 < (a0.size : Int)
                              · rw [if_pos c40] at H
                                have c40b0 : decide (1 < (a0.size : Int)) = true := decide_eq_true c40
                                have c40b1 : decide (1 < a0.size) = true := decide_eq_true (by omega)
                                clear c40
                                replace H := Option.bind_eq_some_iff.mp H
                                obtain ⟨t161, A420, H⟩ := H
                                replace H : (if t161 = true then (if 2 < (a0.size : Int) then ((shunterref05_more.f (bt a0 2)).bind fun t162 => (if t162 = true then (if 3 < (a0.size : Int) then ((shunterref05_more.f (bt a0 3)).bind fun t163 => (shunterref05_First.j3 kj26 a0 (wrap64 (bt a0 0)) t163)) else (none)) else (shunterref05_First.j3 kj26 a0 (wrap64 (bt a0 0)) false))) else (none)) else (shunterref05_First.j3 kj26 a0 (wrap64 (bt a0 0)) false)) = some (r1, r2) := H
                                have A42 := Aside0.mk A420
                                clear A420
                                by_cases c43 : t161 = true
                                · subst c43
                                  have H1 : (if 2 < (a0.size : Int) then ((shunterref05_more.f (bt a0 2)).bind fun t162 => (if t162 = true then (if 3 < (a0.size : Int) then ((shunterref05_more.f (bt a0 3)).bind fun t163 => (shunterref05_First.j3 kj26 a0 (wrap64 (bt a0 0)) t163)) else (none)) else (shunterref05_First.j3 kj26 a0 (wrap64 (bt a0 0)) false))) else (none)) = some (r1, r2) := by rw [if_pos rfl] at H; exact H
                                  clear H
                                  have H := H1
                                  clear H1
                                  by_cases c44 : 2 < (a0.size : Int)
                                  · rw [if_pos c44] at H
                                    have c44b0 : decide (2 < (a0.size : Int)) = true := decide_eq_true c44
                                    have c44b1 : decide (2 < a0.size) = true := decide_eq_true (by omega)
                                    clear c44
                                    replace H := Option.bind_eq_some_iff.mp H
                                    obtain ⟨t162, A460, H⟩ := H
                                    replace H : (if t162 = true then (if 3 < (a0.size : Int) then ((shunterref05_more.f (bt a0 3)).bind fun t163 => (shunterref05_First.j3 kj26 a0 (wrap64 (bt a0 0)) t163)) else (none)) else (shunterref05_First.j3 kj26 a0 (wrap64 (bt a0 0)) false)) = some (r1, r2) := H
                                    have A46 := Aside0.mk A460
                                    clear A460
                                    by_cases c47 : t162 = true
                                    · subst c47
                                      have H1 : (if 3 < (a0.size : Int) then ((shunterref05_more.f (bt a0 3)).bind fun t163 => (shunterref05_First.j3 kj26 a0 (wrap64 (bt a0 0)) t163)) else (none)) = some (r1, r2) := by rw [if_pos rfl] at H; exact H
                                      clear H
                                      have H := H1
                                      clear H1
                                      by_cases c48 : 3 < (a0.size : Int)
                                      · rw [if_pos c48] at H
                                        have c48b0 : decide (3 < (a0.size : Int)) = true := decide_eq_true c48
                                        have c48b1 : decide (3 < a0.size) = true := decide_eq_true (by omega)
                                        clear c48
                                        replace H := Option.bind_eq_some_iff.mp H
                                        obtain ⟨t163, A500, H⟩ := H
                                        replace H : (shunterref05_First.j3 kj26 a0 (wrap64 (bt a0 0)) t163) = some (r1, r2) := H
                                        have A50 := Aside0.mk A500
                                        clear A500
                                        have H' := Aside0.mk H
                                        clear H
                                        have p41 : 0 ≤ (1 : Int) := (by omega)
                                        have q41 : 1 < a0.size := (by have : (1 : Int) < (a0.size : Int) := of_decide_eq_true (by first | (with_reducible assumption) | assumption); omega)
                                        have hx41 : ∀ h : 1 < a0.size, ((a0[1]'h).toNat : Int) = bt a0 1 := bt_at a0 1
                                        clear p41
                                        have qi41 : (1 < (a0.size : Int)) = True := eq_true (of_decide_eq_true (by first | (with_reducible assumption) | assumption))
                                        replace q41 := eq_true q41
                                        go_wp2_with (first | (go_at_call 58; (with_reducible refine (shunterref05_more.calls (bt a0 1) true _ A42.out).mono ?_); rintro e w' ⟨rfl, ⟨nd, rfl⟩⟩; (try first | exact ⟨rfl, _, World.drewN_drewN _ _ _⟩ | exact ⟨rfl, _, Eq.trans (World.drewN_drewN _ _ _) (congrArg (World.drewN _) (Nat.add_assoc _ _ _))⟩); have p45 : 0 ≤ (2 : Int) := (by omega); have q45 : 2 < a0.size := (by have : (2 : Int) < (a0.size : Int) := of_decide_eq_true (by first | (with_reducible assumption) | assumption); omega); have hx45 : ∀ h : 2 < a0.size, ((a0[2]'h).toNat : Int) = bt a0 2 := bt_at a0 2; clear p45; have qi45 : (2 < (a0.size : Int)) = True := eq_true (of_decide_eq_true (by first | (with_reducible assumption) | assumption)); replace q45 := eq_true q45) | (go_at_call 58; (with_reducible refine (shunterref05_more.calls (bt a0 2) true _ A46.out).mono ?_); rintro e w' ⟨rfl, ⟨nd, rfl⟩⟩; (try first | exact ⟨rfl, _, World.drewN_drewN _ _ _⟩ | exact ⟨rfl, _, Eq.trans (World.drewN_drewN _ _ _) (congrArg (World.drewN _) (Nat.add_assoc _ _ _))⟩); have p49 : 0 ≤ (3 : Int) := (by omega); have q49 : 3 < a0.size := (by have : (3 : Int) < (a0.size : Int) := of_decide_eq_true (by first | (with_reducible assumption) | assumption); omega); have hx49 : ∀ h : 3 < a0.size, ((a0[3]'h).toNat : Int) = bt a0 3 := bt_at a0 3; clear p49; have qi49 : (3 < (a0.size : Int)) = True := eq_true (of_decide_eq_true (by first | (with_reducible assumption) | assumption)); replace q49 := eq_true q49) | (go_at_call 58; (with_reducible refine (shunterref05_more.calls (bt a0 3) t163 _ A50.out).mono ?_); rintro e w' ⟨rfl, ⟨nd, rfl⟩⟩; (try first | exact ⟨rfl, _, World.drewN_drewN _ _ _⟩ | exact ⟨rfl, _, Eq.trans (World.drewN_drewN _ _ _) (congrArg (World.drewN _) (Nat.add_assoc _ _ _))⟩)))
                                        repeat (go_quiet (first | (go_at_call 58; (with_reducible refine (shunterref05_more.calls (bt a0 1) true _ A42.out).mono ?_); rintro e w' ⟨rfl, ⟨nd, rfl⟩⟩; (try first | exact ⟨rfl, _, World.drewN_drewN _ _ _⟩ | exact ⟨rfl, _, Eq.trans (World.drewN_drewN _ _ _) (congrArg (World.drewN _) (Nat.add_assoc _ _ _))⟩); have p45 : 0 ≤ (2 : Int) := (by omega); have q45 : 2 < a0.size := (by have : (2 : Int) < (a0.size : Int) := of_decide_eq_true (by first | (with_reducible assumption) | assumption); omega); have hx45 : ∀ h : 2 < a0.size, ((a0[2]'h).toNat : Int) = bt a0 2 := bt_at a0 2; clear p45; have qi45 : (2 < (a0.size : Int)) = True := eq_true (of_decide_eq_true (by first | (with_reducible assumption) | assumption)); replace q45 := eq_true q45) | (go_at_call 58; (with_reducible refine (shunterref05_more.calls (bt a0 2) true _ A46.out).mono ?_); rintro e w' ⟨rfl, ⟨nd, rfl⟩⟩; (try first | exact ⟨rfl, _, World.drewN_drewN _ _ _⟩ | exact ⟨rfl, _, Eq.trans (World.drewN_drewN _ _ _) (congrArg (World.drewN _) (Nat.add_assoc _ _ _))⟩); have p49 : 0 ≤ (3 : Int) := (by omega); have q49 : 3 < a0.size := (by have : (3 : Int) < (a0.size : Int) := of_decide_eq_true (by first | (with_reducible assumption) | assumption); omega); have hx49 : ∀ h : 3 < a0.size, ((a0[3]'h).toNat : Int) = bt a0 3 := bt_at a0 3; clear p49; have qi49 : (3 < (a0.size : Int)) = True := eq_true (of_decide_eq_true (by first | (with_reducible assumption) | assumption)); replace q49 := eq_true q49) | (go_at_call 58; (with_reducible refine (shunterref05_more.calls (bt a0 3) t163 _ A50.out).mono ?_); rintro e w' ⟨rfl, ⟨nd, rfl⟩⟩; (try first | exact ⟨rfl, _, World.drewN_drewN _ _ _⟩ | exact ⟨rfl, _, Eq.trans (World.drewN_drewN _ _ _) (congrArg (World.drewN _) (Nat.add_assoc _ _ _))⟩))); try go_wp2_with (first | (go_at_call 58; (with_reducible refine (shunterref05_more.calls (bt a0 1) true _ A42.out).mono ?_); rintro e w' ⟨rfl, ⟨nd, rfl⟩⟩; (try first | exact ⟨rfl, _, World.drewN_drewN _ _ _⟩ | exact ⟨rfl, _, Eq.trans (World.drewN_drewN _ _ _) (congrArg (World.drewN _) (Nat.add_assoc _ _ _))⟩); have p45 : 0 ≤ (2 : Int) := (by omega); have q45 : 2 < a0.size := (by have : (2 : Int) < (a0.size : Int) := of_decide_eq_true (by first | (with_reducible assumption) | assumption); omega); have hx45 : ∀ h : 2 < a0.size, ((a0[2]'h).toNat : Int) = bt a0 2 := bt_at a0 2; clear p45; have qi45 : (2 < (a0.size : Int)) = True := eq_true (of_decide_eq_true (by first | (with_reducible assumption) | assumption)); replace q45 := eq_true q45) | (go_at_call 58; (with_reducible refine (shunterref05_more.calls (bt a0 2) true _ A46.out).mono ?_); rintro e w' ⟨rfl, ⟨nd, rfl⟩⟩; (try first | exact ⟨rfl, _, World.drewN_drewN _ _ _⟩ | exact ⟨rfl, _, Eq.trans (World.drewN_drewN _ _ _) (congrArg (World.drewN _) (Nat.add_assoc _ _ _))⟩); have p49 : 0 ≤ (3 : Int) := (by omega); have q49 : 3 < a0.size := (by have : (3 : Int) < (a0.size : Int) := of_decide_eq_true (by first | (with_reducible assumption) | assumption); omega); have hx49 : ∀ h : 3 < a0.size, ((a0[3]'h).toNat : Int) = bt a0 3 := bt_at a0 3; clear p49; have qi49 : (3 < (a0.size : Int)) = True := eq_true (of_decide_eq_true (by first | (with_reducible assumption) | assumption)); replace q49 := eq_true q49) | (go_at_call 58; (with_reducible refine (shunterref05_more.calls (bt a0 3) t163 _ A50.out).mono ?_); rintro e w' ⟨rfl, ⟨nd, rfl⟩⟩; (try first | exact ⟨rfl, _, World.drewN_drewN _ _ _⟩ | exact ⟨rfl, _, Eq.trans (World.drewN_drewN _ _ _) (congrArg (World.drewN _) (Nat.add_assoc _ _ _))⟩))))
                                        go_meet
                                        case rel => exact ⟨_, (t163), (by first | rfl | (simp; done) | (simp [*]; done)), H', ⟨by have := HJ5.out; have := HJ15.out; have := HJ26.out; first | omega | exact Nat.le_refl _⟩, by repeat (first | exact Drawn0.refl _ | apply Drawn0.step)⟩
                                      · rw [if_neg c48] at H
                                        exact absurd H (by simp)
                                    · replace c47 := Bool.eq_false_iff.mpr c47
                                      subst c47
                                      have H1 : (shunterref05_First.j3 kj26 a0 (wrap64 (bt a0 0)) false) = some (r1, r2) := by rw [if_neg (show ¬ (false = true) by decide)] at H; exact H
                                      clear H
                                      have H := H1
                                      clear H1
                                      have H' := Aside0.mk H
                                      clear H
                                      have p41 : 0 ≤ (1 : Int) := (by omega)
                                      have q41 : 1 < a0.size := (by have : (1 : Int) < (a0.size : Int) := of_decide_eq_true (by first | (with_reducible assumption) | assumption); omega)
                                      have hx41 : ∀ h : 1 < a0.size, ((a0[1]'h).toNat : Int) = bt a0 1 := bt_at a0 1
                                      clear p41
                                      have qi41 : (1 < (a0.size : Int)) = True := eq_true (of_decide_eq_true (by first | (with_reducible assumption) | assumption))
                                      replace q41 := eq_true q41
                                      go_wp2_with (first | (go_at_call 58; (with_reducible refine (shunterref05_more.calls (bt a0 1) true _ A42.out).mono ?_); rintro e w' ⟨rfl, ⟨nd, rfl⟩⟩; (try first | exact ⟨rfl, _, World.drewN_drewN _ _ _⟩ | exact ⟨rfl, _, Eq.trans (World.drewN_drewN _ _ _) (congrArg (World.drewN _) (Nat.add_assoc _ _ _))⟩); have p45 : 0 ≤ (2 : Int) := (by omega); have q45 : 2 < a0.size := (by have : (2 : Int) < (a0.size : Int) := of_decide_eq_true (by first | (with_reducible assumption) | assumption); omega); have hx45 : ∀ h : 2 < a0.size, ((a0[2]'h).toNat : Int) = bt a0 2 := bt_at a0 2; clear p45; have qi45 : (2 < (a0.size : Int)) = True := eq_true (of_decide_eq_true (by first | (with_reducible assumption) | assumption)); replace q45 := eq_true q45) | (go_at_call 58; (with_reducible refine (shunterref05_more.calls (bt a0 2) false _ A46.out).mono ?_); rintro e w' ⟨rfl, ⟨nd, rfl⟩⟩; (try first | exact ⟨rfl, _, World.drewN_drewN _ _ _⟩ | exact ⟨rfl, _, Eq.trans (World.drewN_drewN _ _ _) (congrArg (World.drewN _) (Nat.add_assoc _ _ _))⟩)))
                                      repeat (go_quiet (first | (go_at_call 58; (with_reducible refine (shunterref05_more.calls (bt a0 1) true _ A42.out).mono ?_); rintro e w' ⟨rfl, ⟨nd, rfl⟩⟩; (try first | exact ⟨rfl, _, World.drewN_drewN _ _ _⟩ | exact ⟨rfl, _, Eq.trans (World.drewN_drewN _ _ _) (congrArg (World.drewN _) (Nat.add_assoc _ _ _))⟩); have p45 : 0 ≤ (2 : Int) := (by omega); have q45 : 2 < a0.size := (by have : (2 : Int) < (a0.size : Int) := of_decide_eq_true (by first | (with_reducible assumption) | assumption); omega); have hx45 : ∀ h : 2 < a0.size, ((a0[2]'h).toNat : Int) = bt a0 2 := bt_at a0 2; clear p45; have qi45 : (2 < (a0.size : Int)) = True := eq_true (of_decide_eq_true (by first | (with_reducible assumption) | assumption)); replace q45 := eq_true q45) | (go_at_call 58; (with_reducible refine (shunterref05_more.calls (bt a0 2) false _ A46.out).mono ?_); rintro e w' ⟨rfl, ⟨nd, rfl⟩⟩; (try first | exact ⟨rfl, _, World.drewN_drewN _ _ _⟩ | exact ⟨rfl, _, Eq.trans (World.drewN_drewN _ _ _) (congrArg (World.drewN _) (Nat.add_assoc _ _ _))⟩))); try go_wp2_with (first | (go_at_call 58; (with_reducible refine (shunterref05_more.calls (bt a0 1) true _ A42.out).mono ?_); rintro e w' ⟨rfl, ⟨nd, rfl⟩⟩; (try first | exact ⟨rfl, _, World.drewN_drewN _ _ _⟩ | exact ⟨rfl, _, Eq.trans (World.drewN_drewN _ _ _) (congrArg (World.drewN _) (Nat.add_assoc _ _ _))⟩); have p45 : 0 ≤ (2 : Int) := (by omega); have q45 : 2 < a0.size := (by have : (2 : Int) < (a0.size : Int) := of_decide_eq_true (by first | (with_reducible assumption) | assumption); omega); have hx45 : ∀ h : 2 < a0.size, ((a0[2]'h).toNat : Int) = bt a0 2 := bt_at a0 2; clear p45; have qi45 : (2 < (a0.size : Int)) = True := eq_true (of_decide_eq_true (by first | (with_reducible assumption) | assumption)); replace q45 := eq_true q45) | (go_at_call 58; (with_reducible refine (shunterref05_more.calls (bt a0 2) false _ A46.out).mono ?_); rintro e w' ⟨rfl, ⟨nd, rfl⟩⟩; (try first | exact ⟨rfl, _, World.drewN_drewN _ _ _⟩ | exact ⟨rfl, _, Eq.trans (World.drewN_drewN _ _ _) (congrArg (World.drewN _) (Nat.add_assoc _ _ _))⟩))))
                                      go_meet
                                      case rel => exact ⟨_, (false), (by first | rfl | (simp; done) | (simp [*]; done)), H', ⟨by have := HJ5.out; have := HJ15.out; have := HJ26.out; first | omega | exact Nat.le_refl _⟩, by repeat (first | exact Drawn0.refl _ | apply Drawn0.step)⟩
                                  · rw [if_neg c44] at H
                                    exact absurd H (by simp)
                                · replace c43 := Bool.eq_false_iff.mpr c43
                                  subst c43
                                  have H1 : (shunterref05_First.j3 kj26 a0 (wrap64 (bt a0 0)) false) = some (r1, r2) := by rw [if_neg (show ¬ (false = true) by decide)] at H; exact H
                                  clear H
                                  have H := H1
                                  clear H1
                                  have H' := Aside0.mk H
                                  clear H
                                  have p41 : 0 ≤ (1 : Int) := (by omega)
                                  have q41 : 1 < a0.size := (by have : (1 : Int) < (a0.size : Int) := of_decide_eq_true (by first | (with_reducible assumption) | assumption); omega)
                                  have hx41 : ∀ h : 1 < a0.size, ((a0[1]'h).toNat : Int) = bt a0 1 := bt_at a0 1
                                  clear p41
                                  have qi41 : (1 < (a0.size : Int)) = True := eq_true (of_decide_eq_true (by first | (with_reducible assumption) | assumption))
                                  replace q41 := eq_true q41
                                  go_wp2_with (first | (go_at_call 58; (with_reducible refine (shunterref05_more.calls (bt a0 1) false _ A42.out).mono ?_); rintro e w' ⟨rfl, ⟨nd, rfl⟩⟩; (try first | exact ⟨rfl, _, World.drewN_drewN _ _ _⟩ | exact ⟨rfl, _, Eq.trans (World.drewN_drewN _ _ _) (congrArg (World.drewN _) (Nat.add_assoc _ _ _))⟩)))
                                  repeat (go_quiet (first | (go_at_call 58; (with_reducible refine (shunterref05_more.calls (bt a0 1) false _ A42.out).mono ?_); rintro e w' ⟨rfl, ⟨nd, rfl⟩⟩; (try first | exact ⟨rfl, _, World.drewN_drewN _ _ _⟩ | exact ⟨rfl, _, Eq.trans (World.drewN_drewN _ _ _) (congrArg (World.drewN _) (Nat.add_assoc _ _ _))⟩))); try go_wp2_with (first | (go_at_call 58; (with_reducible refine (shunterref05_more.calls (bt a0 1) false _ A42.out).mono ?_); rintro e w' ⟨rfl, ⟨nd, rfl⟩⟩; (try first | exact ⟨rfl, _, World.drewN_drewN _ _ _⟩ | exact ⟨rfl, _, Eq.trans (World.drewN_drewN _ _ _) (congrArg (World.drewN _) (Nat.add_assoc _ _ _))⟩))))
                                  go_meet
                                  case rel => exact ⟨_, (false), (by first | rfl | (simp; done) | (simp [*]; done)), H', ⟨by have := HJ5.out; have := HJ15.out; have := HJ26.out; first | omega | exact Nat.le_refl _⟩, by repeat (first | exact Drawn0.refl _ | apply Drawn0.step)⟩
                              · rw [if_neg c40] at H
                                exact absurd H (by simp)
                            · rw [if_neg c39] at H
                              have c39b0 : decide (4 ≤ (a0.size : Int)) = false := decide_eq_false c39
                              have c39b1 : decide (4 ≤ a0.size) = false := decide_eq_false (by omega)
                              clear c39
                              have H' := Aside0.mk H
                              clear H
                              go_wp2
                              repeat (go_quiet (fail); try go_wp2)
                              go_meet
                              case rel => exact ⟨_, (false), (by first | rfl | (simp; done) | (simp [*]; done)), H', ⟨by have := HJ5.out; have := HJ15.out; have := HJ26.out; first | omega | exact Nat.le_refl _⟩, by repeat (first | exact Drawn0.refl _ | apply Drawn0.step)⟩
                          · rw [if_neg c38] at H
                            have c38b0 : decide ((wrap64 (bt a0 0)) < 245) = false := decide_eq_false c38
                            clear c38
                            have H' := Aside0.mk H
                            clear H
                            go_wp2
                            repeat (go_quiet (fail); try go_wp2)
                            go_meet
                            case rel => exact ⟨_, (false), (by first | rfl | (simp; done) | (simp [*]; done)), H', ⟨by have := HJ5.out; have := HJ15.out; have := HJ26.out; first | omega | exact Nat.le_refl _⟩, by repeat (first | exact Drawn0.refl _ | apply Drawn0.step)⟩
                        · rw [if_neg c37] at H
                          have c37b0 : decide (240 ≤ (wrap64 (bt a0 0))) = false := decide_eq_false c37
                          clear c37
                          (first | rw [c37b0] | (simp only [i64_w, i32_w]; rw [c37b0]) | skip)
                          have H' := Aside0.mk H
                          clear H
                          go_wp2
                          repeat (go_quiet (fail); try go_wp2)
                          go_meet
                          case rel => exact ⟨_, (false), (by first | rfl | (simp; done) | (simp [*]; done)), H', ⟨by have := HJ5.out; have := HJ15.out; have := HJ26.out; first | omega | exact Nat.le_refl _⟩, by repeat (first | exact Drawn0.refl _ | apply Drawn0.step)⟩
                      case rest =>
                        clear HC36
                        try clear c1
                        try clear p1
                        try clear q1
                        try clear hx1
                        try clear qi1
                        try clear c2
                        try clear c2b0
                        try clear c2b1
                        try clear p2
                        try clear q2
                        try clear hx2
                        try clear qi2
                        try clear c3
                        try clear c3b0
                        try clear c3b1
                        try clear p3
                        try clear q3
                        try clear hx3
                        try clear qi3
                        try clear c4
                        try clear p4
                        try clear q4
                        try clear hx4
                        try clear qi4
                        try clear c5
                        try clear c5b0
                        try clear p6
                        try clear c7
                        try clear c7b0
                        try clear c8
                        try clear c8b0
                        try clear c9
                        try clear c9b0
                        try clear c9b1
                        try clear c10
                        try clear c10b0
                        try clear c10b1
                        try clear p11
                        try clear q11
                        try clear hx11
                        try clear qi11
                        try clear c13
                        try clear c14
                        try clear c14b0
                        try clear c14b1
                        try clear c15
                        try clear p15
                        try clear q15
                        try clear hx15
                        try clear qi15
                        try clear c17
                        try clear c17b0
                        try clear c18
                        try clear c18b0
                        try clear c19
                        try clear c19b0
                        try clear c19b1
                        try clear c20
                        try clear c20b0
                        try clear c20b1
                        try clear p21
                        try clear q21
                        try clear hx21
                        try clear qi21
                        try clear c23
                        try clear c24
                        try clear c24b0
                        try clear c24b1
                        try clear p25
                        try clear q25
                        try clear hx25
                        try clear qi25
                        try clear c26
                        try clear c28
                        try clear c29
                        try clear c29b0
                        try clear c29b1
                        try clear p30
                        try clear q30
                        try clear hx30
                        try clear qi30
                        try clear c31
                        try clear c31b0
                        try clear c31b1
                        try clear p32
                        try clear q32
                        try clear hx32
                        try clear qi32
                        try clear c33
                        try clear c33b0
                        try clear c34
                        try clear c34b0
                        try clear c35
                        try clear c35b0
                        try clear c37
                        try clear c37b0
                        try clear c38
                        try clear c38b0
                        try clear c39
                        try clear c39b0
                        try clear c39b1
                        try clear c40
                        try clear c40b0
                        try clear c40b1
                        try clear p41
                        try clear q41
                        try clear hx41
                        try clear qi41
                        try clear c43
                        try clear c44
                        try clear c44b0
                        try clear c44b1
                        try clear p45
                        try clear q45
                        try clear hx45
                        try clear qi45
                        try clear c47
                        try clear c48
                        try clear c48b0
                        try clear c48b1
                        try clear p49
                        try clear q49
                        try clear hx49
                        try clear qi49
                        try clear p1
                        try clear p11
                        try clear p15
                        try clear p2
                        try clear p21
                        try clear p25
                        try clear p3
                        try clear p30
                        try clear p32
                        try clear p4
                        try clear p41
                        try clear p45
                        try clear p49
                        try clear p6
                        try clear q1
                        try clear q11
                        try clear q15
                        try clear q2
                        try clear q21
                        try clear q25
                        try clear q3
                        try clear q30
                        try clear q32
                        try clear q4
                        try clear q41
                        try clear q45
                        try clear q49
                        obtain ⟨kq, x111_35, rfl, HA, HJ35, ⟨mc35, rfl⟩⟩ := hcut
                        cases kq with
                        | zero => exact absurd HA.out (by simp [shunterref05_First.j3])
                        | succ kj35 =>
                          have H := HA.out
                          clear HA
                          simp only [shunterref05_First.j3] at H
                          by_cases c51 : x111_35 = true
                          · subst c51
                            have H1 : (if 1 < (a0.size : Int) then (if 2 < (a0.size : Int) then (if 3 < (a0.size : Int) then (if (wrap64 ((wrap64 ((wrap64 ((wrap64 ((wrap64 (262144 * (wrap64 ((wrap64 (bt a0 0)) - 240)))) + (wrap64 (4096 * (wrap64 ((wrap64 (bt a0 1)) - 128)))))) + (wrap64 (64 * (wrap64 ((wrap64 (bt a0 2)) - 128)))))) + (wrap64 (bt a0 3)))) - 128)) ≥ 65536 then (if (wrap64 ((wrap64 ((wrap64 ((wrap64 ((wrap64 (262144 * (wrap64 ((wrap64 (bt a0 0)) - 240)))) + (wrap64 (4096 * (wrap64 ((wrap64 (bt a0 1)) - 128)))))) + (wrap64 (64 * (wrap64 ((wrap64 (bt a0 2)) - 128)))))) + (wrap64 (bt a0 3)))) - 128)) ≤ 1114111 then (some (wrap64 ((wrap64 ((wrap64 ((wrap64 ((wrap64 (262144 * (wrap64 ((wrap64 (bt a0 0)) - 240)))) + (wrap64 (4096 * (wrap64 ((wrap64 (bt a0 1)) - 128)))))) + (wrap64 (64 * (wrap64 ((wrap64 (bt a0 2)) - 128)))))) + (wrap64 (bt a0 3)))) - 128), 4)) else (some (65533, 1))) else (some (65533, 1))) else (none)) else (none)) else (none)) = some (r1, r2) := by rw [if_pos rfl] at H; exact H
                            clear H
                            have H := H1
                            clear H1
                            by_cases c52 : 1 < (a0.size : Int)
                            · rw [if_pos c52] at H
                              have c52b0 : decide (1 < (a0.size : Int)) = true := decide_eq_true c52
                              have c52b1 : decide (1 < a0.size) = true := decide_eq_true (by omega)
                              clear c52
                              by_cases c54 : 2 < (a0.size : Int)
                              · rw [if_pos c54] at H
                                have c54b0 : decide (2 < (a0.size : Int)) = true := decide_eq_true c54
                                have c54b1 : decide (2 < a0.size) = true := decide_eq_true (by omega)
                                clear c54
                                by_cases c56 : 3 < (a0.size : Int)
                                · rw [if_pos c56] at H
                                  have c56b0 : decide (3 < (a0.size : Int)) = true := decide_eq_true c56
                                  have c56b1 : decide (3 < a0.size) = true := decide_eq_true (by omega)
                                  clear c56
                                  by_cases c58 : (wrap64 ((wrap64 ((wrap64 ((wrap64 ((wrap64 (262144 * (wrap64 ((wrap64 (bt a0 0)) - 240)))) + (wrap64 (4096 * (wrap64 ((wrap64 (bt a0 1)) - 128)))))) + (wrap64 (64 * (wrap64 ((wrap64 (bt a0 2)) - 128)))))) + (wrap64 (bt a0 3)))) - 128)) ≥ 65536
                                  · rw [if_pos c58] at H
                                    have c58b0 : decide (65536 ≤ (wrap64 ((wrap64 ((wrap64 ((wrap64 ((wrap64 (262144 * (wrap64 ((wrap64 (bt a0 0)) - 240)))) + (wrap64 (4096 * (wrap64 ((wrap64 (bt a0 1)) - 128)))))) + (wrap64 (64 * (wrap64 ((wrap64 (bt a0 2)) - 128)))))) + (wrap64 (bt a0 3)))) - 128))) = true := decide_eq_true c58
                                    clear c58
                                    by_cases c59 : (wrap64 ((wrap64 ((wrap64 ((wrap64 ((wrap64 (262144 * (wrap64 ((wrap64 (bt a0 0)) - 240)))) + (wrap64 (4096 * (wrap64 ((wrap64 (bt a0 1)) - 128)))))) + (wrap64 (64 * (wrap64 ((wrap64 (bt a0 2)) - 128)))))) + (wrap64 (bt a0 3)))) - 128)) ≤ 1114111
                                    · rw [if_pos c59] at H
                                      have c59b0 : decide ((wrap64 ((wrap64 ((wrap64 ((wrap64 ((wrap64 (262144 * (wrap64 ((wrap64 (bt a0 0)) - 240)))) + (wrap64 (4096 * (wrap64 ((wrap64 (bt a0 1)) - 128)))))) + (wrap64 (64 * (wrap64 ((wrap64 (bt a0 2)) - 128)))))) + (wrap64 (bt a0 3)))) - 128)) ≤ 1114111) = true := decide_eq_true c59
                                      clear c59
                                      simp only [Option.some.injEq, Prod.mk.injEq] at H
                                      obtain ⟨rfl, rfl⟩ := H
                                      have p53 : 0 ≤ (1 : Int) := (by omega)
                                      have q53 : 1 < a0.size := (by have : (1 : Int) < (a0.size : Int) := of_decide_eq_true (by first | (with_reducible assumption) | assumption); omega)
                                      have hx53 : ∀ h : 1 < a0.size, ((a0[1]'h).toNat : Int) = bt a0 1 := bt_at a0 1
                                      clear p53
                                      have qi53 : (1 < (a0.size : Int)) = True := eq_true (of_decide_eq_true (by first | (with_reducible assumption) | assumption))
                                      replace q53 := eq_true q53
                                      have p55 : 0 ≤ (2 : Int) := (by omega)
                                      have q55 : 2 < a0.size := (by have : (2 : Int) < (a0.size : Int) := of_decide_eq_true (by first | (with_reducible assumption) | assumption); omega)
                                      have hx55 : ∀ h : 2 < a0.size, ((a0[2]'h).toNat : Int) = bt a0 2 := bt_at a0 2
                                      clear p55
                                      have qi55 : (2 < (a0.size : Int)) = True := eq_true (of_decide_eq_true (by first | (with_reducible assumption) | assumption))
                                      replace q55 := eq_true q55
                                      have p57 : 0 ≤ (3 : Int) := (by omega)
                                      have q57 : 3 < a0.size := (by have : (3 : Int) < (a0.size : Int) := of_decide_eq_true (by first | (with_reducible assumption) | assumption); omega)
                                      have hx57 : ∀ h : 3 < a0.size, ((a0[3]'h).toNat : Int) = bt a0 3 := bt_at a0 3
                                      clear p57
                                      have qi57 : (3 < (a0.size : Int)) = True := eq_true (of_decide_eq_true (by first | (with_reducible assumption) | assumption))
                                      replace q57 := eq_true q57
                                      go_wp2
                                      repeat (go_quiet (fail); try go_wp2)
                                      go_ret2
                                      exact ⟨by first | rfl | (simp; done) | (simp [*]; done), by repeat (first | exact Drawn0.refl _ | apply Drawn0.step)⟩
                                    · rw [if_neg c59] at H
                                      have c59b0 : decide ((wrap64 ((wrap64 ((wrap64 ((wrap64 ((wrap64 (262144 * (wrap64 ((wrap64 (bt a0 0)) - 240)))) + (wrap64 (4096 * (wrap64 ((wrap64 (bt a0 1)) - 128)))))) + (wrap64 (64 * (wrap64 ((wrap64 (bt a0 2)) - 128)))))) + (wrap64 (bt a0 3)))) - 128)) ≤ 1114111) = false := decide_eq_false c59
                                      clear c59
                                      simp only [Option.some.injEq, Prod.mk.injEq] at H
                                      obtain ⟨rfl, rfl⟩ := H
                                      have p53 : 0 ≤ (1 : Int) := (by omega)
                                      have q53 : 1 < a0.size := (by have : (1 : Int) < (a0.size : Int) := of_decide_eq_true (by first | (with_reducible assumption) | assumption); omega)
                                      have hx53 : ∀ h : 1 < a0.size, ((a0[1]'h).toNat : Int) = bt a0 1 := bt_at a0 1
                                      clear p53
                                      have qi53 : (1 < (a0.size : Int)) = True := eq_true (of_decide_eq_true (by first | (with_reducible assumption) | assumption))
                                      replace q53 := eq_true q53
                                      have p55 : 0 ≤ (2 : Int) := (by omega)
                                      have q55 : 2 < a0.size := (by have : (2 : Int) < (a0.size : Int) := of_decide_eq_true (by first | (with_reducible assumption) | assumption); omega)
                                      have hx55 : ∀ h : 2 < a0.size, ((a0[2]'h).toNat : Int) = bt a0 2 := bt_at a0 2
                                      clear p55
                                      have qi55 : (2 < (a0.size : Int)) = True := eq_true (of_decide_eq_true (by first | (with_reducible assumption) | assumption))
                                      replace q55 := eq_true q55
                                      have p57 : 0 ≤ (3 : Int) := (by omega)
                                      have q57 : 3 < a0.size := (by have : (3 : Int) < (a0.size : Int) := of_decide_eq_true (by first | (with_reducible assumption) | assumption); omega)
                                      have hx57 : ∀ h : 3 < a0.size, ((a0[3]'h).toNat : Int) = bt a0 3 := bt_at a0 3
                                      clear p57
                                      have qi57 : (3 < (a0.size : Int)) = True := eq_true (of_decide_eq_true (by first | (with_reducible assumption) | assumption))
                                      replace q57 := eq_true q57
                                      go_wp2
                                      repeat (go_quiet (fail); try go_wp2)
                                      go_ret2
                                      exact ⟨by first | rfl | (simp; done) | (simp [*]; done), by repeat (first | exact Drawn0.refl _ | apply Drawn0.step)⟩
                                  · rw [if_neg c58] at H
                                    have c58b0 : decide (65536 ≤ (wrap64 ((wrap64 ((wrap64 ((wrap64 ((wrap64 (262144 * (wrap64 ((wrap64 (bt a0 0)) - 240)))) + (wrap64 (4096 * (wrap64 ((wrap64 (bt a0 1)) - 128)))))) + (wrap64 (64 * (wrap64 ((wrap64 (bt a0 2)) - 128)))))) + (wrap64 (bt a0 3)))) - 128))) = false := decide_eq_false c58
                                    clear c58
                                    simp only [Option.some.injEq, Prod.mk.injEq] at H
                                    obtain ⟨rfl, rfl⟩ := H
                                    have p53 : 0 ≤ (1 : Int) := (by omega)
                                    have q53 : 1 < a0.size := (by have : (1 : Int) < (a0.size : Int) := of_decide_eq_true (by first | (with_reducible assumption) | assumption); omega)
                                    have hx53 : ∀ h : 1 < a0.size, ((a0[1]'h).toNat : Int) = bt a0 1 := bt_at a0 1
                                    clear p53
                                    have qi53 : (1 < (a0.size : Int)) = True := eq_true (of_decide_eq_true (by first | (with_reducible assumption) | assumption))
                                    replace q53 := eq_true q53
                                    have p55 : 0 ≤ (2 : Int) := (by omega)
                                    have q55 : 2 < a0.size := (by have : (2 : Int) < (a0.size : Int) := of_decide_eq_true (by first | (with_reducible assumption) | assumption); omega)
                                    have hx55 : ∀ h : 2 < a0.size, ((a0[2]'h).toNat : Int) = bt a0 2 := bt_at a0 2
                                    clear p55
                                    have qi55 : (2 < (a0.size : Int)) = True := eq_true (of_decide_eq_true (by first | (with_reducible assumption) | assumption))
                                    replace q55 := eq_true q55
                                    have p57 : 0 ≤ (3 : Int) := (by omega)
                                    have q57 : 3 < a0.size := (by have : (3 : Int) < (a0.size : Int) := of_decide_eq_true (by first | (with_reducible assumption) | assumption); omega)
                                    have hx57 : ∀ h : 3 < a0.size, ((a0[3]'h).toNat : Int) = bt a0 3 := bt_at a0 3
                                    clear p57
                                    have qi57 : (3 < (a0.size : Int)) = True := eq_true (of_decide_eq_true (by first | (with_reducible assumption) | assumption))
                                    replace q57 := eq_true q57
                                    go_wp2
                                    repeat (go_quiet (fail); try go_wp2)
                                    go_ret2
                                    exact ⟨by first | rfl | (simp; done) | (simp [*]; done), by repeat (first | exact Drawn0.refl _ | apply Drawn0.step)⟩
                                · rw [if_neg c56] at H
                                  exact absurd H (by simp)
                              · rw [if_neg c54] at H
                                exact absurd H (by simp)
                            · rw [if_neg c52] at H
                              exact absurd H (by simp)
                          · replace c51 := Bool.eq_false_iff.mpr c51
                            subst c51
                            have H1 : (some (65533, 1)) = some (r1, r2) := by rw [if_neg (show ¬ (false = true) by decide)] at H; exact H
                            clear H
                            have H := H1
                            clear H1
                            simp only [Option.some.injEq, Prod.mk.injEq] at H
                            obtain ⟨rfl, rfl⟩ := H
                            go_wp2
                            repeat (go_quiet (fail); try go_wp2)
                            go_ret2
                            exact ⟨by first | rfl | (simp; done) | (simp [*]; done), by repeat (first | exact Drawn0.refl _ | apply Drawn0.step)⟩
    · rw [if_neg c3] at H
      exact absurd H (by simp)

end Go.Proofs.Ytpdjiiikfjjfjaa.XI
