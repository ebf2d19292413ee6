/- The Lean functions that this claim's Go functions compute, and that the machine's calls return them; laid by a program of this session (xprint.py), partly typed by hand. -/
import Derived.Test.YtpdjiiikfjjfjaaXIx0
namespace Go.Proofs.Ytpdjiiikfjjfjaa.XI
open Go.RowKit Go.Proofs.YtpdjiiikfjjfjaaW.PrintWords Go.Proofs.YtpdjiiikfjjfjaaW.PrintLast Go.Proofs.YtpdjiiikfjjfjaaW.PrintMore
attribute [local go_sem] max2_int min2_int max_two min_two max_three min_three max_four min_four   -- for this text's walks alone
set_option linter.unusedVariables false
set_option linter.unusedSimpArgs false

/-! ### name_between: function 56 -/
def name_between.f (a0 : Int) (a1 : Int) (a2 : Int) : Option (Bool) := if a0 ≥ a1 then (some (decide (a0 ≤ a2))) else (some false)
set_option maxHeartbeats 8000000 in
set_option maxRecDepth 100000 in
theorem name_between.calls (a0 : Int) (a1 : Int) (a2 : Int) (r : Bool) (w : World) (h : name_between.f a0 a1 a2 = some r) :
    Calls Try.prog 56 #[.int .i32 a0, .int .i32 a1, .int .i32 a2] w fun e w' => e = .returned (.bool r) ∧ Drawn0 w w' := by
  have H : (if a0 ≥ a1 then (some (decide (a0 ≤ a2))) else (some false)) = some r := h
  clear h
  by_cases c4 : a0 ≥ a1
  · rw [if_pos c4] at H
    have c4b0 : decide (a1 ≤ a0) = true := decide_eq_true c4
    clear c4
    obtain rfl := Option.some.inj H
    go_enter Try.func56, Try.ntmps56
    go_wp2
    go_ret
    exact ⟨by first | rfl | (simp; done) | (simp [*]; done), by repeat (first | exact Drawn0.refl _ | apply Drawn0.step)⟩
  · rw [if_neg c4] at H
    have c4b0 : decide (a1 ≤ a0) = false := decide_eq_false c4
    clear c4
    obtain rfl := Option.some.inj H
    go_enter Try.func56, Try.ntmps56
    go_wp2
    go_ret
    exact ⟨by first | rfl | (simp; done) | (simp [*]; done), by repeat (first | exact Drawn0.refl _ | apply Drawn0.step)⟩

-- AFTER shunter/name.between
/-- The runes of a text with the places where they begin. -/
def rnFrom (s : ByteArray) : Nat → Nat → List (Nat × Nat)
  | 0, _ => []
  | f + 1, pos => if pos < s.size then (pos, (Utf8.decode s pos).1) :: rnFrom s f (pos + (Utf8.decode s pos).2) else []
def rn (s : ByteArray) : List (Nat × Nat) := rnFrom s s.size 0
theorem rnFrom_end (s : ByteArray) (f pos : Nat) (h : ¬ pos < s.size) : rnFrom s f pos = [] := by
  cases f <;> simp [rnFrom, h]
theorem rnFrom_cons (s : ByteArray) (f pos : Nat) (h : pos < s.size) : rnFrom s (f + 1) pos = (pos, (Utf8.decode s pos).1) :: rnFrom s f (pos + (Utf8.decode s pos).2) := by
  simp [rnFrom, h]
theorem rnFrom_le (s : ByteArray) : ∀ f pos, (rnFrom s f pos).length ≤ f
  | 0, _ => by simp [rnFrom]
  | f + 1, pos => by
    have := rnFrom_le s f (pos + (Utf8.decode s pos).2)
    unfold rnFrom
    split <;> simp <;> omega
theorem rn_le (s : ByteArray) : (rn s).length ≤ s.size := rnFrom_le s _ _
theorem heap_lt {w : World} {k : Nat} {o : Obj} (h : w.heap[k]? = some o) : k < w.heap.size := (Array.getElem?_eq_some_iff.1 h).1

/-! ### name_Letter: function 48 -/
mutual
def name_Letter.j0 : Nat → Int → Bool → Option (Bool)
  | 0, _, _ => none
  | k + 1, x0, x3 => if x3 = true then (some false) else ((name_between.f x0 65 90).bind fun t101 => (if t101 = true then (name_Letter.j1 k x0 true) else ((name_between.f x0 97 122).bind fun t102 => (if t102 = true then (name_Letter.j1 k x0 true) else (name_Letter.j1 k x0 (x0 == 95))))))
def name_Letter.j1 : Nat → Int → Bool → Option (Bool)
  | 0, _, _ => none
  | k + 1, x0, x14 => if x14 = true then (some true) else ((name_between.f x0 192 591).bind fun t103 => (if t103 = true then (some true) else ((name_between.f x0 913 969).bind fun t104 => (if t104 = true then (some true) else ((name_between.f x0 1024 1279).bind fun t105 => (some t105))))))
end
def name_Letter.f (k : Nat) (a0 : Int) : Option (Bool) := if a0 = 215 then (name_Letter.j0 k a0 true) else (if a0 = 247 then (name_Letter.j0 k a0 true) else (name_Letter.j0 k a0 (a0 == 930)))
theorem name_Letter.mono_l : ∀ k, (∀ y0 y1, LeO (name_Letter.j0 k y0 y1) (name_Letter.j0 (k + 1) y0 y1)) ∧ (∀ y0 y1, LeO (name_Letter.j1 k y0 y1) (name_Letter.j1 (k + 1) y0 y1))
  | 0 => ⟨fun _ _ r h => by simp [name_Letter.j0] at h, fun _ _ r h => by simp [name_Letter.j1] at h⟩
  | k + 1 => by
    obtain ⟨ih0, ih1⟩ := name_Letter.mono_l k
    refine ⟨?_, ?_⟩
    · intro y0 y1
      unfold name_Letter.j0
      repeat' first
      | (with_reducible exact ih0 _ _)
      | (with_reducible exact ih1 _ _)
      | (with_reducible exact LeO.refl _)
      | (with_reducible exact LeO.none _)
      | (with_reducible refine LeO.ite ?_ ?_)
      | (with_reducible refine LeO.bind ?_ (fun _ => ?_))
      | exact ih0 _ _
      | exact ih1 _ _
      | exact LeO.none _
      | refine LeO.ite ?_ ?_
      | refine LeO.bind ?_ (fun _ => ?_)
    · intro y0 y1
      unfold name_Letter.j1
      repeat' first
      | (with_reducible exact ih0 _ _)
      | (with_reducible exact ih1 _ _)
      | (with_reducible exact LeO.refl _)
      | (with_reducible exact LeO.none _)
      | (with_reducible refine LeO.ite ?_ ?_)
      | (with_reducible refine LeO.bind ?_ (fun _ => ?_))
      | exact ih0 _ _
      | exact ih1 _ _
      | exact LeO.none _
      | refine LeO.ite ?_ ?_
      | refine LeO.bind ?_ (fun _ => ?_)
theorem name_Letter.mono : ∀ a0 k, LeO (name_Letter.f k a0) (name_Letter.f (k + 1) a0) := by
  intro a0 k
  obtain ⟨ih0, ih1⟩ := name_Letter.mono_l k
  unfold name_Letter.f
  repeat' first
      | (with_reducible exact ih0 _ _)
      | (with_reducible exact ih1 _ _)
      | (with_reducible exact LeO.refl _)
      | (with_reducible exact LeO.none _)
      | (with_reducible refine LeO.ite ?_ ?_)
      | (with_reducible refine LeO.bind ?_ (fun _ => ?_))
      | exact ih0 _ _
      | exact ih1 _ _
      | exact LeO.none _
      | refine LeO.ite ?_ ?_
      | refine LeO.bind ?_ (fun _ => ?_)
set_option maxHeartbeats 8000000 in
set_option maxRecDepth 100000 in
theorem name_Letter.calls (k : Nat) (a0 : Int) (r : Bool) (w : World) (h : name_Letter.f k a0 = some r) :
    Calls Try.prog 48 #[.int .i32 a0] w fun e w' => e = .returned (.bool r) ∧ Drawn0 w w' := by
  have H : (if a0 = 215 then (name_Letter.j0 k a0 true) else (if a0 = 247 then (name_Letter.j0 k a0 true) else (name_Letter.j0 k a0 (a0 == 930)))) = some r := h
  clear h
  have HC2 := Aside0.mk H
  clear H
  go_enter Try.func48, Try.ntmps48
  go_upto_region 1 with (fail)
  go_cut [3] (fun v3 wc => ∃ (kq : Nat) (x3_1 : Bool), v3 = .bool x3_1 ∧ Aside0 (name_Letter.j0 kq a0 x3_1 = some r) ∧ Aside0 (kq ≤ k) ∧ Drawn0 w wc)
  case first =>
    have H := HC2.out
    clear HC2
    by_cases c3 : a0 = 215
    · rw [if_pos c3] at H
      have c3b0 : (a0 == 215) = true := beq_iff_eq.mpr c3
      have c3b1 : (a0 != 215) = false := bne_eq_false_iff_eq.mpr c3
      clear c3
      (first | rw [c3b0] | (simp only [i64_w, i32_w]; rw [c3b0]) | skip)
      have H' := Aside0.mk H
      clear H
      go_wp2
      go_meet
      case rel => exact ⟨_, (true), (by first | rfl | (simp; done) | (simp [*]; done)), H', ⟨by first | omega | exact Nat.le_refl _⟩, by repeat (first | exact Drawn0.refl _ | apply Drawn0.step)⟩
    · rw [if_neg c3] at H
      have c3b0 : (a0 == 215) = false := beq_eq_false_iff_ne.mpr c3
      have c3b1 : (a0 != 215) = true := bne_iff_ne.mpr c3
      (first | rw [c3b0] | (simp only [i64_w, i32_w]; rw [c3b0]) | skip)
      by_cases c4 : a0 = 247
      · rw [if_pos c4] at H
        have c4b0 : (a0 == 247) = true := beq_iff_eq.mpr c4
        have c4b1 : (a0 != 247) = false := bne_eq_false_iff_eq.mpr c4
        clear c4
        have H' := Aside0.mk H
        clear H
        go_wp2
        go_meet
        case rel => exact ⟨_, (true), (by first | rfl | (simp; done) | (simp [*]; done)), H', ⟨by first | omega | exact Nat.le_refl _⟩, by repeat (first | exact Drawn0.refl _ | apply Drawn0.step)⟩
      · rw [if_neg c4] at H
        have c4b0 : (a0 == 247) = false := beq_eq_false_iff_ne.mpr c4
        have c4b1 : (a0 != 247) = true := bne_iff_ne.mpr c4
        have H' := Aside0.mk H
        clear H
        go_wp2
        go_meet
        case rel => exact ⟨_, ((a0 == 930)), (by first | rfl | (simp; done) | (simp [*]; done)), H', ⟨by first | omega | exact Nat.le_refl _⟩, by repeat (first | exact Drawn0.refl _ | apply Drawn0.step)⟩
  case rest =>
    clear HC2
    try clear p2
    try clear c3
    try clear c3b0
    try clear c3b1
    try clear c4
    try clear c4b0
    try clear c4b1
    obtain ⟨kq, x3_1, rfl, HA, HJ1, ⟨mc1, rfl⟩⟩ := hcut
    cases kq with
    | zero => exact absurd HA.out (by simp [name_Letter.j0])
    | succ kj1 =>
      have H := HA.out
      clear HA
      simp only [name_Letter.j0] at H
      by_cases c5 : x3_1 = true
      · subst c5
        have H1 : (some false) = some r := by rw [if_pos rfl] at H; exact H
        clear H
        have H := H1
        clear H1
        obtain rfl := Option.some.inj H
        go_wp2
        go_ret
        exact ⟨by first | rfl | (simp; done) | (simp [*]; done), by repeat (first | exact Drawn0.refl _ | apply Drawn0.step)⟩
      · replace c5 := Bool.eq_false_iff.mpr c5
        subst c5
        have H1 : ((name_between.f a0 65 90).bind fun t101 => (if t101 = true then (name_Letter.j1 kj1 a0 true) else ((name_between.f a0 97 122).bind fun t102 => (if t102 = true then (name_Letter.j1 kj1 a0 true) else (name_Letter.j1 kj1 a0 (a0 == 95)))))) = some r := by rw [if_neg (show ¬ (false = true) by decide)] at H; exact H
        clear H
        have H := H1
        clear H1
        have HC6 := Aside0.mk H
        clear H
        go_upto_region 3 with (fail)
        go_cut [14] (fun v14 wc => ∃ (kq : Nat) (x14_5 : Bool), v14 = .bool x14_5 ∧ Aside0 (name_Letter.j1 kq a0 x14_5 = some r) ∧ Aside0 (kq ≤ kj1) ∧ Drawn0 w wc)
        case first =>
          have H := HC6.out
          clear HC6
          replace H := Option.bind_eq_some_iff.mp H
          obtain ⟨t101, A70, H⟩ := H
          replace H : (if t101 = true then (name_Letter.j1 kj1 a0 true) else ((name_between.f a0 97 122).bind fun t102 => (if t102 = true then (name_Letter.j1 kj1 a0 true) else (name_Letter.j1 kj1 a0 (a0 == 95))))) = some r := H
          have A7 := Aside0.mk A70
          clear A70
          by_cases c8 : t101 = true
          · subst c8
            have H1 : (name_Letter.j1 kj1 a0 true) = some r := by rw [if_pos rfl] at H; exact H
            clear H
            have H := H1
            clear H1
            have H' := Aside0.mk H
            clear H
            go_wp2_with (first | ((with_reducible refine gate_callee (f := 56) rfl ?_); refine goesL_ (some 16) rfl rfl Try.func56 (by kernel_rfl) rfl #[.int .i32 a0, .int .i32 65, .int .i32 90] rfl (by (try simp only [List.map_toArray, List.map_cons, List.map_nil]); first | done | rfl | (simp only [List.length_drop, List.length_take]; rfl)) ?_; (with_reducible refine (name_between.calls a0 65 90 true _ A7.out).mono ?_); rintro e w' ⟨rfl, ⟨nd, rfl⟩⟩; refine ⟨_, rfl, ?_⟩))
            go_meet
            case rel => exact ⟨_, (true), (by first | rfl | (simp; done) | (simp [*]; done)), H', ⟨by have := HJ1.out; first | omega | exact Nat.le_refl _⟩, by repeat (first | exact Drawn0.refl _ | apply Drawn0.step)⟩
          · replace c8 := Bool.eq_false_iff.mpr c8
            subst c8
            have H1 : ((name_between.f a0 97 122).bind fun t102 => (if t102 = true then (name_Letter.j1 kj1 a0 true) else (name_Letter.j1 kj1 a0 (a0 == 95)))) = some r := by rw [if_neg (show ¬ (false = true) by decide)] at H; exact H
            clear H
            have H := H1
            clear H1
            replace H := Option.bind_eq_some_iff.mp H
            obtain ⟨t102, A90, H⟩ := H
            replace H : (if t102 = true then (name_Letter.j1 kj1 a0 true) else (name_Letter.j1 kj1 a0 (a0 == 95))) = some r := H
            have A9 := Aside0.mk A90
            clear A90
            by_cases c10 : t102 = true
            · subst c10
              have H1 : (name_Letter.j1 kj1 a0 true) = some r := by rw [if_pos rfl] at H; exact H
              clear H
              have H := H1
              clear H1
              have H' := Aside0.mk H
              clear H
              go_wp2_with (first | ((with_reducible refine gate_callee (f := 56) rfl ?_); refine goesL_ (some 16) rfl rfl Try.func56 (by kernel_rfl) rfl #[.int .i32 a0, .int .i32 65, .int .i32 90] rfl (by (try simp only [List.map_toArray, List.map_cons, List.map_nil]); first | done | rfl | (simp only [List.length_drop, List.length_take]; rfl)) ?_; (with_reducible refine (name_between.calls a0 65 90 false _ A7.out).mono ?_); rintro e w' ⟨rfl, ⟨nd, rfl⟩⟩; refine ⟨_, rfl, ?_⟩) | (go_at_call 56; (with_reducible refine (name_between.calls a0 97 122 true _ A9.out).mono ?_); rintro e w' ⟨rfl, ⟨nd, rfl⟩⟩))
              go_meet
              case rel => exact ⟨_, (true), (by first | rfl | (simp; done) | (simp [*]; done)), H', ⟨by have := HJ1.out; first | omega | exact Nat.le_refl _⟩, by repeat (first | exact Drawn0.refl _ | apply Drawn0.step)⟩
            · replace c10 := Bool.eq_false_iff.mpr c10
              subst c10
              have H1 : (name_Letter.j1 kj1 a0 (a0 == 95)) = some r := by rw [if_neg (show ¬ (false = true) by decide)] at H; exact H
              clear H
              have H := H1
              clear H1
              have H' := Aside0.mk H
              clear H
              go_wp2_with (first | ((with_reducible refine gate_callee (f := 56) rfl ?_); refine goesL_ (some 16) rfl rfl Try.func56 (by kernel_rfl) rfl #[.int .i32 a0, .int .i32 65, .int .i32 90] rfl (by (try simp only [List.map_toArray, List.map_cons, List.map_nil]); first | done | rfl | (simp only [List.length_drop, List.length_take]; rfl)) ?_; (with_reducible refine (name_between.calls a0 65 90 false _ A7.out).mono ?_); rintro e w' ⟨rfl, ⟨nd, rfl⟩⟩; refine ⟨_, rfl, ?_⟩) | (go_at_call 56; (with_reducible refine (name_between.calls a0 97 122 false _ A9.out).mono ?_); rintro e w' ⟨rfl, ⟨nd, rfl⟩⟩))
              go_meet
              case rel => exact ⟨_, ((a0 == 95)), (by first | rfl | (simp; done) | (simp [*]; done)), H', ⟨by have := HJ1.out; first | omega | exact Nat.le_refl _⟩, by repeat (first | exact Drawn0.refl _ | apply Drawn0.step)⟩
        case rest =>
          clear HC6
          try clear c1
          try clear p2
          try clear c3
          try clear c3b0
          try clear c3b1
          try clear c4
          try clear c4b0
          try clear c4b1
          try clear c5
          try clear c8
          try clear c10
          try clear p2
          obtain ⟨kq, x14_5, rfl, HA, HJ5, ⟨mc5, rfl⟩⟩ := hcut
          cases kq with
          | zero => exact absurd HA.out (by simp [name_Letter.j1])
          | succ kj5 =>
            have H := HA.out
            clear HA
            simp only [name_Letter.j1] at H
            by_cases c11 : x14_5 = true
            · subst c11
              have H1 : (some true) = some r := by rw [if_pos rfl] at H; exact H
              clear H
              have H := H1
              clear H1
              obtain rfl := Option.some.inj H
              go_wp2
              go_ret
              exact ⟨by first | rfl | (simp; done) | (simp [*]; done), by repeat (first | exact Drawn0.refl _ | apply Drawn0.step)⟩
            · replace c11 := Bool.eq_false_iff.mpr c11
              subst c11
              have H1 : ((name_between.f a0 192 591).bind fun t103 => (if t103 = true then (some true) else ((name_between.f a0 913 969).bind fun t104 => (if t104 = true then (some true) else ((name_between.f a0 1024 1279).bind fun t105 => (some t105)))))) = some r := by rw [if_neg (show ¬ (false = true) by decide)] at H; exact H
              clear H
              have H := H1
              clear H1
              replace H := Option.bind_eq_some_iff.mp H
              obtain ⟨t103, A120, H⟩ := H
              replace H : (if t103 = true then (some true) else ((name_between.f a0 913 969).bind fun t104 => (if t104 = true then (some true) else ((name_between.f a0 1024 1279).bind fun t105 => (some t105))))) = some r := H
              have A12 := Aside0.mk A120
              clear A120
              by_cases c13 : t103 = true
              · subst c13
                have H1 : (some true) = some r := by rw [if_pos rfl] at H; exact H
                clear H
                have H := H1
                clear H1
                obtain rfl := Option.some.inj H
                go_wp2_with (first | ((with_reducible refine gate_callee (f := 56) rfl ?_); refine goesL_ (some 26) rfl rfl Try.func56 (by kernel_rfl) rfl #[.int .i32 a0, .int .i32 192, .int .i32 591] rfl (by (try simp only [List.map_toArray, List.map_cons, List.map_nil]); first | done | rfl | (simp only [List.length_drop, List.length_take]; rfl)) ?_; (with_reducible refine (name_between.calls a0 192 591 true _ A12.out).mono ?_); rintro e w' ⟨rfl, ⟨nd, rfl⟩⟩; refine ⟨_, rfl, ?_⟩))
                go_ret
                exact ⟨by first | rfl | (simp; done) | (simp [*]; done), by repeat (first | exact Drawn0.refl _ | apply Drawn0.step)⟩
              · replace c13 := Bool.eq_false_iff.mpr c13
                subst c13
                have H1 : ((name_between.f a0 913 969).bind fun t104 => (if t104 = true then (some true) else ((name_between.f a0 1024 1279).bind fun t105 => (some t105)))) = some r := by rw [if_neg (show ¬ (false = true) by decide)] at H; exact H
                clear H
                have H := H1
                clear H1
                replace H := Option.bind_eq_some_iff.mp H
                obtain ⟨t104, A140, H⟩ := H
                replace H : (if t104 = true then (some true) else ((name_between.f a0 1024 1279).bind fun t105 => (some t105))) = some r := H
                have A14 := Aside0.mk A140
                clear A140
                by_cases c15 : t104 = true
                · subst c15
                  have H1 : (some true) = some r := by rw [if_pos rfl] at H; exact H
                  clear H
                  have H := H1
                  clear H1
                  obtain rfl := Option.some.inj H
                  go_wp2_with (first | ((with_reducible refine gate_callee (f := 56) rfl ?_); refine goesL_ (some 26) rfl rfl Try.func56 (by kernel_rfl) rfl #[.int .i32 a0, .int .i32 192, .int .i32 591] rfl (by (try simp only [List.map_toArray, List.map_cons, List.map_nil]); first | done | rfl | (simp only [List.length_drop, List.length_take]; rfl)) ?_; (with_reducible refine (name_between.calls a0 192 591 false _ A12.out).mono ?_); rintro e w' ⟨rfl, ⟨nd, rfl⟩⟩; refine ⟨_, rfl, ?_⟩) | (go_at_call 56; (with_reducible refine (name_between.calls a0 913 969 true _ A14.out).mono ?_); rintro e w' ⟨rfl, ⟨nd, rfl⟩⟩))
                  go_ret
                  exact ⟨by first | rfl | (simp; done) | (simp [*]; done), by repeat (first | exact Drawn0.refl _ | apply Drawn0.step)⟩
                · replace c15 := Bool.eq_false_iff.mpr c15
                  subst c15
                  have H1 : ((name_between.f a0 1024 1279).bind fun t105 => (some t105)) = some r := by rw [if_neg (show ¬ (false = true) by decide)] at H; exact H
                  clear H
                  have H := H1
                  clear H1
                  replace H := Option.bind_eq_some_iff.mp H
                  obtain ⟨t105, A160, H⟩ := H
                  replace H : (some t105) = some r := H
                  have A16 := Aside0.mk A160
                  clear A160
                  obtain rfl := Option.some.inj H
                  go_wp2_with (first | ((with_reducible refine gate_callee (f := 56) rfl ?_); refine goesL_ (some 26) rfl rfl Try.func56 (by kernel_rfl) rfl #[.int .i32 a0, .int .i32 192, .int .i32 591] rfl (by (try simp only [List.map_toArray, List.map_cons, List.map_nil]); first | done | rfl | (simp only [List.length_drop, List.length_take]; rfl)) ?_; (with_reducible refine (name_between.calls a0 192 591 false _ A12.out).mono ?_); rintro e w' ⟨rfl, ⟨nd, rfl⟩⟩; refine ⟨_, rfl, ?_⟩) | (go_at_call 56; (with_reducible refine (name_between.calls a0 913 969 false _ A14.out).mono ?_); rintro e w' ⟨rfl, ⟨nd, rfl⟩⟩) | (go_at_call 56; (with_reducible refine (name_between.calls a0 1024 1279 t105 _ A16.out).mono ?_); rintro e w' ⟨rfl, ⟨nd, rfl⟩⟩))
                  go_ret
                  exact ⟨by first | rfl | (simp; done) | (simp [*]; done), by repeat (first | exact Drawn0.refl _ | apply Drawn0.step)⟩

/-! ### name_Digit: function 49 -/
def name_Digit.f (a0 : Int) : Option (Bool) := (name_between.f a0 48 57).bind fun t106 => (some t106)
set_option maxHeartbeats 8000000 in
set_option maxRecDepth 100000 in
theorem name_Digit.calls (a0 : Int) (r : Bool) (w : World) (h : name_Digit.f a0 = some r) :
    Calls Try.prog 49 #[.int .i32 a0] w fun e w' => e = .returned (.bool r) ∧ Drawn0 w w' := by
  have H : ((name_between.f a0 48 57).bind fun t106 => (some t106)) = some r := h
  clear h
  replace H := Option.bind_eq_some_iff.mp H
  obtain ⟨t106, A20, H⟩ := H
  replace H : (some t106) = some r := H
  have A2 := Aside0.mk A20
  clear A20
  obtain rfl := Option.some.inj H
  go_enter Try.func49, Try.ntmps49
  go_wp2_with (first | ((with_reducible refine gate_callee (f := 56) rfl ?_); refine goesL_ (some 4) rfl rfl Try.func56 (by kernel_rfl) rfl #[.int .i32 a0, .int .i32 48, .int .i32 57] rfl (by (try simp only [List.map_toArray, List.map_cons, List.map_nil]); first | done | rfl | (simp only [List.length_drop, List.length_take]; rfl)) ?_; (with_reducible refine (name_between.calls a0 48 57 t106 _ A2.out).mono ?_); rintro e w' ⟨rfl, ⟨nd, rfl⟩⟩; refine ⟨_, rfl, ?_⟩))
  go_ret
  exact ⟨by first | rfl | (simp; done) | (simp [*]; done), by repeat (first | exact Drawn0.refl _ | apply Drawn0.step)⟩

/-! ### name_May: function 40 -/
-- EXT shunter/name.May ROUNDS=0 MAKING=1 DEPS=shunter/name.Letter;shunter/name.Digit
def letB (c : Int) : Bool := !(c == 215 || c == 247 || c == 930) && (decide (65 ≤ c ∧ c ≤ 90) || decide (97 ≤ c ∧ c ≤ 122) || c == 95 || decide (192 ≤ c ∧ c ≤ 591) || decide (913 ≤ c ∧ c ≤ 969) || decide (1024 ≤ c ∧ c ≤ 1279))
def digB (c : Int) : Bool := decide (48 ≤ c ∧ c ≤ 57)
theorem between_eq (a b c : Int) : name_between.f a b c = some (decide (b ≤ a ∧ a ≤ c)) := by
  unfold name_between.f
  split <;> simp <;> omega
theorem name_Digit_eq (c : Int) : name_Digit.f c = some (digB c) := by
  simp [name_Digit.f, between_eq, digB]
theorem name_Letter_j1 (k : Nat) (c : Int) (b : Bool) : name_Letter.j1 (k + 1) c b = some (b || decide (192 ≤ c ∧ c ≤ 591) || decide (913 ≤ c ∧ c ≤ 969) || decide (1024 ≤ c ∧ c ≤ 1279)) := by
  cases b
  · simp only [name_Letter.j1, between_eq, Option.bind_some]
    by_cases h1 : 192 ≤ c ∧ c ≤ 591
    · simp [h1]
    · by_cases h2 : 913 ≤ c ∧ c ≤ 969
      · simp [h1, h2]
      · simp [h1, h2]
  · simp [name_Letter.j1]
theorem name_Letter_eq (k : Nat) (c : Int) : name_Letter.f (k + 2) c = some (letB c) := by
  unfold name_Letter.f
  by_cases h1 : c = 215
  · subst h1; rfl
  · by_cases h2 : c = 247
    · subst h2; rfl
    · by_cases h3 : c = 930
      · subst h3; rfl
      · simp only [h1, h2, if_false]
        have h3' : (c == 930) = false := by simp [h3]
        rw [h3']
        simp only [name_Letter.j0, between_eq, Option.bind_some, name_Letter_j1]
        have e : letB c = (decide (65 ≤ c ∧ c ≤ 90) || decide (97 ≤ c ∧ c ≤ 122) || c == 95 || decide (192 ≤ c ∧ c ≤ 591) || decide (913 ≤ c ∧ c ≤ 969) || decide (1024 ≤ c ∧ c ≤ 1279)) := by
          simp [letB, h1, h2, h3]
        rw [e]
        by_cases h4 : 65 ≤ c ∧ c ≤ 90
        · simp [h4]
        · by_cases h5 : 97 ≤ c ∧ c ≤ 122
          · simp [h4, h5]
          · simp [h4, h5]
def mayGo : List (Nat × Nat) → Nat → Bool
  | [], n => decide (1 ≤ n ∧ n ≤ 24)
  | (_, c) :: t, n => (letB c || (decide (0 < n) && (digB c || (c : Int) == 45 || (c : Int) == 46))) && mayGo t (n + 1)
def name_May.f (a0 : ByteArray) : Option Bool := if a0.size < 9223372036854775807 then some (mayGo (rn a0) 0) else none
set_option maxHeartbeats 1000000 in
set_option maxRecDepth 100000 in
theorem name_May.calls (a0 : ByteArray) (r : Bool) (w : World) (h : name_May.f a0 = some r) :
    Calls Try.prog 40 #[.string a0] w fun e w' => e = .returned (.bool r) ∧ Below w.heap.size w w' := by
  unfold name_May.f at h
  split at h
  case isFalse => cases h
  rename_i hs
  obtain rfl := Option.some.inj h
  clear h
  go_enter Try.func40, Try.ntmps40
  go_wp2
  go_loopw [3] (fun n w' => ∃ (pos b acc : Nat), w'.heap[w.heap.size]? = some (.stringIter a0 pos) ∧ n = .int .i64 acc ∧ mayGo (rnFrom a0 b pos) acc = mayGo (rn a0) 0 ∧ a0.size ≤ pos + b ∧ acc ≤ pos ∧ Below w.heap.size w w') (fun _ w' => a0.size - w'.iterPos w.heap.size)
  case atStart => exact ⟨0, a0.size, 0, World.iter_heap w a0 0, rfl, rfl, by omega, Nat.le_refl _, (Below.refl _ w).alloc (Nat.le_refl _) _⟩
  case round =>
    obtain ⟨pos, b, acc, hit, rfl, hc, hb, ha, HB⟩ := hrel
    by_cases hp : pos < a0.size
    · have hnx : ∀ ty, (Instr.next (.pointer (some ⟨w.heap.size, 0, none⟩)) true ty).run Try.prog wr = _ := fun ty => Lib.run_next_any_at wr w.heap.size a0 pos ty hit hp
      have hwd := Lib.decode_width_pos a0 pos hp
      have hit2 := Lib.iterAt_heap wr w.heap.size a0 pos (pos + (Utf8.decode a0 pos).2) hit
      have HB2 := Lib.below_iterAt HB (k := w.heap.size) (by omega) a0 (pos + (Utf8.decode a0 pos).2)
      cases b with
      | zero => omega
      | succ b =>
      rw [rnFrom_cons _ _ _ hp] at hc
      have hlen := rnFrom_le a0 b (pos + (Utf8.decode a0 pos).2)
      generalize hC : (Utf8.decode a0 pos).1 = C at hc hnx
      rw [mayGo] at hc
      have hdr : ∀ n, Below w.heap.size w ((wr.iterAt w.heap.size a0 (pos + (Utf8.decode a0 pos).2)).drewN n) := fun n => pw_below_drewN HB2 n
      have LET := Aside0.mk (fun w => name_Letter.calls 2 _ _ w (name_Letter_eq 0 (C : Int)))
      have DIG := Aside0.mk (fun w => name_Digit.calls _ _ w (name_Digit_eq (C : Int)))
      have FIN : ∀ W : World, W.heap[w.heap.size]? = some (.stringIter a0 (pos + (Utf8.decode a0 pos).2)) → a0.size - W.iterPos w.heap.size < a0.size - wr.iterPos w.heap.size := by
        intro W hW
        simp only [World.iterPos, hW, hit]
        omega
      cases hL : letB (C : Int) with
      | true =>
        rw [hL] at LET
        simp only [hL, Bool.true_or, Bool.true_and] at hc
        go_wp2_with (go_at_call 48; refine (LET.out _).mono ?_; rintro e w1 ⟨rfl, ⟨n1, rfl⟩⟩)
        go_roundw
        case rel => exact ⟨pos + (Utf8.decode a0 pos).2, b, acc + 1, hit2, by go_num, hc, by omega, by omega, by first | exact hdr _ | exact HB2⟩
        case measure => exact FIN _ hit2
      | false =>
        rw [hL] at LET
        by_cases hz : acc = 0
        · subst hz
          rw [hL] at hc
          go_wp2_with (go_at_call 48; refine (LET.out _).mono ?_; rintro e w1 ⟨rfl, ⟨n1, rfl⟩⟩)
          go_ret
          exact ⟨by rw [← hc]; rfl, by first | exact hdr _ | exact HB2⟩
        · have hz0 : decide (0 < acc) = true := by simp; omega
          cases hD : digB (C : Int) with
          | true =>
            rw [hD] at DIG
            simp only [hL, hD, hz0, Bool.true_or, Bool.false_or, Bool.true_and] at hc
            go_wp2_with (first | (go_at_call 48; refine (LET.out _).mono ?_; rintro e w1 ⟨rfl, ⟨n1, rfl⟩⟩) | (go_at_call 49; refine (DIG.out _).mono ?_; rintro e w2 ⟨rfl, ⟨n2, rfl⟩⟩))
            go_roundw
            case rel => exact ⟨pos + (Utf8.decode a0 pos).2, b, acc + 1, hit2, by go_num, hc, by omega, by omega, by first | exact pw_below_drewN (hdr _) _ | exact hdr _ | exact HB2⟩
            case measure => exact FIN _ hit2
          | false =>
            rw [hD] at DIG
            by_cases h45 : (C : Int) = 45
            · simp only [hL, hD, hz0, Bool.true_or, Bool.false_or, Bool.true_and, h45] at hc
              have h45' : C = 45 := by omega
              subst h45'
              replace hc : mayGo (rnFrom a0 b (pos + (Utf8.decode a0 pos).2)) (acc + 1) = mayGo (rn a0) 0 := by simpa using hc
              go_wp2_with (first | (go_at_call 48; refine (LET.out _).mono ?_; rintro e w1 ⟨rfl, ⟨n1, rfl⟩⟩) | (go_at_call 49; refine (DIG.out _).mono ?_; rintro e w2 ⟨rfl, ⟨n2, rfl⟩⟩))
              go_roundw
              case rel => exact ⟨pos + (Utf8.decode a0 pos).2, b, acc + 1, hit2, by go_num, hc, by omega, by omega, by first | exact pw_below_drewN (hdr _) _ | exact hdr _ | exact HB2⟩
              case measure => exact FIN _ hit2
            · by_cases h46 : (C : Int) = 46
              · have h46' : C = 46 := by omega
                subst h46'
                replace hc : mayGo (rnFrom a0 b (pos + (Utf8.decode a0 pos).2)) (acc + 1) = mayGo (rn a0) 0 := by simpa [hz0, Nat.pos_of_ne_zero hz] using hc
                go_wp2_with (first | (go_at_call 48; refine (LET.out _).mono ?_; rintro e w1 ⟨rfl, ⟨n1, rfl⟩⟩) | (go_at_call 49; refine (DIG.out _).mono ?_; rintro e w2 ⟨rfl, ⟨n2, rfl⟩⟩))
                go_roundw
                case rel => exact ⟨pos + (Utf8.decode a0 pos).2, b, acc + 1, hit2, by go_num, hc, by omega, by omega, by first | exact pw_below_drewN (hdr _) _ | exact hdr _ | exact HB2⟩
                case measure => exact FIN _ hit2
              · replace hc : mayGo (rn a0) 0 = false := by rw [← hc, hL, hD]; simp [h45, h46]
                have HC := Aside0.mk hc
                clear hc
                have n45 : ((C : Int) != 45) = true := by simp [h45]
                have n46 : ((C : Int) != 46) = true := by simp [h46]
                have n0 : ((acc : Int) == 0) = false := by simp [hz]
                go_wp2_with (first | (go_at_call 48; refine (LET.out _).mono ?_; rintro e w1 ⟨rfl, ⟨n1, rfl⟩⟩) | (go_at_call 49; refine (DIG.out _).mono ?_; rintro e w2 ⟨rfl, ⟨n2, rfl⟩⟩))
                go_ret
                exact ⟨by rw [HC.out]; rfl, by first | exact pw_below_drewN (hdr _) _ | exact hdr _ | exact HB2⟩
    · have hnx : ∀ ty, (Instr.next (.pointer (some ⟨w.heap.size, 0, none⟩)) true ty).run Try.prog wr = _ := fun ty => Lib.run_next_end_at wr w.heap.size a0 pos ty hit hp
      rw [rnFrom_end a0 b pos hp, mayGo] at hc
      by_cases h1 : 1 ≤ acc
      · go_wp2
        go_ret
        exact ⟨by rw [← hc]; simp [h1]; omega, HB⟩
      · have h1' : acc = 0 := by omega
        subst h1'
        go_wp2
        go_ret
        exact ⟨by rw [← hc]; simp, HB⟩

/-! ### strings_Contains: function 41 -/
-- EXT strings.Contains ROUNDS=0 MAKING=0
def strings_Contains.f (a0 a1 : ByteArray) : Option Bool := if a1.size = 1 then some (decide (0 ≤ Lib.indexByte a0.data.toList (a1.data.toList.headD 0))) else none
theorem strings_Contains.calls (a0 a1 : ByteArray) (r : Bool) (w : World) (h : strings_Contains.f a0 a1 = some r) :
    Calls Try.prog 41 #[.string a0, .string a1] w fun e w' => e = .returned (.bool r) ∧ Drawn0 w w' := by
  unfold strings_Contains.f at h
  split at h
  case isFalse => cases h
  rename_i hb
  obtain rfl := Option.some.inj h
  obtain ⟨⟨l⟩⟩ := a1
  match l, hb with
  | [c], _ => exact (Try.strings_Contains_one a0 c w).mono fun e w' hh => ⟨hh.1, by rw [hh.2]; exact Drawn0.refl _⟩

/-! ### shape_plain: function 30 -/
def shape_plain.f (a0 : ByteArray) : Option (Bool) := (name_May.f a0).bind fun t107 => (if t107 = true then ((strings_Contains.f a0 (⟨#[46]⟩ : ByteArray)).bind fun t108 => (some (!t108))) else (some false))
set_option maxHeartbeats 8000000 in
set_option maxRecDepth 100000 in
theorem shape_plain.calls (a0 : ByteArray) (r : Bool) (w : World) (h : shape_plain.f a0 = some r) :
    Calls Try.prog 30 #[.string a0] w fun e w' => e = .returned (.bool r) ∧ Below w.heap.size w w' := by
  have HB := Aside0.mk (Below.refl w.heap.size w)
  have H : ((name_May.f a0).bind fun t107 => (if t107 = true then ((strings_Contains.f a0 (⟨#[46]⟩ : ByteArray)).bind fun t108 => (some (!t108))) else (some false))) = some r := h
  clear h
  replace H := Option.bind_eq_some_iff.mp H
  obtain ⟨t107, A20, H⟩ := H
  replace H : (if t107 = true then ((strings_Contains.f a0 (⟨#[46]⟩ : ByteArray)).bind fun t108 => (some (!t108))) else (some false)) = some r := H
  have A2 := Aside0.mk A20
  clear A20
  by_cases c3 : t107 = true
  · subst c3
    have H1 : ((strings_Contains.f a0 (⟨#[46]⟩ : ByteArray)).bind fun t108 => (some (!t108))) = some r := by rw [if_pos rfl] at H; exact H
    clear H
    have H := H1
    clear H1
    replace H := Option.bind_eq_some_iff.mp H
    obtain ⟨t108, A40, H⟩ := H
    replace H : (some (!t108)) = some r := H
    have A4 := Aside0.mk A40
    clear A40
    obtain rfl := Option.some.inj H
    go_enter Try.func30, Try.ntmps30
    go_wp2_with (first | ((with_reducible refine gate_callee (f := 40) rfl ?_); refine goesL_ (some 4) rfl rfl Try.func40 (by kernel_rfl) rfl #[.string a0] rfl (by (try simp only [List.map_toArray, List.map_cons, List.map_nil]); first | done | rfl | (simp only [List.length_drop, List.length_take]; rfl)) ?_; (with_reducible refine (name_May.calls a0 true _ A2.out).mono ?_); rintro e w5 ⟨rfl, hb⟩; refine ⟨_, rfl, ?_⟩; have n0_ := Aside0.mk (below_step (by repeat (first | (with_reducible first | exact HB.out | apply below_alloc | apply pw_below_drewN | apply below_drew1) | exact HB.out)) hb); clear HB; have HB := n0_; clear n0_; (try clear hb); (try clear hb2); (try clear hk); (try clear hi)) | (go_at_call 41; (with_reducible refine (strings_Contains.calls a0 (⟨#[46]⟩ : ByteArray) t108 _ A4.out).mono ?_); rintro e w' ⟨rfl, ⟨nd, rfl⟩⟩))
    go_ret
    exact ⟨by first | rfl | (simp [errW_none, errW_some] <;> rfl) | (simp [*, errW_none, errW_some] <;> rfl), by repeat (first | (with_reducible first | exact HB.out | apply below_alloc | apply pw_below_drewN | apply below_drew1) | exact HB.out)⟩
  · replace c3 := Bool.eq_false_iff.mpr c3
    subst c3
    have H1 : (some false) = some r := by rw [if_neg (show ¬ (false = true) by decide)] at H; exact H
    clear H
    have H := H1
    clear H1
    obtain rfl := Option.some.inj H
    go_enter Try.func30, Try.ntmps30
    go_wp2_with (first | ((with_reducible refine gate_callee (f := 40) rfl ?_); refine goesL_ (some 4) rfl rfl Try.func40 (by kernel_rfl) rfl #[.string a0] rfl (by (try simp only [List.map_toArray, List.map_cons, List.map_nil]); first | done | rfl | (simp only [List.length_drop, List.length_take]; rfl)) ?_; (with_reducible refine (name_May.calls a0 false _ A2.out).mono ?_); rintro e w6 ⟨rfl, hb⟩; refine ⟨_, rfl, ?_⟩; have n0_ := Aside0.mk (below_step (by repeat (first | (with_reducible first | exact HB.out | apply below_alloc | apply pw_below_drewN | apply below_drew1) | exact HB.out)) hb); clear HB; have HB := n0_; clear n0_; (try clear hb); (try clear hb2); (try clear hk); (try clear hi)))
    go_ret
    exact ⟨by first | rfl | (simp [errW_none, errW_some] <;> rfl) | (simp [*, errW_none, errW_some] <;> rfl), by repeat (first | (with_reducible first | exact HB.out | apply below_alloc | apply pw_below_drewN | apply below_drew1) | exact HB.out)⟩

/-! ### shape_within: function 33 -/
def shape_within.f (a0 : Int) (a1 : Int) (a2 : Int) : Option (Bool) := if a0 ≥ a1 then (some (decide (a0 ≤ a2))) else (some false)
set_option maxHeartbeats 8000000 in
set_option maxRecDepth 100000 in
theorem shape_within.calls (a0 : Int) (a1 : Int) (a2 : Int) (r : Bool) (w : World) (h : shape_within.f a0 a1 a2 = some r) :
    Calls Try.prog 33 #[.int .i64 a0, .int .i64 a1, .int .i64 a2] w fun e w' => e = .returned (.bool r) ∧ Drawn0 w w' := by
  have H : (if a0 ≥ a1 then (some (decide (a0 ≤ a2))) else (some false)) = some r := h
  clear h
  by_cases c4 : a0 ≥ a1
  · rw [if_pos c4] at H
    have c4b0 : decide (a1 ≤ a0) = true := decide_eq_true c4
    clear c4
    obtain rfl := Option.some.inj H
    go_enter Try.func33, Try.ntmps33
    go_wp2
    go_ret
    exact ⟨by first | rfl | (simp; done) | (simp [*]; done), by repeat (first | exact Drawn0.refl _ | apply Drawn0.step)⟩
  · rw [if_neg c4] at H
    have c4b0 : decide (a1 ≤ a0) = false := decide_eq_false c4
    clear c4
    obtain rfl := Option.some.inj H
    go_enter Try.func33, Try.ntmps33
    go_wp2
    go_ret
    exact ⟨by first | rfl | (simp; done) | (simp [*]; done), by repeat (first | exact Drawn0.refl _ | apply Drawn0.step)⟩

/-! ### name_Fold: function 54 -/
def name_Fold.j0 : Nat → Int → Bool → Option (Int)
  | 0, _, _ => none
  | k + 1, x0, x8 => if x8 = true then (some (wrap32 (x0 + 32))) else ((name_between.f x0 1024 1039).bind fun t114 => (if t114 = true then (some (wrap32 (x0 + 80))) else (if x0 = 962 then (some 963) else (some x0))))
def name_Fold.f (k : Nat) (a0 : Int) : Option (Int) := (name_Letter.f k a0).bind fun t109 => (if t109 = true then ((name_between.f a0 65 90).bind fun t110 => (if t110 = true then (name_Fold.j0 k a0 true) else ((name_between.f a0 192 222).bind fun t111 => (if t111 = true then (name_Fold.j0 k a0 true) else ((name_between.f a0 913 937).bind fun t112 => (if t112 = true then (name_Fold.j0 k a0 true) else ((name_between.f a0 1040 1071).bind fun t113 => (name_Fold.j0 k a0 t113)))))))) else (some a0))
theorem name_Fold.mono_l : ∀ k, (∀ y0 y1, LeO (name_Fold.j0 k y0 y1) (name_Fold.j0 (k + 1) y0 y1))
  | 0 => fun _ _ r h => by simp [name_Fold.j0] at h
  | k + 1 => by
    have ih0 := name_Fold.mono_l k
    · intro y0 y1
      unfold name_Fold.j0
      repeat' first
      | (with_reducible exact ih0 _ _)
      | (with_reducible exact name_Letter.mono _ _)
      | (with_reducible exact LeO.refl _)
      | (with_reducible exact LeO.none _)
      | (with_reducible refine LeO.ite ?_ ?_)
      | (with_reducible refine LeO.bind ?_ (fun _ => ?_))
      | exact ih0 _ _
      | exact name_Letter.mono _ _
      | exact LeO.none _
      | refine LeO.ite ?_ ?_
      | refine LeO.bind ?_ (fun _ => ?_)
theorem name_Fold.mono : ∀ a0 k, LeO (name_Fold.f k a0) (name_Fold.f (k + 1) a0) := by
  intro a0 k
  have ih0 := name_Fold.mono_l k
  unfold name_Fold.f
  repeat' first
      | (with_reducible exact ih0 _ _)
      | (with_reducible exact name_Letter.mono _ _)
      | (with_reducible exact LeO.refl _)
      | (with_reducible exact LeO.none _)
      | (with_reducible refine LeO.ite ?_ ?_)
      | (with_reducible refine LeO.bind ?_ (fun _ => ?_))
      | exact ih0 _ _
      | exact name_Letter.mono _ _
      | exact LeO.none _
      | refine LeO.ite ?_ ?_
      | refine LeO.bind ?_ (fun _ => ?_)
set_option maxHeartbeats 8000000 in
set_option maxRecDepth 100000 in
theorem name_Fold.calls (k : Nat) (a0 : Int) (r : Int) (w : World) (h : name_Fold.f k a0 = some r) :
    Calls Try.prog 54 #[.int .i32 a0] w fun e w' => e = .returned (.int .i32 r) ∧ Drawn0 w w' := by
  have H : ((name_Letter.f k a0).bind fun t109 => (if t109 = true then ((name_between.f a0 65 90).bind fun t110 => (if t110 = true then (name_Fold.j0 k a0 true) else ((name_between.f a0 192 222).bind fun t111 => (if t111 = true then (name_Fold.j0 k a0 true) else ((name_between.f a0 913 937).bind fun t112 => (if t112 = true then (name_Fold.j0 k a0 true) else ((name_between.f a0 1040 1071).bind fun t113 => (name_Fold.j0 k a0 t113)))))))) else (some a0))) = some r := h
  clear h
  replace H := Option.bind_eq_some_iff.mp H
  obtain ⟨t109, A20, H⟩ := H
  replace H : (if t109 = true then ((name_between.f a0 65 90).bind fun t110 => (if t110 = true then (name_Fold.j0 k a0 true) else ((name_between.f a0 192 222).bind fun t111 => (if t111 = true then (name_Fold.j0 k a0 true) else ((name_between.f a0 913 937).bind fun t112 => (if t112 = true then (name_Fold.j0 k a0 true) else ((name_between.f a0 1040 1071).bind fun t113 => (name_Fold.j0 k a0 t113)))))))) else (some a0)) = some r := H
  have A2 := Aside0.mk A20
  clear A20
  by_cases c3 : t109 = true
  · subst c3
    have H1 : ((name_between.f a0 65 90).bind fun t110 => (if t110 = true then (name_Fold.j0 k a0 true) else ((name_between.f a0 192 222).bind fun t111 => (if t111 = true then (name_Fold.j0 k a0 true) else ((name_between.f a0 913 937).bind fun t112 => (if t112 = true then (name_Fold.j0 k a0 true) else ((name_between.f a0 1040 1071).bind fun t113 => (name_Fold.j0 k a0 t113)))))))) = some r := by rw [if_pos rfl] at H; exact H
    clear H
    have H := H1
    clear H1
    have HC4 := Aside0.mk H
    clear H
    go_enter Try.func54, Try.ntmps54
    go_upto_region 3 with (first | ((with_reducible refine gate_callee (f := 48) rfl ?_); refine goesL_ (some 5) rfl rfl Try.func48 (by kernel_rfl) rfl #[.int .i32 a0] rfl (by (try simp only [List.map_toArray, List.map_cons, List.map_nil]); first | done | rfl | (simp only [List.length_drop, List.length_take]; rfl)) ?_; (with_reducible refine (name_Letter.calls k a0 true _ A2.out).mono ?_); rintro e w' ⟨rfl, ⟨nd, rfl⟩⟩; refine ⟨_, rfl, ?_⟩))
    (try simp only [Act.put, List.setIfInBounds_toArray, List.set_cons_zero, List.set_cons_succ])
    go_cut [8] (fun v8 wc => ∃ (kq : Nat) (x8_3 : Bool), v8 = .bool x8_3 ∧ Aside0 (name_Fold.j0 kq a0 x8_3 = some r) ∧ Aside0 (kq ≤ k) ∧ Drawn0 w wc)
    case first =>
      have H := HC4.out
      clear HC4
      replace H := Option.bind_eq_some_iff.mp H
      obtain ⟨t110, A50, H⟩ := H
      replace H : (if t110 = true then (name_Fold.j0 k a0 true) else ((name_between.f a0 192 222).bind fun t111 => (if t111 = true then (name_Fold.j0 k a0 true) else ((name_between.f a0 913 937).bind fun t112 => (if t112 = true then (name_Fold.j0 k a0 true) else ((name_between.f a0 1040 1071).bind fun t113 => (name_Fold.j0 k a0 t113))))))) = some r := H
      have A5 := Aside0.mk A50
      clear A50
      by_cases c6 : t110 = true
      · subst c6
        have H1 : (name_Fold.j0 k a0 true) = some r := by rw [if_pos rfl] at H; exact H
        clear H
        have H := H1
        clear H1
        have H' := Aside0.mk H
        clear H
        go_wp2_with (first | ((with_reducible refine gate_callee (f := 56) rfl ?_); refine goesL_ (some 10) rfl rfl Try.func56 (by kernel_rfl) rfl #[.int .i32 a0, .int .i32 65, .int .i32 90] rfl (by (try simp only [List.map_toArray, List.map_cons, List.map_nil]); first | done | rfl | (simp only [List.length_drop, List.length_take]; rfl)) ?_; (with_reducible refine (name_between.calls a0 65 90 true _ A5.out).mono ?_); rintro e w' ⟨rfl, ⟨nd, rfl⟩⟩; refine ⟨_, rfl, ?_⟩))
        go_meet
        case rel => exact ⟨_, (true), (by first | rfl | (simp; done) | (simp [*]; done)), H', ⟨by first | omega | exact Nat.le_refl _⟩, by repeat (first | exact Drawn0.refl _ | apply Drawn0.step)⟩
      · replace c6 := Bool.eq_false_iff.mpr c6
        subst c6
        have H1 : ((name_between.f a0 192 222).bind fun t111 => (if t111 = true then (name_Fold.j0 k a0 true) else ((name_between.f a0 913 937).bind fun t112 => (if t112 = true then (name_Fold.j0 k a0 true) else ((name_between.f a0 1040 1071).bind fun t113 => (name_Fold.j0 k a0 t113)))))) = some r := by rw [if_neg (show ¬ (false = true) by decide)] at H; exact H
        clear H
        have H := H1
        clear H1
        replace H := Option.bind_eq_some_iff.mp H
        obtain ⟨t111, A70, H⟩ := H
        replace H : (if t111 = true then (name_Fold.j0 k a0 true) else ((name_between.f a0 913 937).bind fun t112 => (if t112 = true then (name_Fold.j0 k a0 true) else ((name_between.f a0 1040 1071).bind fun t113 => (name_Fold.j0 k a0 t113))))) = some r := H
        have A7 := Aside0.mk A70
        clear A70
        by_cases c8 : t111 = true
        · subst c8
          have H1 : (name_Fold.j0 k a0 true) = some r := by rw [if_pos rfl] at H; exact H
          clear H
          have H := H1
          clear H1
          have H' := Aside0.mk H
          clear H
          go_wp2_with (first | ((with_reducible refine gate_callee (f := 56) rfl ?_); refine goesL_ (some 10) rfl rfl Try.func56 (by kernel_rfl) rfl #[.int .i32 a0, .int .i32 65, .int .i32 90] rfl (by (try simp only [List.map_toArray, List.map_cons, List.map_nil]); first | done | rfl | (simp only [List.length_drop, List.length_take]; rfl)) ?_; (with_reducible refine (name_between.calls a0 65 90 false _ A5.out).mono ?_); rintro e w' ⟨rfl, ⟨nd, rfl⟩⟩; refine ⟨_, rfl, ?_⟩) | (go_at_call 56; (with_reducible refine (name_between.calls a0 192 222 true _ A7.out).mono ?_); rintro e w' ⟨rfl, ⟨nd, rfl⟩⟩))
          go_meet
          case rel => exact ⟨_, (true), (by first | rfl | (simp; done) | (simp [*]; done)), H', ⟨by first | omega | exact Nat.le_refl _⟩, by repeat (first | exact Drawn0.refl _ | apply Drawn0.step)⟩
        · replace c8 := Bool.eq_false_iff.mpr c8
          subst c8
          have H1 : ((name_between.f a0 913 937).bind fun t112 => (if t112 = true then (name_Fold.j0 k a0 true) else ((name_between.f a0 1040 1071).bind fun t113 => (name_Fold.j0 k a0 t113)))) = some r := by rw [if_neg (show ¬ (false = true) by decide)] at H; exact H
          clear H
          have H := H1
          clear H1
          replace H := Option.bind_eq_some_iff.mp H
          obtain ⟨t112, A90, H⟩ := H
          replace H : (if t112 = true then (name_Fold.j0 k a0 true) else ((name_between.f a0 1040 1071).bind fun t113 => (name_Fold.j0 k a0 t113))) = some r := H
          have A9 := Aside0.mk A90
          clear A90
          by_cases c10 : t112 = true
          · subst c10
            have H1 : (name_Fold.j0 k a0 true) = some r := by rw [if_pos rfl] at H; exact H
            clear H
            have H := H1
            clear H1
            have H' := Aside0.mk H
            clear H
            go_wp2_with (first | ((with_reducible refine gate_callee (f := 56) rfl ?_); refine goesL_ (some 10) rfl rfl Try.func56 (by kernel_rfl) rfl #[.int .i32 a0, .int .i32 65, .int .i32 90] rfl (by (try simp only [List.map_toArray, List.map_cons, List.map_nil]); first | done | rfl | (simp only [List.length_drop, List.length_take]; rfl)) ?_; (with_reducible refine (name_between.calls a0 65 90 false _ A5.out).mono ?_); rintro e w' ⟨rfl, ⟨nd, rfl⟩⟩; refine ⟨_, rfl, ?_⟩) | (go_at_call 56; (with_reducible refine (name_between.calls a0 192 222 false _ A7.out).mono ?_); rintro e w' ⟨rfl, ⟨nd, rfl⟩⟩) | (go_at_call 56; (with_reducible refine (name_between.calls a0 913 937 true _ A9.out).mono ?_); rintro e w' ⟨rfl, ⟨nd, rfl⟩⟩))
            go_meet
            case rel => exact ⟨_, (true), (by first | rfl | (simp; done) | (simp [*]; done)), H', ⟨by first | omega | exact Nat.le_refl _⟩, by repeat (first | exact Drawn0.refl _ | apply Drawn0.step)⟩
          · replace c10 := Bool.eq_false_iff.mpr c10
            subst c10
            have H1 : ((name_between.f a0 1040 1071).bind fun t113 => (name_Fold.j0 k a0 t113)) = some r := by rw [if_neg (show ¬ (false = true) by decide)] at H; exact H
            clear H
            have H := H1
            clear H1
            replace H := Option.bind_eq_some_iff.mp H
            obtain ⟨t113, A110, H⟩ := H
            replace H : (name_Fold.j0 k a0 t113) = some r := H
            have A11 := Aside0.mk A110
            clear A110
            have H' := Aside0.mk H
            clear H
            go_wp2_with (first | ((with_reducible refine gate_callee (f := 56) rfl ?_); refine goesL_ (some 10) rfl rfl Try.func56 (by kernel_rfl) rfl #[.int .i32 a0, .int .i32 65, .int .i32 90] rfl (by (try simp only [List.map_toArray, List.map_cons, List.map_nil]); first | done | rfl | (simp only [List.length_drop, List.length_take]; rfl)) ?_; (with_reducible refine (name_between.calls a0 65 90 false _ A5.out).mono ?_); rintro e w' ⟨rfl, ⟨nd, rfl⟩⟩; refine ⟨_, rfl, ?_⟩) | (go_at_call 56; (with_reducible refine (name_between.calls a0 192 222 false _ A7.out).mono ?_); rintro e w' ⟨rfl, ⟨nd, rfl⟩⟩) | (go_at_call 56; (with_reducible refine (name_between.calls a0 913 937 false _ A9.out).mono ?_); rintro e w' ⟨rfl, ⟨nd, rfl⟩⟩) | (go_at_call 56; (with_reducible refine (name_between.calls a0 1040 1071 t113 _ A11.out).mono ?_); rintro e w' ⟨rfl, ⟨nd, rfl⟩⟩))
            go_meet
            case rel => exact ⟨_, (t113), (by first | rfl | (simp; done) | (simp [*]; done)), H', ⟨by first | omega | exact Nat.le_refl _⟩, by repeat (first | exact Drawn0.refl _ | apply Drawn0.step)⟩
    case rest =>
      clear HC4
      try clear c1
      try clear p2
      try clear c3
      try clear c4
      try clear c5
      try clear c6
      try clear c8
      try clear c10
      obtain ⟨kq, x8_3, rfl, HA, HJ3, ⟨mc3, rfl⟩⟩ := hcut
      cases kq with
      | zero => exact absurd HA.out (by simp [name_Fold.j0])
      | succ kj3 =>
        have H := HA.out
        clear HA
        simp only [name_Fold.j0] at H
        by_cases c12 : x8_3 = true
        · subst c12
          have H1 : (some (wrap32 (a0 + 32))) = some r := by rw [if_pos rfl] at H; exact H
          clear H
          have H := H1
          clear H1
          obtain rfl := Option.some.inj H
          go_wp2
          go_ret
          exact ⟨by first | rfl | (simp; done) | (simp [*]; done), by repeat (first | exact Drawn0.refl _ | apply Drawn0.step)⟩
        · replace c12 := Bool.eq_false_iff.mpr c12
          subst c12
          have H1 : ((name_between.f a0 1024 1039).bind fun t114 => (if t114 = true then (some (wrap32 (a0 + 80))) else (if a0 = 962 then (some 963) else (some a0)))) = some r := by rw [if_neg (show ¬ (false = true) by decide)] at H; exact H
          clear H
          have H := H1
          clear H1
          replace H := Option.bind_eq_some_iff.mp H
          obtain ⟨t114, A130, H⟩ := H
          replace H : (if t114 = true then (some (wrap32 (a0 + 80))) else (if a0 = 962 then (some 963) else (some a0))) = some r := H
          have A13 := Aside0.mk A130
          clear A130
          by_cases c14 : t114 = true
          · subst c14
            have H1 : (some (wrap32 (a0 + 80))) = some r := by rw [if_pos rfl] at H; exact H
            clear H
            have H := H1
            clear H1
            obtain rfl := Option.some.inj H
            go_wp2_with (first | ((with_reducible refine gate_callee (f := 56) rfl ?_); refine goesL_ (some 27) rfl rfl Try.func56 (by kernel_rfl) rfl #[.int .i32 a0, .int .i32 1024, .int .i32 1039] rfl (by (try simp only [List.map_toArray, List.map_cons, List.map_nil]); first | done | rfl | (simp only [List.length_drop, List.length_take]; rfl)) ?_; (with_reducible refine (name_between.calls a0 1024 1039 true _ A13.out).mono ?_); rintro e w' ⟨rfl, ⟨nd, rfl⟩⟩; refine ⟨_, rfl, ?_⟩))
            go_ret
            exact ⟨by first | rfl | (simp; done) | (simp [*]; done), by repeat (first | exact Drawn0.refl _ | apply Drawn0.step)⟩
          · replace c14 := Bool.eq_false_iff.mpr c14
            subst c14
            have H1 : (if a0 = 962 then (some 963) else (some a0)) = some r := by rw [if_neg (show ¬ (false = true) by decide)] at H; exact H
            clear H
            have H := H1
            clear H1
            by_cases c15 : a0 = 962
            · rw [if_pos c15] at H
              have c15b0 : (a0 == 962) = true := beq_iff_eq.mpr c15
              have c15b1 : (a0 != 962) = false := bne_eq_false_iff_eq.mpr c15
              clear c15
              obtain rfl := Option.some.inj H
              go_wp2_with (first | ((with_reducible refine gate_callee (f := 56) rfl ?_); refine goesL_ (some 27) rfl rfl Try.func56 (by kernel_rfl) rfl #[.int .i32 a0, .int .i32 1024, .int .i32 1039] rfl (by (try simp only [List.map_toArray, List.map_cons, List.map_nil]); first | done | rfl | (simp only [List.length_drop, List.length_take]; rfl)) ?_; (with_reducible refine (name_between.calls a0 1024 1039 false _ A13.out).mono ?_); rintro e w' ⟨rfl, ⟨nd, rfl⟩⟩; refine ⟨_, rfl, ?_⟩))
              go_ret
              exact ⟨by first | rfl | (simp; done) | (simp [*]; done), by repeat (first | exact Drawn0.refl _ | apply Drawn0.step)⟩
            · rw [if_neg c15] at H
              have c15b0 : (a0 == 962) = false := beq_eq_false_iff_ne.mpr c15
              have c15b1 : (a0 != 962) = true := bne_iff_ne.mpr c15
              obtain rfl := Option.some.inj H
              go_wp2_with (first | ((with_reducible refine gate_callee (f := 56) rfl ?_); refine goesL_ (some 27) rfl rfl Try.func56 (by kernel_rfl) rfl #[.int .i32 a0, .int .i32 1024, .int .i32 1039] rfl (by (try simp only [List.map_toArray, List.map_cons, List.map_nil]); first | done | rfl | (simp only [List.length_drop, List.length_take]; rfl)) ?_; (with_reducible refine (name_between.calls a0 1024 1039 false _ A13.out).mono ?_); rintro e w' ⟨rfl, ⟨nd, rfl⟩⟩; refine ⟨_, rfl, ?_⟩))
              go_ret
              exact ⟨by first | rfl | (simp; done) | (simp [*]; done), by repeat (first | exact Drawn0.refl _ | apply Drawn0.step)⟩
  · replace c3 := Bool.eq_false_iff.mpr c3
    subst c3
    have H1 : (some a0) = some r := by rw [if_neg (show ¬ (false = true) by decide)] at H; exact H
    clear H
    have H := H1
    clear H1
    obtain rfl := Option.some.inj H
    go_enter Try.func54, Try.ntmps54
    go_wp2_with (first | ((with_reducible refine gate_callee (f := 48) rfl ?_); refine goesL_ (some 5) rfl rfl Try.func48 (by kernel_rfl) rfl #[.int .i32 a0] rfl (by (try simp only [List.map_toArray, List.map_cons, List.map_nil]); first | done | rfl | (simp only [List.length_drop, List.length_take]; rfl)) ?_; (with_reducible refine (name_Letter.calls k a0 false _ A2.out).mono ?_); rintro e w' ⟨rfl, ⟨nd, rfl⟩⟩; refine ⟨_, rfl, ?_⟩))
    go_ret
    exact ⟨by first | rfl | (simp; done) | (simp [*]; done), by repeat (first | exact Drawn0.refl _ | apply Drawn0.step)⟩

end Go.Proofs.Ytpdjiiikfjjfjaa.XI
