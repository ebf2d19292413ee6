/- The law's walk. -/
import Derived.Test.YtpdjiiikfjjfjaaIb
namespace Go.Proofs.Ytpdjiiikfjjfjaa.XI
open Go.RowKit Go.Proofs.YtpdjiiikfjjfjaaW.PrintWords Go.Proofs.YtpdjiiikfjjfjaaW.PrintLast Go.Proofs.YtpdjiiikfjjfjaaW.PrintMore
attribute [local go_sem] max2_int min2_int max_two min_two max_three min_three max_four min_four   -- for this text's walks alone
set_option linter.unusedVariables false
set_option linter.unusedSimpArgs false
theorem at_II {w : World} {A : Option Addr} {n : Nat} {xs : List (Int × Int)} (h : Kd.C kII w A n xs) (i : Nat) (hi : i < n) (a b : Int) (hx : xs[i]? = some (a, b)) : ∃ ad , A = some ad ∧ w.cell? (ad.add (i * 2)) = some (.int .i64 a) ∧ w.cell? ⟨(ad.add (i * 2)).block, (ad.add (i * 2)).off + 1, none⟩ = some (.int .i64 b) := by
  obtain ⟨ad, c, e, _, hK, hc0⟩ := Kd.C_get h ((0, 0) : Int × Int) (i : Int) (by omega) (by omega)
  rw [Int.toNat_natCast] at hK hc0
  rw [List.getD_eq_getElem?_getD, hx, Option.getD_some] at hK
  obtain ⟨_, _, rfl, rfl, rfl⟩ := hK
  have hc : ∀ j u, [Value.int .i64 a, .int .i64 b][j]? = some u → w.cell? (ad.add (i * 2 + j)) = some u := hc0
  exact ⟨ad, e, hc 0 _ rfl, by rw [← add_field _ _ 1 (by omega)]; exact hc 1 _ rfl⟩
/-- What both answer about the instances. -/
theorem Insts_both (hs : List S24) (l : List S42) (hh : hs.length ≤ 30) (hn : ∀ x ∈ l, x.f0.size ≤ 200) : ∃ E : Int, shape_Insts.f 4000 hs l = some E ∧ ∀ (A0 : Option Addr) (c0 : Nat) (A1 : Option Addr) (c1 : Nat) (w : World), Kd.C k42 w A1 l.length l → l.length ≤ c1 →
    Calls Try.prog 27 #[.slice A0 hs.length c0, .slice A1 l.length c1] w fun e w' => e = .returned (.int .i64 E) ∧ Below w.heap.size w w' := by
  by_cases hl : l.length ≤ 16
  · exact ⟨_, pInsts_eq hs l (by omega) hl hn, fun A0 c0 A1 c1 w hC hc => Insts_walk A0 c0 hs.length A1 c1 l w hC hc hl hn⟩
  · exact ⟨_, pInsts_long hs l (by omega), fun A0 c0 A1 c1 w hC hc => Insts_long A0 c0 hs.length A1 c1 l.length w (by omega)⟩
theorem lt_size_of_cell {w W : World} {p : Addr} {v : Value} (h : w.cell? p = some v) (hb : Below w.heap.size w W) : W.cell? p = some v := (hb.cell (World.block_lt_of_cell? w _ h)).trans h
set_option maxHeartbeats 2000000 in
set_option maxRecDepth 100000 in
theorem Insts_law (A0 : Option Addr) (c0 : Nat) (hs : List S24) (A1 : Option Addr) (c1 : Nat) (l : List S42) (s : ByteArray) (w : World) (hC0 : Kd.C k24 w A0 hs.length hs) (hc0 : hs.length ≤ c0) (hC1 : Kd.C k42 w A1 l.length l) (hc1 : l.length ≤ c1) (hh : hs.length ≤ 30) (hl : l.length ≤ 40) (hn : ∀ x ∈ l, x.f0.size ≤ 200) (ha : s.size ≤ 200) (hfew : shunterlaw08_few.f 4000 hs l = some true) :
    Calls Try.prog 7 #[.slice A0 hs.length c0, .slice A1 l.length c1, .string s] w fun e w' => e = .returned (.bool true) ∧ Below w.heap.size w w' := by
  have HC0 := Aside0.mk hC0
  have HC1 := Aside0.mk hC1
  have HS := Aside0.mk hn
  have HLV := Aside0.mk (lives_at 4000 (by omega))
  have HFE := Aside0.mk hfew
  obtain ⟨E, hE1, hE2⟩ := Insts_both hs l hh hn
  have HE1 := Aside0.mk hE1
  have HE2 := Aside0.mk hE2
  have HSA := Aside0.mk (slot_at l (by omega))
  have HTO := Aside0.mk (show shape_Slots.f 4000 l = some (((slotsL l 0).length : Nat) : Int) from by rw [slotsL_total]; exact Slots_eq l (by omega) 4000 (by omega))
  have HOE := Aside0.mk (show shape_Of.f 4000 l (((slotsL l 0).length : Nat) : Int) = some (0, 0, false) from by rw [slotsL_total]; exact Of_end l (by omega) 4000 (by omega))
  have HON := Aside0.mk (Of_neg l 4000)
  have hL4 := slotsL_le l 0
  have HFI := Aside0.mk (Find_eq l s (by omega) hn ha)
  have ha2 : decide (200 < (s.size : Int)) = false := by simp; omega
  have hEE : (E != E) = false := by simp
  clear hC0 hC1 hn hfew hE1 hE2
  go_enter Try.func7, Try.ntmps7
  go_wp2_with (first
    | (go_at_call 21; with_reducible refine (shunterlaw08_few.calls 4000 A0 c0 hs A1 c1 l true _ HC0.out hc0 HC1.out hc1 HFE.out).mono ?_; rintro e w1 ⟨rfl, hb⟩; have HB1 := Aside0.mk hb.below; clear hb)
    | (go_at_call 25; with_reducible refine (Slots_calls A1 c1 l _ (Kd.C_below HC1.out HB1.out) hc1 hl).mono ?_; rintro e w2 ⟨v, rfl, ho, hb⟩; obtain ⟨A2, c2, rfl⟩ := Kd.R_slice ho; have HX := Aside0.mk (Kd.R_reads' ho).2; have HB2 := Aside0.mk (below_step HB1.out hb); have HW2 := Aside0.mk (Below.refl w2.heap.size w2); clear ho hb; generalize slotsL l 0 = L at *; have hLL : (((L.length : Nat) : Int) != ((L.length : Nat) : Int)) = false := by simp)
    | (go_at_call 26; with_reducible refine (shape_Insts.calls 4000 A0 c0 hs A1 c1 l E _ (Kd.C_below HC0.out HB2.out) hc0 (Kd.C_below HC1.out HB2.out) hc1 HE1.out).mono ?_; rintro e w3 ⟨rfl, hb⟩; have HW3 := Aside0.mk hb; clear hb)
    | (go_at_call 27; with_reducible refine (HE2.out A0 c0 A1 c1 _ (Kd.C_below HC1.out (below_step HB2.out HW3.out)) hc1).mono ?_; rintro e w4 ⟨rfl, hb⟩; have HW4 := Aside0.mk (below_step HW3.out hb); clear hb)
    | (go_at_call 24; with_reducible refine (shape_Slots.calls 4000 A1 c1 l _ _ (Kd.C_below HC1.out (below_step HB2.out HW4.out)) hc1 HTO.out).mono ?_; rintro e w5 ⟨rfl, hb⟩; have HW5 := Aside0.mk (below_step HW4.out hb); clear hb))
  go_loopw [8] (fun u8 w' => ∃ p : Nat, p ≤ L.length + 2 ∧ u8 = .int .i64 ((p : Int) - 1) ∧ Aside0 (Below w2.heap.size w2 w')) (fun u8 _ => L.length + 2 - (intOf u8 + 1).toNat)
  case atStart => exact ⟨0, by omega, rfl, HW5⟩
  case round =>
    obtain ⟨p, hp, rfl, HB⟩ := hrel
    have HBW := Aside0.mk (below_step HB2.out HB.out)
    rcases p with _ | p
    · rw [show (((0 : Nat) : Int) - 1) = -1 from rfl]
      go_wp2_with (first
        | (go_at_call 23; with_reducible refine (shape_Of.calls 4000 _ c1 l _ 0 0 false _ (Kd.C_below HC1.out HBW.out) hc1 HON.out).mono ?_; rintro e w6 ⟨rfl, hb⟩; have H6 := Aside0.mk (below_step HB.out hb); clear hb)
        | (go_at_call 28; with_reducible refine (Header_none _ c0 hs _ c1 l _ _ _ _ (Kd.C_below HC1.out (below_step HB2.out H6.out)) hc1 HON.out).mono ?_; rintro e w7 ⟨rfl, hb⟩; have H7 := Aside0.mk (below_step H6.out hb); clear hb))
      go_roundw
      case measure => first | (simp [intOf]; done) | (simp [intOf]; omega)
      case rel => exact ⟨1, by omega, by go_num, ⟨by repeat (first | (with_reducible first | exact H7.out | apply below_alloc | apply pw_below_drewN | apply below_drew1) | exact H7.out)⟩⟩
    · rw [show (((p + 1 : Nat) : Int) - 1) = (p : Int) from by omega]
      by_cases hpe : p = L.length
      · subst hpe
        have e1 : decide ((L.length : Int) ≤ (L.length : Int)) = true := by simp
        have e2 : ((L.length : Int) == (L.length : Int)) = true := by simp
        go_wp2_with (first
          | (go_at_call 23; with_reducible refine (shape_Of.calls 4000 _ c1 l _ 0 0 false _ (Kd.C_below HC1.out HBW.out) hc1 HOE.out).mono ?_; rintro e w6 ⟨rfl, hb⟩; have H6 := Aside0.mk (below_step HB.out hb); clear hb)
          | (go_at_call 28; with_reducible refine (Header_none _ c0 hs _ c1 l _ _ _ _ (Kd.C_below HC1.out (below_step HB2.out H6.out)) hc1 HOE.out).mono ?_; rintro e w7 ⟨rfl, hb⟩; have H7 := Aside0.mk (below_step H6.out hb); clear hb))
        go_roundw
        case measure => first | (simp [intOf]; done) | (simp [intOf]; omega)
        case rel => exact ⟨(L.length + 2), by omega, by go_num, ⟨by repeat (first | (with_reducible first | exact H7.out | apply below_alloc | apply pw_below_drewN | apply below_drew1) | exact H7.out)⟩⟩
      by_cases hlt : p < L.length
      · obtain ⟨j, d, hj, hx, ho⟩ := HSA.out p hlt
        have HO := Aside0.mk ho
        obtain ⟨ad2, hA2, r0, r1⟩ := at_II HX.out.2 p hlt j d hx
        subst hA2
        clear hx ho
        obtain ⟨ad1, hA1, p0, p1, p2⟩ := at_T42 HC1.out (j : Int) (by omega) (by omega)
        subst hA1
        rw [Int.toNat_natCast] at p0 p1 p2
        clear p0 p2
        have hh' : hs.length ≤ 1000 := by omega
        have e1 : decide ((p : Int) ≤ (L.length : Int)) = true := decide_eq_true (by omega)
        have e2 : ((p : Int) == (L.length : Int)) = false := by simp; omega
        have e3 : ((j : Int) != (j : Int)) = false := by simp
        have e4 : ((d : Int) != (d : Int)) = false := by simp
        have e5 : decide ((p : Int) < 0) = false := decide_eq_false (by omega)
        have hp0 : 0 ≤ (p : Int) := by omega
        have hp1 : (p : Int) < (L.length : Int) := by omega
        have hj0 : 0 ≤ (j : Int) := by omega
        have hj1 : (j : Int) < (l.length : Int) := by omega
        obtain ⟨x, hxx⟩ : ∃ x, x = rd_T42 l (j : Int) := ⟨_, rfl⟩
        have HXX := Aside0.mk hxx
        rw [← hxx] at p1
        clear hxx
        by_cases hin : 0 ≤ x.f1 ∧ x.f1 < (hs.length : Int)
        · obtain ⟨h, hh2⟩ : ∃ h : Nat, x.f1 = h := ⟨x.f1.toNat, by omega⟩
          have hhn : h < hs.length := by omega
          have HHR := Aside0.mk (show (rd_T42 l (j : Int)).f1 = (h : Int) from by rw [← HXX.out]; exact hh2)
          rw [hh2] at p1
          clear hin hh2
          obtain ⟨ad0, A9, c9, hA0, z0, _⟩ := at_T24 HC0.out (h : Int) (by omega) (by omega)
          subst hA0
          rw [Int.toNat_natCast] at z0
          obtain ⟨y, hyy⟩ : ∃ y, y = rd_T24 hs (h : Int) := ⟨_, rfl⟩
          rw [← hyy] at z0
          have HYY := Aside0.mk hyy.symm
          clear hyy
          have e6 : decide (0 ≤ (h : Int)) = true := decide_eq_true (by omega)
          have e7 : decide ((h : Int) < (hs.length : Int)) = true := decide_eq_true (by omega)
          have hh0 : 0 ≤ (h : Int) := by omega
          have hh1 : (h : Int) < (hs.length : Int) := by omega
          go_wp2_with (first
            | (go_at_call 23; with_reducible refine (shape_Of.calls 4000 _ c1 l _ _ _ _ _ (Kd.C_below HC1.out HBW.out) hc1 HO.out).mono ?_; rintro e w6 ⟨rfl, hb⟩; have H6 := Aside0.mk (below_step HB.out hb); clear hb)
            | (go_at_call 28; with_reducible refine (Header_in _ c0 hs _ c1 l _ j _ _ (Kd.C_below HC1.out (below_step HB2.out H6.out)) hc1 HO.out hj hh' h HHR.out hhn (Kd.C_below HC0.out (below_step HB2.out H6.out))).mono ?_; rintro e w7 ⟨⟨A5, c5, rfl⟩, hb⟩; rw [HYY.out]; have H7 := Aside0.mk (below_step H6.out hb); clear hb; have r0' := lt_size_of_cell r0 H7.out; have r1' := lt_size_of_cell r1 H7.out; have p1' := lt_size_of_cell p1 (below_step HB2.out H7.out); have m0 := lt_size_of_cell r0' (below_alloc (Below.refl _ _) (.cells #[.string y.f0, .slice A5 y.f1.length c5, .int .i64 y.f2, .int .i64 y.f3, .int .i64 y.f4, .int .i64 y.f5] 24 (0, 0))); have m1 := lt_size_of_cell r1' (below_alloc (Below.refl _ _) (.cells #[.string y.f0, .slice A5 y.f1.length c5, .int .i64 y.f2, .int .i64 y.f3, .int .i64 y.f4, .int .i64 y.f5] 24 (0, 0))); have m2 := lt_size_of_cell p1' (below_alloc (Below.refl _ _) (.cells #[.string y.f0, .slice A5 y.f1.length c5, .int .i64 y.f2, .int .i64 y.f3, .int .i64 y.f4, .int .i64 y.f5] 24 (0, 0))); have z0' := lt_size_of_cell z0 (below_step HB2.out H7.out); have m3 := lt_size_of_cell z0' (below_alloc (Below.refl _ _) (.cells #[.string y.f0, .slice A5 y.f1.length c5, .int .i64 y.f2, .int .i64 y.f3, .int .i64 y.f4, .int .i64 y.f5] 24 (0, 0)))))
          have b0 := blk_cell (blk_new w7 (.cells #[.string y.f0, .slice A5 y.f1.length c5, .int .i64 y.f2, .int .i64 y.f3, .int .i64 y.f4, .int .i64 y.f5] 24 (0, 0))) 0
          simp only [List.getElem?_toArray, List.getElem?_cons_succ, List.getElem?_cons_zero] at b0
          refine start_ (n := 11) (S := fun w' => w'.cell? ⟨w7.heap.size, 0, none⟩ = some (.string y.f0) ∧ w'.cell? (ad0.add (h * 6)) = some (.string y.f0)) (ds := []) #[false, false, false, false, false, false, false, false, false, false, false] (by kernel_rfl) rfl rfl ⟨b0, m3⟩ (fun hHeld => ?_)
          refine pure_ (i := 0) (N := some 129) (v := ?_) (a' := ?_) #[true, false, false, false, false, false, false, false, false, false, false] rfl rfl (by kernel_rfl) (fun _ _ _ h => h) (Or.inl ⟨by rfl, ?_⟩) ?_ ?_
          rotate_left
          · intro w'
            go_simp
            with_reducible rfl
          rotate_left
          · simp only [Act.put, List.setIfInBounds_toArray, List.set_cons_zero, List.set_cons_succ, i64_w, i32_w]
            rfl
          refine pure_ (i := 1) (N := some 130) (v := ?_) (a' := ?_) #[true, true, false, false, false, false, false, false, false, false, false] rfl rfl (by kernel_rfl) (fun _ _ _ h => h) (Or.inl ⟨by rfl, ?_⟩) ?_ ?_
          rotate_left
          · intro w'
            go_simp
            with_reducible rfl
          rotate_left
          · simp only [Act.put, List.setIfInBounds_toArray, List.set_cons_zero, List.set_cons_succ, i64_w, i32_w]
            rfl
          refine pure_ (i := 2) (N := some 131) (v := ?_) (a' := ?_) #[true, true, true, false, false, false, false, false, false, false, false] rfl rfl (by kernel_rfl) (fun _ _ _ h => h) (Or.inl ⟨by rfl, ?_⟩) ?_ ?_
          rotate_left
          · intro w'
            go_simp
            with_reducible rfl
          rotate_left
          · simp only [Act.put, List.setIfInBounds_toArray, List.set_cons_zero, List.set_cons_succ, i64_w, i32_w]
            rfl
          refine pure_ (i := 4) (N := some 133) (v := ?_) (a' := ?_) #[true, true, true, false, true, false, false, false, false, false, false] rfl rfl (by kernel_rfl) (fun _ _ _ h => h) (Or.inl ⟨by rfl, ?_⟩) ?_ ?_
          rotate_left
          · intro w'
            go_simp
            with_reducible rfl
          rotate_left
          · simp only [Act.put, List.setIfInBounds_toArray, List.set_cons_zero, List.set_cons_succ, i64_w, i32_w]
            rfl
          refine pure_ (i := 5) (N := some 134) (v := ?_) (a' := ?_) #[true, true, true, false, true, true, false, false, false, false, false] rfl rfl (by kernel_rfl) (fun _ _ _ h => h) (Or.inl ⟨by rfl, ?_⟩) ?_ ?_
          rotate_left
          · intro w'
            go_simp
            with_reducible rfl
          rotate_left
          · simp only [Act.put, List.setIfInBounds_toArray, List.set_cons_zero, List.set_cons_succ, i64_w, i32_w]
            rfl
          refine pure_ (i := 6) (N := some 135) (v := ?_) (a' := ?_) #[true, true, true, false, true, true, true, false, false, false, false] rfl rfl (by kernel_rfl) (fun _ _ _ h => h) (Or.inl ⟨by rfl, ?_⟩) ?_ ?_
          rotate_left
          · intro w'
            go_simp
            with_reducible rfl
          rotate_left
          · simp only [Act.put, List.setIfInBounds_toArray, List.set_cons_zero, List.set_cons_succ, i64_w, i32_w]
            rfl
          refine pure_ (i := 7) (N := some 136) (v := ?_) (a' := ?_) #[true, true, true, false, true, true, true, true, false, false, false] rfl rfl (by kernel_rfl) (fun _ _ _ h => h) (Or.inl ⟨by rfl, ?_⟩) ?_ ?_
          rotate_left
          · intro w'
            go_simp
            with_reducible rfl
          rotate_left
          · simp only [Act.put, List.setIfInBounds_toArray, List.set_cons_zero, List.set_cons_succ, i64_w, i32_w]
            rfl
          refine take_ (i := 3) (N := some 132) (v := ?_) (a' := ?_) #[true, true, true, true, true, true, true, true, false, false, false] rfl rfl (by kernel_rfl) (fun _ _ _ h => h) (Or.inl ⟨by rfl, ?_⟩) hHeld ?_ ?_
          rotate_left
          · rintro w' ⟨s0, s1⟩
            go_simp
            with_reducible rfl
          rotate_left
          · simp only [Act.put, List.setIfInBounds_toArray, List.set_cons_zero, List.set_cons_succ, i64_w, i32_w]
            rfl
          refine take_ (i := 8) (N := some 137) (v := ?_) (a' := ?_) #[true, true, true, true, true, true, true, true, true, false, false] rfl rfl (by kernel_rfl) (fun _ _ _ h => h) (Or.inl ⟨by rfl, ?_⟩) hHeld ?_ ?_
          rotate_left
          · rintro w' ⟨s0, s1⟩
            go_simp
            with_reducible rfl
          rotate_left
          · simp only [Act.put, List.setIfInBounds_toArray, List.set_cons_zero, List.set_cons_succ, i64_w, i32_w]
            rfl
          refine pure_ (i := 9) (N := some 138) (v := ?_) (a' := ?_) #[true, true, true, true, true, true, true, true, true, true, false] rfl rfl (by kernel_rfl) (fun _ _ _ h => h) (Or.inl ⟨by rfl, ?_⟩) ?_ ?_
          rotate_left
          · intro w'
            go_simp
            with_reducible rfl
          rotate_left
          · simp only [Act.put, List.setIfInBounds_toArray, List.set_cons_zero, List.set_cons_succ, i64_w, i32_w]
            rfl
          refine pure_ (i := 10) (N := some 139) (v := ?_) (a' := ?_) #[true, true, true, true, true, true, true, true, true, true, true] rfl rfl (by kernel_rfl) (fun _ _ _ h => h) (Or.inl ⟨by rfl, ?_⟩) ?_ ?_
          rotate_left
          · intro w'
            go_simp
            with_reducible rfl
          rotate_left
          · simp only [Act.put, List.setIfInBounds_toArray, List.set_cons_zero, List.set_cons_succ, i64_w, i32_w]
            rfl
          refine done_ (by kernel_rfl) ?_
          go_wp2
          go_roundw
          case measure => first | (simp [intOf]; done) | (simp [intOf]; omega)
          case rel => exact ⟨(p + 2), by omega, by go_num, ⟨by repeat (first | (with_reducible first | exact H7.out | apply below_alloc | apply pw_below_drewN | apply below_drew1) | exact H7.out)⟩⟩
        · have HNR := Aside0.mk (show ¬ (0 ≤ (rd_T42 l (j : Int)).f1 ∧ (rd_T42 l (j : Int)).f1 < (hs.length : Int)) from by rw [← HXX.out]; exact hin)
          by_cases hx0 : 0 ≤ x.f1
          · have e6 : decide (0 ≤ x.f1) = true := decide_eq_true hx0
            have e7 : decide (x.f1 < (hs.length : Int)) = false := decide_eq_false (by omega)
            clear hin hx0
            go_wp2_with (first
              | (go_at_call 23; with_reducible refine (shape_Of.calls 4000 _ c1 l _ _ _ _ _ (Kd.C_below HC1.out HBW.out) hc1 HO.out).mono ?_; rintro e w6 ⟨rfl, hb⟩; have H6 := Aside0.mk (below_step HB.out hb); clear hb)
              | (go_at_call 28; with_reducible refine (Header_out _ c0 hs _ c1 l _ j _ _ (Kd.C_below HC1.out (below_step HB2.out H6.out)) hc1 HO.out hj hh' HNR.out).mono ?_; rintro e w7 ⟨rfl, hb⟩; have H7 := Aside0.mk (below_step H6.out hb); clear hb; have r0' := lt_size_of_cell r0 H7.out; have r1' := lt_size_of_cell r1 H7.out; have p1' := lt_size_of_cell p1 (below_step HB2.out H7.out); have m0 := lt_size_of_cell r0' (below_alloc (Below.refl _ _) (.cells #[.string ⟨#[]⟩, .slice none 0 0, .int .i64 0, .int .i64 0, .int .i64 0, .int .i64 0] 24 (0, 0))); have m1 := lt_size_of_cell r1' (below_alloc (Below.refl _ _) (.cells #[.string ⟨#[]⟩, .slice none 0 0, .int .i64 0, .int .i64 0, .int .i64 0, .int .i64 0] 24 (0, 0))); have m2 := lt_size_of_cell p1' (below_alloc (Below.refl _ _) (.cells #[.string ⟨#[]⟩, .slice none 0 0, .int .i64 0, .int .i64 0, .int .i64 0, .int .i64 0] 24 (0, 0)))))
            refine start_ (n := 11) (S := fun w' => w'.cell? (ad2.add (p * 2)) = some (.int .i64 (j : Int))) (ds := []) #[false, false, false, false, false, false, false, false, false, false, false] (by kernel_rfl) rfl rfl (m0) (fun hHeld => ?_)
            refine pure_ (i := 0) (N := some 129) (v := ?_) (a' := ?_) #[true, false, false, false, false, false, false, false, false, false, false] rfl rfl (by kernel_rfl) (fun _ _ _ h => h) (Or.inl ⟨by rfl, ?_⟩) ?_ ?_
            rotate_left
            · intro w'
              go_simp
              with_reducible rfl
            rotate_left
            · simp only [Act.put, List.setIfInBounds_toArray, List.set_cons_zero, List.set_cons_succ, i64_w, i32_w]
              rfl
            refine pure_ (i := 1) (N := some 130) (v := ?_) (a' := ?_) #[true, true, false, false, false, false, false, false, false, false, false] rfl rfl (by kernel_rfl) (fun _ _ _ h => h) (Or.inl ⟨by rfl, ?_⟩) ?_ ?_
            rotate_left
            · intro w'
              go_simp
              with_reducible rfl
            rotate_left
            · simp only [Act.put, List.setIfInBounds_toArray, List.set_cons_zero, List.set_cons_succ, i64_w, i32_w]
              rfl
            refine pure_ (i := 2) (N := some 131) (v := undef) (a' := ?_) #[true, true, true, false, false, false, false, false, false, false, false] rfl rfl (by kernel_rfl) (fun _ _ _ h => h) (Or.inr ⟨by rfl, rfl⟩) ?_ ?_
            rotate_left
            · simp only [Act.put, List.setIfInBounds_toArray, List.set_cons_zero, List.set_cons_succ, i64_w, i32_w]
              rfl
            refine pure_ (i := 3) (N := some 132) (v := undef) (a' := ?_) #[true, true, true, true, false, false, false, false, false, false, false] rfl rfl (by kernel_rfl) (fun _ _ _ h => h) (Or.inr ⟨by rfl, rfl⟩) ?_ ?_
            rotate_left
            · simp only [Act.put, List.setIfInBounds_toArray, List.set_cons_zero, List.set_cons_succ, i64_w, i32_w]
              rfl
            refine pure_ (i := 4) (N := some 133) (v := undef) (a' := ?_) #[true, true, true, true, true, false, false, false, false, false, false] rfl rfl (by kernel_rfl) (fun _ _ _ h => h) (Or.inr ⟨by rfl, rfl⟩) ?_ ?_
            rotate_left
            · simp only [Act.put, List.setIfInBounds_toArray, List.set_cons_zero, List.set_cons_succ, i64_w, i32_w]
              rfl
            refine pure_ (i := 5) (N := some 134) (v := undef) (a' := ?_) #[true, true, true, true, true, true, false, false, false, false, false] rfl rfl (by kernel_rfl) (fun _ _ _ h => h) (Or.inr ⟨by rfl, rfl⟩) ?_ ?_
            rotate_left
            · simp only [Act.put, List.setIfInBounds_toArray, List.set_cons_zero, List.set_cons_succ, i64_w, i32_w]
              rfl
            refine pure_ (i := 6) (N := some 135) (v := undef) (a' := ?_) #[true, true, true, true, true, true, true, false, false, false, false] rfl rfl (by kernel_rfl) (fun _ _ _ h => h) (Or.inr ⟨by rfl, rfl⟩) ?_ ?_
            rotate_left
            · simp only [Act.put, List.setIfInBounds_toArray, List.set_cons_zero, List.set_cons_succ, i64_w, i32_w]
              rfl
            refine pure_ (i := 7) (N := some 136) (v := undef) (a' := ?_) #[true, true, true, true, true, true, true, true, false, false, false] rfl rfl (by kernel_rfl) (fun _ _ _ h => h) (Or.inr ⟨by rfl, rfl⟩) ?_ ?_
            rotate_left
            · simp only [Act.put, List.setIfInBounds_toArray, List.set_cons_zero, List.set_cons_succ, i64_w, i32_w]
              rfl
            refine pure_ (i := 8) (N := some 137) (v := undef) (a' := ?_) #[true, true, true, true, true, true, true, true, true, false, false] rfl rfl (by kernel_rfl) (fun _ _ _ h => h) (Or.inr ⟨by rfl, rfl⟩) ?_ ?_
            rotate_left
            · simp only [Act.put, List.setIfInBounds_toArray, List.set_cons_zero, List.set_cons_succ, i64_w, i32_w]
              rfl
            refine pure_ (i := 9) (N := some 138) (v := undef) (a' := ?_) #[true, true, true, true, true, true, true, true, true, true, false] rfl rfl (by kernel_rfl) (fun _ _ _ h => h) (Or.inr ⟨by rfl, rfl⟩) ?_ ?_
            rotate_left
            · simp only [Act.put, List.setIfInBounds_toArray, List.set_cons_zero, List.set_cons_succ, i64_w, i32_w]
              rfl
            refine pure_ (i := 10) (N := some 139) (v := ?_) (a' := ?_) #[true, true, true, true, true, true, true, true, true, true, true] rfl rfl (by kernel_rfl) (fun _ _ _ h => h) (Or.inl ⟨by rfl, ?_⟩) ?_ ?_
            rotate_left
            · intro w'
              go_simp
              with_reducible rfl
            rotate_left
            · simp only [Act.put, List.setIfInBounds_toArray, List.set_cons_zero, List.set_cons_succ, i64_w, i32_w]
              rfl
            refine done_ (by kernel_rfl) ?_
            go_wp2
            go_roundw
            case measure => first | (simp [intOf]; done) | (simp [intOf]; omega)
            case rel => exact ⟨(p + 2), by omega, by go_num, ⟨by repeat (first | (with_reducible first | exact H7.out | apply below_alloc | apply pw_below_drewN | apply below_drew1) | exact H7.out)⟩⟩
          · have e6 : decide (0 ≤ x.f1) = false := decide_eq_false hx0
            clear hin hx0
            go_wp2_with (first
              | (go_at_call 23; with_reducible refine (shape_Of.calls 4000 _ c1 l _ _ _ _ _ (Kd.C_below HC1.out HBW.out) hc1 HO.out).mono ?_; rintro e w6 ⟨rfl, hb⟩; have H6 := Aside0.mk (below_step HB.out hb); clear hb)
              | (go_at_call 28; with_reducible refine (Header_out _ c0 hs _ c1 l _ j _ _ (Kd.C_below HC1.out (below_step HB2.out H6.out)) hc1 HO.out hj hh' HNR.out).mono ?_; rintro e w7 ⟨rfl, hb⟩; have H7 := Aside0.mk (below_step H6.out hb); clear hb; have r0' := lt_size_of_cell r0 H7.out; have r1' := lt_size_of_cell r1 H7.out; have p1' := lt_size_of_cell p1 (below_step HB2.out H7.out); have m0 := lt_size_of_cell r0' (below_alloc (Below.refl _ _) (.cells #[.string ⟨#[]⟩, .slice none 0 0, .int .i64 0, .int .i64 0, .int .i64 0, .int .i64 0] 24 (0, 0))); have m1 := lt_size_of_cell r1' (below_alloc (Below.refl _ _) (.cells #[.string ⟨#[]⟩, .slice none 0 0, .int .i64 0, .int .i64 0, .int .i64 0, .int .i64 0] 24 (0, 0))); have m2 := lt_size_of_cell p1' (below_alloc (Below.refl _ _) (.cells #[.string ⟨#[]⟩, .slice none 0 0, .int .i64 0, .int .i64 0, .int .i64 0, .int .i64 0] 24 (0, 0)))))
            refine start_ (n := 11) (S := fun w' => w'.cell? (ad2.add (p * 2)) = some (.int .i64 (j : Int))) (ds := []) #[false, false, false, false, false, false, false, false, false, false, false] (by kernel_rfl) rfl rfl (m0) (fun hHeld => ?_)
            refine pure_ (i := 0) (N := some 129) (v := ?_) (a' := ?_) #[true, false, false, false, false, false, false, false, false, false, false] rfl rfl (by kernel_rfl) (fun _ _ _ h => h) (Or.inl ⟨by rfl, ?_⟩) ?_ ?_
            rotate_left
            · intro w'
              go_simp
              with_reducible rfl
            rotate_left
            · simp only [Act.put, List.setIfInBounds_toArray, List.set_cons_zero, List.set_cons_succ, i64_w, i32_w]
              rfl
            refine pure_ (i := 1) (N := some 130) (v := ?_) (a' := ?_) #[true, true, false, false, false, false, false, false, false, false, false] rfl rfl (by kernel_rfl) (fun _ _ _ h => h) (Or.inl ⟨by rfl, ?_⟩) ?_ ?_
            rotate_left
            · intro w'
              go_simp
              with_reducible rfl
            rotate_left
            · simp only [Act.put, List.setIfInBounds_toArray, List.set_cons_zero, List.set_cons_succ, i64_w, i32_w]
              rfl
            refine pure_ (i := 2) (N := some 131) (v := undef) (a' := ?_) #[true, true, true, false, false, false, false, false, false, false, false] rfl rfl (by kernel_rfl) (fun _ _ _ h => h) (Or.inr ⟨by rfl, rfl⟩) ?_ ?_
            rotate_left
            · simp only [Act.put, List.setIfInBounds_toArray, List.set_cons_zero, List.set_cons_succ, i64_w, i32_w]
              rfl
            refine pure_ (i := 3) (N := some 132) (v := undef) (a' := ?_) #[true, true, true, true, false, false, false, false, false, false, false] rfl rfl (by kernel_rfl) (fun _ _ _ h => h) (Or.inr ⟨by rfl, rfl⟩) ?_ ?_
            rotate_left
            · simp only [Act.put, List.setIfInBounds_toArray, List.set_cons_zero, List.set_cons_succ, i64_w, i32_w]
              rfl
            refine pure_ (i := 4) (N := some 133) (v := undef) (a' := ?_) #[true, true, true, true, true, false, false, false, false, false, false] rfl rfl (by kernel_rfl) (fun _ _ _ h => h) (Or.inr ⟨by rfl, rfl⟩) ?_ ?_
            rotate_left
            · simp only [Act.put, List.setIfInBounds_toArray, List.set_cons_zero, List.set_cons_succ, i64_w, i32_w]
              rfl
            refine pure_ (i := 5) (N := some 134) (v := undef) (a' := ?_) #[true, true, true, true, true, true, false, false, false, false, false] rfl rfl (by kernel_rfl) (fun _ _ _ h => h) (Or.inr ⟨by rfl, rfl⟩) ?_ ?_
            rotate_left
            · simp only [Act.put, List.setIfInBounds_toArray, List.set_cons_zero, List.set_cons_succ, i64_w, i32_w]
              rfl
            refine pure_ (i := 6) (N := some 135) (v := undef) (a' := ?_) #[true, true, true, true, true, true, true, false, false, false, false] rfl rfl (by kernel_rfl) (fun _ _ _ h => h) (Or.inr ⟨by rfl, rfl⟩) ?_ ?_
            rotate_left
            · simp only [Act.put, List.setIfInBounds_toArray, List.set_cons_zero, List.set_cons_succ, i64_w, i32_w]
              rfl
            refine pure_ (i := 7) (N := some 136) (v := undef) (a' := ?_) #[true, true, true, true, true, true, true, true, false, false, false] rfl rfl (by kernel_rfl) (fun _ _ _ h => h) (Or.inr ⟨by rfl, rfl⟩) ?_ ?_
            rotate_left
            · simp only [Act.put, List.setIfInBounds_toArray, List.set_cons_zero, List.set_cons_succ, i64_w, i32_w]
              rfl
            refine pure_ (i := 8) (N := some 137) (v := undef) (a' := ?_) #[true, true, true, true, true, true, true, true, true, false, false] rfl rfl (by kernel_rfl) (fun _ _ _ h => h) (Or.inr ⟨by rfl, rfl⟩) ?_ ?_
            rotate_left
            · simp only [Act.put, List.setIfInBounds_toArray, List.set_cons_zero, List.set_cons_succ, i64_w, i32_w]
              rfl
            refine pure_ (i := 9) (N := some 138) (v := undef) (a' := ?_) #[true, true, true, true, true, true, true, true, true, true, false] rfl rfl (by kernel_rfl) (fun _ _ _ h => h) (Or.inr ⟨by rfl, rfl⟩) ?_ ?_
            rotate_left
            · simp only [Act.put, List.setIfInBounds_toArray, List.set_cons_zero, List.set_cons_succ, i64_w, i32_w]
              rfl
            refine pure_ (i := 10) (N := some 139) (v := ?_) (a' := ?_) #[true, true, true, true, true, true, true, true, true, true, true] rfl rfl (by kernel_rfl) (fun _ _ _ h => h) (Or.inl ⟨by rfl, ?_⟩) ?_ ?_
            rotate_left
            · intro w'
              go_simp
              with_reducible rfl
            rotate_left
            · simp only [Act.put, List.setIfInBounds_toArray, List.set_cons_zero, List.set_cons_succ, i64_w, i32_w]
              rfl
            refine done_ (by kernel_rfl) ?_
            go_wp2
            go_roundw
            case measure => first | (simp [intOf]; done) | (simp [intOf]; omega)
            case rel => exact ⟨(p + 2), by omega, by go_num, ⟨by repeat (first | (with_reducible first | exact H7.out | apply below_alloc | apply pw_below_drewN | apply below_drew1) | exact H7.out)⟩⟩
      · have hpe2 : L.length < p := by omega
        have e1 : decide (p ≤ L.length) = false := decide_eq_false (by omega)
        go_wp2
        go_loopw [15, 16] (fun u15 u16 w' => ∃ j : Nat, j ≤ l.length ∧ u16 = .int .i64 ((j : Int) - 1) ∧ u15 = .int .i64 (wfI s (l.drop j) j) ∧ Aside0 (Below w.heap.size w w')) (fun _ u16 _ => (intOf u16 + 1).toNat)
        case atStart => exact ⟨l.length, Nat.le_refl _, by go_num, by rw [List.drop_length]; rfl, HBW⟩
        case round =>
          obtain ⟨j, hj, rfl, rfl, HB6⟩ := hrel
          rcases j with _ | i
          · rw [List.drop_zero]
            have hww : ((wfI s l 0) == (wfI s l 0)) = true := by simp
            generalize wfI s l 0 = W at *
            go_wp2_with (first
              | (go_at_call 29; with_reducible refine (shape_Find.calls 4000 _ c1 l s _ _ (Kd.C_below HC1.out HB6.out) hc1 HFI.out).mono ?_; rintro e w7 ⟨rfl, hb⟩; have H7 := Aside0.mk (below_step HB6.out hb); clear hb)
              | (go_at_call 10; with_reducible refine (shunterlaw08_lives.calls 4000 _ _ HLV.out).mono ?_; rintro e w8 ⟨rfl, hb⟩; have H8 := Aside0.mk (below_step H7.out hb); clear hb))
            go_ret
            exact ⟨rfl, H8.out⟩
          · have hi : i < l.length := by omega
            obtain ⟨ad, hA, p0, p1⟩ := at_T42 HC1.out (i : Int) (by omega) (by omega)
            subst hA
            rw [Int.toNat_natCast] at p0 p1
            have q0 := (HB6.out.cell (World.block_lt_of_cell? w _ p0)).trans p0
            have hxs := HS.out _ (rd_in42 l i hi)
            have hwf := wfI_drop s l i hi
            have HAL := Aside0.mk (rAlike_eq (rd_T42 l (i : Int)).f0 s hxs ha 4000 (by omega))
            rw [show (((i + 1 : Nat) : Int) - 1) = (i : Int) from by omega]
            clear p0 p1
            generalize rd_T42 l (i : Int) = x at *
            have hW := Aside0.mk hwf
            clear hwf
            by_cases hk : keys x.f0 = keys s
            · rw [decide_eq_true hk] at HAL
              go_wp2_with (go_at_call 16; with_reducible refine (shunterref08_Alike.calls 4000 x.f0 s true _ HAL.out).mono ?_; rintro e w7 ⟨rfl, hb⟩; have H7 := Aside0.mk (below_step HB6.out hb); clear hb)
              go_roundw
              case measure => first | (simp [intOf]; done) | (simp [intOf]; omega)
              case rel => exact ⟨i, by omega, rfl, by rw [hW.out, if_pos hk], H7⟩
            · rw [decide_eq_false hk] at HAL
              go_wp2_with (go_at_call 16; with_reducible refine (shunterref08_Alike.calls 4000 x.f0 s false _ HAL.out).mono ?_; rintro e w7 ⟨rfl, hb⟩; have H7 := Aside0.mk (below_step HB6.out hb); clear hb)
              go_roundw
              case measure => first | (simp [intOf]; done) | (simp [intOf]; omega)
              case rel => exact ⟨i, by omega, rfl, by rw [hW.out, if_neg hk], H7⟩
set_option maxHeartbeats 400000 in
set_option maxRecDepth 100000 in
theorem Insts_dark (A0 : Option Addr) (c0 : Nat) (hs : List S24) (A1 : Option Addr) (c1 : Nat) (l : List S42) (s : ByteArray) (w : World) (hC0 : Kd.C k24 w A0 hs.length hs) (hc0 : hs.length ≤ c0) (hC1 : Kd.C k42 w A1 l.length l) (hc1 : l.length ≤ c1) (hfew : shunterlaw08_few.f 4000 hs l = some false) :
    Calls Try.prog 7 #[.slice A0 hs.length c0, .slice A1 l.length c1, .string s] w fun e w' => e = .returned (.bool true) ∧ Below w.heap.size w w' := by
  have HC0 := Aside0.mk hC0
  have HC1 := Aside0.mk hC1
  have HLV := Aside0.mk (lives_at 4000 (by omega))
  have HFE := Aside0.mk hfew
  clear hC0 hC1 hfew
  go_enter Try.func7, Try.ntmps7
  go_wp2_with (first
    | (go_at_call 21; with_reducible refine (shunterlaw08_few.calls 4000 A0 c0 hs A1 c1 l false _ HC0.out hc0 HC1.out hc1 HFE.out).mono ?_; rintro e w1 ⟨rfl, hb⟩; have HB1 := Aside0.mk hb.below; clear hb)
    | (go_at_call 10; with_reducible refine (shunterlaw08_lives.calls 4000 _ _ HLV.out).mono ?_; rintro e w8 ⟨rfl, hb⟩; have H8 := Aside0.mk (below_step HB1.out hb); clear hb))
  go_ret
  exact ⟨rfl, H8.out⟩
set_option maxHeartbeats 400000 in
set_option maxRecDepth 100000 in
theorem Insts_far (A0 : Option Addr) (c0 : Nat) (hs : List S24) (A1 : Option Addr) (c1 : Nat) (l : List S42) (s : ByteArray) (w : World) (hC0 : Kd.C k24 w A0 hs.length hs) (hc0 : hs.length ≤ c0) (hC1 : Kd.C k42 w A1 l.length l) (hc1 : l.length ≤ c1) (ha : ¬ s.size ≤ 200) (hfew : shunterlaw08_few.f 4000 hs l = some true) :
    Calls Try.prog 7 #[.slice A0 hs.length c0, .slice A1 l.length c1, .string s] w fun e w' => e = .returned (.bool true) ∧ Below w.heap.size w w' := by
  have HC0 := Aside0.mk hC0
  have HC1 := Aside0.mk hC1
  have HLV := Aside0.mk (lives_at 4000 (by omega))
  have HFE := Aside0.mk hfew
  have ha2 : decide (200 < (s.size : Int)) = true := by simp; omega
  clear hC0 hC1 hfew ha
  go_enter Try.func7, Try.ntmps7
  go_wp2_with (first
    | (go_at_call 21; with_reducible refine (shunterlaw08_few.calls 4000 A0 c0 hs A1 c1 l true _ HC0.out hc0 HC1.out hc1 HFE.out).mono ?_; rintro e w1 ⟨rfl, hb⟩; have HB1 := Aside0.mk hb.below; clear hb)
    | (go_at_call 10; with_reducible refine (shunterlaw08_lives.calls 4000 _ _ HLV.out).mono ?_; rintro e w8 ⟨rfl, hb⟩; have H8 := Aside0.mk (below_step HB1.out hb); clear hb))
  go_ret
  exact ⟨rfl, H8.out⟩
theorem Insts_all (A0 : Option Addr) (c0 : Nat) (hs : List S24) (A1 : Option Addr) (c1 : Nat) (l : List S42) (s : ByteArray) (w : World) (hC0 : Kd.C k24 w A0 hs.length hs) (hc0 : hs.length ≤ c0) (hC1 : Kd.C k42 w A1 l.length l) (hc1 : l.length ≤ c1) :
    Calls Try.prog 7 #[.slice A0 hs.length c0, .slice A1 l.length c1, .string s] w fun e w' => e = .returned (.bool true) ∧ Below w.heap.size w w' := by
  obtain ⟨r, hr, h⟩ := few_eq hs l 4000 (by omega)
  cases r with
  | false => exact Insts_dark A0 c0 hs A1 c1 l s w hC0 hc0 hC1 hc1 hr
  | true =>
    obtain ⟨h1, h2, h3⟩ := h rfl
    by_cases ha : s.size ≤ 200
    · exact Insts_law A0 c0 hs A1 c1 l s w hC0 hc0 hC1 hc1 h1 h2 h3 ha hr
    · exact Insts_far A0 c0 hs A1 c1 l s w hC0 hc0 hC1 hc1 ha hr

end Go.Proofs.Ytpdjiiikfjjfjaa.XI
