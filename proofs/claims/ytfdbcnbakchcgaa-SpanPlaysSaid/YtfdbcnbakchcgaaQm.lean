import Derived.Test.YtfdbcnbakchcgaaSv
import Derived.Test.YtfdbcnbakchcgaaQj
namespace Go.Proofs.Ytfdbcnbakchcgaa.XQ
open Go.RowKit Go.Proofs.YtfdbcnbakchcgaaW.PrintWords Go.Proofs.YtfdbcnbakchcgaaW.PrintLast Go.Proofs.YtfdbcnbakchcgaaW.PrintMore
attribute [local go_sem] max2_int min2_int max_two min_two max_three min_three max_four min_four   -- for this text's walks alone
set_option linter.unusedVariables false
set_option linter.unusedSimpArgs false
set_option maxHeartbeats 1000000 in
set_option maxRecDepth 100000 in
theorem SpanPlays_wide (E : Option Addr) (e : Nat) (ws : List Int) (m : Int) (A : Option Addr) (c : Nat) (ops : List S87) (w : World) (hE : Kd.C (Kd.int .i64) w E ws.length ws) (he : ws.length ≤ e) (hC : Kd.C k87 w A ops.length ops) (hc : ops.length ≤ c) (h : 20 < ws.length) :
 Calls Try.prog 14 #[.slice E ws.length e, .int .i64 m, .slice A ops.length c] w fun e_ w' => e_ = .returned (.bool true) ∧ Below w.heap.size w w' := by
 have HB0 := Aside0.mk (Below.refl w.heap.size w)
 have g1 : decide ((20 : Int) < (ws.length : Int)) = true := decide_eq_true (by omega)
 clear h hE he hC hc
 go_enter Try.func14, Try.ntmps14
 go_wp2_with (first | (go_at_call 51; with_reducible refine (lives_calls _).mono ?_; rintro e_ wz ⟨rfl, hb⟩; have HZ := Aside0.mk (below_step HB0.out hb); clear hb))
 go_ret
 exact ⟨rfl, HZ.out⟩
set_option maxHeartbeats 1000000 in
set_option maxRecDepth 100000 in
theorem SpanPlays_heavy (E : Option Addr) (e : Nat) (ws : List Int) (m : Int) (A : Option Addr) (c : Nat) (ops : List S87) (w : World) (hE : Kd.C (Kd.int .i64) w E ws.length ws) (he : ws.length ≤ e) (hC : Kd.C k87 w A ops.length ops) (hc : ops.length ≤ c) (h : ¬ 20 < ws.length) (hL : lightB ops = false) :
 Calls Try.prog 14 #[.slice E ws.length e, .int .i64 m, .slice A ops.length c] w fun e_ w' => e_ = .returned (.bool true) ∧ Below w.heap.size w w' := by
 have HB0 := Aside0.mk (Below.refl w.heap.size w)
 have g1 : decide ((20 : Int) < (ws.length : Int)) = false := decide_eq_false (by omega)
 have HLT := Aside0.mk (fun w1 (hb : Below w.heap.size w w1) => (show Calls Try.prog 50 #[.slice A ops.length c] w1 (fun e_ w' => e_ = .returned (.bool false) ∧ Below w1.heap.size w1 w') from by have := light_calls ops A c w1 (Kd.C_below hC hb) hc; rw [hL] at this; exact this))
 clear h hL hE he hC hc
 go_enter Try.func14, Try.ntmps14
 go_wp2_with (first | (go_at_call 50; with_reducible refine (HLT.out _ HB0.out).mono ?_; rintro e_ wl ⟨rfl, hb⟩; have HBL := Aside0.mk hb; clear hb) | (go_at_call 51; with_reducible refine (lives_calls _).mono ?_; rintro e_ wz ⟨rfl, hb⟩; have HZ := Aside0.mk (below_step HBL.out hb); clear hb))
 go_ret
 exact ⟨rfl, HZ.out⟩
set_option maxHeartbeats 1000000 in
set_option maxRecDepth 100000 in
theorem SpanPlays_none (E : Option Addr) (e : Nat) (ws : List Int) (m : Int) (A : Option Addr) (c : Nat) (ops : List S87) (w : World) (hE : Kd.C (Kd.int .i64) w E ws.length ws) (he : ws.length ≤ e) (hC : Kd.C k87 w A ops.length ops) (hc : ops.length ≤ c) (h : ¬ 20 < ws.length) (hL : lightB ops = true) (hW : widB ws m = false) :
 Calls Try.prog 14 #[.slice E ws.length e, .int .i64 m, .slice A ops.length c] w fun e_ w' => e_ = .returned (.bool true) ∧ Below w.heap.size w w' := by
 have HB0 := Aside0.mk (Below.refl w.heap.size w)
 have g1 : decide ((20 : Int) < (ws.length : Int)) = false := decide_eq_false (by omega)
 have HLT := Aside0.mk (fun w1 (hb : Below w.heap.size w w1) => (show Calls Try.prog 50 #[.slice A ops.length c] w1 (fun e_ w' => e_ = .returned (.bool true) ∧ Below w1.heap.size w1 w') from by have := light_calls ops A c w1 (Kd.C_below hC hb) hc; rw [hL] at this; exact this))
 have HWD := Aside0.mk (fun w1 (hb : Below w.heap.size w w1) => (show Calls Try.prog 53 #[.slice E ws.length e, .int .i64 m] w1 (fun e_ w' => e_ = .returned (.bool false) ∧ Below w1.heap.size w1 w') from by have := Widths_calls ws m E e w1 (Kd.C_below hE hb) he (by omega); rw [hW] at this; exact this))
 have HNW := Aside0.mk (fun w1 (hb : Below w.heap.size w w1) => New_no E e ws m w1 (Kd.C_below hE hb) (by omega) (widB_false hW))
 clear h hL hW hE he hC hc
 go_enter Try.func14, Try.ntmps14
 go_wp2_with (first | (go_at_call 50; with_reducible refine (HLT.out _ HB0.out).mono ?_; rintro e_ wl ⟨rfl, hb⟩; have HBL := Aside0.mk hb; clear hb) | (go_at_call 52; with_reducible refine (HNW.out _ HBL.out).mono ?_; rintro e_ wn ⟨rfl, hb⟩; have HBN := Aside0.mk (below_step HBL.out hb); clear hb) | (go_at_call 53; with_reducible refine (HWD.out _ HBN.out).mono ?_; rintro e_ wq ⟨rfl, hb⟩; have HBQ := Aside0.mk (below_step HBN.out hb); clear hb) | (go_at_call 51; with_reducible refine (lives_calls _).mono ?_; rintro e_ wz ⟨rfl, hb⟩; have HZ := Aside0.mk (below_step HBQ.out hb); clear hb))
 go_ret
 exact ⟨rfl, HZ.out⟩
set_option maxHeartbeats 1000000 in
set_option maxRecDepth 100000 in
theorem SpanPlays_plays (E : Option Addr) (e : Nat) (ws : List Int) (m : Int) (A : Option Addr) (c : Nat) (ops : List S87) (w : World) (hE : Kd.C (Kd.int .i64) w E ws.length ws) (he : ws.length ≤ e) (hC : Kd.C k87 w A ops.length ops) (hc : ops.length ≤ c) (h : ¬ 20 < ws.length) (hL : lightB ops = true) (hW : widB ws m = true) (hok : ∀ y ∈ ops, okI (opX y)) :
 Calls Try.prog 14 #[.slice E ws.length e, .int .i64 m, .slice A ops.length c] w fun e_ w' => e_ = .returned (.bool true) ∧ Below w.heap.size w w' := by
 have HB0 := Aside0.mk (Below.refl w.heap.size w)
 have g1 : decide ((20 : Int) < (ws.length : Int)) = false := decide_eq_false (by omega)
 have HLT := Aside0.mk (fun w1 (hb : Below w.heap.size w w1) => (show Calls Try.prog 50 #[.slice A ops.length c] w1 (fun e_ w' => e_ = .returned (.bool true) ∧ Below w1.heap.size w1 w') from by have := light_calls ops A c w1 (Kd.C_below hC hb) hc; rw [hL] at this; exact this))
 have HWD := Aside0.mk (fun w1 (hb : Below w.heap.size w w1) => (show Calls Try.prog 53 #[.slice E ws.length e, .int .i64 m] w1 (fun e_ w' => e_ = .returned (.bool true) ∧ Below w1.heap.size w1 w') from by have := Widths_calls ws m E e w1 (Kd.C_below hE hb) he (by omega); rw [hW] at this; exact this))
 have HNW := Aside0.mk (fun w1 (hb : Below w.heap.size w w1) => New_ok E e ws m w1 (Kd.C_below hE hb) he (widB_true hW).1 (widB_true hW).2.1 (widB_true hW).2.2.1 (widB_true hW).2.2.2.1 (widB_true hW).2.2.2.2)
 have HRUN := Aside0.mk (runI_ok ws m [] (SI_nil ws.length m (by have := (widB_true hW).2.2.2.1; omega)) ops hok)
 have HOKS := Aside0.mk hok
 have HLN := Aside0.mk (light_len hL).1
 have HE := Aside0.mk (fun w1 (hb : Below w.heap.size w w1) => Kd.C_below hE hb)
 have HC := Aside0.mk (fun w1 (hb : Below w.heap.size w w1) => Kd.C_below hC hb)
 have HEC := Aside0.mk he
 clear h hL hW hE he hC hc hok
 go_enter Try.func14, Try.ntmps14
 go_wp2_with (first | (go_at_call 50; with_reducible refine (HLT.out _ HB0.out).mono ?_; rintro e_ wl ⟨rfl, hb⟩; have HBL := Aside0.mk hb; clear hb) | (go_at_call 52; with_reducible refine (HNW.out _ HBL.out).mono ?_; rintro e_ wn ⟨g, wv, rfl, hlk⟩; have HS0 := Aside0.mk (SS_new hlk); have HBN := Aside0.mk (below_step HBL.out hlk.below); clear hlk) | (go_at_call 53; with_reducible refine (HWD.out _ HBN.out).mono ?_; rintro e_ wq ⟨rfl, hb⟩; have HS1 := Aside0.mk (HS0.out.step hb); clear hb))
 have HT0 := Aside0.mk (show SS wl wq g (.slice none 0 0) wv (.slice none 0 0) (isoT (runI ws m [] (ops.take 0))) (runI ws m [] (ops.take 0)) ws m from by rw [show runI ws m [] (ops.take 0) = [] from by rw [List.take_zero]; rfl]; exact HS1.out)
 clear HS0 HS1 HB0 HLT HWD HNW HBN
 go_loopw [8, 9, 10] (fun u8 u9 u10 w' => ∃ (i : Nat) (v : Value), i ≤ ops.length ∧ u9 = .int .i64 i ∧ Aside0 (SS wl w' g v wv u8 (isoT (runI ws m [] (ops.take i))) (runI ws m [] (ops.take i)) ws m)) (fun _ u9 _ _ => ops.length - (intOf u9).toNat)
 case atStart => exact ⟨0, _, Nat.zero_le _, rfl, HT0⟩
 case round =>
  obtain ⟨i, v, hi, rfl, HT⟩ := hrel
  clear HT0
  by_cases hlt : i < ops.length
  ·have hl80 := HLN.out
   have hi0 : 0 ≤ (i : Int) := by omega
   have hil : (i : Int) < (ops.length : Int) := by omega
   have HR1 := Aside0.mk (HRUN.out i hi)
   have HR4 := Aside0.mk (show (runI ws m [] (ops.take i)).length ≤ 400 from by have h1 := HR1.out.2; have h2 := HLN.out; rw [List.length_nil] at h1; omega)
   have HRS := Aside0.mk (runI_take ws m [] ops i hlt)
   obtain ⟨ad, A3, c3, A4, c4, hA, hor, hcl⟩ := op_at (HC.out _ HBL.out) HOKS.out i hlt
   subst hA
   generalize ops[i] = y at hor hcl HRS
   have HO := Aside0.mk (show OR wl A3 c3 A4 c4 ⟨y.f3, y.f4, y.f1, y.f2⟩ from hor)
   have HRS2 := Aside0.mk (show stepL ws m (runI ws m [] (ops.take i)) y.f0 ⟨y.f3, y.f4, y.f1, y.f2⟩ = (runI ws m [] (ops.take (i + 1))) from HRS.out.symm)
   clear hor
   obtain ⟨s0, s1, s2, s3, s4⟩ := hcl _ HT.out.lk.below
   clear hcl
   go_wp2_with (first | (go_at_call 60; with_reducible refine (step_two wl _ g v wv u8 (runI ws m [] (ops.take i)) (runI ws m [] (ops.take i)) ws m E e y.f0 ⟨y.f3, y.f4, y.f1, y.f2⟩ A3 c3 A4 c4 HT.out (HE.out _ HBL.out) HEC.out HO.out HR1.out.1 HR1.out.1 HR4.out HR4.out).mono ?_; rintro e_ w5 ⟨v1, vx1, bb, rfl, hbb, hst⟩; obtain rfl := hbb rfl; rw [show stepL ws m (runI ws m [] (ops.take i)) y.f0 ⟨y.f3, y.f4, y.f1, y.f2⟩ = (runI ws m [] (ops.take (i + 1))) from HRS2.out] at hst; obtain ⟨Ax, cx, rfl⟩ := Kd.V_slice hst.rx; have HT2 := Aside0.mk hst; clear hst hbb HT; have HT := Aside0.mk HT2.out; clear HT2; have HLE := Aside0.mk (fun w1 (h1 : LK wl w1 g v1 wv (isoT (runI ws m [] (ops.take (i + 1)))) ws m) => (show Calls Try.prog 59 #[.pointer (some ⟨g, 0, none⟩)] w1 (fun e_ w' => e_ = .returned (.int .i64 (runI ws m [] (ops.take (i + 1))).length) ∧ w' = w1) from by have := Len_calls wl w1 g v1 wv _ ws m h1; rw [isoT_length] at this; exact this))) | (go_at_call 59; with_reducible refine (HLE.out _ HT.out.lk).mono ?_; rintro e_ w6 ⟨rfl, rfl⟩))
   go_roundw
   case measure => first | (simp [intOf]; done) | (simp [intOf]; omega)
   case rel => exact ⟨i + 1, v1, hlt, by go_num, HT⟩
  ·have hie : i = ops.length := by omega
   have HR1 := HRUN.out i hi
   have hR4 : (runI ws m [] (ops.take i)).length ≤ 400 := by have h1 := HR1.2; have h2 := HLN.out; rw [List.length_nil] at h1; omega
   generalize (runI ws m [] (ops.take i)) = x at HT HR1 hR4 ⊢
   obtain ⟨Ax, cx, rfl⟩ := Kd.V_slice HT.out.rx
   have HXO := Aside0.mk HR1.1
   have HX4 := Aside0.mk hR4
   have HIX := Aside0.mk (show ∀ y ∈ isoT x, y.f0.length ≤ 1000 ∧ y.f1.length ≤ 1000 from fun y hy => ⟨(HXO.out.iso y hy).i.la, (HXO.out.iso y hy).i.lb⟩)
   have HIL := Aside0.mk (show (isoT x).length ≤ 1000 from by rw [isoT_length]; omega)
   have HSO := Aside0.mk (ref22_Sorted_eq 200000 x (by omega) (fun z hz => (HXO.out.ok z hz).i) HXO.out.ap (by have := Nat.mul_le_mul (show x.length + 1 ≤ 401 by omega) (show x.length + 3 ≤ 403 by omega); omega))
   have hl80 := HLN.out
   clear HR1 hR4 hie
   go_wp2_with (first | (go_at_call 61; with_reducible refine (List_calls wl _ g v wv (isoT x) ws m HT.out.lk HIX.out HIL.out).mono ?_; rintro e_ w5 ⟨v5, rfl, hr, hb⟩; obtain ⟨Ag, cg, e0⟩ := Kd.R_slice hr; rw [isoT_length] at e0; subst e0; have HG := Aside0.mk hr; have HT2 := Aside0.mk (HT.out.step hb); clear hr hb HT) | (go_at_call 62; with_reducible refine (shunterref22_Sorted.calls 200000 (fun k => k ≠ g ∧ some k ≠ v.ownBlock) Ax cx x _ _ (Kd.V_map HT2.out.rx (fun _ hf => hf)) HSO.out).mono ?_; rintro e_ w6 ⟨v6, rfl, hr, hb⟩; obtain ⟨Aw, cw, e0⟩ := Kd.N_slice hr; rw [List.length_map, isoT_length] at e0; subst e0; have HW := Aside0.mk (Kd.N_reads' hr); have HG2 := Aside0.mk (Kd.R_reads' (Kd.R_below HG.out hb)); have HB6 := Aside0.mk (below_step HBL.out (HT2.out.step hb).lk.below); clear hr hb HG HT2))
   clear hi hlt hl80
   have hx4 := HX4.out
   go_loopw [13] (fun u13 w' => ∃ j : Nat, j ≤ x.length ∧ u13 = .int .i64 j ∧ Aside0 (Below w6.heap.size w6 w')) (fun u13 _ => x.length - (intOf u13).toNat)
   case atStart => exact ⟨0, Nat.zero_le _, rfl, ⟨Below.refl _ _⟩⟩
   case round =>
    obtain ⟨j, hj, rfl, HB7⟩ := hrel
    by_cases hjt : j < x.length
    ·have hj0 : 0 ≤ (j : Int) := by omega
     have hjl : (j : Int) < (x.length : Int) := by omega
     have hji : j < (isoT x).length := by rw [isoT_length]; exact hjt
     obtain ⟨d1, A0, c0, A1, c1, hA1, hs1, hc1⟩ := it_at (by have h_ := HG2.out.2.2; exact h_) j hji
     subst hA1
     obtain ⟨d2, B0, c2, B1, c3, hA2, hs2, hc2⟩ := it9_at (by rw [List.length_map]) HW.out.2.2 j hji
     subst hA2
     have hyx := HIX.out _ (List.getElem_mem hji)
     generalize (isoT x)[j] = y at hs1 hc1 hs2 hc2 hyx
     have HC1 := Aside0.mk hc1
     have HC2 := Aside0.mk hc2
     have HSA := Aside0.mk (same_eq y hyx.1 hyx.2)
     have HQ1 := Aside0.mk hs1
     have HQ2 := Aside0.mk hs2
     clear hs1 hs2 hc1 hc2 hyx hji
     go_wp2
     refine start_ (n := 11) (S := fun w' => Below w6.heap.size w6 w') (ds := []) #[false, false, false, false, false, false, false, false, false, false, false] (by kernel_rfl) rfl rfl (below_drew1 HB7.out) (fun hHeld => ?_)
     clear HB7
     generalize World.drew _ = w7 at hHeld ⊢
     refine pl_ [0, 1, 2, 5, 6, 7] ?_
     iterate 6 refine qP rfl rfl ?_
     refine pl0 ?_
     refine take_ (i := 3) (N := some 82) (v := ?_) (a' := ?_) #[true, true, true, true, false, true, true, true, false, false, false] rfl rfl (by kernel_rfl) (fun _ _ _ h => h) (Or.inl ⟨by rfl, ?_⟩) hHeld ?_ ?_
     rotate_left
     ·intro w' hs
      obtain ⟨s0, s1, s2, s3⟩ := HC1.out w' hs
      go_simp
      with_reducible rfl
     rotate_left
     ·simp only [Act.put, List.setIfInBounds_toArray, List.set_cons_zero, List.set_cons_succ, i64_w, i32_w]
      rfl
     refine take_ (i := 8) (N := some 87) (v := ?_) (a' := ?_) #[true, true, true, true, false, true, true, true, true, false, false] rfl rfl (by kernel_rfl) (fun _ _ _ h => h) (Or.inl ⟨by rfl, ?_⟩) hHeld ?_ ?_
     rotate_left
     ·intro w' hs
      obtain ⟨s0, s1, s2, s3⟩ := HC2.out w' hs
      go_simp
      with_reducible rfl
     rotate_left
     ·simp only [Act.put, List.setIfInBounds_toArray, List.set_cons_zero, List.set_cons_succ, i64_w, i32_w]
      rfl
     have HH := Aside0.mk hHeld
     clear hHeld
     refine one_ (i := 4) (N := some 83) #[true, true, true, true, true, true, true, true, true, false, false] rfl rfl (by kernel_rfl) (by decide) (fun K hK => ?_)
     refine goes_ Try.func58 (by kernel_rfl) rfl #[.agg #[.slice A0 y.f0.length c0, .slice A1 y.f1.length c1, .int .i64 y.f2, .int .i64 y.f3]] (by rfl) rfl rfl (by simp only [List.map_toArray, List.map_cons, List.map_nil]; first | rfl | (go_simp; done)) ?_
     with_reducible refine (theirs_calls y A0 c0 A1 c1 _).mono ?_
     rintro e_ w1 ⟨rfl, hb⟩
     refine ⟨_, rfl, ?_⟩
     have HB8 := Aside0.mk (below_step HH.out hb)
     clear hb HH
     refine hK.out _ _ HB8.out (fun hHeld => ?_)
     clear hK K
     refine norm_ (a' := ?_) ?_ ?_
     rotate_left
     ·show Act.put _ (some 83) _ = _
      simp only [Act.put, List.setIfInBounds_toArray, List.set_cons_zero, List.set_cons_succ, i64_w, i32_w]
      rfl
     have HH := Aside0.mk hHeld
     clear hHeld HB8
     refine one_ (i := 9) (N := some 88) #[true, true, true, true, true, true, true, true, true, true, false] rfl rfl (by kernel_rfl) (by decide) (fun K hK => ?_)
     refine goes_ Try.func63 (by kernel_rfl) rfl #[.agg #[.slice A0 y.f0.length c0, .slice A1 y.f1.length c1, .int .i64 y.f2, .int .i64 y.f3], .agg #[.slice B0 y.f0.length c2, .slice B1 y.f1.length c3, .int .i64 y.f2, .int .i64 y.f3]] (by rfl) rfl rfl (by simp only [List.map_toArray, List.map_cons, List.map_nil]; first | rfl | (go_simp; done)) ?_
     with_reducible refine (shunterlaw22_same.calls 2000 A0 c0 y.f0 A1 c1 y.f1 y.f2 y.f3 B0 c2 y.f0 B1 c3 y.f1 y.f2 y.f3 true _ (Kd.C_below HQ1.out.1 HH.out) HQ1.out.2.1 (Kd.C_below HQ1.out.2.2.1 HH.out) HQ1.out.2.2.2 (Kd.C_below HQ2.out.1 HH.out) HQ2.out.2.1 (Kd.C_below HQ2.out.2.2.1 HH.out) HQ2.out.2.2.2 HSA.out).mono ?_
     rintro e_ w1 ⟨rfl, hb⟩
     refine ⟨_, rfl, ?_⟩
     have HB9 := Aside0.mk (below_step HH.out hb)
     clear hb HH
     refine hK.out _ _ HB9.out (fun hHeld => ?_)
     clear hK K
     refine norm_ (a' := ?_) ?_ ?_
     rotate_left
     ·show Act.put _ (some 88) _ = _
      simp only [Act.put, List.setIfInBounds_toArray, List.set_cons_zero, List.set_cons_succ, i64_w, i32_w]
      rfl
     refine pl_ [10] ?_
     refine qP rfl rfl ?_
     refine pl0 ?_
     refine done_ (by kernel_rfl) ?_
     go_wp2
     go_roundw
     case measure => first | (simp [intOf]; done) | (simp [intOf]; omega)
     case rel => exact ⟨j + 1, hjt, by go_num, HB9⟩
    ·have hje : j = x.length := by omega
     subst hje
     have HB10 := Aside0.mk (below_step HB6.out HB7.out)
     go_wp2_with (first | (go_at_call 51; with_reducible refine (lives_calls _).mono ?_; rintro e_ wz ⟨rfl, hb⟩; have HZ := Aside0.mk (below_step HB10.out hb); clear hb))
     go_ret
     exact ⟨rfl, HZ.out⟩
theorem SpanPlays_true (E : Option Addr) (e : Nat) (ws : List Int) (m : Int) (A : Option Addr) (c : Nat) (ops : List S87) (w : World) (hE : Kd.C (Kd.int .i64) w E ws.length ws) (he : ws.length ≤ e) (hC : Kd.C k87 w A ops.length ops) (hc : ops.length ≤ c) (hv : ∀ y ∈ ops, (∀ z ∈ y.f3, okV z) ∧ (∀ z ∈ y.f4, okV z)) :
 Calls Try.prog 14 #[.slice E ws.length e, .int .i64 m, .slice A ops.length c] w fun e_ w' => e_ = .returned (.bool true) ∧ Below w.heap.size w w' := by
 by_cases h : 20 < ws.length
 ·exact SpanPlays_wide E e ws m A c ops w hE he hC hc h
 ·cases hL : lightB ops with
  | false => exact SpanPlays_heavy E e ws m A c ops w hE he hC hc h hL
  | true =>
   cases hW : widB ws m with
   | false => exact SpanPlays_none E e ws m A c ops w hE he hC hc h hL hW
   | true => exact SpanPlays_plays E e ws m A c ops w hE he hC hc h hL hW (fun y hy => ⟨(hv y hy).1, (hv y hy).2, (show y.f3.length ≤ 1000 by have := ((light_len hL).2 y hy).1; omega), (show y.f4.length ≤ 1000 by have := ((light_len hL).2 y hy).2; omega)⟩)
end Go.Proofs.Ytfdbcnbakchcgaa.XQ
