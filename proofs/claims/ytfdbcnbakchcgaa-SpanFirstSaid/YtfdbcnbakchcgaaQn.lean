import Derived.Test.YtfdbcnbakchcgaaSv
import Derived.Test.YtfdbcnbakchcgaaQj
namespace Go.Proofs.Ytfdbcnbakchcgaa.XQ
open Go.RowKit Go.Proofs.YtfdbcnbakchcgaaW.PrintWords Go.Proofs.YtfdbcnbakchcgaaW.PrintLast Go.Proofs.YtfdbcnbakchcgaaW.PrintMore
attribute [local go_sem] max2_int min2_int max_two min_two max_three min_three max_four min_four   -- for this text's walks alone
set_option linter.unusedVariables false
set_option linter.unusedSimpArgs false
set_option maxHeartbeats 1000000 in
set_option maxRecDepth 100000 in
theorem SpanFirst_wide (E : Option Addr) (e : Nat) (ws : List Int) (A : Option Addr) (c : Nat) (ops : List S87) (K : Option Addr) (ck : Nat) (key : List S32) (w : World) (hE : Kd.C (Kd.int .i64) w E ws.length ws) (he : ws.length ≤ e) (hC : Kd.C k87 w A ops.length ops) (hc : ops.length ≤ c) (hK : Kd.C k32 w K key.length key) (hkc : key.length ≤ ck) (h : 20 < ws.length) :
 Calls Try.prog 13 #[.slice E ws.length e, .slice A ops.length c, .slice K key.length ck] w fun e_ w' => e_ = .returned (.bool true) ∧ Below w.heap.size w w' := by
 have HB0 := Aside0.mk (Below.refl w.heap.size w)
 have g1 : decide ((20 : Int) < (ws.length : Int)) = true := decide_eq_true (by omega)
 clear h hE he hC hc hK hkc
 go_enter Try.func13, Try.ntmps13
 go_wp2_with (first | (go_at_call 51; with_reducible refine (lives_calls _).mono ?_; rintro e_ wz ⟨rfl, hb⟩; have HZ := Aside0.mk (below_step HB0.out hb); clear hb))
 go_ret
 exact ⟨rfl, HZ.out⟩
set_option maxHeartbeats 1000000 in
set_option maxRecDepth 100000 in
theorem SpanFirst_heavy (E : Option Addr) (e : Nat) (ws : List Int) (A : Option Addr) (c : Nat) (ops : List S87) (K : Option Addr) (ck : Nat) (key : List S32) (w : World) (hE : Kd.C (Kd.int .i64) w E ws.length ws) (he : ws.length ≤ e) (hC : Kd.C k87 w A ops.length ops) (hc : ops.length ≤ c) (hK : Kd.C k32 w K key.length key) (hkc : key.length ≤ ck) (h : ¬ 20 < ws.length) (hL : lightB ops = false) :
 Calls Try.prog 13 #[.slice E ws.length e, .slice A ops.length c, .slice K key.length ck] w fun e_ w' => e_ = .returned (.bool true) ∧ Below w.heap.size w w' := by
 have HB0 := Aside0.mk (Below.refl w.heap.size w)
 have g1 : decide ((20 : Int) < (ws.length : Int)) = false := decide_eq_false (by omega)
 have HLT := Aside0.mk (fun w1 (hb : Below w.heap.size w w1) => (show Calls Try.prog 50 #[.slice A ops.length c] w1 (fun e_ w' => e_ = .returned (.bool false) ∧ Below w1.heap.size w1 w') from by have := light_calls ops A c w1 (Kd.C_below hC hb) hc; rw [hL] at this; exact this))
 clear h hL hE he hC hc hK hkc
 go_enter Try.func13, Try.ntmps13
 go_wp2_with (first | (go_at_call 50; with_reducible refine (HLT.out _ HB0.out).mono ?_; rintro e_ wl ⟨rfl, hb⟩; have HBL := Aside0.mk hb; clear hb) | (go_at_call 51; with_reducible refine (lives_calls _).mono ?_; rintro e_ wz ⟨rfl, hb⟩; have HZ := Aside0.mk (below_step HBL.out hb); clear hb))
 go_ret
 exact ⟨rfl, HZ.out⟩
set_option maxHeartbeats 1000000 in
set_option maxRecDepth 100000 in
theorem SpanFirst_long (E : Option Addr) (e : Nat) (ws : List Int) (A : Option Addr) (c : Nat) (ops : List S87) (K : Option Addr) (ck : Nat) (key : List S32) (w : World) (hE : Kd.C (Kd.int .i64) w E ws.length ws) (he : ws.length ≤ e) (hC : Kd.C k87 w A ops.length ops) (hc : ops.length ≤ c) (hK : Kd.C k32 w K key.length key) (hkc : key.length ≤ ck) (h : ¬ 20 < ws.length) (hL : lightB ops = true) (hk : 10 < key.length) :
 Calls Try.prog 13 #[.slice E ws.length e, .slice A ops.length c, .slice K key.length ck] w fun e_ w' => e_ = .returned (.bool true) ∧ Below w.heap.size w w' := by
 have HB0 := Aside0.mk (Below.refl w.heap.size w)
 have g1 : decide ((20 : Int) < (ws.length : Int)) = false := decide_eq_false (by omega)
 have g2 : decide ((10 : Int) < (key.length : Int)) = true := decide_eq_true (by omega)
 have HLT := Aside0.mk (fun w1 (hb : Below w.heap.size w w1) => (show Calls Try.prog 50 #[.slice A ops.length c] w1 (fun e_ w' => e_ = .returned (.bool true) ∧ Below w1.heap.size w1 w') from by have := light_calls ops A c w1 (Kd.C_below hC hb) hc; rw [hL] at this; exact this))
 clear h hL hk hE he hC hc hK hkc
 go_enter Try.func13, Try.ntmps13
 go_wp2_with (first | (go_at_call 50; with_reducible refine (HLT.out _ HB0.out).mono ?_; rintro e_ wl ⟨rfl, hb⟩; have HBL := Aside0.mk hb; clear hb) | (go_at_call 51; with_reducible refine (lives_calls _).mono ?_; rintro e_ wz ⟨rfl, hb⟩; have HZ := Aside0.mk (below_step HBL.out hb); clear hb))
 go_ret
 exact ⟨rfl, HZ.out⟩
set_option maxHeartbeats 1000000 in
set_option maxRecDepth 100000 in
theorem SpanFirst_none (E : Option Addr) (e : Nat) (ws : List Int) (A : Option Addr) (c : Nat) (ops : List S87) (K : Option Addr) (ck : Nat) (key : List S32) (w : World) (hE : Kd.C (Kd.int .i64) w E ws.length ws) (he : ws.length ≤ e) (hC : Kd.C k87 w A ops.length ops) (hc : ops.length ≤ c) (hK : Kd.C k32 w K key.length key) (hkc : key.length ≤ ck) (h : ¬ 20 < ws.length) (hL : lightB ops = true) (hk : ¬ 10 < key.length) (hW : widB ws 60 = false) :
 Calls Try.prog 13 #[.slice E ws.length e, .slice A ops.length c, .slice K key.length ck] w fun e_ w' => e_ = .returned (.bool true) ∧ Below w.heap.size w w' := by
 have HB0 := Aside0.mk (Below.refl w.heap.size w)
 have g1 : decide ((20 : Int) < (ws.length : Int)) = false := decide_eq_false (by omega)
 have g2 : decide ((10 : Int) < (key.length : Int)) = false := decide_eq_false (by omega)
 have HLT := Aside0.mk (fun w1 (hb : Below w.heap.size w w1) => (show Calls Try.prog 50 #[.slice A ops.length c] w1 (fun e_ w' => e_ = .returned (.bool true) ∧ Below w1.heap.size w1 w') from by have := light_calls ops A c w1 (Kd.C_below hC hb) hc; rw [hL] at this; exact this))
 have HWD := Aside0.mk (fun w1 (hb : Below w.heap.size w w1) => (show Calls Try.prog 53 #[.slice E ws.length e, .int .i64 60] w1 (fun e_ w' => e_ = .returned (.bool false) ∧ Below w1.heap.size w1 w') from by have := Widths_calls ws 60 E e w1 (Kd.C_below hE hb) he (by omega); rw [hW] at this; exact this))
 have HNW := Aside0.mk (fun w1 (hb : Below w.heap.size w w1) => New_no E e ws 60 w1 (Kd.C_below hE hb) (by omega) (widB_false hW))
 clear h hL hk hW hE he hC hc hK hkc
 go_enter Try.func13, Try.ntmps13
 go_wp2_with (first | (go_at_call 50; with_reducible refine (HLT.out _ HB0.out).mono ?_; rintro e_ wl ⟨rfl, hb⟩; have HBL := Aside0.mk hb; clear hb) | (go_at_call 52; with_reducible refine (HNW.out _ HBL.out).mono ?_; rintro e_ wn ⟨rfl, hb⟩; have HBN := Aside0.mk (below_step HBL.out hb); clear hb) | (go_at_call 53; with_reducible refine (HWD.out _ HBN.out).mono ?_; rintro e_ wq ⟨rfl, hb⟩; have HBQ := Aside0.mk (below_step HBN.out hb); clear hb) | (go_at_call 51; with_reducible refine (lives_calls _).mono ?_; rintro e_ wz ⟨rfl, hb⟩; have HZ := Aside0.mk (below_step HBQ.out hb); clear hb))
 go_ret
 exact ⟨rfl, HZ.out⟩
set_option maxHeartbeats 1000000 in
set_option maxRecDepth 100000 in
theorem SpanFirst_plays (E : Option Addr) (e : Nat) (ws : List Int) (A : Option Addr) (c : Nat) (ops : List S87) (K : Option Addr) (ck : Nat) (key : List S32) (w : World) (hE : Kd.C (Kd.int .i64) w E ws.length ws) (he : ws.length ≤ e) (hC : Kd.C k87 w A ops.length ops) (hc : ops.length ≤ c) (hK : Kd.C k32 w K key.length key) (hkc : key.length ≤ ck) (h : ¬ 20 < ws.length) (hL : lightB ops = true) (hk : ¬ 10 < key.length) (hW : widB ws 60 = true) (hok : ∀ y ∈ ops, okI (opX y)) (hkv : ∀ z ∈ key, okV z) :
 Calls Try.prog 13 #[.slice E ws.length e, .slice A ops.length c, .slice K key.length ck] w fun e_ w' => e_ = .returned (.bool true) ∧ Below w.heap.size w w' := by
 have HB0 := Aside0.mk (Below.refl w.heap.size w)
 have g1 : decide ((20 : Int) < (ws.length : Int)) = false := decide_eq_false (by omega)
 have g2 : decide ((10 : Int) < (key.length : Int)) = false := decide_eq_false (by omega)
 have HLT := Aside0.mk (fun w1 (hb : Below w.heap.size w w1) => (show Calls Try.prog 50 #[.slice A ops.length c] w1 (fun e_ w' => e_ = .returned (.bool true) ∧ Below w1.heap.size w1 w') from by have := light_calls ops A c w1 (Kd.C_below hC hb) hc; rw [hL] at this; exact this))
 have HNW := Aside0.mk (fun w1 (hb : Below w.heap.size w w1) => New_ok E e ws 60 w1 (Kd.C_below hE hb) he (widB_true hW).1 (widB_true hW).2.1 (widB_true hW).2.2.1 (widB_true hW).2.2.2.1 (widB_true hW).2.2.2.2)
 have HRUN := Aside0.mk (runI_ok ws 60 [] (SI_nil ws.length 60 (by omega)) ops hok)
 have HOKS := Aside0.mk hok
 have HLN := Aside0.mk (light_len hL).1
 have HE := Aside0.mk (fun w1 (hb : Below w.heap.size w w1) => Kd.C_below hE hb)
 have HC := Aside0.mk (fun w1 (hb : Below w.heap.size w w1) => Kd.C_below hC hb)
 have HKY := Aside0.mk (fun w1 (hb : Below w.heap.size w w1) => Kd.C_below hK hb)
 have HEC := Aside0.mk he
 have HKC := Aside0.mk hkc
 have HKV := Aside0.mk hkv
 have HKL := Aside0.mk (show key.length ≤ 1000 from by omega)
 clear h hL hk hW hok hkv hE he hC hc hK hkc
 go_enter Try.func13, Try.ntmps13
 go_wp2_with (first | (go_at_call 50; with_reducible refine (HLT.out _ HB0.out).mono ?_; rintro e_ wl ⟨rfl, hb⟩; have HBL := Aside0.mk hb; clear hb) | (go_at_call 52; with_reducible refine (HNW.out _ HBL.out).mono ?_; rintro e_ wn ⟨g, wv, rfl, hlk⟩; have HS1 := Aside0.mk (SS_new hlk); clear hlk))
 have HT0 := Aside0.mk (show SS wl wn g (.slice none 0 0) wv (.slice none 0 0) (isoT (runI ws 60 [] (ops.take 0))) (runI ws 60 [] (ops.take 0)) ws 60 from by rw [show runI ws 60 [] (ops.take 0) = [] from by rw [List.take_zero]; rfl]; exact HS1.out)
 clear HS1 HB0 HLT HNW
 go_loopw [8, 9] (fun u8 u9 w' => ∃ (i : Nat) (v : Value), i ≤ ops.length ∧ u9 = .int .i64 i ∧ Aside0 (SS wl w' g v wv u8 (isoT (runI ws 60 [] (ops.take i))) (runI ws 60 [] (ops.take i)) ws 60)) (fun _ u9 _ => ops.length - (intOf u9).toNat)
 case atStart => exact ⟨0, _, Nat.zero_le _, rfl, HT0⟩
 case round =>
  obtain ⟨i, v, hi, rfl, HT⟩ := hrel
  clear HT0
  by_cases hlt : i < ops.length
  ·have hl80 := HLN.out
   have hi0 : 0 ≤ (i : Int) := by omega
   have hil : (i : Int) < (ops.length : Int) := by omega
   have HR1 := Aside0.mk (HRUN.out i hi)
   have HR4 := Aside0.mk (show (runI ws 60 [] (ops.take i)).length ≤ 400 from by have h1 := HR1.out.2; have h2 := HLN.out; rw [List.length_nil] at h1; omega)
   have HRS := Aside0.mk (runI_take ws 60 [] ops i hlt)
   obtain ⟨ad, A3, c3, A4, c4, hA, hor, hcl⟩ := op_at (HC.out _ HBL.out) HOKS.out i hlt
   subst hA
   generalize ops[i] = y at hor hcl HRS
   have HO := Aside0.mk (show OR wl A3 c3 A4 c4 ⟨y.f3, y.f4, y.f1, y.f2⟩ from hor)
   have HRS2 := Aside0.mk (show stepL ws 60 (runI ws 60 [] (ops.take i)) y.f0 ⟨y.f3, y.f4, y.f1, y.f2⟩ = (runI ws 60 [] (ops.take (i + 1))) from HRS.out.symm)
   clear hor
   obtain ⟨s0, s1, s2, s3, s4⟩ := hcl _ HT.out.lk.below
   clear hcl
   go_wp2_with (first | (go_at_call 60; with_reducible refine (step_two wl _ g v wv u8 (runI ws 60 [] (ops.take i)) (runI ws 60 [] (ops.take i)) ws 60 E e y.f0 ⟨y.f3, y.f4, y.f1, y.f2⟩ A3 c3 A4 c4 HT.out (HE.out _ HBL.out) HEC.out HO.out HR1.out.1 HR1.out.1 HR4.out HR4.out).mono ?_; rintro e_ w5 ⟨v1, vx1, bb, rfl, hbb, hst⟩; obtain rfl := hbb rfl; rw [HRS2.out] at hst; obtain ⟨Ax, cx, rfl⟩ := Kd.V_slice hst.rx; have HT2 := Aside0.mk hst; clear hst hbb HT; have HT := Aside0.mk HT2.out; clear HT2))
   go_roundw
   case measure => first | (simp [intOf]; done) | (simp [intOf]; omega)
   case rel => exact ⟨i + 1, v1, hlt, by go_num, HT⟩
  ·have hie : i = ops.length := by omega
   have HR1 := HRUN.out i hi
   have hR4 : (runI ws 60 [] (ops.take i)).length ≤ 400 := by have h1 := HR1.2; have h2 := HLN.out; rw [List.length_nil] at h1; omega
   generalize (runI ws 60 [] (ops.take i)) = x at HT HR1 hR4 ⊢
   obtain ⟨Ax, cx, rfl⟩ := Kd.V_slice HT.out.rx
   have HX4 := Aside0.mk hR4
   have HSRT := Aside0.mk (show (isoT x).Pairwise (fun a b => a.f2 ≤ b.f2) from isort_sorted (fun y : S94 => y.f2) (x.map cv))
   have HXR := Aside0.mk HR1.1.iso
   obtain ⟨l, hxx⟩ : ∃ l, l = isoT x := ⟨_, rfl⟩
   have hll : l.length = x.length := by rw [hxx, isoT_length]
   have HLLX := Aside0.mk hll
   rw [← hxx] at HT HSRT HXR
   have HIL := Aside0.mk (show l.length ≤ 1000 from by omega)
   have HIX := Aside0.mk (show ∀ y ∈ l, y.f0.length ≤ 1000 ∧ y.f1.length ≤ 1000 from fun y hy => ⟨(HXR.out y hy).i.la, (HXR.out y hy).i.lb⟩)
   obtain ⟨r, hr⟩ : ∃ r, r = getA (qK key) l := ⟨_, rfl⟩
   obtain ⟨r1, r2, r3⟩ := r
   have HGA := Aside0.mk hr.symm
   have hl80 := HLN.out
   clear HR1 hR4 hie hxx hr hll
   go_wp2_with (first | (go_at_call 56; with_reducible refine (Get_calls wl _ g v wv l ws 60 K ck key HT.out.lk (Kd.C_below (HKY.out _ HBL.out) HT.out.lk.below) HKC.out HKV.out HXR.out HIL.out HKL.out).mono ?_; rintro e_ w4 ⟨rfl, hb⟩; rw [HGA.out]; have HT1 := Aside0.mk (HT.out.step hb); clear hb HT) | (go_at_call 61; with_reducible refine (List_calls wl _ g v wv l ws 60 HT1.out.lk HIX.out HIL.out).mono ?_; rintro e_ w6 ⟨v5, rfl, hr, hb⟩; obtain ⟨Ag, cg, e0⟩ := Kd.R_slice hr; rw [HLLX.out] at e0; subst e0; have HG := Aside0.mk hr; have HB6 := Aside0.mk (below_step HBL.out (HT1.out.step hb).lk.below); clear hr hb HT1))
   clear hi hlt hl80
   have hx4 := HX4.out
   have HG2 := Aside0.mk (show Kd.C k94 w6 Ag l.length l from (Kd.R_reads' HG.out).2.2)
   clear HG
   go_loopw [14] (fun u14 w' => ∃ j : Nat, j ≤ x.length ∧ u14 = .int .i64 j ∧ Aside0 (∀ t, t < j → qK key (rd_T94 l (t : Int)) = false) ∧ Aside0 (Below w6.heap.size w6 w')) (fun u14 _ => x.length - (intOf u14).toNat)
   case atStart => exact ⟨0, Nat.zero_le _, rfl, ⟨fun t ht => by omega⟩, ⟨Below.refl _ _⟩⟩
   case round =>
    obtain ⟨j, hj, rfl, HNO, HB7⟩ := hrel
    by_cases hjt : j < x.length
    ·have hlj : j < l.length := by have := HLLX.out; omega
     have hj0 : 0 ≤ (j : Int) := by omega
     have hjl : (j : Int) < (x.length : Int) := by omega
     obtain ⟨d1, A0, c0, A1, c1, hA1, hs1, hc1⟩ := it_at HG2.out j hlj
     subst hA1
     have HHIT := Aside0.mk (getA_hit (qK key) l j hlj HNO.out)
     rw [rd94 l j hlj] at HHIT
     have HNX := Aside0.mk (fun (hq : qK key l[j] = false) (t : Nat) (ht : t < j + 1) => (show qK key (rd_T94 l (t : Int)) = false from by
      rcases Nat.lt_or_ge t j with c | c
      ·exact HNO.out t c
      ·obtain rfl : t = j := by omega
       rw [rd94 l t hlj]; exact hq))
     have HOY := HXR.out _ (List.getElem_mem hlj)
     have HMY := Aside0.mk (ref22_Meets_eq 2000 key l[j] HKV.out HOY.i (HOY.eb.trans HOY.ea.symm) HKL.out (by have := HKL.out; omega))
     have HPR := Aside0.mk (fun (p : Nat) (hp : p < j) => (show (l[p]'(by omega)).f2 ≤ (l[j]).f2 from List.pairwise_iff_getElem.1 HSRT.out p j (by omega) hlj hp))
     generalize l[j] = y at hs1 hc1 HHIT HNX HOY HMY HPR
     have HC1 := Aside0.mk hc1
     have HQ1 := Aside0.mk hs1
     clear hs1 hc1 HOY
     by_cases hjz : j = 0
     ·have hgt : decide (0 < (j : Int)) = false := decide_eq_false (by omega)
      have hgt2 : decide (0 < j) = false := decide_eq_false (by omega)
      clear hjz
      go_wp2
      refine start_ (n := 16) (S := fun w' => Below w6.heap.size w6 w') (ds := []) #[false, false, false, false, false, false, false, false, false, false, false, false, false, false, false, false] (by kernel_rfl) rfl rfl (below_drew1 HB7.out) (fun hHeld => ?_)
      clear HB7
      generalize World.drew _ = w7 at hHeld ⊢
      refine pl_ [0, 1, 2, 3, 4, 5, 6, 7, 8, 9, 10, 11, 12, 13, 14, 15] ?_
      iterate 3 refine qP rfl rfl ?_
      iterate 12 refine qU rfl rfl ?_
      refine qP rfl rfl ?_
      refine pl0 ?_
      refine done_ (by kernel_rfl) ?_
      have HBC := Aside0.mk hHeld
      clear hHeld hgt hgt2
      obtain ⟨s0, s1, s2, s3⟩ := HC1.out _ HBC.out
      generalize hqv : qK key y = qv at HMY HNX HHIT
      clear hqv
      cases qv with
      | true =>
       have e := HHIT.out rfl
       rw [HGA.out] at e
       injection e with e1 e2
       injection e2 with e2 e3
       subst e1 e2 e3
       clear HHIT HNX
       go_wp2_with (first | (go_at_call 58; with_reducible refine (theirs_calls y A0 c0 A1 c1 _).mono ?_; rintro e_ w8 ⟨rfl, hb⟩; have HB8 := Aside0.mk (below_step HBC.out hb); clear hb s0 s1 s2 s3) | (go_at_call 57; with_reducible refine (shunterref22_Meets.calls 2000 K ck key A0 c0 y.f0 A1 c1 y.f1 y.f2 y.f3 true _ (Kd.C_below (HKY.out _ HB6.out) HB8.out) HKC.out (Kd.C_below HQ1.out.1 HB8.out) HQ1.out.2.1 (Kd.C_below HQ1.out.2.2.1 HB8.out) HQ1.out.2.2.2 HMY.out).mono ?_; rintro e_ w9 ⟨rfl, hb⟩; have HB9 := Aside0.mk (below_step HB8.out hb); clear hb; obtain ⟨s0, s1, s2, s3⟩ := HC1.out _ HB9.out) | (go_at_call 51; with_reducible refine (lives_calls _).mono ?_; rintro e_ wz ⟨rfl, hb⟩; have HZ := Aside0.mk (below_step HB9.out hb); clear hb))
       go_ret
       exact ⟨rfl, below_step HB6.out HZ.out⟩
      | false =>
       have HNO2 := Aside0.mk (HNX.out rfl)
       clear HHIT HNX
       go_wp2_with (first | (go_at_call 58; with_reducible refine (theirs_calls y A0 c0 A1 c1 _).mono ?_; rintro e_ w8 ⟨rfl, hb⟩; have HB8 := Aside0.mk (below_step HBC.out hb); clear hb s0 s1 s2 s3) | (go_at_call 57; with_reducible refine (shunterref22_Meets.calls 2000 K ck key A0 c0 y.f0 A1 c1 y.f1 y.f2 y.f3 false _ (Kd.C_below (HKY.out _ HB6.out) HB8.out) HKC.out (Kd.C_below HQ1.out.1 HB8.out) HQ1.out.2.1 (Kd.C_below HQ1.out.2.2.1 HB8.out) HQ1.out.2.2.2 HMY.out).mono ?_; rintro e_ w9 ⟨rfl, hb⟩; have HB9 := Aside0.mk (below_step HB8.out hb); clear hb; obtain ⟨s0, s1, s2, s3⟩ := HC1.out _ HB9.out))
       go_roundw
       case measure => first | (simp [intOf]; done) | (simp [intOf]; omega)
       case rel => exact ⟨j + 1, hjt, by go_num, HNO2, HB9⟩
     ·obtain ⟨p, hp⟩ : ∃ p, j = p + 1 := ⟨j - 1, by omega⟩
      have hpj : p < j := by omega
      have hpl : p < l.length := by omega
      obtain ⟨d2, A2, c2, A5, c5, hA2, hs2, hc2⟩ := it_at HG2.out p hpl
      injection hA2 with hA2
      subst hA2
      have hzy := HPR.out p hpj
      generalize l[p] = z at hzy hc2
      have HC2 := Aside0.mk hc2
      have hcm : decide (y.f2 < z.f2) = false := decide_eq_false (by omega)
      have hw1 : wrap64 ((j : Int) - 1) = (p : Int) := by rw [hp]; unfold wrap64; omega
      have hp0 : 0 ≤ (p : Int) := by omega
      have hpx : (p : Int) < (x.length : Int) := by omega
      have hgt : decide (0 < (j : Int)) = true := decide_eq_true (by omega)
      have hgt2 : decide (0 < j) = true := decide_eq_true (by omega)
      clear hs2 hc2 hzy hp hjz
      go_wp2
      refine start_ (n := 16) (S := fun w' => Below w6.heap.size w6 w') (ds := []) #[false, false, false, false, false, false, false, false, false, false, false, false, false, false, false, false] (by kernel_rfl) rfl rfl (below_drew1 HB7.out) (fun hHeld => ?_)
      clear HB7
      generalize World.drew _ = w7 at hHeld ⊢
      refine pl_ [0, 1, 2, 3, 4, 5, 6, 8, 9, 10, 11, 12] ?_
      iterate 12 refine qP rfl rfl ?_
      refine pl0 ?_
      refine take_ (i := 7) (N := some 78) (v := ?_) (a' := ?_) #[true, true, true, true, true, true, true, true, true, true, true, true, true, false, false, false] rfl rfl (by kernel_rfl) (fun _ _ _ h => h) (Or.inl ⟨by rfl, ?_⟩) hHeld ?_ ?_
      rotate_left
      ·intro w' hs
       obtain ⟨s0, s1, s2, s3⟩ := HC1.out w' hs
       go_simp
       with_reducible rfl
      rotate_left
      ·simp only [Act.put, List.setIfInBounds_toArray, List.set_cons_zero, List.set_cons_succ, i64_w, i32_w]
       rfl
      refine take_ (i := 13) (N := some 84) (v := ?_) (a' := ?_) #[true, true, true, true, true, true, true, true, true, true, true, true, true, true, false, false] rfl rfl (by kernel_rfl) (fun _ _ _ h => h) (Or.inl ⟨by rfl, ?_⟩) hHeld ?_ ?_
      rotate_left
      ·intro w' hs
       obtain ⟨s0, s1, s2, s3⟩ := HC2.out w' hs
       go_simp
       with_reducible rfl
      rotate_left
      ·simp only [Act.put, List.setIfInBounds_toArray, List.set_cons_zero, List.set_cons_succ, i64_w, i32_w]
       rfl
      refine pl_ [14, 15] ?_
      iterate 2 refine qP rfl rfl ?_
      refine pl0 ?_
      refine done_ (by kernel_rfl) ?_
      have HBC := Aside0.mk hHeld
      clear hHeld hw1 hcm hgt hgt2
      obtain ⟨s0, s1, s2, s3⟩ := HC1.out _ HBC.out
      generalize hqv : qK key y = qv at HMY HNX HHIT
      clear hqv
      cases qv with
      | true =>
       have e := HHIT.out rfl
       rw [HGA.out] at e
       injection e with e1 e2
       injection e2 with e2 e3
       subst e1 e2 e3
       clear HHIT HNX
       go_wp2_with (first | (go_at_call 58; with_reducible refine (theirs_calls y A0 c0 A1 c1 _).mono ?_; rintro e_ w8 ⟨rfl, hb⟩; have HB8 := Aside0.mk (below_step HBC.out hb); clear hb s0 s1 s2 s3) | (go_at_call 57; with_reducible refine (shunterref22_Meets.calls 2000 K ck key A0 c0 y.f0 A1 c1 y.f1 y.f2 y.f3 true _ (Kd.C_below (HKY.out _ HB6.out) HB8.out) HKC.out (Kd.C_below HQ1.out.1 HB8.out) HQ1.out.2.1 (Kd.C_below HQ1.out.2.2.1 HB8.out) HQ1.out.2.2.2 HMY.out).mono ?_; rintro e_ w9 ⟨rfl, hb⟩; have HB9 := Aside0.mk (below_step HB8.out hb); clear hb; obtain ⟨s0, s1, s2, s3⟩ := HC1.out _ HB9.out) | (go_at_call 51; with_reducible refine (lives_calls _).mono ?_; rintro e_ wz ⟨rfl, hb⟩; have HZ := Aside0.mk (below_step HB9.out hb); clear hb))
       go_ret
       exact ⟨rfl, below_step HB6.out HZ.out⟩
      | false =>
       have HNO2 := Aside0.mk (HNX.out rfl)
       clear HHIT HNX
       go_wp2_with (first | (go_at_call 58; with_reducible refine (theirs_calls y A0 c0 A1 c1 _).mono ?_; rintro e_ w8 ⟨rfl, hb⟩; have HB8 := Aside0.mk (below_step HBC.out hb); clear hb s0 s1 s2 s3) | (go_at_call 57; with_reducible refine (shunterref22_Meets.calls 2000 K ck key A0 c0 y.f0 A1 c1 y.f1 y.f2 y.f3 false _ (Kd.C_below (HKY.out _ HB6.out) HB8.out) HKC.out (Kd.C_below HQ1.out.1 HB8.out) HQ1.out.2.1 (Kd.C_below HQ1.out.2.2.1 HB8.out) HQ1.out.2.2.2 HMY.out).mono ?_; rintro e_ w9 ⟨rfl, hb⟩; have HB9 := Aside0.mk (below_step HB8.out hb); clear hb; obtain ⟨s0, s1, s2, s3⟩ := HC1.out _ HB9.out))
       go_roundw
       case measure => first | (simp [intOf]; done) | (simp [intOf]; omega)
       case rel => exact ⟨j + 1, hjt, by go_num, HNO2, HB9⟩
    ·have hje : j = x.length := by omega
     subst hje
     have e := getA_miss (qK key) l (fun t ht => HNO.out t (by have := HLLX.out; omega))
     rw [HGA.out] at e
     injection e with e1 e2
     injection e2 with e2 e3
     subst e1 e2 e3
     go_wp2_with (first | (go_at_call 51; with_reducible refine (lives_calls _).mono ?_; rintro e_ w8 ⟨rfl, hb⟩; have HZ := Aside0.mk (below_step HB7.out hb); clear hb))
     go_ret
     exact ⟨rfl, below_step HB6.out HZ.out⟩
theorem SpanFirst_true (E : Option Addr) (e : Nat) (ws : List Int) (A : Option Addr) (c : Nat) (ops : List S87) (K : Option Addr) (ck : Nat) (key : List S32) (w : World) (hE : Kd.C (Kd.int .i64) w E ws.length ws) (he : ws.length ≤ e) (hC : Kd.C k87 w A ops.length ops) (hc : ops.length ≤ c) (hK : Kd.C k32 w K key.length key) (hkc : key.length ≤ ck) (hv : ∀ y ∈ ops, (∀ z ∈ y.f3, okV z) ∧ (∀ z ∈ y.f4, okV z)) (hkv : ∀ z ∈ key, okV z) :
 Calls Try.prog 13 #[.slice E ws.length e, .slice A ops.length c, .slice K key.length ck] w fun e_ w' => e_ = .returned (.bool true) ∧ Below w.heap.size w w' := by
 by_cases h : 20 < ws.length
 ·exact SpanFirst_wide E e ws A c ops K ck key w hE he hC hc hK hkc h
 ·cases hL : lightB ops with
  | false => exact SpanFirst_heavy E e ws A c ops K ck key w hE he hC hc hK hkc h hL
  | true =>
   by_cases hk : 10 < key.length
   ·exact SpanFirst_long E e ws A c ops K ck key w hE he hC hc hK hkc h hL hk
   ·cases hW : widB ws 60 with
    | false => exact SpanFirst_none E e ws A c ops K ck key w hE he hC hc hK hkc h hL hk hW
    | true => exact SpanFirst_plays E e ws A c ops K ck key w hE he hC hc hK hkc h hL hk hW (fun y hy => ⟨(hv y hy).1, (hv y hy).2, (show y.f3.length ≤ 1000 by have := ((light_len hL).2 y hy).1; omega), (show y.f4.length ≤ 1000 by have := ((light_len hL).2 y hy).2; omega)⟩) hkv
end Go.Proofs.Ytfdbcnbakchcgaa.XQ
