import Derived.Test.YtfdbcnbakchcgaaSv
import Derived.Test.YtfdbcnbakchcgaaXQx0
import Derived.Test.YtfdbcnbakchcgaaXQx10
namespace Go.Proofs.Ytfdbcnbakchcgaa.XQ
open Go.RowKit Go.Proofs.YtfdbcnbakchcgaaW.PrintWords Go.Proofs.YtfdbcnbakchcgaaW.PrintLast Go.Proofs.YtfdbcnbakchcgaaW.PrintMore
attribute [local go_sem] max2_int min2_int max_two min_two max_three min_three max_four min_four
set_option linter.unusedVariables false
set_option linter.unusedSimpArgs false
def shunterref22_Get.l0 : Nat → List (S99) → List (S32) → Int → Int → Option (Int)
 | 0, _, _, _, _ => none
 | k + 1, x0, x1, x5, x6 => if x6 < (x0.length : Int) then (if 0 ≤ x6 then ((shunterref22_Meets.f k x1 ((rd_T99 x0 x6).f0) ((rd_T99 x0 x6).f1) ((rd_T99 x0 x6).f2) ((rd_T99 x0 x6).f3)).bind fun t275 => (if t275 = true then (if x5 < 0 then (shunterref22_Get.l0 k x0 x1 x6 (wrap64 (x6 + 1))) else (if 0 ≤ x5 then (if x5 < (x0.length : Int) then (if ((rd_T99 x0 x6).f2) < ((rd_T99 x0 x5).f2) then (shunterref22_Get.l0 k x0 x1 x6 (wrap64 (x6 + 1))) else (shunterref22_Get.l0 k x0 x1 x5 (wrap64 (x6 + 1)))) else (none)) else (none))) else (shunterref22_Get.l0 k x0 x1 x5 (wrap64 (x6 + 1))))) else (none)) else (some x5)
def shunterref22_Get.f (k : Nat) (l0 : List (S99)) (l1 : List (S32)) : Option (Int) := shunterref22_Get.l0 k l0 l1 (-1) 0
theorem shunterref22_Get.mono_l : ∀ k, (∀ y0 y1 y2 y3, LeO (shunterref22_Get.l0 k y0 y1 y2 y3) (shunterref22_Get.l0 (k + 1) y0 y1 y2 y3))
 | 0 => fun _ _ _ _ r h => by simp [shunterref22_Get.l0] at h
 | k + 1 => by
  have ih0 := shunterref22_Get.mono_l k
  ·intro y0 y1 y2 y3
   unfold shunterref22_Get.l0
   repeat' first
   | (with_reducible exact ih0 _ _ _ _)
   | (with_reducible exact shunterref22_Meets.mono _ _ _ _ _ _)
   | (with_reducible exact LeO.refl _)
   | (with_reducible exact LeO.none _)
   | (with_reducible refine LeO.ite ?_ ?_)
   | (with_reducible refine LeO.bind ?_ (fun _ => ?_))
   | exact ih0 _ _ _ _
   | exact shunterref22_Meets.mono _ _ _ _ _ _
   | exact LeO.none _
   | refine LeO.ite ?_ ?_
   | refine LeO.bind ?_ (fun _ => ?_)
theorem shunterref22_Get.mono : ∀ a0 a1 k, LeO (shunterref22_Get.f k a0 a1) (shunterref22_Get.f (k + 1) a0 a1) := by
 intro a0 a1 k
 have ih0 := shunterref22_Get.mono_l k
 unfold shunterref22_Get.f
 repeat' first
  | (with_reducible exact ih0 _ _ _ _)
  | (with_reducible exact shunterref22_Meets.mono _ _ _ _ _ _)
  | (with_reducible exact LeO.refl _)
  | (with_reducible exact LeO.none _)
  | (with_reducible refine LeO.ite ?_ ?_)
  | (with_reducible refine LeO.bind ?_ (fun _ => ?_))
  | exact ih0 _ _ _ _
  | exact shunterref22_Meets.mono _ _ _ _ _ _
  | exact LeO.none _
  | refine LeO.ite ?_ ?_
  | refine LeO.bind ?_ (fun _ => ?_)
def shunterref22_Get.T5 : Bool × List (List Nat × List Nat) := (true, [([], []), ([], []), ([], []), ([1, 2], [1, 2]), ([3], [3]), ([0, 4], [0, 4]), ([5, 5], [5]), ([6], [6]), ([7, 6], [6, 7]), ([8, 6, 6], [6, 8]), ([9], [9]), ([9], [9]), ([10, 11, 9], [9, 10, 11]), ([12, 9], [9, 12]), ([13, 9], [9, 13]), ([9], [9]), ([9], [9]), ([15, 16, 9], [9, 15, 16]), ([17, 9], [9, 17]), ([18, 9], [9, 18]), ([14, 19, 9], [9, 14, 19]), ([9, 20, 6], [6, 9, 20]), ([6, 21], [6, 21])])
def shunterref22_Get.B5 : List Nat := [0, 0, 0, 6, 14, 31, 63, 127, 255, 511, 1023, 1023, 4095, 8191, 16383, 1023, 1023, 99327, 230399, 492543, 1048575, 2097151, 4194303]
theorem shunterref22_Get.tab5 : rtab .any (opsOf Try.f117 5) = shunterref22_Get.T5 := by kernel_rfl
theorem shunterref22_Get.bits5 : waitsOk shunterref22_Get.T5.2 shunterref22_Get.B5 = true := by kernel_rfl
set_option maxHeartbeats 8000000 in
set_option maxRecDepth 100000 in
theorem shunterref22_Get.calls (k : Nat) (A0 : Option Addr) (c0 : Nat) (l0 : List (S99)) (A1 : Option Addr) (c1 : Nat) (l1 : List (S32)) (r : Int) (w : World) (hr0 : Kd.C k99 w A0 l0.length l0) (hc0 : l0.length ≤ c0) (hr1 : Kd.C k32 w A1 l1.length l1) (hc1 : l1.length ≤ c1) (h : shunterref22_Get.f k l0 l1 = some r) :
 Calls Try.prog 117 #[.slice A0 l0.length c0, .slice A1 l1.length c1] w fun e w' => e = .returned (.int .i64 r) ∧ Below w.heap.size w w' := by
 have hu99 := Try.underlying99
 have HR0 := Aside0.mk hr0
 have HC0 := Aside0.mk hc0
 clear hr0 hc0
 have HR1 := Aside0.mk hr1
 have HC1 := Aside0.mk hc1
 clear hr1 hc1
 have HB := Aside0.mk (Below.refl w.heap.size w)
 have H : (shunterref22_Get.l0 k l0 l1 (-1) 0) = some r := h
 clear h
 have H' := Aside0.mk H
 clear H
 go_enter Try.func117, Try.ntmps117
 go_wp2
 go_loopg [5, 6] k (fun kq v5 v6 w' => ∃ (x5_1 : Int) (x6_1 : Int), v5 = .int .i64 x5_1 ∧ v6 = .int .i64 x6_1 ∧ Aside0 (shunterref22_Get.l0 kq l0 l1 x5_1 x6_1 = some r) ∧ Aside0 (kq ≤ k) ∧ Aside0 (Below w.heap.size w w'))
 case atStart => exact ⟨((-1)), (0), (by first | rfl | (simp; done) | (simp [*]; done)), (by first | rfl | (simp; done) | (simp [*]; done)), H', ⟨Nat.le_refl _⟩, ⟨by repeat (first | (with_reducible first | exact HB.out | apply below_alloc | apply pw_below_drewN | apply below_drew1) | exact HB.out)⟩⟩
 case round =>
  clear H'
  try clear c1
  try clear p2
  obtain ⟨x5_1, x6_1, rfl, rfl, HA, HK1, HB⟩ := hrel
  cases gk with
  | zero => exact absurd HA.out (by simp [shunterref22_Get.l0])
  | succ k1 =>
   have H := HA.out
   clear HA
   simp only [shunterref22_Get.l0] at H
   by_cases c3 : x6_1 < (l0.length : Int)
   ·rw [if_pos c3] at H
    have c3b0 : decide (x6_1 < (l0.length : Int)) = true := decide_eq_true c3
    clear c3
    by_cases c4 : 0 ≤ x6_1
    ·rw [if_pos c4] at H
     have c4b0 : decide (0 ≤ x6_1) = true := decide_eq_true c4
     clear c4
     replace H := Option.bind_eq_some_iff.mp H
     obtain ⟨t275, A50, H⟩ := H
     replace H : (if t275 = true then (if x5_1 < 0 then (shunterref22_Get.l0 k1 l0 l1 x6_1 (wrap64 (x6_1 + 1))) else (if 0 ≤ x5_1 then (if x5_1 < (l0.length : Int) then (if ((rd_T99 l0 x6_1).f2) < ((rd_T99 l0 x5_1).f2) then (shunterref22_Get.l0 k1 l0 l1 x6_1 (wrap64 (x6_1 + 1))) else (shunterref22_Get.l0 k1 l0 l1 x5_1 (wrap64 (x6_1 + 1)))) else (none)) else (none))) else (shunterref22_Get.l0 k1 l0 l1 x5_1 (wrap64 (x6_1 + 1)))) = some r := H
     have A5 := Aside0.mk A50
     clear A50
     by_cases c6 : t275 = true
     ·subst c6
      have H1 : (if x5_1 < 0 then (shunterref22_Get.l0 k1 l0 l1 x6_1 (wrap64 (x6_1 + 1))) else (if 0 ≤ x5_1 then (if x5_1 < (l0.length : Int) then (if ((rd_T99 l0 x6_1).f2) < ((rd_T99 l0 x5_1).f2) then (shunterref22_Get.l0 k1 l0 l1 x6_1 (wrap64 (x6_1 + 1))) else (shunterref22_Get.l0 k1 l0 l1 x5_1 (wrap64 (x6_1 + 1)))) else (none)) else (none))) = some r := by rw [if_pos rfl] at H; exact H
      clear H
      have H := H1
      clear H1
      by_cases c7 : x5_1 < 0
      ·rw [if_pos c7] at H
       have c7b0 : decide (x5_1 < 0) = true := decide_eq_true c7
       clear c7
       have H' := Aside0.mk H
       clear H
       try go_wp2
       replace HB := Aside0.mk (below_drew1 HB.out)
       have p274 : 0 ≤ (x6_1 : Int) := of_decide_eq_true (by first | (with_reducible assumption) | assumption)
       have q274 : x6_1 < (l0.length : Int) := of_decide_eq_true (by first | (with_reducible assumption) | assumption)
       obtain ⟨ad274, A274_0, c274_0, A274_1, c274_1, e274, hx274_0, hx274_1, hx274_2, hx274_3, hl274_0, hi274_0, hl274_1, hi274_1⟩ := at_T99 HR0.out x6_1 p274 q274
       have hw274_3 := hx274_3
       have hw274_2 := hx274_2
       have hw274_1 := hx274_1
       have hw274_0 := hx274_0
       cases e274
       replace hx274_0 := (HB.out.cell (World.block_lt_of_cell? w _ hx274_0)).trans hx274_0
       replace hx274_1 := (HB.out.cell (World.block_lt_of_cell? w _ hx274_1)).trans hx274_1
       replace hx274_2 := (HB.out.cell (World.block_lt_of_cell? w _ hx274_2)).trans hx274_2
       replace hx274_3 := (HB.out.cell (World.block_lt_of_cell? w _ hx274_3)).trans hx274_3
       have HR274_0 := Aside0.mk hi274_0
       have HC274_0 := Aside0.mk hl274_0
       clear hi274_0 hl274_0
       have HR274_1 := Aside0.mk hi274_1
       have HC274_1 := Aside0.mk hl274_1
       clear hi274_1 hl274_1
       replace p274 := eq_true p274
       replace q274 := eq_true q274
       refine start_ (n := 23) (S := fun w' => w'.cell? (ad274.add ((x6_1).toNat * 4)) = some (.slice A274_0 ((rd_T99 l0 x6_1).f0).length c274_0) ∧ w'.cell? ⟨(ad274.add ((x6_1).toNat * 4)).block, (ad274.add ((x6_1).toNat * 4)).off + 1, none⟩ = some (.slice A274_1 ((rd_T99 l0 x6_1).f1).length c274_1) ∧ w'.cell? ⟨(ad274.add ((x6_1).toNat * 4)).block, (ad274.add ((x6_1).toNat * 4)).off + 2, none⟩ = some (.int .i64 ((rd_T99 l0 x6_1).f2)) ∧ w'.cell? ⟨(ad274.add ((x6_1).toNat * 4)).block, (ad274.add ((x6_1).toNat * 4)).off + 3, none⟩ = some (.int .i64 ((rd_T99 l0 x6_1).f3))) (ds := []) #[false, false, false, false, false, false, false, false, false, false, false, false, false, false, false, false, false, false, false, false, false, false, false] (by kernel_rfl) rfl rfl ⟨((HB.out.cell (World.block_lt_of_cell? w _ hw274_0)).trans hw274_0), ((HB.out.cell (World.block_lt_of_cell? w _ hw274_1)).trans hw274_1), ((HB.out.cell (World.block_lt_of_cell? w _ hw274_2)).trans hw274_2), ((HB.out.cell (World.block_lt_of_cell? w _ hw274_3)).trans hw274_3)⟩ (fun hHeld => ?_); refine with_tabW shunterref22_Get.tab5 shunterref22_Get.bits5 (fun HT_ HW_ => ?_)
       generalize wr.drew = w8 at HB HR274_0 HR274_1 hx274_0 hx274_1 hx274_2 hx274_3 hHeld ⊢
       refine pl_ [0, 1, 2, 3, 4] ?_
       iterate 4 refine qP rfl rfl ?_ (hc := any_of HT_.out (by kernel_rfl))
       refine yT hHeld rfl rfl ?_ (by rintro w' ⟨s0, s1, s2, s3⟩; go_simp; with_reducible rfl) (hc := take_ofW HT_.out HW_.out (by kernel_rfl))
       refine pl0 ?_
       refine one_ (i := 5) (N := some 18) #[true, true, true, true, true, true, false, false, false, false, false, false, false, false, false, false, false, false, false, false, false, false, false] rfl rfl (one_of HT_.out (by kernel_rfl)) (by decide) (fun K hK => ?_)
       refine goes_ Try.func57 (by kernel_rfl) rfl #[.slice A1 l1.length c1, .agg #[.slice A274_0 ((rd_T99 l0 x6_1).f0).length c274_0, .slice A274_1 ((rd_T99 l0 x6_1).f1).length c274_1, .int .i64 ((rd_T99 l0 x6_1).f2), .int .i64 ((rd_T99 l0 x6_1).f3)]] (by rfl) rfl rfl (by (try simp only [List.map_toArray, List.map_cons, List.map_nil]); first | done | rfl | (simp only [List.length_drop, List.length_take]; rfl)) ?_
       with_reducible refine (shunterref22_Meets.calls k1 _ _ l1 _ _ ((rd_T99 l0 x6_1).f0) _ _ ((rd_T99 l0 x6_1).f1) ((rd_T99 l0 x6_1).f2) ((rd_T99 l0 x6_1).f3) true _ ?side1 ?side2 ?side3 ?side4 ?side5 ?side6 A5.out).mono ?_
       (case side1 => repeat (first | exact (Kd.C_below HR1.out HB.out) | (with_reducible refine Kd.C_alloc ?_ _) | (with_reducible refine Kd.C_drewN ?_ _) | (with_reducible refine Kd.C_drew ?_)))
       (case side2 => exact HC1.out)
       (case side3 => repeat (first | exact (Kd.C_below HR274_0.out HB.out) | (with_reducible refine Kd.C_alloc ?_ _) | (with_reducible refine Kd.C_drewN ?_ _) | (with_reducible refine Kd.C_drew ?_)))
       (case side4 => exact HC274_0.out)
       (case side5 => repeat (first | exact (Kd.C_below HR274_1.out HB.out) | (with_reducible refine Kd.C_alloc ?_ _) | (with_reducible refine Kd.C_drewN ?_ _) | (with_reducible refine Kd.C_drew ?_)))
       (case side6 => exact HC274_1.out)
       rintro e w9 ⟨rfl, hb⟩
       refine ⟨_, rfl, ?_⟩
       replace HB := Aside0.mk (below_step (by repeat (first | (with_reducible first | exact HB.out | apply below_alloc | apply pw_below_drewN | apply below_drew1) | exact HB.out)) hb)
       (try clear hb)
       (try clear hb2)
       (try clear hk)
       (try clear hi)
       refine hK.out _ _ ⟨((HB.out.cell (World.block_lt_of_cell? w _ hw274_0)).trans hw274_0), ((HB.out.cell (World.block_lt_of_cell? w _ hw274_1)).trans hw274_1), ((HB.out.cell (World.block_lt_of_cell? w _ hw274_2)).trans hw274_2), ((HB.out.cell (World.block_lt_of_cell? w _ hw274_3)).trans hw274_3)⟩ (fun hHeld => ?_)
       clear hK K
       refine norm_ (a' := ?_) ?_ ?_
       rotate_left
       ·show Act.put _ (some 18) _ = _
        simp only [Act.put, List.setIfInBounds_toArray, List.set_cons_zero, List.set_cons_succ, i64_w, i32_w]
        rfl
       refine pl_ [6, 7, 8, 9, 10, 11, 12, 13, 14, 15, 16, 17, 18, 19, 20, 21, 22] ?_
       iterate 4 refine qP rfl rfl ?_ (hc := any_of HT_.out (by kernel_rfl))
       iterate 11 refine qU rfl rfl ?_ (hc := any_of HT_.out (by kernel_rfl))
       iterate 2 refine qP rfl rfl ?_ (hc := any_of HT_.out (by kernel_rfl))
       refine pl0 ?_
       refine done_ (done_of HT_.out (by kernel_rfl)) ?_
       try go_wp2
       go_roundg k1
       case measure => have := HK1.out; omega
       case rel => exact ⟨(x6_1), (wrap64 (x6_1 + 1)), (by first | rfl | (simp; done) | (simp [*]; done)), (by first | rfl | (simp; done) | (simp [*]; done)), H', ⟨by have := HK1.out; omega⟩, ⟨by repeat (first | (with_reducible first | exact HB.out | apply below_alloc | apply pw_below_drewN | apply below_drew1) | exact HB.out)⟩⟩
      ·rw [if_neg c7] at H
       have c7b0 : decide (x5_1 < 0) = false := decide_eq_false c7
       clear c7
       by_cases c10 : 0 ≤ x5_1
       ·rw [if_pos c10] at H
        have c10b0 : decide (0 ≤ x5_1) = true := decide_eq_true c10
        clear c10
        by_cases c11 : x5_1 < (l0.length : Int)
        ·rw [if_pos c11] at H
         have c11b0 : decide (x5_1 < (l0.length : Int)) = true := decide_eq_true c11
         clear c11
         by_cases c12 : ((rd_T99 l0 x6_1).f2) < ((rd_T99 l0 x5_1).f2)
         ·rw [if_pos c12] at H
          have c12b0 : decide (((rd_T99 l0 x6_1).f2) < ((rd_T99 l0 x5_1).f2)) = true := decide_eq_true c12
          clear c12
          have H' := Aside0.mk H
          clear H
          try go_wp2
          replace HB := Aside0.mk (below_drew1 HB.out)
          have p274 : 0 ≤ (x6_1 : Int) := of_decide_eq_true (by first | (with_reducible assumption) | assumption)
          have q274 : x6_1 < (l0.length : Int) := of_decide_eq_true (by first | (with_reducible assumption) | assumption)
          obtain ⟨ad274, A274_0, c274_0, A274_1, c274_1, e274, hx274_0, hx274_1, hx274_2, hx274_3, hl274_0, hi274_0, hl274_1, hi274_1⟩ := at_T99 HR0.out x6_1 p274 q274
          have hw274_3 := hx274_3
          have hw274_2 := hx274_2
          have hw274_1 := hx274_1
          have hw274_0 := hx274_0
          cases e274
          replace hx274_0 := (HB.out.cell (World.block_lt_of_cell? w _ hx274_0)).trans hx274_0
          replace hx274_1 := (HB.out.cell (World.block_lt_of_cell? w _ hx274_1)).trans hx274_1
          replace hx274_2 := (HB.out.cell (World.block_lt_of_cell? w _ hx274_2)).trans hx274_2
          replace hx274_3 := (HB.out.cell (World.block_lt_of_cell? w _ hx274_3)).trans hx274_3
          have HR274_0 := Aside0.mk hi274_0
          have HC274_0 := Aside0.mk hl274_0
          clear hi274_0 hl274_0
          have HR274_1 := Aside0.mk hi274_1
          have HC274_1 := Aside0.mk hl274_1
          clear hi274_1 hl274_1
          replace p274 := eq_true p274
          replace q274 := eq_true q274
          have p276 : 0 ≤ (x6_1 : Int) := of_decide_eq_true (by first | (with_reducible assumption) | assumption)
          have q276 : x6_1 < (l0.length : Int) := of_decide_eq_true (by first | (with_reducible assumption) | assumption)
          obtain ⟨ad276, A276_0, c276_0, A276_1, c276_1, e276, hx276_0, hx276_1, hx276_2, hx276_3, hl276_0, hi276_0, hl276_1, hi276_1⟩ := at_T99 HR0.out x6_1 p276 q276
          have hw276_3 := hx276_3
          have hw276_2 := hx276_2
          have hw276_1 := hx276_1
          have hw276_0 := hx276_0
          obtain rfl : ad274 = ad276 := (by injection e276)
          replace hx276_0 := (HB.out.cell (World.block_lt_of_cell? w _ hx276_0)).trans hx276_0
          replace hx276_1 := (HB.out.cell (World.block_lt_of_cell? w _ hx276_1)).trans hx276_1
          replace hx276_2 := (HB.out.cell (World.block_lt_of_cell? w _ hx276_2)).trans hx276_2
          replace hx276_3 := (HB.out.cell (World.block_lt_of_cell? w _ hx276_3)).trans hx276_3
          have HR276_0 := Aside0.mk hi276_0
          have HC276_0 := Aside0.mk hl276_0
          clear hi276_0 hl276_0
          have HR276_1 := Aside0.mk hi276_1
          have HC276_1 := Aside0.mk hl276_1
          clear hi276_1 hl276_1
          replace p276 := eq_true p276
          replace q276 := eq_true q276
          have p277 : 0 ≤ (x5_1 : Int) := of_decide_eq_true (by first | (with_reducible assumption) | assumption)
          have q277 : x5_1 < (l0.length : Int) := of_decide_eq_true (by first | (with_reducible assumption) | assumption)
          obtain ⟨ad277, A277_0, c277_0, A277_1, c277_1, e277, hx277_0, hx277_1, hx277_2, hx277_3, hl277_0, hi277_0, hl277_1, hi277_1⟩ := at_T99 HR0.out x5_1 p277 q277
          have hw277_3 := hx277_3
          have hw277_2 := hx277_2
          have hw277_1 := hx277_1
          have hw277_0 := hx277_0
          obtain rfl : ad274 = ad277 := (by injection e277)
          replace hx277_0 := (HB.out.cell (World.block_lt_of_cell? w _ hx277_0)).trans hx277_0
          replace hx277_1 := (HB.out.cell (World.block_lt_of_cell? w _ hx277_1)).trans hx277_1
          replace hx277_2 := (HB.out.cell (World.block_lt_of_cell? w _ hx277_2)).trans hx277_2
          replace hx277_3 := (HB.out.cell (World.block_lt_of_cell? w _ hx277_3)).trans hx277_3
          have HR277_0 := Aside0.mk hi277_0
          have HC277_0 := Aside0.mk hl277_0
          clear hi277_0 hl277_0
          have HR277_1 := Aside0.mk hi277_1
          have HC277_1 := Aside0.mk hl277_1
          clear hi277_1 hl277_1
          replace p277 := eq_true p277
          replace q277 := eq_true q277
          refine start_ (n := 23) (S := fun w' => w'.cell? (ad274.add ((x6_1).toNat * 4)) = some (.slice A274_0 ((rd_T99 l0 x6_1).f0).length c274_0) ∧ w'.cell? ⟨(ad274.add ((x6_1).toNat * 4)).block, (ad274.add ((x6_1).toNat * 4)).off + 1, none⟩ = some (.slice A274_1 ((rd_T99 l0 x6_1).f1).length c274_1) ∧ w'.cell? ⟨(ad274.add ((x6_1).toNat * 4)).block, (ad274.add ((x6_1).toNat * 4)).off + 2, none⟩ = some (.int .i64 ((rd_T99 l0 x6_1).f2)) ∧ w'.cell? ⟨(ad274.add ((x6_1).toNat * 4)).block, (ad274.add ((x6_1).toNat * 4)).off + 3, none⟩ = some (.int .i64 ((rd_T99 l0 x6_1).f3)) ∧ w'.cell? (ad274.add ((x6_1).toNat * 4)) = some (.slice A276_0 ((rd_T99 l0 x6_1).f0).length c276_0) ∧ w'.cell? ⟨(ad274.add ((x6_1).toNat * 4)).block, (ad274.add ((x6_1).toNat * 4)).off + 1, none⟩ = some (.slice A276_1 ((rd_T99 l0 x6_1).f1).length c276_1) ∧ w'.cell? ⟨(ad274.add ((x6_1).toNat * 4)).block, (ad274.add ((x6_1).toNat * 4)).off + 2, none⟩ = some (.int .i64 ((rd_T99 l0 x6_1).f2)) ∧ w'.cell? ⟨(ad274.add ((x6_1).toNat * 4)).block, (ad274.add ((x6_1).toNat * 4)).off + 3, none⟩ = some (.int .i64 ((rd_T99 l0 x6_1).f3)) ∧ w'.cell? (ad274.add ((x5_1).toNat * 4)) = some (.slice A277_0 ((rd_T99 l0 x5_1).f0).length c277_0) ∧ w'.cell? ⟨(ad274.add ((x5_1).toNat * 4)).block, (ad274.add ((x5_1).toNat * 4)).off + 1, none⟩ = some (.slice A277_1 ((rd_T99 l0 x5_1).f1).length c277_1) ∧ w'.cell? ⟨(ad274.add ((x5_1).toNat * 4)).block, (ad274.add ((x5_1).toNat * 4)).off + 2, none⟩ = some (.int .i64 ((rd_T99 l0 x5_1).f2)) ∧ w'.cell? ⟨(ad274.add ((x5_1).toNat * 4)).block, (ad274.add ((x5_1).toNat * 4)).off + 3, none⟩ = some (.int .i64 ((rd_T99 l0 x5_1).f3))) (ds := []) #[false, false, false, false, false, false, false, false, false, false, false, false, false, false, false, false, false, false, false, false, false, false, false] (by kernel_rfl) rfl rfl ⟨((HB.out.cell (World.block_lt_of_cell? w _ hw274_0)).trans hw274_0), ((HB.out.cell (World.block_lt_of_cell? w _ hw274_1)).trans hw274_1), ((HB.out.cell (World.block_lt_of_cell? w _ hw274_2)).trans hw274_2), ((HB.out.cell (World.block_lt_of_cell? w _ hw274_3)).trans hw274_3), ((HB.out.cell (World.block_lt_of_cell? w _ hw276_0)).trans hw276_0), ((HB.out.cell (World.block_lt_of_cell? w _ hw276_1)).trans hw276_1), ((HB.out.cell (World.block_lt_of_cell? w _ hw276_2)).trans hw276_2), ((HB.out.cell (World.block_lt_of_cell? w _ hw276_3)).trans hw276_3), ((HB.out.cell (World.block_lt_of_cell? w _ hw277_0)).trans hw277_0), ((HB.out.cell (World.block_lt_of_cell? w _ hw277_1)).trans hw277_1), ((HB.out.cell (World.block_lt_of_cell? w _ hw277_2)).trans hw277_2), ((HB.out.cell (World.block_lt_of_cell? w _ hw277_3)).trans hw277_3)⟩ (fun hHeld => ?_); refine with_tabW shunterref22_Get.tab5 shunterref22_Get.bits5 (fun HT_ HW_ => ?_)
          generalize wr.drew = w13 at HB HR274_0 HR274_1 HR276_0 HR276_1 HR277_0 HR277_1 hx274_0 hx274_1 hx274_2 hx274_3 hx276_0 hx276_1 hx276_2 hx276_3 hx277_0 hx277_1 hx277_2 hx277_3 hHeld ⊢
          refine pl_ [0, 1, 2, 3, 4] ?_
          iterate 4 refine qP rfl rfl ?_ (hc := any_of HT_.out (by kernel_rfl))
          refine yT hHeld rfl rfl ?_ (by rintro w' ⟨s0, s1, s2, s3, s4, s5, s6, s7, s8, s9, s10, s11⟩; go_simp; with_reducible rfl) (hc := take_ofW HT_.out HW_.out (by kernel_rfl))
          refine pl0 ?_
          refine one_ (i := 5) (N := some 18) #[true, true, true, true, true, true, false, false, false, false, false, false, false, false, false, false, false, false, false, false, false, false, false] rfl rfl (one_of HT_.out (by kernel_rfl)) (by decide) (fun K hK => ?_)
          refine goes_ Try.func57 (by kernel_rfl) rfl #[.slice A1 l1.length c1, .agg #[.slice A274_0 ((rd_T99 l0 x6_1).f0).length c274_0, .slice A274_1 ((rd_T99 l0 x6_1).f1).length c274_1, .int .i64 ((rd_T99 l0 x6_1).f2), .int .i64 ((rd_T99 l0 x6_1).f3)]] (by rfl) rfl rfl (by (try simp only [List.map_toArray, List.map_cons, List.map_nil]); first | done | rfl | (simp only [List.length_drop, List.length_take]; rfl)) ?_
          with_reducible refine (shunterref22_Meets.calls k1 _ _ l1 _ _ ((rd_T99 l0 x6_1).f0) _ _ ((rd_T99 l0 x6_1).f1) ((rd_T99 l0 x6_1).f2) ((rd_T99 l0 x6_1).f3) true _ ?side1 ?side2 ?side3 ?side4 ?side5 ?side6 A5.out).mono ?_
          (case side1 => repeat (first | exact (Kd.C_below HR1.out HB.out) | (with_reducible refine Kd.C_alloc ?_ _) | (with_reducible refine Kd.C_drewN ?_ _) | (with_reducible refine Kd.C_drew ?_)))
          (case side2 => exact HC1.out)
          (case side3 => repeat (first | exact (Kd.C_below HR274_0.out HB.out) | (with_reducible refine Kd.C_alloc ?_ _) | (with_reducible refine Kd.C_drewN ?_ _) | (with_reducible refine Kd.C_drew ?_)))
          (case side4 => exact HC274_0.out)
          (case side5 => repeat (first | exact (Kd.C_below HR274_1.out HB.out) | (with_reducible refine Kd.C_alloc ?_ _) | (with_reducible refine Kd.C_drewN ?_ _) | (with_reducible refine Kd.C_drew ?_)))
          (case side6 => exact HC274_1.out)
          rintro e w14 ⟨rfl, hb⟩
          refine ⟨_, rfl, ?_⟩
          replace HB := Aside0.mk (below_step (by repeat (first | (with_reducible first | exact HB.out | apply below_alloc | apply pw_below_drewN | apply below_drew1) | exact HB.out)) hb)
          (try clear hb)
          (try clear hb2)
          (try clear hk)
          (try clear hi)
          refine hK.out _ _ ⟨((HB.out.cell (World.block_lt_of_cell? w _ hw274_0)).trans hw274_0), ((HB.out.cell (World.block_lt_of_cell? w _ hw274_1)).trans hw274_1), ((HB.out.cell (World.block_lt_of_cell? w _ hw274_2)).trans hw274_2), ((HB.out.cell (World.block_lt_of_cell? w _ hw274_3)).trans hw274_3), ((HB.out.cell (World.block_lt_of_cell? w _ hw276_0)).trans hw276_0), ((HB.out.cell (World.block_lt_of_cell? w _ hw276_1)).trans hw276_1), ((HB.out.cell (World.block_lt_of_cell? w _ hw276_2)).trans hw276_2), ((HB.out.cell (World.block_lt_of_cell? w _ hw276_3)).trans hw276_3), ((HB.out.cell (World.block_lt_of_cell? w _ hw277_0)).trans hw277_0), ((HB.out.cell (World.block_lt_of_cell? w _ hw277_1)).trans hw277_1), ((HB.out.cell (World.block_lt_of_cell? w _ hw277_2)).trans hw277_2), ((HB.out.cell (World.block_lt_of_cell? w _ hw277_3)).trans hw277_3)⟩ (fun hHeld => ?_)
          clear hK K
          refine norm_ (a' := ?_) ?_ ?_
          rotate_left
          ·show Act.put _ (some 18) _ = _
           simp only [Act.put, List.setIfInBounds_toArray, List.set_cons_zero, List.set_cons_succ, i64_w, i32_w]
           rfl
          refine pl_ [6, 7, 8, 9, 10, 11, 12, 13, 15, 16, 17, 18, 14, 19, 20, 21, 22] ?_
          iterate 12 refine qP rfl rfl ?_ (hc := any_of HT_.out (by kernel_rfl))
          iterate 2 refine yT hHeld rfl rfl ?_ (by rintro w' ⟨s0, s1, s2, s3, s4, s5, s6, s7, s8, s9, s10, s11⟩; go_simp; with_reducible rfl) (hc := take_ofW HT_.out HW_.out (by kernel_rfl))
          iterate 3 refine qP rfl rfl ?_ (hc := any_of HT_.out (by kernel_rfl))
          refine pl0 ?_
          refine done_ (done_of HT_.out (by kernel_rfl)) ?_
          try go_wp2
          go_roundg k1
          case measure => have := HK1.out; omega
          case rel => exact ⟨(x6_1), (wrap64 (x6_1 + 1)), (by first | rfl | (simp; done) | (simp [*]; done)), (by first | rfl | (simp; done) | (simp [*]; done)), H', ⟨by have := HK1.out; omega⟩, ⟨by repeat (first | (with_reducible first | exact HB.out | apply below_alloc | apply pw_below_drewN | apply below_drew1) | exact HB.out)⟩⟩
         ·rw [if_neg c12] at H
          have c12b0 : decide (((rd_T99 l0 x6_1).f2) < ((rd_T99 l0 x5_1).f2)) = false := decide_eq_false c12
          clear c12
          have H' := Aside0.mk H
          clear H
          try go_wp2
          replace HB := Aside0.mk (below_drew1 HB.out)
          have p274 : 0 ≤ (x6_1 : Int) := of_decide_eq_true (by first | (with_reducible assumption) | assumption)
          have q274 : x6_1 < (l0.length : Int) := of_decide_eq_true (by first | (with_reducible assumption) | assumption)
          obtain ⟨ad274, A274_0, c274_0, A274_1, c274_1, e274, hx274_0, hx274_1, hx274_2, hx274_3, hl274_0, hi274_0, hl274_1, hi274_1⟩ := at_T99 HR0.out x6_1 p274 q274
          have hw274_3 := hx274_3
          have hw274_2 := hx274_2
          have hw274_1 := hx274_1
          have hw274_0 := hx274_0
          cases e274
          replace hx274_0 := (HB.out.cell (World.block_lt_of_cell? w _ hx274_0)).trans hx274_0
          replace hx274_1 := (HB.out.cell (World.block_lt_of_cell? w _ hx274_1)).trans hx274_1
          replace hx274_2 := (HB.out.cell (World.block_lt_of_cell? w _ hx274_2)).trans hx274_2
          replace hx274_3 := (HB.out.cell (World.block_lt_of_cell? w _ hx274_3)).trans hx274_3
          have HR274_0 := Aside0.mk hi274_0
          have HC274_0 := Aside0.mk hl274_0
          clear hi274_0 hl274_0
          have HR274_1 := Aside0.mk hi274_1
          have HC274_1 := Aside0.mk hl274_1
          clear hi274_1 hl274_1
          replace p274 := eq_true p274
          replace q274 := eq_true q274
          have p276 : 0 ≤ (x6_1 : Int) := of_decide_eq_true (by first | (with_reducible assumption) | assumption)
          have q276 : x6_1 < (l0.length : Int) := of_decide_eq_true (by first | (with_reducible assumption) | assumption)
          obtain ⟨ad276, A276_0, c276_0, A276_1, c276_1, e276, hx276_0, hx276_1, hx276_2, hx276_3, hl276_0, hi276_0, hl276_1, hi276_1⟩ := at_T99 HR0.out x6_1 p276 q276
          have hw276_3 := hx276_3
          have hw276_2 := hx276_2
          have hw276_1 := hx276_1
          have hw276_0 := hx276_0
          obtain rfl : ad274 = ad276 := (by injection e276)
          replace hx276_0 := (HB.out.cell (World.block_lt_of_cell? w _ hx276_0)).trans hx276_0
          replace hx276_1 := (HB.out.cell (World.block_lt_of_cell? w _ hx276_1)).trans hx276_1
          replace hx276_2 := (HB.out.cell (World.block_lt_of_cell? w _ hx276_2)).trans hx276_2
          replace hx276_3 := (HB.out.cell (World.block_lt_of_cell? w _ hx276_3)).trans hx276_3
          have HR276_0 := Aside0.mk hi276_0
          have HC276_0 := Aside0.mk hl276_0
          clear hi276_0 hl276_0
          have HR276_1 := Aside0.mk hi276_1
          have HC276_1 := Aside0.mk hl276_1
          clear hi276_1 hl276_1
          replace p276 := eq_true p276
          replace q276 := eq_true q276
          have p277 : 0 ≤ (x5_1 : Int) := of_decide_eq_true (by first | (with_reducible assumption) | assumption)
          have q277 : x5_1 < (l0.length : Int) := of_decide_eq_true (by first | (with_reducible assumption) | assumption)
          obtain ⟨ad277, A277_0, c277_0, A277_1, c277_1, e277, hx277_0, hx277_1, hx277_2, hx277_3, hl277_0, hi277_0, hl277_1, hi277_1⟩ := at_T99 HR0.out x5_1 p277 q277
          have hw277_3 := hx277_3
          have hw277_2 := hx277_2
          have hw277_1 := hx277_1
          have hw277_0 := hx277_0
          obtain rfl : ad274 = ad277 := (by injection e277)
          replace hx277_0 := (HB.out.cell (World.block_lt_of_cell? w _ hx277_0)).trans hx277_0
          replace hx277_1 := (HB.out.cell (World.block_lt_of_cell? w _ hx277_1)).trans hx277_1
          replace hx277_2 := (HB.out.cell (World.block_lt_of_cell? w _ hx277_2)).trans hx277_2
          replace hx277_3 := (HB.out.cell (World.block_lt_of_cell? w _ hx277_3)).trans hx277_3
          have HR277_0 := Aside0.mk hi277_0
          have HC277_0 := Aside0.mk hl277_0
          clear hi277_0 hl277_0
          have HR277_1 := Aside0.mk hi277_1
          have HC277_1 := Aside0.mk hl277_1
          clear hi277_1 hl277_1
          replace p277 := eq_true p277
          replace q277 := eq_true q277
          refine start_ (n := 23) (S := fun w' => w'.cell? (ad274.add ((x6_1).toNat * 4)) = some (.slice A274_0 ((rd_T99 l0 x6_1).f0).length c274_0) ∧ w'.cell? ⟨(ad274.add ((x6_1).toNat * 4)).block, (ad274.add ((x6_1).toNat * 4)).off + 1, none⟩ = some (.slice A274_1 ((rd_T99 l0 x6_1).f1).length c274_1) ∧ w'.cell? ⟨(ad274.add ((x6_1).toNat * 4)).block, (ad274.add ((x6_1).toNat * 4)).off + 2, none⟩ = some (.int .i64 ((rd_T99 l0 x6_1).f2)) ∧ w'.cell? ⟨(ad274.add ((x6_1).toNat * 4)).block, (ad274.add ((x6_1).toNat * 4)).off + 3, none⟩ = some (.int .i64 ((rd_T99 l0 x6_1).f3)) ∧ w'.cell? (ad274.add ((x6_1).toNat * 4)) = some (.slice A276_0 ((rd_T99 l0 x6_1).f0).length c276_0) ∧ w'.cell? ⟨(ad274.add ((x6_1).toNat * 4)).block, (ad274.add ((x6_1).toNat * 4)).off + 1, none⟩ = some (.slice A276_1 ((rd_T99 l0 x6_1).f1).length c276_1) ∧ w'.cell? ⟨(ad274.add ((x6_1).toNat * 4)).block, (ad274.add ((x6_1).toNat * 4)).off + 2, none⟩ = some (.int .i64 ((rd_T99 l0 x6_1).f2)) ∧ w'.cell? ⟨(ad274.add ((x6_1).toNat * 4)).block, (ad274.add ((x6_1).toNat * 4)).off + 3, none⟩ = some (.int .i64 ((rd_T99 l0 x6_1).f3)) ∧ w'.cell? (ad274.add ((x5_1).toNat * 4)) = some (.slice A277_0 ((rd_T99 l0 x5_1).f0).length c277_0) ∧ w'.cell? ⟨(ad274.add ((x5_1).toNat * 4)).block, (ad274.add ((x5_1).toNat * 4)).off + 1, none⟩ = some (.slice A277_1 ((rd_T99 l0 x5_1).f1).length c277_1) ∧ w'.cell? ⟨(ad274.add ((x5_1).toNat * 4)).block, (ad274.add ((x5_1).toNat * 4)).off + 2, none⟩ = some (.int .i64 ((rd_T99 l0 x5_1).f2)) ∧ w'.cell? ⟨(ad274.add ((x5_1).toNat * 4)).block, (ad274.add ((x5_1).toNat * 4)).off + 3, none⟩ = some (.int .i64 ((rd_T99 l0 x5_1).f3))) (ds := []) #[false, false, false, false, false, false, false, false, false, false, false, false, false, false, false, false, false, false, false, false, false, false, false] (by kernel_rfl) rfl rfl ⟨((HB.out.cell (World.block_lt_of_cell? w _ hw274_0)).trans hw274_0), ((HB.out.cell (World.block_lt_of_cell? w _ hw274_1)).trans hw274_1), ((HB.out.cell (World.block_lt_of_cell? w _ hw274_2)).trans hw274_2), ((HB.out.cell (World.block_lt_of_cell? w _ hw274_3)).trans hw274_3), ((HB.out.cell (World.block_lt_of_cell? w _ hw276_0)).trans hw276_0), ((HB.out.cell (World.block_lt_of_cell? w _ hw276_1)).trans hw276_1), ((HB.out.cell (World.block_lt_of_cell? w _ hw276_2)).trans hw276_2), ((HB.out.cell (World.block_lt_of_cell? w _ hw276_3)).trans hw276_3), ((HB.out.cell (World.block_lt_of_cell? w _ hw277_0)).trans hw277_0), ((HB.out.cell (World.block_lt_of_cell? w _ hw277_1)).trans hw277_1), ((HB.out.cell (World.block_lt_of_cell? w _ hw277_2)).trans hw277_2), ((HB.out.cell (World.block_lt_of_cell? w _ hw277_3)).trans hw277_3)⟩ (fun hHeld => ?_); refine with_tabW shunterref22_Get.tab5 shunterref22_Get.bits5 (fun HT_ HW_ => ?_)
          generalize wr.drew = w15 at HB HR274_0 HR274_1 HR276_0 HR276_1 HR277_0 HR277_1 hx274_0 hx274_1 hx274_2 hx274_3 hx276_0 hx276_1 hx276_2 hx276_3 hx277_0 hx277_1 hx277_2 hx277_3 hHeld ⊢
          refine pl_ [0, 1, 2, 3, 4] ?_
          iterate 4 refine qP rfl rfl ?_ (hc := any_of HT_.out (by kernel_rfl))
          refine yT hHeld rfl rfl ?_ (by rintro w' ⟨s0, s1, s2, s3, s4, s5, s6, s7, s8, s9, s10, s11⟩; go_simp; with_reducible rfl) (hc := take_ofW HT_.out HW_.out (by kernel_rfl))
          refine pl0 ?_
          refine one_ (i := 5) (N := some 18) #[true, true, true, true, true, true, false, false, false, false, false, false, false, false, false, false, false, false, false, false, false, false, false] rfl rfl (one_of HT_.out (by kernel_rfl)) (by decide) (fun K hK => ?_)
          refine goes_ Try.func57 (by kernel_rfl) rfl #[.slice A1 l1.length c1, .agg #[.slice A274_0 ((rd_T99 l0 x6_1).f0).length c274_0, .slice A274_1 ((rd_T99 l0 x6_1).f1).length c274_1, .int .i64 ((rd_T99 l0 x6_1).f2), .int .i64 ((rd_T99 l0 x6_1).f3)]] (by rfl) rfl rfl (by (try simp only [List.map_toArray, List.map_cons, List.map_nil]); first | done | rfl | (simp only [List.length_drop, List.length_take]; rfl)) ?_
          with_reducible refine (shunterref22_Meets.calls k1 _ _ l1 _ _ ((rd_T99 l0 x6_1).f0) _ _ ((rd_T99 l0 x6_1).f1) ((rd_T99 l0 x6_1).f2) ((rd_T99 l0 x6_1).f3) true _ ?side1 ?side2 ?side3 ?side4 ?side5 ?side6 A5.out).mono ?_
          (case side1 => repeat (first | exact (Kd.C_below HR1.out HB.out) | (with_reducible refine Kd.C_alloc ?_ _) | (with_reducible refine Kd.C_drewN ?_ _) | (with_reducible refine Kd.C_drew ?_)))
          (case side2 => exact HC1.out)
          (case side3 => repeat (first | exact (Kd.C_below HR274_0.out HB.out) | (with_reducible refine Kd.C_alloc ?_ _) | (with_reducible refine Kd.C_drewN ?_ _) | (with_reducible refine Kd.C_drew ?_)))
          (case side4 => exact HC274_0.out)
          (case side5 => repeat (first | exact (Kd.C_below HR274_1.out HB.out) | (with_reducible refine Kd.C_alloc ?_ _) | (with_reducible refine Kd.C_drewN ?_ _) | (with_reducible refine Kd.C_drew ?_)))
          (case side6 => exact HC274_1.out)
          rintro e w16 ⟨rfl, hb⟩
          refine ⟨_, rfl, ?_⟩
          replace HB := Aside0.mk (below_step (by repeat (first | (with_reducible first | exact HB.out | apply below_alloc | apply pw_below_drewN | apply below_drew1) | exact HB.out)) hb)
          (try clear hb)
          (try clear hb2)
          (try clear hk)
          (try clear hi)
          refine hK.out _ _ ⟨((HB.out.cell (World.block_lt_of_cell? w _ hw274_0)).trans hw274_0), ((HB.out.cell (World.block_lt_of_cell? w _ hw274_1)).trans hw274_1), ((HB.out.cell (World.block_lt_of_cell? w _ hw274_2)).trans hw274_2), ((HB.out.cell (World.block_lt_of_cell? w _ hw274_3)).trans hw274_3), ((HB.out.cell (World.block_lt_of_cell? w _ hw276_0)).trans hw276_0), ((HB.out.cell (World.block_lt_of_cell? w _ hw276_1)).trans hw276_1), ((HB.out.cell (World.block_lt_of_cell? w _ hw276_2)).trans hw276_2), ((HB.out.cell (World.block_lt_of_cell? w _ hw276_3)).trans hw276_3), ((HB.out.cell (World.block_lt_of_cell? w _ hw277_0)).trans hw277_0), ((HB.out.cell (World.block_lt_of_cell? w _ hw277_1)).trans hw277_1), ((HB.out.cell (World.block_lt_of_cell? w _ hw277_2)).trans hw277_2), ((HB.out.cell (World.block_lt_of_cell? w _ hw277_3)).trans hw277_3)⟩ (fun hHeld => ?_)
          clear hK K
          refine norm_ (a' := ?_) ?_ ?_
          rotate_left
          ·show Act.put _ (some 18) _ = _
           simp only [Act.put, List.setIfInBounds_toArray, List.set_cons_zero, List.set_cons_succ, i64_w, i32_w]
           rfl
          refine pl_ [6, 7, 8, 9, 10, 11, 12, 13, 15, 16, 17, 18, 14, 19, 20, 21, 22] ?_
          iterate 12 refine qP rfl rfl ?_ (hc := any_of HT_.out (by kernel_rfl))
          iterate 2 refine yT hHeld rfl rfl ?_ (by rintro w' ⟨s0, s1, s2, s3, s4, s5, s6, s7, s8, s9, s10, s11⟩; go_simp; with_reducible rfl) (hc := take_ofW HT_.out HW_.out (by kernel_rfl))
          iterate 3 refine qP rfl rfl ?_ (hc := any_of HT_.out (by kernel_rfl))
          refine pl0 ?_
          refine done_ (done_of HT_.out (by kernel_rfl)) ?_
          try go_wp2
          go_roundg k1
          case measure => have := HK1.out; omega
          case rel => exact ⟨(x5_1), (wrap64 (x6_1 + 1)), (by first | rfl | (simp; done) | (simp [*]; done)), (by first | rfl | (simp; done) | (simp [*]; done)), H', ⟨by have := HK1.out; omega⟩, ⟨by repeat (first | (with_reducible first | exact HB.out | apply below_alloc | apply pw_below_drewN | apply below_drew1) | exact HB.out)⟩⟩
        ·rw [if_neg c11] at H
         exact absurd H (by simp)
       ·rw [if_neg c10] at H
        exact absurd H (by simp)
     ·replace c6 := Bool.eq_false_iff.mpr c6
      subst c6
      have H1 : (shunterref22_Get.l0 k1 l0 l1 x5_1 (wrap64 (x6_1 + 1))) = some r := by rw [if_neg (show ¬ (false = true) by decide)] at H; exact H
      clear H
      have H := H1
      clear H1
      have H' := Aside0.mk H
      clear H
      try go_wp2
      replace HB := Aside0.mk (below_drew1 HB.out)
      have p274 : 0 ≤ (x6_1 : Int) := of_decide_eq_true (by first | (with_reducible assumption) | assumption)
      have q274 : x6_1 < (l0.length : Int) := of_decide_eq_true (by first | (with_reducible assumption) | assumption)
      obtain ⟨ad274, A274_0, c274_0, A274_1, c274_1, e274, hx274_0, hx274_1, hx274_2, hx274_3, hl274_0, hi274_0, hl274_1, hi274_1⟩ := at_T99 HR0.out x6_1 p274 q274
      have hw274_3 := hx274_3
      have hw274_2 := hx274_2
      have hw274_1 := hx274_1
      have hw274_0 := hx274_0
      cases e274
      replace hx274_0 := (HB.out.cell (World.block_lt_of_cell? w _ hx274_0)).trans hx274_0
      replace hx274_1 := (HB.out.cell (World.block_lt_of_cell? w _ hx274_1)).trans hx274_1
      replace hx274_2 := (HB.out.cell (World.block_lt_of_cell? w _ hx274_2)).trans hx274_2
      replace hx274_3 := (HB.out.cell (World.block_lt_of_cell? w _ hx274_3)).trans hx274_3
      have HR274_0 := Aside0.mk hi274_0
      have HC274_0 := Aside0.mk hl274_0
      clear hi274_0 hl274_0
      have HR274_1 := Aside0.mk hi274_1
      have HC274_1 := Aside0.mk hl274_1
      clear hi274_1 hl274_1
      replace p274 := eq_true p274
      replace q274 := eq_true q274
      refine start_ (n := 23) (S := fun w' => w'.cell? (ad274.add ((x6_1).toNat * 4)) = some (.slice A274_0 ((rd_T99 l0 x6_1).f0).length c274_0) ∧ w'.cell? ⟨(ad274.add ((x6_1).toNat * 4)).block, (ad274.add ((x6_1).toNat * 4)).off + 1, none⟩ = some (.slice A274_1 ((rd_T99 l0 x6_1).f1).length c274_1) ∧ w'.cell? ⟨(ad274.add ((x6_1).toNat * 4)).block, (ad274.add ((x6_1).toNat * 4)).off + 2, none⟩ = some (.int .i64 ((rd_T99 l0 x6_1).f2)) ∧ w'.cell? ⟨(ad274.add ((x6_1).toNat * 4)).block, (ad274.add ((x6_1).toNat * 4)).off + 3, none⟩ = some (.int .i64 ((rd_T99 l0 x6_1).f3))) (ds := []) #[false, false, false, false, false, false, false, false, false, false, false, false, false, false, false, false, false, false, false, false, false, false, false] (by kernel_rfl) rfl rfl ⟨((HB.out.cell (World.block_lt_of_cell? w _ hw274_0)).trans hw274_0), ((HB.out.cell (World.block_lt_of_cell? w _ hw274_1)).trans hw274_1), ((HB.out.cell (World.block_lt_of_cell? w _ hw274_2)).trans hw274_2), ((HB.out.cell (World.block_lt_of_cell? w _ hw274_3)).trans hw274_3)⟩ (fun hHeld => ?_); refine with_tabW shunterref22_Get.tab5 shunterref22_Get.bits5 (fun HT_ HW_ => ?_)
      generalize wr.drew = w17 at HB HR274_0 HR274_1 hx274_0 hx274_1 hx274_2 hx274_3 hHeld ⊢
      refine pl_ [0, 1, 2, 3, 4] ?_
      iterate 4 refine qP rfl rfl ?_ (hc := any_of HT_.out (by kernel_rfl))
      refine yT hHeld rfl rfl ?_ (by rintro w' ⟨s0, s1, s2, s3⟩; go_simp; with_reducible rfl) (hc := take_ofW HT_.out HW_.out (by kernel_rfl))
      refine pl0 ?_
      refine one_ (i := 5) (N := some 18) #[true, true, true, true, true, true, false, false, false, false, false, false, false, false, false, false, false, false, false, false, false, false, false] rfl rfl (one_of HT_.out (by kernel_rfl)) (by decide) (fun K hK => ?_)
      refine goes_ Try.func57 (by kernel_rfl) rfl #[.slice A1 l1.length c1, .agg #[.slice A274_0 ((rd_T99 l0 x6_1).f0).length c274_0, .slice A274_1 ((rd_T99 l0 x6_1).f1).length c274_1, .int .i64 ((rd_T99 l0 x6_1).f2), .int .i64 ((rd_T99 l0 x6_1).f3)]] (by rfl) rfl rfl (by (try simp only [List.map_toArray, List.map_cons, List.map_nil]); first | done | rfl | (simp only [List.length_drop, List.length_take]; rfl)) ?_
      with_reducible refine (shunterref22_Meets.calls k1 _ _ l1 _ _ ((rd_T99 l0 x6_1).f0) _ _ ((rd_T99 l0 x6_1).f1) ((rd_T99 l0 x6_1).f2) ((rd_T99 l0 x6_1).f3) false _ ?side1 ?side2 ?side3 ?side4 ?side5 ?side6 A5.out).mono ?_
      (case side1 => repeat (first | exact (Kd.C_below HR1.out HB.out) | (with_reducible refine Kd.C_alloc ?_ _) | (with_reducible refine Kd.C_drewN ?_ _) | (with_reducible refine Kd.C_drew ?_)))
      (case side2 => exact HC1.out)
      (case side3 => repeat (first | exact (Kd.C_below HR274_0.out HB.out) | (with_reducible refine Kd.C_alloc ?_ _) | (with_reducible refine Kd.C_drewN ?_ _) | (with_reducible refine Kd.C_drew ?_)))
      (case side4 => exact HC274_0.out)
      (case side5 => repeat (first | exact (Kd.C_below HR274_1.out HB.out) | (with_reducible refine Kd.C_alloc ?_ _) | (with_reducible refine Kd.C_drewN ?_ _) | (with_reducible refine Kd.C_drew ?_)))
      (case side6 => exact HC274_1.out)
      rintro e w18 ⟨rfl, hb⟩
      refine ⟨_, rfl, ?_⟩
      replace HB := Aside0.mk (below_step (by repeat (first | (with_reducible first | exact HB.out | apply below_alloc | apply pw_below_drewN | apply below_drew1) | exact HB.out)) hb)
      (try clear hb)
      (try clear hb2)
      (try clear hk)
      (try clear hi)
      refine hK.out _ _ ⟨((HB.out.cell (World.block_lt_of_cell? w _ hw274_0)).trans hw274_0), ((HB.out.cell (World.block_lt_of_cell? w _ hw274_1)).trans hw274_1), ((HB.out.cell (World.block_lt_of_cell? w _ hw274_2)).trans hw274_2), ((HB.out.cell (World.block_lt_of_cell? w _ hw274_3)).trans hw274_3)⟩ (fun hHeld => ?_)
      clear hK K
      refine norm_ (a' := ?_) ?_ ?_
      rotate_left
      ·show Act.put _ (some 18) _ = _
       simp only [Act.put, List.setIfInBounds_toArray, List.set_cons_zero, List.set_cons_succ, i64_w, i32_w]
       rfl
      refine pl_ [6, 7, 8, 9, 10, 11, 12, 13, 14, 15, 16, 17, 18, 19, 20, 21, 22] ?_
      refine qP rfl rfl ?_ (hc := any_of HT_.out (by kernel_rfl))
      iterate 15 refine qU rfl rfl ?_ (hc := any_of HT_.out (by kernel_rfl))
      refine qP rfl rfl ?_ (hc := any_of HT_.out (by kernel_rfl))
      refine pl0 ?_
      refine done_ (done_of HT_.out (by kernel_rfl)) ?_
      try go_wp2
      go_roundg k1
      case measure => have := HK1.out; omega
      case rel => exact ⟨(x5_1), (wrap64 (x6_1 + 1)), (by first | rfl | (simp; done) | (simp [*]; done)), (by first | rfl | (simp; done) | (simp [*]; done)), H', ⟨by have := HK1.out; omega⟩, ⟨by repeat (first | (with_reducible first | exact HB.out | apply below_alloc | apply pw_below_drewN | apply below_drew1) | exact HB.out)⟩⟩
    ·rw [if_neg c4] at H
     exact absurd H (by simp)
   ·rw [if_neg c3] at H
    have c3b0 : decide (x6_1 < (l0.length : Int)) = false := decide_eq_false c3
    clear c3
    obtain rfl := Option.some.inj H
    go_wp2
    go_ret
    exact ⟨by first | rfl | (simp [errW_none, errW_some] <;> rfl) | (simp [*, errW_none, errW_some] <;> rfl), by repeat (first | (with_reducible first | exact HB.out | apply below_alloc | apply pw_below_drewN | apply below_drew1) | exact HB.out)⟩
end Go.Proofs.Ytfdbcnbakchcgaa.XQ
