import Derived.Test.YtfdbcnbakchcgaaSq
import Derived.Test.YtfdbcnbakchcgaaXTx0
import Derived.Test.YtfdbcnbakchcgaaXTx9
namespace Go.Proofs.Ytfdbcnbakchcgaa.XT
open Go.RowKit Go.Proofs.YtfdbcnbakchcgaaW.PrintWords Go.Proofs.YtfdbcnbakchcgaaW.PrintLast Go.Proofs.YtfdbcnbakchcgaaW.PrintMore
attribute [local go_sem] max2_int min2_int max_two min_two max_three min_three max_four min_four   -- for this text's walks alone
set_option linter.unusedVariables false
set_option linter.unusedSimpArgs false
def shunterref21_Get.l0 : Nat → List (S78) → Int → Int → Int → Int → Int → Option (Int)
 | 0, _, _, _, _, _, _ => none
 | k + 1, x0, x5, x6, x302000, x302001, x302002 => if x6 < (x0.length : Int) then (if 0 ≤ x6 then ((shunterref02_Meets.f k x302000 x302001 x302002 ((rd_T78 x0 x6).f0.f0) ((rd_T78 x0 x6).f0.f1) ((rd_T78 x0 x6).f0.f2) ((rd_T78 x0 x6).f1.f0) ((rd_T78 x0 x6).f1.f1) ((rd_T78 x0 x6).f1.f2)).bind fun t304 => (if t304 = true then (if x5 < 0 then (shunterref21_Get.l0 k x0 x6 (wrap64 (x6 + 1)) x302000 x302001 x302002) else (if 0 ≤ x5 then (if x5 < (x0.length : Int) then (if ((rd_T78 x0 x6).f2) < ((rd_T78 x0 x5).f2) then (shunterref21_Get.l0 k x0 x6 (wrap64 (x6 + 1)) x302000 x302001 x302002) else (shunterref21_Get.l0 k x0 x5 (wrap64 (x6 + 1)) x302000 x302001 x302002)) else (none)) else (none))) else (shunterref21_Get.l0 k x0 x5 (wrap64 (x6 + 1)) x302000 x302001 x302002))) else (none)) else (some x5)
def shunterref21_Get.f (k : Nat) (l0 : List (S78)) (a1_0 : Int) (a1_1 : Int) (a1_2 : Int) : Option (Int) := shunterref21_Get.l0 k l0 (-1) 0 a1_0 a1_1 a1_2
theorem shunterref21_Get.mono_l : ∀ k, (∀ y0 y1 y2 y3 y4 y5, LeO (shunterref21_Get.l0 k y0 y1 y2 y3 y4 y5) (shunterref21_Get.l0 (k + 1) y0 y1 y2 y3 y4 y5))
 | 0 => fun _ _ _ _ _ _ r h => by simp [shunterref21_Get.l0] at h
 | k + 1 => by
  have ih0 := shunterref21_Get.mono_l k
  ·intro y0 y1 y2 y3 y4 y5
   unfold shunterref21_Get.l0
   repeat' first
   | (with_reducible exact ih0 _ _ _ _ _ _)
   | (with_reducible exact shunterref02_Meets.mono _ _ _ _ _ _ _ _ _ _)
   | (with_reducible exact LeO.refl _)
   | (with_reducible exact LeO.none _)
   | (with_reducible refine LeO.ite ?_ ?_)
   | (with_reducible refine LeO.bind ?_ (fun _ => ?_))
   | exact ih0 _ _ _ _ _ _
   | exact shunterref02_Meets.mono _ _ _ _ _ _ _ _ _ _
   | exact LeO.none _
   | refine LeO.ite ?_ ?_
   | refine LeO.bind ?_ (fun _ => ?_)
theorem shunterref21_Get.mono : ∀ a0 a1 a2 a3 k, LeO (shunterref21_Get.f k a0 a1 a2 a3) (shunterref21_Get.f (k + 1) a0 a1 a2 a3) := by
 intro a0 a1 a2 a3 k
 have ih0 := shunterref21_Get.mono_l k
 unfold shunterref21_Get.f
 repeat' first
  | (with_reducible exact ih0 _ _ _ _ _ _)
  | (with_reducible exact shunterref02_Meets.mono _ _ _ _ _ _ _ _ _ _)
  | (with_reducible exact LeO.refl _)
  | (with_reducible exact LeO.none _)
  | (with_reducible refine LeO.ite ?_ ?_)
  | (with_reducible refine LeO.bind ?_ (fun _ => ?_))
  | exact ih0 _ _ _ _ _ _
  | exact shunterref02_Meets.mono _ _ _ _ _ _ _ _ _ _
  | exact LeO.none _
  | refine LeO.ite ?_ ?_
  | refine LeO.bind ?_ (fun _ => ?_)
def shunterref21_Get.T5 : Bool × List (List Nat × List Nat) := (true, [([], []), ([], []), ([], []), ([1, 2], [1, 2]), ([3], [3]), ([4], [4]), ([], []), ([], []), ([6, 7], [6, 7]), ([8], [8]), ([9], [9]), ([0, 5, 10], [0, 5, 10]), ([11, 11], [11]), ([12], [12]), ([13, 12], [12, 13]), ([14, 12, 12], [12, 14]), ([15], [15]), ([15], [15]), ([16, 17, 15], [15, 16, 17]), ([18, 15], [15, 18]), ([19, 15], [15, 19]), ([15], [15]), ([15], [15]), ([21, 22, 15], [15, 21, 22]), ([23, 15], [15, 23]), ([24, 15], [15, 24]), ([20, 25, 15], [15, 20, 25]), ([15, 26, 12], [12, 15, 26]), ([12, 27], [12, 27])])
def shunterref21_Get.B5 : List Nat := [0, 0, 0, 6, 14, 30, 0, 0, 192, 448, 960, 2047, 4095, 8191, 16383, 32767, 65535, 65535, 262143, 524287, 1048575, 65535, 65535, 6356991, 14745599, 31522815, 67108863, 134217727, 268435455]
theorem shunterref21_Get.tab5 : rtab .any (opsOf Try.f94 5) = shunterref21_Get.T5 := by kernel_rfl
theorem shunterref21_Get.bits5 : waitsOk shunterref21_Get.T5.2 shunterref21_Get.B5 = true := by kernel_rfl
set_option maxHeartbeats 8000000 in
set_option maxRecDepth 100000 in
theorem shunterref21_Get.calls (k : Nat) (A0 : Option Addr) (c0 : Nat) (l0 : List (S78)) (a1_0 : Int) (a1_1 : Int) (a1_2 : Int) (r : Int) (w : World) (hr0 : Kd.C k78 w A0 l0.length l0) (hc0 : l0.length ≤ c0) (h : shunterref21_Get.f k l0 a1_0 a1_1 a1_2 = some r) :
 Calls Try.prog 94 #[.slice A0 l0.length c0, .agg #[.int .i64 a1_0, .int .u64 a1_1, .int .u64 a1_2]] w fun e w' => e = .returned (.int .i64 r) ∧ Below w.heap.size w w' := by
 have hu32 := Try.underlying32
 have HR0 := Aside0.mk hr0
 have HC0 := Aside0.mk hc0
 clear hr0 hc0
 have HB := Aside0.mk (Below.refl w.heap.size w)
 have H : (shunterref21_Get.l0 k l0 (-1) 0 a1_0 a1_1 a1_2) = some r := h
 clear h
 have H' := Aside0.mk H
 clear H
 go_enter Try.func94, Try.ntmps94
 go_wp2_with (first | ((with_reducible refine gate_dst (N := 3) rfl ?_); refine box_event ?hg (N := 3) ?hd (cs := #[.int .i64 a1_0, .int .u64 a1_1, .int .u64 a1_2]) (t := 32) ?hr ?_; (case hd => rfl); (case hg => rfl); (case hr => first | (go_simp; done) | (go_simp; rfl)); intro gb301 hg w3 hbox hb; have BK301 := Aside0.mk (hbox); have GW301 := Aside0.mk ((by rw [hg]; exact (below_size (by repeat (first | (with_reducible first | exact HB.out | apply below_alloc | apply pw_below_drewN | apply below_drew1) | exact HB.out))) : w.heap.size ≤ gb301)); have GE301 := Aside0.mk ((by rw [hg]; exact (below_size (by repeat (first | (with_reducible first | exact HB.out | apply below_alloc | apply pw_below_drewN | apply below_drew1) | exact HB.out))) : w.heap.size ≤ gb301)); replace HB := Aside0.mk (below_step (by repeat (first | (with_reducible first | exact HB.out | apply below_alloc | apply pw_below_drewN | apply below_drew1) | exact HB.out)) hb); clear hb hbox hg))
 go_loopg [5, 6] k (fun kq v5 v6 w' => ∃ (x5_1 : Int) (x6_1 : Int), v5 = .int .i64 x5_1 ∧ v6 = .int .i64 x6_1 ∧ Aside0 (shunterref21_Get.l0 kq l0 x5_1 x6_1 a1_0 a1_1 a1_2 = some r) ∧ Aside0 (kq ≤ k) ∧ Aside0 (w'.heap[gb301]? = some (.cells #[.int .i64 a1_0, .int .u64 a1_1, .int .u64 a1_2] 32 (0, 0))) ∧ Aside0 (Below w.heap.size w w'))
 case atStart => exact ⟨((-1)), (0), (by first | rfl | (simp; done) | (simp [*]; done)), (by first | rfl | (simp; done) | (simp [*]; done)), H', ⟨Nat.le_refl _⟩, ⟨by (with_reducible repeat (first | refine blk_drewN ?_ _ | refine blk_drew ?_ | refine blk_alloc ?_ _)); exact BK301.out⟩, ⟨by repeat (first | (with_reducible first | exact HB.out | apply below_alloc | apply pw_below_drewN | apply below_drew1 | refine below_set ?_ GE301.out) | exact HB.out)⟩⟩
 case round =>
  clear H'
  try clear p2
  obtain ⟨x5_1, x6_1, rfl, rfl, HA, HK1, BK301, HB⟩ := hrel
  cases gk with
  | zero => exact absurd HA.out (by simp [shunterref21_Get.l0])
  | succ k1 =>
   have H := HA.out
   clear HA
   simp only [shunterref21_Get.l0] at H
   by_cases c4 : x6_1 < (l0.length : Int)
   ·rw [if_pos c4] at H
    have c4b0 : decide (x6_1 < (l0.length : Int)) = true := decide_eq_true c4
    clear c4
    by_cases c5 : 0 ≤ x6_1
    ·rw [if_pos c5] at H
     have c5b0 : decide (0 ≤ x6_1) = true := decide_eq_true c5
     clear c5
     replace H := Option.bind_eq_some_iff.mp H
     obtain ⟨t304, A60, H⟩ := H
     replace H : (if t304 = true then (if x5_1 < 0 then (shunterref21_Get.l0 k1 l0 x6_1 (wrap64 (x6_1 + 1)) a1_0 a1_1 a1_2) else (if 0 ≤ x5_1 then (if x5_1 < (l0.length : Int) then (if ((rd_T78 l0 x6_1).f2) < ((rd_T78 l0 x5_1).f2) then (shunterref21_Get.l0 k1 l0 x6_1 (wrap64 (x6_1 + 1)) a1_0 a1_1 a1_2) else (shunterref21_Get.l0 k1 l0 x5_1 (wrap64 (x6_1 + 1)) a1_0 a1_1 a1_2)) else (none)) else (none))) else (shunterref21_Get.l0 k1 l0 x5_1 (wrap64 (x6_1 + 1)) a1_0 a1_1 a1_2)) = some r := H
     have A6 := Aside0.mk A60
     clear A60
     by_cases c7 : t304 = true
     ·subst c7
      have H1 : (if x5_1 < 0 then (shunterref21_Get.l0 k1 l0 x6_1 (wrap64 (x6_1 + 1)) a1_0 a1_1 a1_2) else (if 0 ≤ x5_1 then (if x5_1 < (l0.length : Int) then (if ((rd_T78 l0 x6_1).f2) < ((rd_T78 l0 x5_1).f2) then (shunterref21_Get.l0 k1 l0 x6_1 (wrap64 (x6_1 + 1)) a1_0 a1_1 a1_2) else (shunterref21_Get.l0 k1 l0 x5_1 (wrap64 (x6_1 + 1)) a1_0 a1_1 a1_2)) else (none)) else (none))) = some r := by rw [if_pos rfl] at H; exact H
      clear H
      have H := H1
      clear H1
      by_cases c8 : x5_1 < 0
      ·rw [if_pos c8] at H
       have c8b0 : decide (x5_1 < 0) = true := decide_eq_true c8
       clear c8
       have H' := Aside0.mk H
       clear H
       try go_wp2
       replace BK301 := Aside0.mk (blk_drew BK301.out)
       replace HB := Aside0.mk (below_drew1 HB.out)
       have p302 : 0 ≤ (x6_1 : Int) := of_decide_eq_true (by first | (with_reducible assumption) | assumption)
       have q302 : x6_1 < (l0.length : Int) := of_decide_eq_true (by first | (with_reducible assumption) | assumption)
       obtain ⟨ad302, e302, hx302_0, hx302_1, hx302_2, hx302_3, hx302_4, hx302_5, hx302_6, hx302_7⟩ := at_T78 HR0.out x6_1 p302 q302
       have hw302_7 := hx302_7
       have hw302_6 := hx302_6
       have hw302_5 := hx302_5
       have hw302_4 := hx302_4
       have hw302_3 := hx302_3
       have hw302_2 := hx302_2
       have hw302_1 := hx302_1
       have hw302_0 := hx302_0
       cases e302
       replace hx302_0 := (HB.out.cell (World.block_lt_of_cell? w _ hx302_0)).trans hx302_0
       replace hx302_1 := (HB.out.cell (World.block_lt_of_cell? w _ hx302_1)).trans hx302_1
       replace hx302_2 := (HB.out.cell (World.block_lt_of_cell? w _ hx302_2)).trans hx302_2
       replace hx302_3 := (HB.out.cell (World.block_lt_of_cell? w _ hx302_3)).trans hx302_3
       replace hx302_4 := (HB.out.cell (World.block_lt_of_cell? w _ hx302_4)).trans hx302_4
       replace hx302_5 := (HB.out.cell (World.block_lt_of_cell? w _ hx302_5)).trans hx302_5
       replace hx302_6 := (HB.out.cell (World.block_lt_of_cell? w _ hx302_6)).trans hx302_6
       replace hx302_7 := (HB.out.cell (World.block_lt_of_cell? w _ hx302_7)).trans hx302_7
       replace p302 := eq_true p302
       replace q302 := eq_true q302
       have p303 : 0 ≤ (x6_1 : Int) := of_decide_eq_true (by first | (with_reducible assumption) | assumption)
       have q303 : x6_1 < (l0.length : Int) := of_decide_eq_true (by first | (with_reducible assumption) | assumption)
       obtain ⟨ad303, e303, hx303_0, hx303_1, hx303_2, hx303_3, hx303_4, hx303_5, hx303_6, hx303_7⟩ := at_T78 HR0.out x6_1 p303 q303
       have hw303_7 := hx303_7
       have hw303_6 := hx303_6
       have hw303_5 := hx303_5
       have hw303_4 := hx303_4
       have hw303_3 := hx303_3
       have hw303_2 := hx303_2
       have hw303_1 := hx303_1
       have hw303_0 := hx303_0
       obtain rfl : ad302 = ad303 := (by injection e303)
       replace hx303_0 := (HB.out.cell (World.block_lt_of_cell? w _ hx303_0)).trans hx303_0
       replace hx303_1 := (HB.out.cell (World.block_lt_of_cell? w _ hx303_1)).trans hx303_1
       replace hx303_2 := (HB.out.cell (World.block_lt_of_cell? w _ hx303_2)).trans hx303_2
       replace hx303_3 := (HB.out.cell (World.block_lt_of_cell? w _ hx303_3)).trans hx303_3
       replace hx303_4 := (HB.out.cell (World.block_lt_of_cell? w _ hx303_4)).trans hx303_4
       replace hx303_5 := (HB.out.cell (World.block_lt_of_cell? w _ hx303_5)).trans hx303_5
       replace hx303_6 := (HB.out.cell (World.block_lt_of_cell? w _ hx303_6)).trans hx303_6
       replace hx303_7 := (HB.out.cell (World.block_lt_of_cell? w _ hx303_7)).trans hx303_7
       replace p303 := eq_true p303
       replace q303 := eq_true q303
       refine start_ (n := 29) (S := fun w' => w'.cell? ⟨gb301, 0, none⟩ = some (.int .i64 a1_0) ∧ w'.cell? ⟨gb301, 1, none⟩ = some (.int .u64 a1_1) ∧ w'.cell? ⟨gb301, 2, none⟩ = some (.int .u64 a1_2) ∧ w'.cell? (ad302.add ((x6_1).toNat * 8)) = some (.int .i64 ((rd_T78 l0 x6_1).f0.f0)) ∧ w'.cell? ⟨(ad302.add ((x6_1).toNat * 8)).block, (ad302.add ((x6_1).toNat * 8)).off + 1, none⟩ = some (.int .u64 ((rd_T78 l0 x6_1).f0.f1)) ∧ w'.cell? ⟨(ad302.add ((x6_1).toNat * 8)).block, (ad302.add ((x6_1).toNat * 8)).off + 2, none⟩ = some (.int .u64 ((rd_T78 l0 x6_1).f0.f2)) ∧ w'.cell? ⟨(ad302.add ((x6_1).toNat * 8)).block, (ad302.add ((x6_1).toNat * 8)).off + 3, none⟩ = some (.int .i64 ((rd_T78 l0 x6_1).f1.f0)) ∧ w'.cell? ⟨(ad302.add ((x6_1).toNat * 8)).block, (ad302.add ((x6_1).toNat * 8)).off + 4, none⟩ = some (.int .u64 ((rd_T78 l0 x6_1).f1.f1)) ∧ w'.cell? ⟨(ad302.add ((x6_1).toNat * 8)).block, (ad302.add ((x6_1).toNat * 8)).off + 5, none⟩ = some (.int .u64 ((rd_T78 l0 x6_1).f1.f2)) ∧ w'.cell? ⟨(ad302.add ((x6_1).toNat * 8)).block, (ad302.add ((x6_1).toNat * 8)).off + 6, none⟩ = some (.int .i64 ((rd_T78 l0 x6_1).f2)) ∧ w'.cell? ⟨(ad302.add ((x6_1).toNat * 8)).block, (ad302.add ((x6_1).toNat * 8)).off + 7, none⟩ = some (.int .i64 ((rd_T78 l0 x6_1).f3)) ∧ w'.cell? (ad302.add ((x6_1).toNat * 8)) = some (.int .i64 ((rd_T78 l0 x6_1).f0.f0)) ∧ w'.cell? ⟨(ad302.add ((x6_1).toNat * 8)).block, (ad302.add ((x6_1).toNat * 8)).off + 1, none⟩ = some (.int .u64 ((rd_T78 l0 x6_1).f0.f1)) ∧ w'.cell? ⟨(ad302.add ((x6_1).toNat * 8)).block, (ad302.add ((x6_1).toNat * 8)).off + 2, none⟩ = some (.int .u64 ((rd_T78 l0 x6_1).f0.f2)) ∧ w'.cell? ⟨(ad302.add ((x6_1).toNat * 8)).block, (ad302.add ((x6_1).toNat * 8)).off + 3, none⟩ = some (.int .i64 ((rd_T78 l0 x6_1).f1.f0)) ∧ w'.cell? ⟨(ad302.add ((x6_1).toNat * 8)).block, (ad302.add ((x6_1).toNat * 8)).off + 4, none⟩ = some (.int .u64 ((rd_T78 l0 x6_1).f1.f1)) ∧ w'.cell? ⟨(ad302.add ((x6_1).toNat * 8)).block, (ad302.add ((x6_1).toNat * 8)).off + 5, none⟩ = some (.int .u64 ((rd_T78 l0 x6_1).f1.f2)) ∧ w'.cell? ⟨(ad302.add ((x6_1).toNat * 8)).block, (ad302.add ((x6_1).toNat * 8)).off + 6, none⟩ = some (.int .i64 ((rd_T78 l0 x6_1).f2)) ∧ w'.cell? ⟨(ad302.add ((x6_1).toNat * 8)).block, (ad302.add ((x6_1).toNat * 8)).off + 7, none⟩ = some (.int .i64 ((rd_T78 l0 x6_1).f3))) (ds := []) #[false, false, false, false, false, false, false, false, false, false, false, false, false, false, false, false, false, false, false, false, false, false, false, false, false, false, false, false, false] (by kernel_rfl) rfl rfl ⟨(blk_cell BK301.out 0).trans rfl, (blk_cell BK301.out 1).trans rfl, (blk_cell BK301.out 2).trans rfl, ((HB.out.cell (World.block_lt_of_cell? w _ hw302_0)).trans hw302_0), ((HB.out.cell (World.block_lt_of_cell? w _ hw302_1)).trans hw302_1), ((HB.out.cell (World.block_lt_of_cell? w _ hw302_2)).trans hw302_2), ((HB.out.cell (World.block_lt_of_cell? w _ hw302_3)).trans hw302_3), ((HB.out.cell (World.block_lt_of_cell? w _ hw302_4)).trans hw302_4), ((HB.out.cell (World.block_lt_of_cell? w _ hw302_5)).trans hw302_5), ((HB.out.cell (World.block_lt_of_cell? w _ hw302_6)).trans hw302_6), ((HB.out.cell (World.block_lt_of_cell? w _ hw302_7)).trans hw302_7), ((HB.out.cell (World.block_lt_of_cell? w _ hw303_0)).trans hw303_0), ((HB.out.cell (World.block_lt_of_cell? w _ hw303_1)).trans hw303_1), ((HB.out.cell (World.block_lt_of_cell? w _ hw303_2)).trans hw303_2), ((HB.out.cell (World.block_lt_of_cell? w _ hw303_3)).trans hw303_3), ((HB.out.cell (World.block_lt_of_cell? w _ hw303_4)).trans hw303_4), ((HB.out.cell (World.block_lt_of_cell? w _ hw303_5)).trans hw303_5), ((HB.out.cell (World.block_lt_of_cell? w _ hw303_6)).trans hw303_6), ((HB.out.cell (World.block_lt_of_cell? w _ hw303_7)).trans hw303_7)⟩ (fun hHeld => ?_); refine with_tabW shunterref21_Get.tab5 shunterref21_Get.bits5 (fun HT_ HW_ => ?_)
       generalize wr.drew = w9 at BK301 HB hx302_0 hx302_1 hx302_2 hx302_3 hx302_4 hx302_5 hx302_6 hx302_7 hx303_0 hx303_1 hx303_2 hx303_3 hx303_4 hx303_5 hx303_6 hx303_7 hHeld ⊢
       refine pl_ [1, 2, 3, 4, 6, 7, 8, 9, 0, 5, 10] ?_
       iterate 8 refine pP rfl rfl (any_of HT_.out (by kernel_rfl)) (fun _ _ _ h => h) (by rfl) (by intro w'; go_simp; with_reducible rfl) (by simp only [Act.put, z1, z2, z3, i64_w, i32_w]; rfl) ?_
       iterate 3 refine pT hHeld rfl rfl (take_ofW HT_.out HW_.out (by kernel_rfl)) (fun _ _ _ h => h) (by rfl) (by rintro w' ⟨s0, s1, s2, s3, s4, s5, s6, s7, s8, s9, s10, s11, s12, s13, s14, s15, s16, s17, s18⟩; go_simp; with_reducible rfl) (by simp only [Act.put, z1, z2, z3, i64_w, i32_w]; rfl) ?_
       refine pl0 ?_
       refine one_ (i := 11) (N := some 24) #[true, true, true, true, true, true, true, true, true, true, true, true, false, false, false, false, false, false, false, false, false, false, false, false, false, false, false, false, false] rfl rfl (one_of HT_.out (by kernel_rfl)) (by decide) (fun K hK => ?_)
       refine goes_ Try.func38 (by kernel_rfl) rfl #[.agg #[.int .i64 a1_0, .int .u64 a1_1, .int .u64 a1_2], .agg #[.int .i64 ((rd_T78 l0 x6_1).f0.f0), .int .u64 ((rd_T78 l0 x6_1).f0.f1), .int .u64 ((rd_T78 l0 x6_1).f0.f2)], .agg #[.int .i64 ((rd_T78 l0 x6_1).f1.f0), .int .u64 ((rd_T78 l0 x6_1).f1.f1), .int .u64 ((rd_T78 l0 x6_1).f1.f2)]] (by rfl) rfl rfl (by (try simp only [List.map_toArray, List.map_cons, List.map_nil]); first | done | rfl | (simp only [List.length_drop, List.length_take]; rfl)) ?_
       with_reducible refine (shunterref02_Meets.calls k1 a1_0 a1_1 a1_2 ((rd_T78 l0 x6_1).f0.f0) ((rd_T78 l0 x6_1).f0.f1) ((rd_T78 l0 x6_1).f0.f2) ((rd_T78 l0 x6_1).f1.f0) ((rd_T78 l0 x6_1).f1.f1) ((rd_T78 l0 x6_1).f1.f2) true _ A6.out).mono ?_
       rintro e w10 ⟨rfl, hb⟩
       refine ⟨_, rfl, ?_⟩
       replace BK301 := bk1 (by (with_reducible repeat (first | refine blk_drewN ?_ _ | refine blk_drew ?_ | refine blk_alloc ?_ _)); exact BK301.out) hb
       replace HB := Aside0.mk (below_step (by repeat (first | (with_reducible first | exact HB.out | apply below_alloc | apply pw_below_drewN | apply below_drew1 | refine below_set ?_ GE301.out) | exact HB.out)) hb)
       (try clear hb)
       (try clear hb2)
       (try clear hk)
       (try clear hi)
       refine hK.out _ _ ⟨(blk_cell BK301.out 0).trans rfl, (blk_cell BK301.out 1).trans rfl, (blk_cell BK301.out 2).trans rfl, ((HB.out.cell (World.block_lt_of_cell? w _ hw302_0)).trans hw302_0), ((HB.out.cell (World.block_lt_of_cell? w _ hw302_1)).trans hw302_1), ((HB.out.cell (World.block_lt_of_cell? w _ hw302_2)).trans hw302_2), ((HB.out.cell (World.block_lt_of_cell? w _ hw302_3)).trans hw302_3), ((HB.out.cell (World.block_lt_of_cell? w _ hw302_4)).trans hw302_4), ((HB.out.cell (World.block_lt_of_cell? w _ hw302_5)).trans hw302_5), ((HB.out.cell (World.block_lt_of_cell? w _ hw302_6)).trans hw302_6), ((HB.out.cell (World.block_lt_of_cell? w _ hw302_7)).trans hw302_7), ((HB.out.cell (World.block_lt_of_cell? w _ hw303_0)).trans hw303_0), ((HB.out.cell (World.block_lt_of_cell? w _ hw303_1)).trans hw303_1), ((HB.out.cell (World.block_lt_of_cell? w _ hw303_2)).trans hw303_2), ((HB.out.cell (World.block_lt_of_cell? w _ hw303_3)).trans hw303_3), ((HB.out.cell (World.block_lt_of_cell? w _ hw303_4)).trans hw303_4), ((HB.out.cell (World.block_lt_of_cell? w _ hw303_5)).trans hw303_5), ((HB.out.cell (World.block_lt_of_cell? w _ hw303_6)).trans hw303_6), ((HB.out.cell (World.block_lt_of_cell? w _ hw303_7)).trans hw303_7)⟩ (fun hHeld => ?_)
       clear hK K
       refine norm_ (a' := ?_) ?_ ?_
       rotate_left
       ·show Act.put _ (some 24) _ = _
        simp only [Act.put, List.setIfInBounds_toArray, List.set_cons_zero, List.set_cons_succ, i64_w, i32_w]
        rfl
       refine pl_ [12, 13, 14, 15, 16, 17, 18, 19, 20, 21, 22, 23, 24, 25, 26, 27, 28] ?_
       iterate 4 refine pP rfl rfl (any_of HT_.out (by kernel_rfl)) (fun _ _ _ h => h) (by rfl) (by intro w'; go_simp; with_reducible rfl) (by simp only [Act.put, z1, z2, z3, i64_w, i32_w]; rfl) ?_
       iterate 11 refine pU rfl rfl (any_of HT_.out (by kernel_rfl)) (fun _ _ _ h => h) (by rfl) (by simp only [Act.put, z1, z2, z3, i64_w, i32_w]; rfl) ?_
       iterate 2 refine pP rfl rfl (any_of HT_.out (by kernel_rfl)) (fun _ _ _ h => h) (by rfl) (by intro w'; go_simp; with_reducible rfl) (by simp only [Act.put, z1, z2, z3, i64_w, i32_w]; rfl) ?_
       refine pl0 ?_
       refine done_ (done_of HT_.out (by kernel_rfl)) ?_
       try go_wp2
       go_roundg k1
       case measure => have := HK1.out; omega
       case rel => exact ⟨(x6_1), (wrap64 (x6_1 + 1)), (by first | rfl | (simp; done) | (simp [*]; done)), (by first | rfl | (simp; done) | (simp [*]; done)), H', ⟨by have := HK1.out; omega⟩, ⟨by (with_reducible repeat (first | refine blk_drewN ?_ _ | refine blk_drew ?_ | refine blk_alloc ?_ _)); exact BK301.out⟩, ⟨by repeat (first | (with_reducible first | exact HB.out | apply below_alloc | apply pw_below_drewN | apply below_drew1 | refine below_set ?_ GE301.out) | exact HB.out)⟩⟩
      ·rw [if_neg c8] at H
       have c8b0 : decide (x5_1 < 0) = false := decide_eq_false c8
       clear c8
       by_cases c11 : 0 ≤ x5_1
       ·rw [if_pos c11] at H
        have c11b0 : decide (0 ≤ x5_1) = true := decide_eq_true c11
        clear c11
        by_cases c12 : x5_1 < (l0.length : Int)
        ·rw [if_pos c12] at H
         have c12b0 : decide (x5_1 < (l0.length : Int)) = true := decide_eq_true c12
         clear c12
         by_cases c13 : ((rd_T78 l0 x6_1).f2) < ((rd_T78 l0 x5_1).f2)
         ·rw [if_pos c13] at H
          have c13b0 : decide (((rd_T78 l0 x6_1).f2) < ((rd_T78 l0 x5_1).f2)) = true := decide_eq_true c13
          clear c13
          have H' := Aside0.mk H
          clear H
          try go_wp2
          replace BK301 := Aside0.mk (blk_drew BK301.out)
          replace HB := Aside0.mk (below_drew1 HB.out)
          have p302 : 0 ≤ (x6_1 : Int) := of_decide_eq_true (by first | (with_reducible assumption) | assumption)
          have q302 : x6_1 < (l0.length : Int) := of_decide_eq_true (by first | (with_reducible assumption) | assumption)
          obtain ⟨ad302, e302, hx302_0, hx302_1, hx302_2, hx302_3, hx302_4, hx302_5, hx302_6, hx302_7⟩ := at_T78 HR0.out x6_1 p302 q302
          have hw302_7 := hx302_7
          have hw302_6 := hx302_6
          have hw302_5 := hx302_5
          have hw302_4 := hx302_4
          have hw302_3 := hx302_3
          have hw302_2 := hx302_2
          have hw302_1 := hx302_1
          have hw302_0 := hx302_0
          cases e302
          replace hx302_0 := (HB.out.cell (World.block_lt_of_cell? w _ hx302_0)).trans hx302_0
          replace hx302_1 := (HB.out.cell (World.block_lt_of_cell? w _ hx302_1)).trans hx302_1
          replace hx302_2 := (HB.out.cell (World.block_lt_of_cell? w _ hx302_2)).trans hx302_2
          replace hx302_3 := (HB.out.cell (World.block_lt_of_cell? w _ hx302_3)).trans hx302_3
          replace hx302_4 := (HB.out.cell (World.block_lt_of_cell? w _ hx302_4)).trans hx302_4
          replace hx302_5 := (HB.out.cell (World.block_lt_of_cell? w _ hx302_5)).trans hx302_5
          replace hx302_6 := (HB.out.cell (World.block_lt_of_cell? w _ hx302_6)).trans hx302_6
          replace hx302_7 := (HB.out.cell (World.block_lt_of_cell? w _ hx302_7)).trans hx302_7
          replace p302 := eq_true p302
          replace q302 := eq_true q302
          have p303 : 0 ≤ (x6_1 : Int) := of_decide_eq_true (by first | (with_reducible assumption) | assumption)
          have q303 : x6_1 < (l0.length : Int) := of_decide_eq_true (by first | (with_reducible assumption) | assumption)
          obtain ⟨ad303, e303, hx303_0, hx303_1, hx303_2, hx303_3, hx303_4, hx303_5, hx303_6, hx303_7⟩ := at_T78 HR0.out x6_1 p303 q303
          have hw303_7 := hx303_7
          have hw303_6 := hx303_6
          have hw303_5 := hx303_5
          have hw303_4 := hx303_4
          have hw303_3 := hx303_3
          have hw303_2 := hx303_2
          have hw303_1 := hx303_1
          have hw303_0 := hx303_0
          obtain rfl : ad302 = ad303 := (by injection e303)
          replace hx303_0 := (HB.out.cell (World.block_lt_of_cell? w _ hx303_0)).trans hx303_0
          replace hx303_1 := (HB.out.cell (World.block_lt_of_cell? w _ hx303_1)).trans hx303_1
          replace hx303_2 := (HB.out.cell (World.block_lt_of_cell? w _ hx303_2)).trans hx303_2
          replace hx303_3 := (HB.out.cell (World.block_lt_of_cell? w _ hx303_3)).trans hx303_3
          replace hx303_4 := (HB.out.cell (World.block_lt_of_cell? w _ hx303_4)).trans hx303_4
          replace hx303_5 := (HB.out.cell (World.block_lt_of_cell? w _ hx303_5)).trans hx303_5
          replace hx303_6 := (HB.out.cell (World.block_lt_of_cell? w _ hx303_6)).trans hx303_6
          replace hx303_7 := (HB.out.cell (World.block_lt_of_cell? w _ hx303_7)).trans hx303_7
          replace p303 := eq_true p303
          replace q303 := eq_true q303
          have p305 : 0 ≤ (x6_1 : Int) := of_decide_eq_true (by first | (with_reducible assumption) | assumption)
          have q305 : x6_1 < (l0.length : Int) := of_decide_eq_true (by first | (with_reducible assumption) | assumption)
          obtain ⟨ad305, e305, hx305_0, hx305_1, hx305_2, hx305_3, hx305_4, hx305_5, hx305_6, hx305_7⟩ := at_T78 HR0.out x6_1 p305 q305
          have hw305_7 := hx305_7
          have hw305_6 := hx305_6
          have hw305_5 := hx305_5
          have hw305_4 := hx305_4
          have hw305_3 := hx305_3
          have hw305_2 := hx305_2
          have hw305_1 := hx305_1
          have hw305_0 := hx305_0
          obtain rfl : ad302 = ad305 := (by injection e305)
          replace hx305_0 := (HB.out.cell (World.block_lt_of_cell? w _ hx305_0)).trans hx305_0
          replace hx305_1 := (HB.out.cell (World.block_lt_of_cell? w _ hx305_1)).trans hx305_1
          replace hx305_2 := (HB.out.cell (World.block_lt_of_cell? w _ hx305_2)).trans hx305_2
          replace hx305_3 := (HB.out.cell (World.block_lt_of_cell? w _ hx305_3)).trans hx305_3
          replace hx305_4 := (HB.out.cell (World.block_lt_of_cell? w _ hx305_4)).trans hx305_4
          replace hx305_5 := (HB.out.cell (World.block_lt_of_cell? w _ hx305_5)).trans hx305_5
          replace hx305_6 := (HB.out.cell (World.block_lt_of_cell? w _ hx305_6)).trans hx305_6
          replace hx305_7 := (HB.out.cell (World.block_lt_of_cell? w _ hx305_7)).trans hx305_7
          replace p305 := eq_true p305
          replace q305 := eq_true q305
          have p306 : 0 ≤ (x5_1 : Int) := of_decide_eq_true (by first | (with_reducible assumption) | assumption)
          have q306 : x5_1 < (l0.length : Int) := of_decide_eq_true (by first | (with_reducible assumption) | assumption)
          obtain ⟨ad306, e306, hx306_0, hx306_1, hx306_2, hx306_3, hx306_4, hx306_5, hx306_6, hx306_7⟩ := at_T78 HR0.out x5_1 p306 q306
          have hw306_7 := hx306_7
          have hw306_6 := hx306_6
          have hw306_5 := hx306_5
          have hw306_4 := hx306_4
          have hw306_3 := hx306_3
          have hw306_2 := hx306_2
          have hw306_1 := hx306_1
          have hw306_0 := hx306_0
          obtain rfl : ad302 = ad306 := (by injection e306)
          replace hx306_0 := (HB.out.cell (World.block_lt_of_cell? w _ hx306_0)).trans hx306_0
          replace hx306_1 := (HB.out.cell (World.block_lt_of_cell? w _ hx306_1)).trans hx306_1
          replace hx306_2 := (HB.out.cell (World.block_lt_of_cell? w _ hx306_2)).trans hx306_2
          replace hx306_3 := (HB.out.cell (World.block_lt_of_cell? w _ hx306_3)).trans hx306_3
          replace hx306_4 := (HB.out.cell (World.block_lt_of_cell? w _ hx306_4)).trans hx306_4
          replace hx306_5 := (HB.out.cell (World.block_lt_of_cell? w _ hx306_5)).trans hx306_5
          replace hx306_6 := (HB.out.cell (World.block_lt_of_cell? w _ hx306_6)).trans hx306_6
          replace hx306_7 := (HB.out.cell (World.block_lt_of_cell? w _ hx306_7)).trans hx306_7
          replace p306 := eq_true p306
          replace q306 := eq_true q306
          refine start_ (n := 29) (S := fun w' => w'.cell? ⟨gb301, 0, none⟩ = some (.int .i64 a1_0) ∧ w'.cell? ⟨gb301, 1, none⟩ = some (.int .u64 a1_1) ∧ w'.cell? ⟨gb301, 2, none⟩ = some (.int .u64 a1_2) ∧ w'.cell? (ad302.add ((x6_1).toNat * 8)) = some (.int .i64 ((rd_T78 l0 x6_1).f0.f0)) ∧ w'.cell? ⟨(ad302.add ((x6_1).toNat * 8)).block, (ad302.add ((x6_1).toNat * 8)).off + 1, none⟩ = some (.int .u64 ((rd_T78 l0 x6_1).f0.f1)) ∧ w'.cell? ⟨(ad302.add ((x6_1).toNat * 8)).block, (ad302.add ((x6_1).toNat * 8)).off + 2, none⟩ = some (.int .u64 ((rd_T78 l0 x6_1).f0.f2)) ∧ w'.cell? ⟨(ad302.add ((x6_1).toNat * 8)).block, (ad302.add ((x6_1).toNat * 8)).off + 3, none⟩ = some (.int .i64 ((rd_T78 l0 x6_1).f1.f0)) ∧ w'.cell? ⟨(ad302.add ((x6_1).toNat * 8)).block, (ad302.add ((x6_1).toNat * 8)).off + 4, none⟩ = some (.int .u64 ((rd_T78 l0 x6_1).f1.f1)) ∧ w'.cell? ⟨(ad302.add ((x6_1).toNat * 8)).block, (ad302.add ((x6_1).toNat * 8)).off + 5, none⟩ = some (.int .u64 ((rd_T78 l0 x6_1).f1.f2)) ∧ w'.cell? ⟨(ad302.add ((x6_1).toNat * 8)).block, (ad302.add ((x6_1).toNat * 8)).off + 6, none⟩ = some (.int .i64 ((rd_T78 l0 x6_1).f2)) ∧ w'.cell? ⟨(ad302.add ((x6_1).toNat * 8)).block, (ad302.add ((x6_1).toNat * 8)).off + 7, none⟩ = some (.int .i64 ((rd_T78 l0 x6_1).f3)) ∧ w'.cell? (ad302.add ((x6_1).toNat * 8)) = some (.int .i64 ((rd_T78 l0 x6_1).f0.f0)) ∧ w'.cell? ⟨(ad302.add ((x6_1).toNat * 8)).block, (ad302.add ((x6_1).toNat * 8)).off + 1, none⟩ = some (.int .u64 ((rd_T78 l0 x6_1).f0.f1)) ∧ w'.cell? ⟨(ad302.add ((x6_1).toNat * 8)).block, (ad302.add ((x6_1).toNat * 8)).off + 2, none⟩ = some (.int .u64 ((rd_T78 l0 x6_1).f0.f2)) ∧ w'.cell? ⟨(ad302.add ((x6_1).toNat * 8)).block, (ad302.add ((x6_1).toNat * 8)).off + 3, none⟩ = some (.int .i64 ((rd_T78 l0 x6_1).f1.f0)) ∧ w'.cell? ⟨(ad302.add ((x6_1).toNat * 8)).block, (ad302.add ((x6_1).toNat * 8)).off + 4, none⟩ = some (.int .u64 ((rd_T78 l0 x6_1).f1.f1)) ∧ w'.cell? ⟨(ad302.add ((x6_1).toNat * 8)).block, (ad302.add ((x6_1).toNat * 8)).off + 5, none⟩ = some (.int .u64 ((rd_T78 l0 x6_1).f1.f2)) ∧ w'.cell? ⟨(ad302.add ((x6_1).toNat * 8)).block, (ad302.add ((x6_1).toNat * 8)).off + 6, none⟩ = some (.int .i64 ((rd_T78 l0 x6_1).f2)) ∧ w'.cell? ⟨(ad302.add ((x6_1).toNat * 8)).block, (ad302.add ((x6_1).toNat * 8)).off + 7, none⟩ = some (.int .i64 ((rd_T78 l0 x6_1).f3)) ∧ w'.cell? (ad302.add ((x6_1).toNat * 8)) = some (.int .i64 ((rd_T78 l0 x6_1).f0.f0)) ∧ w'.cell? ⟨(ad302.add ((x6_1).toNat * 8)).block, (ad302.add ((x6_1).toNat * 8)).off + 1, none⟩ = some (.int .u64 ((rd_T78 l0 x6_1).f0.f1)) ∧ w'.cell? ⟨(ad302.add ((x6_1).toNat * 8)).block, (ad302.add ((x6_1).toNat * 8)).off + 2, none⟩ = some (.int .u64 ((rd_T78 l0 x6_1).f0.f2)) ∧ w'.cell? ⟨(ad302.add ((x6_1).toNat * 8)).block, (ad302.add ((x6_1).toNat * 8)).off + 3, none⟩ = some (.int .i64 ((rd_T78 l0 x6_1).f1.f0)) ∧ w'.cell? ⟨(ad302.add ((x6_1).toNat * 8)).block, (ad302.add ((x6_1).toNat * 8)).off + 4, none⟩ = some (.int .u64 ((rd_T78 l0 x6_1).f1.f1)) ∧ w'.cell? ⟨(ad302.add ((x6_1).toNat * 8)).block, (ad302.add ((x6_1).toNat * 8)).off + 5, none⟩ = some (.int .u64 ((rd_T78 l0 x6_1).f1.f2)) ∧ w'.cell? ⟨(ad302.add ((x6_1).toNat * 8)).block, (ad302.add ((x6_1).toNat * 8)).off + 6, none⟩ = some (.int .i64 ((rd_T78 l0 x6_1).f2)) ∧ w'.cell? ⟨(ad302.add ((x6_1).toNat * 8)).block, (ad302.add ((x6_1).toNat * 8)).off + 7, none⟩ = some (.int .i64 ((rd_T78 l0 x6_1).f3)) ∧ w'.cell? (ad302.add ((x5_1).toNat * 8)) = some (.int .i64 ((rd_T78 l0 x5_1).f0.f0)) ∧ w'.cell? ⟨(ad302.add ((x5_1).toNat * 8)).block, (ad302.add ((x5_1).toNat * 8)).off + 1, none⟩ = some (.int .u64 ((rd_T78 l0 x5_1).f0.f1)) ∧ w'.cell? ⟨(ad302.add ((x5_1).toNat * 8)).block, (ad302.add ((x5_1).toNat * 8)).off + 2, none⟩ = some (.int .u64 ((rd_T78 l0 x5_1).f0.f2)) ∧ w'.cell? ⟨(ad302.add ((x5_1).toNat * 8)).block, (ad302.add ((x5_1).toNat * 8)).off + 3, none⟩ = some (.int .i64 ((rd_T78 l0 x5_1).f1.f0)) ∧ w'.cell? ⟨(ad302.add ((x5_1).toNat * 8)).block, (ad302.add ((x5_1).toNat * 8)).off + 4, none⟩ = some (.int .u64 ((rd_T78 l0 x5_1).f1.f1)) ∧ w'.cell? ⟨(ad302.add ((x5_1).toNat * 8)).block, (ad302.add ((x5_1).toNat * 8)).off + 5, none⟩ = some (.int .u64 ((rd_T78 l0 x5_1).f1.f2)) ∧ w'.cell? ⟨(ad302.add ((x5_1).toNat * 8)).block, (ad302.add ((x5_1).toNat * 8)).off + 6, none⟩ = some (.int .i64 ((rd_T78 l0 x5_1).f2)) ∧ w'.cell? ⟨(ad302.add ((x5_1).toNat * 8)).block, (ad302.add ((x5_1).toNat * 8)).off + 7, none⟩ = some (.int .i64 ((rd_T78 l0 x5_1).f3))) (ds := []) #[false, false, false, false, false, false, false, false, false, false, false, false, false, false, false, false, false, false, false, false, false, false, false, false, false, false, false, false, false] (by kernel_rfl) rfl rfl ⟨(blk_cell BK301.out 0).trans rfl, (blk_cell BK301.out 1).trans rfl, (blk_cell BK301.out 2).trans rfl, ((HB.out.cell (World.block_lt_of_cell? w _ hw302_0)).trans hw302_0), ((HB.out.cell (World.block_lt_of_cell? w _ hw302_1)).trans hw302_1), ((HB.out.cell (World.block_lt_of_cell? w _ hw302_2)).trans hw302_2), ((HB.out.cell (World.block_lt_of_cell? w _ hw302_3)).trans hw302_3), ((HB.out.cell (World.block_lt_of_cell? w _ hw302_4)).trans hw302_4), ((HB.out.cell (World.block_lt_of_cell? w _ hw302_5)).trans hw302_5), ((HB.out.cell (World.block_lt_of_cell? w _ hw302_6)).trans hw302_6), ((HB.out.cell (World.block_lt_of_cell? w _ hw302_7)).trans hw302_7), ((HB.out.cell (World.block_lt_of_cell? w _ hw303_0)).trans hw303_0), ((HB.out.cell (World.block_lt_of_cell? w _ hw303_1)).trans hw303_1), ((HB.out.cell (World.block_lt_of_cell? w _ hw303_2)).trans hw303_2), ((HB.out.cell (World.block_lt_of_cell? w _ hw303_3)).trans hw303_3), ((HB.out.cell (World.block_lt_of_cell? w _ hw303_4)).trans hw303_4), ((HB.out.cell (World.block_lt_of_cell? w _ hw303_5)).trans hw303_5), ((HB.out.cell (World.block_lt_of_cell? w _ hw303_6)).trans hw303_6), ((HB.out.cell (World.block_lt_of_cell? w _ hw303_7)).trans hw303_7), ((HB.out.cell (World.block_lt_of_cell? w _ hw305_0)).trans hw305_0), ((HB.out.cell (World.block_lt_of_cell? w _ hw305_1)).trans hw305_1), ((HB.out.cell (World.block_lt_of_cell? w _ hw305_2)).trans hw305_2), ((HB.out.cell (World.block_lt_of_cell? w _ hw305_3)).trans hw305_3), ((HB.out.cell (World.block_lt_of_cell? w _ hw305_4)).trans hw305_4), ((HB.out.cell (World.block_lt_of_cell? w _ hw305_5)).trans hw305_5), ((HB.out.cell (World.block_lt_of_cell? w _ hw305_6)).trans hw305_6), ((HB.out.cell (World.block_lt_of_cell? w _ hw305_7)).trans hw305_7), ((HB.out.cell (World.block_lt_of_cell? w _ hw306_0)).trans hw306_0), ((HB.out.cell (World.block_lt_of_cell? w _ hw306_1)).trans hw306_1), ((HB.out.cell (World.block_lt_of_cell? w _ hw306_2)).trans hw306_2), ((HB.out.cell (World.block_lt_of_cell? w _ hw306_3)).trans hw306_3), ((HB.out.cell (World.block_lt_of_cell? w _ hw306_4)).trans hw306_4), ((HB.out.cell (World.block_lt_of_cell? w _ hw306_5)).trans hw306_5), ((HB.out.cell (World.block_lt_of_cell? w _ hw306_6)).trans hw306_6), ((HB.out.cell (World.block_lt_of_cell? w _ hw306_7)).trans hw306_7)⟩ (fun hHeld => ?_); refine with_tabW shunterref21_Get.tab5 shunterref21_Get.bits5 (fun HT_ HW_ => ?_)
          generalize wr.drew = w14 at BK301 HB hx302_0 hx302_1 hx302_2 hx302_3 hx302_4 hx302_5 hx302_6 hx302_7 hx303_0 hx303_1 hx303_2 hx303_3 hx303_4 hx303_5 hx303_6 hx303_7 hx305_0 hx305_1 hx305_2 hx305_3 hx305_4 hx305_5 hx305_6 hx305_7 hx306_0 hx306_1 hx306_2 hx306_3 hx306_4 hx306_5 hx306_6 hx306_7 hHeld ⊢
          refine pl_ [1, 2, 3, 4, 6, 7, 8, 9, 0, 5, 10] ?_
          iterate 8 refine pP rfl rfl (any_of HT_.out (by kernel_rfl)) (fun _ _ _ h => h) (by rfl) (by intro w'; go_simp; with_reducible rfl) (by simp only [Act.put, z1, z2, z3, i64_w, i32_w]; rfl) ?_
          iterate 3 refine pT hHeld rfl rfl (take_ofW HT_.out HW_.out (by kernel_rfl)) (fun _ _ _ h => h) (by rfl) (by rintro w' ⟨s0, s1, s2, s3, s4, s5, s6, s7, s8, s9, s10, s11, s12, s13, s14, s15, s16, s17, s18, s19, s20, s21, s22, s23, s24, s25, s26, s27, s28, s29, s30, s31, s32, s33, s34⟩; go_simp; with_reducible rfl) (by simp only [Act.put, z1, z2, z3, i64_w, i32_w]; rfl) ?_
          refine pl0 ?_
          refine one_ (i := 11) (N := some 24) #[true, true, true, true, true, true, true, true, true, true, true, true, false, false, false, false, false, false, false, false, false, false, false, false, false, false, false, false, false] rfl rfl (one_of HT_.out (by kernel_rfl)) (by decide) (fun K hK => ?_)
          refine goes_ Try.func38 (by kernel_rfl) rfl #[.agg #[.int .i64 a1_0, .int .u64 a1_1, .int .u64 a1_2], .agg #[.int .i64 ((rd_T78 l0 x6_1).f0.f0), .int .u64 ((rd_T78 l0 x6_1).f0.f1), .int .u64 ((rd_T78 l0 x6_1).f0.f2)], .agg #[.int .i64 ((rd_T78 l0 x6_1).f1.f0), .int .u64 ((rd_T78 l0 x6_1).f1.f1), .int .u64 ((rd_T78 l0 x6_1).f1.f2)]] (by rfl) rfl rfl (by (try simp only [List.map_toArray, List.map_cons, List.map_nil]); first | done | rfl | (simp only [List.length_drop, List.length_take]; rfl)) ?_
          with_reducible refine (shunterref02_Meets.calls k1 a1_0 a1_1 a1_2 ((rd_T78 l0 x6_1).f0.f0) ((rd_T78 l0 x6_1).f0.f1) ((rd_T78 l0 x6_1).f0.f2) ((rd_T78 l0 x6_1).f1.f0) ((rd_T78 l0 x6_1).f1.f1) ((rd_T78 l0 x6_1).f1.f2) true _ A6.out).mono ?_
          rintro e w15 ⟨rfl, hb⟩
          refine ⟨_, rfl, ?_⟩
          replace BK301 := bk1 (by (with_reducible repeat (first | refine blk_drewN ?_ _ | refine blk_drew ?_ | refine blk_alloc ?_ _)); exact BK301.out) hb
          replace HB := Aside0.mk (below_step (by repeat (first | (with_reducible first | exact HB.out | apply below_alloc | apply pw_below_drewN | apply below_drew1 | refine below_set ?_ GE301.out) | exact HB.out)) hb)
          (try clear hb)
          (try clear hb2)
          (try clear hk)
          (try clear hi)
          refine hK.out _ _ ⟨(blk_cell BK301.out 0).trans rfl, (blk_cell BK301.out 1).trans rfl, (blk_cell BK301.out 2).trans rfl, ((HB.out.cell (World.block_lt_of_cell? w _ hw302_0)).trans hw302_0), ((HB.out.cell (World.block_lt_of_cell? w _ hw302_1)).trans hw302_1), ((HB.out.cell (World.block_lt_of_cell? w _ hw302_2)).trans hw302_2), ((HB.out.cell (World.block_lt_of_cell? w _ hw302_3)).trans hw302_3), ((HB.out.cell (World.block_lt_of_cell? w _ hw302_4)).trans hw302_4), ((HB.out.cell (World.block_lt_of_cell? w _ hw302_5)).trans hw302_5), ((HB.out.cell (World.block_lt_of_cell? w _ hw302_6)).trans hw302_6), ((HB.out.cell (World.block_lt_of_cell? w _ hw302_7)).trans hw302_7), ((HB.out.cell (World.block_lt_of_cell? w _ hw303_0)).trans hw303_0), ((HB.out.cell (World.block_lt_of_cell? w _ hw303_1)).trans hw303_1), ((HB.out.cell (World.block_lt_of_cell? w _ hw303_2)).trans hw303_2), ((HB.out.cell (World.block_lt_of_cell? w _ hw303_3)).trans hw303_3), ((HB.out.cell (World.block_lt_of_cell? w _ hw303_4)).trans hw303_4), ((HB.out.cell (World.block_lt_of_cell? w _ hw303_5)).trans hw303_5), ((HB.out.cell (World.block_lt_of_cell? w _ hw303_6)).trans hw303_6), ((HB.out.cell (World.block_lt_of_cell? w _ hw303_7)).trans hw303_7), ((HB.out.cell (World.block_lt_of_cell? w _ hw305_0)).trans hw305_0), ((HB.out.cell (World.block_lt_of_cell? w _ hw305_1)).trans hw305_1), ((HB.out.cell (World.block_lt_of_cell? w _ hw305_2)).trans hw305_2), ((HB.out.cell (World.block_lt_of_cell? w _ hw305_3)).trans hw305_3), ((HB.out.cell (World.block_lt_of_cell? w _ hw305_4)).trans hw305_4), ((HB.out.cell (World.block_lt_of_cell? w _ hw305_5)).trans hw305_5), ((HB.out.cell (World.block_lt_of_cell? w _ hw305_6)).trans hw305_6), ((HB.out.cell (World.block_lt_of_cell? w _ hw305_7)).trans hw305_7), ((HB.out.cell (World.block_lt_of_cell? w _ hw306_0)).trans hw306_0), ((HB.out.cell (World.block_lt_of_cell? w _ hw306_1)).trans hw306_1), ((HB.out.cell (World.block_lt_of_cell? w _ hw306_2)).trans hw306_2), ((HB.out.cell (World.block_lt_of_cell? w _ hw306_3)).trans hw306_3), ((HB.out.cell (World.block_lt_of_cell? w _ hw306_4)).trans hw306_4), ((HB.out.cell (World.block_lt_of_cell? w _ hw306_5)).trans hw306_5), ((HB.out.cell (World.block_lt_of_cell? w _ hw306_6)).trans hw306_6), ((HB.out.cell (World.block_lt_of_cell? w _ hw306_7)).trans hw306_7)⟩ (fun hHeld => ?_)
          clear hK K
          refine norm_ (a' := ?_) ?_ ?_
          rotate_left
          ·show Act.put _ (some 24) _ = _
           simp only [Act.put, List.setIfInBounds_toArray, List.set_cons_zero, List.set_cons_succ, i64_w, i32_w]
           rfl
          refine pl_ [12, 13, 14, 15, 16, 17, 18, 19, 21, 22, 23, 24, 20, 25, 26, 27, 28] ?_
          iterate 12 refine pP rfl rfl (any_of HT_.out (by kernel_rfl)) (fun _ _ _ h => h) (by rfl) (by intro w'; go_simp; with_reducible rfl) (by simp only [Act.put, z1, z2, z3, i64_w, i32_w]; rfl) ?_
          iterate 2 refine pT hHeld rfl rfl (take_ofW HT_.out HW_.out (by kernel_rfl)) (fun _ _ _ h => h) (by rfl) (by rintro w' ⟨s0, s1, s2, s3, s4, s5, s6, s7, s8, s9, s10, s11, s12, s13, s14, s15, s16, s17, s18, s19, s20, s21, s22, s23, s24, s25, s26, s27, s28, s29, s30, s31, s32, s33, s34⟩; go_simp; with_reducible rfl) (by simp only [Act.put, z1, z2, z3, i64_w, i32_w]; rfl) ?_
          iterate 3 refine pP rfl rfl (any_of HT_.out (by kernel_rfl)) (fun _ _ _ h => h) (by rfl) (by intro w'; go_simp; with_reducible rfl) (by simp only [Act.put, z1, z2, z3, i64_w, i32_w]; rfl) ?_
          refine pl0 ?_
          refine done_ (done_of HT_.out (by kernel_rfl)) ?_
          try go_wp2
          go_roundg k1
          case measure => have := HK1.out; omega
          case rel => exact ⟨(x6_1), (wrap64 (x6_1 + 1)), (by first | rfl | (simp; done) | (simp [*]; done)), (by first | rfl | (simp; done) | (simp [*]; done)), H', ⟨by have := HK1.out; omega⟩, ⟨by (with_reducible repeat (first | refine blk_drewN ?_ _ | refine blk_drew ?_ | refine blk_alloc ?_ _)); exact BK301.out⟩, ⟨by repeat (first | (with_reducible first | exact HB.out | apply below_alloc | apply pw_below_drewN | apply below_drew1 | refine below_set ?_ GE301.out) | exact HB.out)⟩⟩
         ·rw [if_neg c13] at H
          have c13b0 : decide (((rd_T78 l0 x6_1).f2) < ((rd_T78 l0 x5_1).f2)) = false := decide_eq_false c13
          clear c13
          have H' := Aside0.mk H
          clear H
          try go_wp2
          replace BK301 := Aside0.mk (blk_drew BK301.out)
          replace HB := Aside0.mk (below_drew1 HB.out)
          have p302 : 0 ≤ (x6_1 : Int) := of_decide_eq_true (by first | (with_reducible assumption) | assumption)
          have q302 : x6_1 < (l0.length : Int) := of_decide_eq_true (by first | (with_reducible assumption) | assumption)
          obtain ⟨ad302, e302, hx302_0, hx302_1, hx302_2, hx302_3, hx302_4, hx302_5, hx302_6, hx302_7⟩ := at_T78 HR0.out x6_1 p302 q302
          have hw302_7 := hx302_7
          have hw302_6 := hx302_6
          have hw302_5 := hx302_5
          have hw302_4 := hx302_4
          have hw302_3 := hx302_3
          have hw302_2 := hx302_2
          have hw302_1 := hx302_1
          have hw302_0 := hx302_0
          cases e302
          replace hx302_0 := (HB.out.cell (World.block_lt_of_cell? w _ hx302_0)).trans hx302_0
          replace hx302_1 := (HB.out.cell (World.block_lt_of_cell? w _ hx302_1)).trans hx302_1
          replace hx302_2 := (HB.out.cell (World.block_lt_of_cell? w _ hx302_2)).trans hx302_2
          replace hx302_3 := (HB.out.cell (World.block_lt_of_cell? w _ hx302_3)).trans hx302_3
          replace hx302_4 := (HB.out.cell (World.block_lt_of_cell? w _ hx302_4)).trans hx302_4
          replace hx302_5 := (HB.out.cell (World.block_lt_of_cell? w _ hx302_5)).trans hx302_5
          replace hx302_6 := (HB.out.cell (World.block_lt_of_cell? w _ hx302_6)).trans hx302_6
          replace hx302_7 := (HB.out.cell (World.block_lt_of_cell? w _ hx302_7)).trans hx302_7
          replace p302 := eq_true p302
          replace q302 := eq_true q302
          have p303 : 0 ≤ (x6_1 : Int) := of_decide_eq_true (by first | (with_reducible assumption) | assumption)
          have q303 : x6_1 < (l0.length : Int) := of_decide_eq_true (by first | (with_reducible assumption) | assumption)
          obtain ⟨ad303, e303, hx303_0, hx303_1, hx303_2, hx303_3, hx303_4, hx303_5, hx303_6, hx303_7⟩ := at_T78 HR0.out x6_1 p303 q303
          have hw303_7 := hx303_7
          have hw303_6 := hx303_6
          have hw303_5 := hx303_5
          have hw303_4 := hx303_4
          have hw303_3 := hx303_3
          have hw303_2 := hx303_2
          have hw303_1 := hx303_1
          have hw303_0 := hx303_0
          obtain rfl : ad302 = ad303 := (by injection e303)
          replace hx303_0 := (HB.out.cell (World.block_lt_of_cell? w _ hx303_0)).trans hx303_0
          replace hx303_1 := (HB.out.cell (World.block_lt_of_cell? w _ hx303_1)).trans hx303_1
          replace hx303_2 := (HB.out.cell (World.block_lt_of_cell? w _ hx303_2)).trans hx303_2
          replace hx303_3 := (HB.out.cell (World.block_lt_of_cell? w _ hx303_3)).trans hx303_3
          replace hx303_4 := (HB.out.cell (World.block_lt_of_cell? w _ hx303_4)).trans hx303_4
          replace hx303_5 := (HB.out.cell (World.block_lt_of_cell? w _ hx303_5)).trans hx303_5
          replace hx303_6 := (HB.out.cell (World.block_lt_of_cell? w _ hx303_6)).trans hx303_6
          replace hx303_7 := (HB.out.cell (World.block_lt_of_cell? w _ hx303_7)).trans hx303_7
          replace p303 := eq_true p303
          replace q303 := eq_true q303
          have p305 : 0 ≤ (x6_1 : Int) := of_decide_eq_true (by first | (with_reducible assumption) | assumption)
          have q305 : x6_1 < (l0.length : Int) := of_decide_eq_true (by first | (with_reducible assumption) | assumption)
          obtain ⟨ad305, e305, hx305_0, hx305_1, hx305_2, hx305_3, hx305_4, hx305_5, hx305_6, hx305_7⟩ := at_T78 HR0.out x6_1 p305 q305
          have hw305_7 := hx305_7
          have hw305_6 := hx305_6
          have hw305_5 := hx305_5
          have hw305_4 := hx305_4
          have hw305_3 := hx305_3
          have hw305_2 := hx305_2
          have hw305_1 := hx305_1
          have hw305_0 := hx305_0
          obtain rfl : ad302 = ad305 := (by injection e305)
          replace hx305_0 := (HB.out.cell (World.block_lt_of_cell? w _ hx305_0)).trans hx305_0
          replace hx305_1 := (HB.out.cell (World.block_lt_of_cell? w _ hx305_1)).trans hx305_1
          replace hx305_2 := (HB.out.cell (World.block_lt_of_cell? w _ hx305_2)).trans hx305_2
          replace hx305_3 := (HB.out.cell (World.block_lt_of_cell? w _ hx305_3)).trans hx305_3
          replace hx305_4 := (HB.out.cell (World.block_lt_of_cell? w _ hx305_4)).trans hx305_4
          replace hx305_5 := (HB.out.cell (World.block_lt_of_cell? w _ hx305_5)).trans hx305_5
          replace hx305_6 := (HB.out.cell (World.block_lt_of_cell? w _ hx305_6)).trans hx305_6
          replace hx305_7 := (HB.out.cell (World.block_lt_of_cell? w _ hx305_7)).trans hx305_7
          replace p305 := eq_true p305
          replace q305 := eq_true q305
          have p306 : 0 ≤ (x5_1 : Int) := of_decide_eq_true (by first | (with_reducible assumption) | assumption)
          have q306 : x5_1 < (l0.length : Int) := of_decide_eq_true (by first | (with_reducible assumption) | assumption)
          obtain ⟨ad306, e306, hx306_0, hx306_1, hx306_2, hx306_3, hx306_4, hx306_5, hx306_6, hx306_7⟩ := at_T78 HR0.out x5_1 p306 q306
          have hw306_7 := hx306_7
          have hw306_6 := hx306_6
          have hw306_5 := hx306_5
          have hw306_4 := hx306_4
          have hw306_3 := hx306_3
          have hw306_2 := hx306_2
          have hw306_1 := hx306_1
          have hw306_0 := hx306_0
          obtain rfl : ad302 = ad306 := (by injection e306)
          replace hx306_0 := (HB.out.cell (World.block_lt_of_cell? w _ hx306_0)).trans hx306_0
          replace hx306_1 := (HB.out.cell (World.block_lt_of_cell? w _ hx306_1)).trans hx306_1
          replace hx306_2 := (HB.out.cell (World.block_lt_of_cell? w _ hx306_2)).trans hx306_2
          replace hx306_3 := (HB.out.cell (World.block_lt_of_cell? w _ hx306_3)).trans hx306_3
          replace hx306_4 := (HB.out.cell (World.block_lt_of_cell? w _ hx306_4)).trans hx306_4
          replace hx306_5 := (HB.out.cell (World.block_lt_of_cell? w _ hx306_5)).trans hx306_5
          replace hx306_6 := (HB.out.cell (World.block_lt_of_cell? w _ hx306_6)).trans hx306_6
          replace hx306_7 := (HB.out.cell (World.block_lt_of_cell? w _ hx306_7)).trans hx306_7
          replace p306 := eq_true p306
          replace q306 := eq_true q306
          refine start_ (n := 29) (S := fun w' => w'.cell? ⟨gb301, 0, none⟩ = some (.int .i64 a1_0) ∧ w'.cell? ⟨gb301, 1, none⟩ = some (.int .u64 a1_1) ∧ w'.cell? ⟨gb301, 2, none⟩ = some (.int .u64 a1_2) ∧ w'.cell? (ad302.add ((x6_1).toNat * 8)) = some (.int .i64 ((rd_T78 l0 x6_1).f0.f0)) ∧ w'.cell? ⟨(ad302.add ((x6_1).toNat * 8)).block, (ad302.add ((x6_1).toNat * 8)).off + 1, none⟩ = some (.int .u64 ((rd_T78 l0 x6_1).f0.f1)) ∧ w'.cell? ⟨(ad302.add ((x6_1).toNat * 8)).block, (ad302.add ((x6_1).toNat * 8)).off + 2, none⟩ = some (.int .u64 ((rd_T78 l0 x6_1).f0.f2)) ∧ w'.cell? ⟨(ad302.add ((x6_1).toNat * 8)).block, (ad302.add ((x6_1).toNat * 8)).off + 3, none⟩ = some (.int .i64 ((rd_T78 l0 x6_1).f1.f0)) ∧ w'.cell? ⟨(ad302.add ((x6_1).toNat * 8)).block, (ad302.add ((x6_1).toNat * 8)).off + 4, none⟩ = some (.int .u64 ((rd_T78 l0 x6_1).f1.f1)) ∧ w'.cell? ⟨(ad302.add ((x6_1).toNat * 8)).block, (ad302.add ((x6_1).toNat * 8)).off + 5, none⟩ = some (.int .u64 ((rd_T78 l0 x6_1).f1.f2)) ∧ w'.cell? ⟨(ad302.add ((x6_1).toNat * 8)).block, (ad302.add ((x6_1).toNat * 8)).off + 6, none⟩ = some (.int .i64 ((rd_T78 l0 x6_1).f2)) ∧ w'.cell? ⟨(ad302.add ((x6_1).toNat * 8)).block, (ad302.add ((x6_1).toNat * 8)).off + 7, none⟩ = some (.int .i64 ((rd_T78 l0 x6_1).f3)) ∧ w'.cell? (ad302.add ((x6_1).toNat * 8)) = some (.int .i64 ((rd_T78 l0 x6_1).f0.f0)) ∧ w'.cell? ⟨(ad302.add ((x6_1).toNat * 8)).block, (ad302.add ((x6_1).toNat * 8)).off + 1, none⟩ = some (.int .u64 ((rd_T78 l0 x6_1).f0.f1)) ∧ w'.cell? ⟨(ad302.add ((x6_1).toNat * 8)).block, (ad302.add ((x6_1).toNat * 8)).off + 2, none⟩ = some (.int .u64 ((rd_T78 l0 x6_1).f0.f2)) ∧ w'.cell? ⟨(ad302.add ((x6_1).toNat * 8)).block, (ad302.add ((x6_1).toNat * 8)).off + 3, none⟩ = some (.int .i64 ((rd_T78 l0 x6_1).f1.f0)) ∧ w'.cell? ⟨(ad302.add ((x6_1).toNat * 8)).block, (ad302.add ((x6_1).toNat * 8)).off + 4, none⟩ = some (.int .u64 ((rd_T78 l0 x6_1).f1.f1)) ∧ w'.cell? ⟨(ad302.add ((x6_1).toNat * 8)).block, (ad302.add ((x6_1).toNat * 8)).off + 5, none⟩ = some (.int .u64 ((rd_T78 l0 x6_1).f1.f2)) ∧ w'.cell? ⟨(ad302.add ((x6_1).toNat * 8)).block, (ad302.add ((x6_1).toNat * 8)).off + 6, none⟩ = some (.int .i64 ((rd_T78 l0 x6_1).f2)) ∧ w'.cell? ⟨(ad302.add ((x6_1).toNat * 8)).block, (ad302.add ((x6_1).toNat * 8)).off + 7, none⟩ = some (.int .i64 ((rd_T78 l0 x6_1).f3)) ∧ w'.cell? (ad302.add ((x6_1).toNat * 8)) = some (.int .i64 ((rd_T78 l0 x6_1).f0.f0)) ∧ w'.cell? ⟨(ad302.add ((x6_1).toNat * 8)).block, (ad302.add ((x6_1).toNat * 8)).off + 1, none⟩ = some (.int .u64 ((rd_T78 l0 x6_1).f0.f1)) ∧ w'.cell? ⟨(ad302.add ((x6_1).toNat * 8)).block, (ad302.add ((x6_1).toNat * 8)).off + 2, none⟩ = some (.int .u64 ((rd_T78 l0 x6_1).f0.f2)) ∧ w'.cell? ⟨(ad302.add ((x6_1).toNat * 8)).block, (ad302.add ((x6_1).toNat * 8)).off + 3, none⟩ = some (.int .i64 ((rd_T78 l0 x6_1).f1.f0)) ∧ w'.cell? ⟨(ad302.add ((x6_1).toNat * 8)).block, (ad302.add ((x6_1).toNat * 8)).off + 4, none⟩ = some (.int .u64 ((rd_T78 l0 x6_1).f1.f1)) ∧ w'.cell? ⟨(ad302.add ((x6_1).toNat * 8)).block, (ad302.add ((x6_1).toNat * 8)).off + 5, none⟩ = some (.int .u64 ((rd_T78 l0 x6_1).f1.f2)) ∧ w'.cell? ⟨(ad302.add ((x6_1).toNat * 8)).block, (ad302.add ((x6_1).toNat * 8)).off + 6, none⟩ = some (.int .i64 ((rd_T78 l0 x6_1).f2)) ∧ w'.cell? ⟨(ad302.add ((x6_1).toNat * 8)).block, (ad302.add ((x6_1).toNat * 8)).off + 7, none⟩ = some (.int .i64 ((rd_T78 l0 x6_1).f3)) ∧ w'.cell? (ad302.add ((x5_1).toNat * 8)) = some (.int .i64 ((rd_T78 l0 x5_1).f0.f0)) ∧ w'.cell? ⟨(ad302.add ((x5_1).toNat * 8)).block, (ad302.add ((x5_1).toNat * 8)).off + 1, none⟩ = some (.int .u64 ((rd_T78 l0 x5_1).f0.f1)) ∧ w'.cell? ⟨(ad302.add ((x5_1).toNat * 8)).block, (ad302.add ((x5_1).toNat * 8)).off + 2, none⟩ = some (.int .u64 ((rd_T78 l0 x5_1).f0.f2)) ∧ w'.cell? ⟨(ad302.add ((x5_1).toNat * 8)).block, (ad302.add ((x5_1).toNat * 8)).off + 3, none⟩ = some (.int .i64 ((rd_T78 l0 x5_1).f1.f0)) ∧ w'.cell? ⟨(ad302.add ((x5_1).toNat * 8)).block, (ad302.add ((x5_1).toNat * 8)).off + 4, none⟩ = some (.int .u64 ((rd_T78 l0 x5_1).f1.f1)) ∧ w'.cell? ⟨(ad302.add ((x5_1).toNat * 8)).block, (ad302.add ((x5_1).toNat * 8)).off + 5, none⟩ = some (.int .u64 ((rd_T78 l0 x5_1).f1.f2)) ∧ w'.cell? ⟨(ad302.add ((x5_1).toNat * 8)).block, (ad302.add ((x5_1).toNat * 8)).off + 6, none⟩ = some (.int .i64 ((rd_T78 l0 x5_1).f2)) ∧ w'.cell? ⟨(ad302.add ((x5_1).toNat * 8)).block, (ad302.add ((x5_1).toNat * 8)).off + 7, none⟩ = some (.int .i64 ((rd_T78 l0 x5_1).f3))) (ds := []) #[false, false, false, false, false, false, false, false, false, false, false, false, false, false, false, false, false, false, false, false, false, false, false, false, false, false, false, false, false] (by kernel_rfl) rfl rfl ⟨(blk_cell BK301.out 0).trans rfl, (blk_cell BK301.out 1).trans rfl, (blk_cell BK301.out 2).trans rfl, ((HB.out.cell (World.block_lt_of_cell? w _ hw302_0)).trans hw302_0), ((HB.out.cell (World.block_lt_of_cell? w _ hw302_1)).trans hw302_1), ((HB.out.cell (World.block_lt_of_cell? w _ hw302_2)).trans hw302_2), ((HB.out.cell (World.block_lt_of_cell? w _ hw302_3)).trans hw302_3), ((HB.out.cell (World.block_lt_of_cell? w _ hw302_4)).trans hw302_4), ((HB.out.cell (World.block_lt_of_cell? w _ hw302_5)).trans hw302_5), ((HB.out.cell (World.block_lt_of_cell? w _ hw302_6)).trans hw302_6), ((HB.out.cell (World.block_lt_of_cell? w _ hw302_7)).trans hw302_7), ((HB.out.cell (World.block_lt_of_cell? w _ hw303_0)).trans hw303_0), ((HB.out.cell (World.block_lt_of_cell? w _ hw303_1)).trans hw303_1), ((HB.out.cell (World.block_lt_of_cell? w _ hw303_2)).trans hw303_2), ((HB.out.cell (World.block_lt_of_cell? w _ hw303_3)).trans hw303_3), ((HB.out.cell (World.block_lt_of_cell? w _ hw303_4)).trans hw303_4), ((HB.out.cell (World.block_lt_of_cell? w _ hw303_5)).trans hw303_5), ((HB.out.cell (World.block_lt_of_cell? w _ hw303_6)).trans hw303_6), ((HB.out.cell (World.block_lt_of_cell? w _ hw303_7)).trans hw303_7), ((HB.out.cell (World.block_lt_of_cell? w _ hw305_0)).trans hw305_0), ((HB.out.cell (World.block_lt_of_cell? w _ hw305_1)).trans hw305_1), ((HB.out.cell (World.block_lt_of_cell? w _ hw305_2)).trans hw305_2), ((HB.out.cell (World.block_lt_of_cell? w _ hw305_3)).trans hw305_3), ((HB.out.cell (World.block_lt_of_cell? w _ hw305_4)).trans hw305_4), ((HB.out.cell (World.block_lt_of_cell? w _ hw305_5)).trans hw305_5), ((HB.out.cell (World.block_lt_of_cell? w _ hw305_6)).trans hw305_6), ((HB.out.cell (World.block_lt_of_cell? w _ hw305_7)).trans hw305_7), ((HB.out.cell (World.block_lt_of_cell? w _ hw306_0)).trans hw306_0), ((HB.out.cell (World.block_lt_of_cell? w _ hw306_1)).trans hw306_1), ((HB.out.cell (World.block_lt_of_cell? w _ hw306_2)).trans hw306_2), ((HB.out.cell (World.block_lt_of_cell? w _ hw306_3)).trans hw306_3), ((HB.out.cell (World.block_lt_of_cell? w _ hw306_4)).trans hw306_4), ((HB.out.cell (World.block_lt_of_cell? w _ hw306_5)).trans hw306_5), ((HB.out.cell (World.block_lt_of_cell? w _ hw306_6)).trans hw306_6), ((HB.out.cell (World.block_lt_of_cell? w _ hw306_7)).trans hw306_7)⟩ (fun hHeld => ?_); refine with_tabW shunterref21_Get.tab5 shunterref21_Get.bits5 (fun HT_ HW_ => ?_)
          generalize wr.drew = w16 at BK301 HB hx302_0 hx302_1 hx302_2 hx302_3 hx302_4 hx302_5 hx302_6 hx302_7 hx303_0 hx303_1 hx303_2 hx303_3 hx303_4 hx303_5 hx303_6 hx303_7 hx305_0 hx305_1 hx305_2 hx305_3 hx305_4 hx305_5 hx305_6 hx305_7 hx306_0 hx306_1 hx306_2 hx306_3 hx306_4 hx306_5 hx306_6 hx306_7 hHeld ⊢
          refine pl_ [1, 2, 3, 4, 6, 7, 8, 9, 0, 5, 10] ?_
          iterate 8 refine pP rfl rfl (any_of HT_.out (by kernel_rfl)) (fun _ _ _ h => h) (by rfl) (by intro w'; go_simp; with_reducible rfl) (by simp only [Act.put, z1, z2, z3, i64_w, i32_w]; rfl) ?_
          iterate 3 refine pT hHeld rfl rfl (take_ofW HT_.out HW_.out (by kernel_rfl)) (fun _ _ _ h => h) (by rfl) (by rintro w' ⟨s0, s1, s2, s3, s4, s5, s6, s7, s8, s9, s10, s11, s12, s13, s14, s15, s16, s17, s18, s19, s20, s21, s22, s23, s24, s25, s26, s27, s28, s29, s30, s31, s32, s33, s34⟩; go_simp; with_reducible rfl) (by simp only [Act.put, z1, z2, z3, i64_w, i32_w]; rfl) ?_
          refine pl0 ?_
          refine one_ (i := 11) (N := some 24) #[true, true, true, true, true, true, true, true, true, true, true, true, false, false, false, false, false, false, false, false, false, false, false, false, false, false, false, false, false] rfl rfl (one_of HT_.out (by kernel_rfl)) (by decide) (fun K hK => ?_)
          refine goes_ Try.func38 (by kernel_rfl) rfl #[.agg #[.int .i64 a1_0, .int .u64 a1_1, .int .u64 a1_2], .agg #[.int .i64 ((rd_T78 l0 x6_1).f0.f0), .int .u64 ((rd_T78 l0 x6_1).f0.f1), .int .u64 ((rd_T78 l0 x6_1).f0.f2)], .agg #[.int .i64 ((rd_T78 l0 x6_1).f1.f0), .int .u64 ((rd_T78 l0 x6_1).f1.f1), .int .u64 ((rd_T78 l0 x6_1).f1.f2)]] (by rfl) rfl rfl (by (try simp only [List.map_toArray, List.map_cons, List.map_nil]); first | done | rfl | (simp only [List.length_drop, List.length_take]; rfl)) ?_
          with_reducible refine (shunterref02_Meets.calls k1 a1_0 a1_1 a1_2 ((rd_T78 l0 x6_1).f0.f0) ((rd_T78 l0 x6_1).f0.f1) ((rd_T78 l0 x6_1).f0.f2) ((rd_T78 l0 x6_1).f1.f0) ((rd_T78 l0 x6_1).f1.f1) ((rd_T78 l0 x6_1).f1.f2) true _ A6.out).mono ?_
          rintro e w17 ⟨rfl, hb⟩
          refine ⟨_, rfl, ?_⟩
          replace BK301 := bk1 (by (with_reducible repeat (first | refine blk_drewN ?_ _ | refine blk_drew ?_ | refine blk_alloc ?_ _)); exact BK301.out) hb
          replace HB := Aside0.mk (below_step (by repeat (first | (with_reducible first | exact HB.out | apply below_alloc | apply pw_below_drewN | apply below_drew1 | refine below_set ?_ GE301.out) | exact HB.out)) hb)
          (try clear hb)
          (try clear hb2)
          (try clear hk)
          (try clear hi)
          refine hK.out _ _ ⟨(blk_cell BK301.out 0).trans rfl, (blk_cell BK301.out 1).trans rfl, (blk_cell BK301.out 2).trans rfl, ((HB.out.cell (World.block_lt_of_cell? w _ hw302_0)).trans hw302_0), ((HB.out.cell (World.block_lt_of_cell? w _ hw302_1)).trans hw302_1), ((HB.out.cell (World.block_lt_of_cell? w _ hw302_2)).trans hw302_2), ((HB.out.cell (World.block_lt_of_cell? w _ hw302_3)).trans hw302_3), ((HB.out.cell (World.block_lt_of_cell? w _ hw302_4)).trans hw302_4), ((HB.out.cell (World.block_lt_of_cell? w _ hw302_5)).trans hw302_5), ((HB.out.cell (World.block_lt_of_cell? w _ hw302_6)).trans hw302_6), ((HB.out.cell (World.block_lt_of_cell? w _ hw302_7)).trans hw302_7), ((HB.out.cell (World.block_lt_of_cell? w _ hw303_0)).trans hw303_0), ((HB.out.cell (World.block_lt_of_cell? w _ hw303_1)).trans hw303_1), ((HB.out.cell (World.block_lt_of_cell? w _ hw303_2)).trans hw303_2), ((HB.out.cell (World.block_lt_of_cell? w _ hw303_3)).trans hw303_3), ((HB.out.cell (World.block_lt_of_cell? w _ hw303_4)).trans hw303_4), ((HB.out.cell (World.block_lt_of_cell? w _ hw303_5)).trans hw303_5), ((HB.out.cell (World.block_lt_of_cell? w _ hw303_6)).trans hw303_6), ((HB.out.cell (World.block_lt_of_cell? w _ hw303_7)).trans hw303_7), ((HB.out.cell (World.block_lt_of_cell? w _ hw305_0)).trans hw305_0), ((HB.out.cell (World.block_lt_of_cell? w _ hw305_1)).trans hw305_1), ((HB.out.cell (World.block_lt_of_cell? w _ hw305_2)).trans hw305_2), ((HB.out.cell (World.block_lt_of_cell? w _ hw305_3)).trans hw305_3), ((HB.out.cell (World.block_lt_of_cell? w _ hw305_4)).trans hw305_4), ((HB.out.cell (World.block_lt_of_cell? w _ hw305_5)).trans hw305_5), ((HB.out.cell (World.block_lt_of_cell? w _ hw305_6)).trans hw305_6), ((HB.out.cell (World.block_lt_of_cell? w _ hw305_7)).trans hw305_7), ((HB.out.cell (World.block_lt_of_cell? w _ hw306_0)).trans hw306_0), ((HB.out.cell (World.block_lt_of_cell? w _ hw306_1)).trans hw306_1), ((HB.out.cell (World.block_lt_of_cell? w _ hw306_2)).trans hw306_2), ((HB.out.cell (World.block_lt_of_cell? w _ hw306_3)).trans hw306_3), ((HB.out.cell (World.block_lt_of_cell? w _ hw306_4)).trans hw306_4), ((HB.out.cell (World.block_lt_of_cell? w _ hw306_5)).trans hw306_5), ((HB.out.cell (World.block_lt_of_cell? w _ hw306_6)).trans hw306_6), ((HB.out.cell (World.block_lt_of_cell? w _ hw306_7)).trans hw306_7)⟩ (fun hHeld => ?_)
          clear hK K
          refine norm_ (a' := ?_) ?_ ?_
          rotate_left
          ·show Act.put _ (some 24) _ = _
           simp only [Act.put, List.setIfInBounds_toArray, List.set_cons_zero, List.set_cons_succ, i64_w, i32_w]
           rfl
          refine pl_ [12, 13, 14, 15, 16, 17, 18, 19, 21, 22, 23, 24, 20, 25, 26, 27, 28] ?_
          iterate 12 refine pP rfl rfl (any_of HT_.out (by kernel_rfl)) (fun _ _ _ h => h) (by rfl) (by intro w'; go_simp; with_reducible rfl) (by simp only [Act.put, z1, z2, z3, i64_w, i32_w]; rfl) ?_
          iterate 2 refine pT hHeld rfl rfl (take_ofW HT_.out HW_.out (by kernel_rfl)) (fun _ _ _ h => h) (by rfl) (by rintro w' ⟨s0, s1, s2, s3, s4, s5, s6, s7, s8, s9, s10, s11, s12, s13, s14, s15, s16, s17, s18, s19, s20, s21, s22, s23, s24, s25, s26, s27, s28, s29, s30, s31, s32, s33, s34⟩; go_simp; with_reducible rfl) (by simp only [Act.put, z1, z2, z3, i64_w, i32_w]; rfl) ?_
          iterate 3 refine pP rfl rfl (any_of HT_.out (by kernel_rfl)) (fun _ _ _ h => h) (by rfl) (by intro w'; go_simp; with_reducible rfl) (by simp only [Act.put, z1, z2, z3, i64_w, i32_w]; rfl) ?_
          refine pl0 ?_
          refine done_ (done_of HT_.out (by kernel_rfl)) ?_
          try go_wp2
          go_roundg k1
          case measure => have := HK1.out; omega
          case rel => exact ⟨(x5_1), (wrap64 (x6_1 + 1)), (by first | rfl | (simp; done) | (simp [*]; done)), (by first | rfl | (simp; done) | (simp [*]; done)), H', ⟨by have := HK1.out; omega⟩, ⟨by (with_reducible repeat (first | refine blk_drewN ?_ _ | refine blk_drew ?_ | refine blk_alloc ?_ _)); exact BK301.out⟩, ⟨by repeat (first | (with_reducible first | exact HB.out | apply below_alloc | apply pw_below_drewN | apply below_drew1 | refine below_set ?_ GE301.out) | exact HB.out)⟩⟩
        ·rw [if_neg c12] at H
         exact absurd H (by simp)
       ·rw [if_neg c11] at H
        exact absurd H (by simp)
     ·replace c7 := Bool.eq_false_iff.mpr c7
      subst c7
      have H1 : (shunterref21_Get.l0 k1 l0 x5_1 (wrap64 (x6_1 + 1)) a1_0 a1_1 a1_2) = some r := by rw [if_neg (show ¬ (false = true) by decide)] at H; exact H
      clear H
      have H := H1
      clear H1
      have H' := Aside0.mk H
      clear H
      try go_wp2
      replace BK301 := Aside0.mk (blk_drew BK301.out)
      replace HB := Aside0.mk (below_drew1 HB.out)
      have p302 : 0 ≤ (x6_1 : Int) := of_decide_eq_true (by first | (with_reducible assumption) | assumption)
      have q302 : x6_1 < (l0.length : Int) := of_decide_eq_true (by first | (with_reducible assumption) | assumption)
      obtain ⟨ad302, e302, hx302_0, hx302_1, hx302_2, hx302_3, hx302_4, hx302_5, hx302_6, hx302_7⟩ := at_T78 HR0.out x6_1 p302 q302
      have hw302_7 := hx302_7
      have hw302_6 := hx302_6
      have hw302_5 := hx302_5
      have hw302_4 := hx302_4
      have hw302_3 := hx302_3
      have hw302_2 := hx302_2
      have hw302_1 := hx302_1
      have hw302_0 := hx302_0
      cases e302
      replace hx302_0 := (HB.out.cell (World.block_lt_of_cell? w _ hx302_0)).trans hx302_0
      replace hx302_1 := (HB.out.cell (World.block_lt_of_cell? w _ hx302_1)).trans hx302_1
      replace hx302_2 := (HB.out.cell (World.block_lt_of_cell? w _ hx302_2)).trans hx302_2
      replace hx302_3 := (HB.out.cell (World.block_lt_of_cell? w _ hx302_3)).trans hx302_3
      replace hx302_4 := (HB.out.cell (World.block_lt_of_cell? w _ hx302_4)).trans hx302_4
      replace hx302_5 := (HB.out.cell (World.block_lt_of_cell? w _ hx302_5)).trans hx302_5
      replace hx302_6 := (HB.out.cell (World.block_lt_of_cell? w _ hx302_6)).trans hx302_6
      replace hx302_7 := (HB.out.cell (World.block_lt_of_cell? w _ hx302_7)).trans hx302_7
      replace p302 := eq_true p302
      replace q302 := eq_true q302
      have p303 : 0 ≤ (x6_1 : Int) := of_decide_eq_true (by first | (with_reducible assumption) | assumption)
      have q303 : x6_1 < (l0.length : Int) := of_decide_eq_true (by first | (with_reducible assumption) | assumption)
      obtain ⟨ad303, e303, hx303_0, hx303_1, hx303_2, hx303_3, hx303_4, hx303_5, hx303_6, hx303_7⟩ := at_T78 HR0.out x6_1 p303 q303
      have hw303_7 := hx303_7
      have hw303_6 := hx303_6
      have hw303_5 := hx303_5
      have hw303_4 := hx303_4
      have hw303_3 := hx303_3
      have hw303_2 := hx303_2
      have hw303_1 := hx303_1
      have hw303_0 := hx303_0
      obtain rfl : ad302 = ad303 := (by injection e303)
      replace hx303_0 := (HB.out.cell (World.block_lt_of_cell? w _ hx303_0)).trans hx303_0
      replace hx303_1 := (HB.out.cell (World.block_lt_of_cell? w _ hx303_1)).trans hx303_1
      replace hx303_2 := (HB.out.cell (World.block_lt_of_cell? w _ hx303_2)).trans hx303_2
      replace hx303_3 := (HB.out.cell (World.block_lt_of_cell? w _ hx303_3)).trans hx303_3
      replace hx303_4 := (HB.out.cell (World.block_lt_of_cell? w _ hx303_4)).trans hx303_4
      replace hx303_5 := (HB.out.cell (World.block_lt_of_cell? w _ hx303_5)).trans hx303_5
      replace hx303_6 := (HB.out.cell (World.block_lt_of_cell? w _ hx303_6)).trans hx303_6
      replace hx303_7 := (HB.out.cell (World.block_lt_of_cell? w _ hx303_7)).trans hx303_7
      replace p303 := eq_true p303
      replace q303 := eq_true q303
      refine start_ (n := 29) (S := fun w' => w'.cell? ⟨gb301, 0, none⟩ = some (.int .i64 a1_0) ∧ w'.cell? ⟨gb301, 1, none⟩ = some (.int .u64 a1_1) ∧ w'.cell? ⟨gb301, 2, none⟩ = some (.int .u64 a1_2) ∧ w'.cell? (ad302.add ((x6_1).toNat * 8)) = some (.int .i64 ((rd_T78 l0 x6_1).f0.f0)) ∧ w'.cell? ⟨(ad302.add ((x6_1).toNat * 8)).block, (ad302.add ((x6_1).toNat * 8)).off + 1, none⟩ = some (.int .u64 ((rd_T78 l0 x6_1).f0.f1)) ∧ w'.cell? ⟨(ad302.add ((x6_1).toNat * 8)).block, (ad302.add ((x6_1).toNat * 8)).off + 2, none⟩ = some (.int .u64 ((rd_T78 l0 x6_1).f0.f2)) ∧ w'.cell? ⟨(ad302.add ((x6_1).toNat * 8)).block, (ad302.add ((x6_1).toNat * 8)).off + 3, none⟩ = some (.int .i64 ((rd_T78 l0 x6_1).f1.f0)) ∧ w'.cell? ⟨(ad302.add ((x6_1).toNat * 8)).block, (ad302.add ((x6_1).toNat * 8)).off + 4, none⟩ = some (.int .u64 ((rd_T78 l0 x6_1).f1.f1)) ∧ w'.cell? ⟨(ad302.add ((x6_1).toNat * 8)).block, (ad302.add ((x6_1).toNat * 8)).off + 5, none⟩ = some (.int .u64 ((rd_T78 l0 x6_1).f1.f2)) ∧ w'.cell? ⟨(ad302.add ((x6_1).toNat * 8)).block, (ad302.add ((x6_1).toNat * 8)).off + 6, none⟩ = some (.int .i64 ((rd_T78 l0 x6_1).f2)) ∧ w'.cell? ⟨(ad302.add ((x6_1).toNat * 8)).block, (ad302.add ((x6_1).toNat * 8)).off + 7, none⟩ = some (.int .i64 ((rd_T78 l0 x6_1).f3)) ∧ w'.cell? (ad302.add ((x6_1).toNat * 8)) = some (.int .i64 ((rd_T78 l0 x6_1).f0.f0)) ∧ w'.cell? ⟨(ad302.add ((x6_1).toNat * 8)).block, (ad302.add ((x6_1).toNat * 8)).off + 1, none⟩ = some (.int .u64 ((rd_T78 l0 x6_1).f0.f1)) ∧ w'.cell? ⟨(ad302.add ((x6_1).toNat * 8)).block, (ad302.add ((x6_1).toNat * 8)).off + 2, none⟩ = some (.int .u64 ((rd_T78 l0 x6_1).f0.f2)) ∧ w'.cell? ⟨(ad302.add ((x6_1).toNat * 8)).block, (ad302.add ((x6_1).toNat * 8)).off + 3, none⟩ = some (.int .i64 ((rd_T78 l0 x6_1).f1.f0)) ∧ w'.cell? ⟨(ad302.add ((x6_1).toNat * 8)).block, (ad302.add ((x6_1).toNat * 8)).off + 4, none⟩ = some (.int .u64 ((rd_T78 l0 x6_1).f1.f1)) ∧ w'.cell? ⟨(ad302.add ((x6_1).toNat * 8)).block, (ad302.add ((x6_1).toNat * 8)).off + 5, none⟩ = some (.int .u64 ((rd_T78 l0 x6_1).f1.f2)) ∧ w'.cell? ⟨(ad302.add ((x6_1).toNat * 8)).block, (ad302.add ((x6_1).toNat * 8)).off + 6, none⟩ = some (.int .i64 ((rd_T78 l0 x6_1).f2)) ∧ w'.cell? ⟨(ad302.add ((x6_1).toNat * 8)).block, (ad302.add ((x6_1).toNat * 8)).off + 7, none⟩ = some (.int .i64 ((rd_T78 l0 x6_1).f3))) (ds := []) #[false, false, false, false, false, false, false, false, false, false, false, false, false, false, false, false, false, false, false, false, false, false, false, false, false, false, false, false, false] (by kernel_rfl) rfl rfl ⟨(blk_cell BK301.out 0).trans rfl, (blk_cell BK301.out 1).trans rfl, (blk_cell BK301.out 2).trans rfl, ((HB.out.cell (World.block_lt_of_cell? w _ hw302_0)).trans hw302_0), ((HB.out.cell (World.block_lt_of_cell? w _ hw302_1)).trans hw302_1), ((HB.out.cell (World.block_lt_of_cell? w _ hw302_2)).trans hw302_2), ((HB.out.cell (World.block_lt_of_cell? w _ hw302_3)).trans hw302_3), ((HB.out.cell (World.block_lt_of_cell? w _ hw302_4)).trans hw302_4), ((HB.out.cell (World.block_lt_of_cell? w _ hw302_5)).trans hw302_5), ((HB.out.cell (World.block_lt_of_cell? w _ hw302_6)).trans hw302_6), ((HB.out.cell (World.block_lt_of_cell? w _ hw302_7)).trans hw302_7), ((HB.out.cell (World.block_lt_of_cell? w _ hw303_0)).trans hw303_0), ((HB.out.cell (World.block_lt_of_cell? w _ hw303_1)).trans hw303_1), ((HB.out.cell (World.block_lt_of_cell? w _ hw303_2)).trans hw303_2), ((HB.out.cell (World.block_lt_of_cell? w _ hw303_3)).trans hw303_3), ((HB.out.cell (World.block_lt_of_cell? w _ hw303_4)).trans hw303_4), ((HB.out.cell (World.block_lt_of_cell? w _ hw303_5)).trans hw303_5), ((HB.out.cell (World.block_lt_of_cell? w _ hw303_6)).trans hw303_6), ((HB.out.cell (World.block_lt_of_cell? w _ hw303_7)).trans hw303_7)⟩ (fun hHeld => ?_); refine with_tabW shunterref21_Get.tab5 shunterref21_Get.bits5 (fun HT_ HW_ => ?_)
      generalize wr.drew = w18 at BK301 HB hx302_0 hx302_1 hx302_2 hx302_3 hx302_4 hx302_5 hx302_6 hx302_7 hx303_0 hx303_1 hx303_2 hx303_3 hx303_4 hx303_5 hx303_6 hx303_7 hHeld ⊢
      refine pl_ [1, 2, 3, 4, 6, 7, 8, 9, 0, 5, 10] ?_
      iterate 8 refine pP rfl rfl (any_of HT_.out (by kernel_rfl)) (fun _ _ _ h => h) (by rfl) (by intro w'; go_simp; with_reducible rfl) (by simp only [Act.put, z1, z2, z3, i64_w, i32_w]; rfl) ?_
      iterate 3 refine pT hHeld rfl rfl (take_ofW HT_.out HW_.out (by kernel_rfl)) (fun _ _ _ h => h) (by rfl) (by rintro w' ⟨s0, s1, s2, s3, s4, s5, s6, s7, s8, s9, s10, s11, s12, s13, s14, s15, s16, s17, s18⟩; go_simp; with_reducible rfl) (by simp only [Act.put, z1, z2, z3, i64_w, i32_w]; rfl) ?_
      refine pl0 ?_
      refine one_ (i := 11) (N := some 24) #[true, true, true, true, true, true, true, true, true, true, true, true, false, false, false, false, false, false, false, false, false, false, false, false, false, false, false, false, false] rfl rfl (one_of HT_.out (by kernel_rfl)) (by decide) (fun K hK => ?_)
      refine goes_ Try.func38 (by kernel_rfl) rfl #[.agg #[.int .i64 a1_0, .int .u64 a1_1, .int .u64 a1_2], .agg #[.int .i64 ((rd_T78 l0 x6_1).f0.f0), .int .u64 ((rd_T78 l0 x6_1).f0.f1), .int .u64 ((rd_T78 l0 x6_1).f0.f2)], .agg #[.int .i64 ((rd_T78 l0 x6_1).f1.f0), .int .u64 ((rd_T78 l0 x6_1).f1.f1), .int .u64 ((rd_T78 l0 x6_1).f1.f2)]] (by rfl) rfl rfl (by (try simp only [List.map_toArray, List.map_cons, List.map_nil]); first | done | rfl | (simp only [List.length_drop, List.length_take]; rfl)) ?_
      with_reducible refine (shunterref02_Meets.calls k1 a1_0 a1_1 a1_2 ((rd_T78 l0 x6_1).f0.f0) ((rd_T78 l0 x6_1).f0.f1) ((rd_T78 l0 x6_1).f0.f2) ((rd_T78 l0 x6_1).f1.f0) ((rd_T78 l0 x6_1).f1.f1) ((rd_T78 l0 x6_1).f1.f2) false _ A6.out).mono ?_
      rintro e w19 ⟨rfl, hb⟩
      refine ⟨_, rfl, ?_⟩
      replace BK301 := bk1 (by (with_reducible repeat (first | refine blk_drewN ?_ _ | refine blk_drew ?_ | refine blk_alloc ?_ _)); exact BK301.out) hb
      replace HB := Aside0.mk (below_step (by repeat (first | (with_reducible first | exact HB.out | apply below_alloc | apply pw_below_drewN | apply below_drew1 | refine below_set ?_ GE301.out) | exact HB.out)) hb)
      (try clear hb)
      (try clear hb2)
      (try clear hk)
      (try clear hi)
      refine hK.out _ _ ⟨(blk_cell BK301.out 0).trans rfl, (blk_cell BK301.out 1).trans rfl, (blk_cell BK301.out 2).trans rfl, ((HB.out.cell (World.block_lt_of_cell? w _ hw302_0)).trans hw302_0), ((HB.out.cell (World.block_lt_of_cell? w _ hw302_1)).trans hw302_1), ((HB.out.cell (World.block_lt_of_cell? w _ hw302_2)).trans hw302_2), ((HB.out.cell (World.block_lt_of_cell? w _ hw302_3)).trans hw302_3), ((HB.out.cell (World.block_lt_of_cell? w _ hw302_4)).trans hw302_4), ((HB.out.cell (World.block_lt_of_cell? w _ hw302_5)).trans hw302_5), ((HB.out.cell (World.block_lt_of_cell? w _ hw302_6)).trans hw302_6), ((HB.out.cell (World.block_lt_of_cell? w _ hw302_7)).trans hw302_7), ((HB.out.cell (World.block_lt_of_cell? w _ hw303_0)).trans hw303_0), ((HB.out.cell (World.block_lt_of_cell? w _ hw303_1)).trans hw303_1), ((HB.out.cell (World.block_lt_of_cell? w _ hw303_2)).trans hw303_2), ((HB.out.cell (World.block_lt_of_cell? w _ hw303_3)).trans hw303_3), ((HB.out.cell (World.block_lt_of_cell? w _ hw303_4)).trans hw303_4), ((HB.out.cell (World.block_lt_of_cell? w _ hw303_5)).trans hw303_5), ((HB.out.cell (World.block_lt_of_cell? w _ hw303_6)).trans hw303_6), ((HB.out.cell (World.block_lt_of_cell? w _ hw303_7)).trans hw303_7)⟩ (fun hHeld => ?_)
      clear hK K
      refine norm_ (a' := ?_) ?_ ?_
      rotate_left
      ·show Act.put _ (some 24) _ = _
       simp only [Act.put, List.setIfInBounds_toArray, List.set_cons_zero, List.set_cons_succ, i64_w, i32_w]
       rfl
      refine pl_ [12, 13, 14, 15, 16, 17, 18, 19, 20, 21, 22, 23, 24, 25, 26, 27, 28] ?_
      refine pP rfl rfl (any_of HT_.out (by kernel_rfl)) (fun _ _ _ h => h) (by rfl) (by intro w'; go_simp; with_reducible rfl) (by simp only [Act.put, z1, z2, z3, i64_w, i32_w]; rfl) ?_
      iterate 15 refine pU rfl rfl (any_of HT_.out (by kernel_rfl)) (fun _ _ _ h => h) (by rfl) (by simp only [Act.put, z1, z2, z3, i64_w, i32_w]; rfl) ?_
      refine pP rfl rfl (any_of HT_.out (by kernel_rfl)) (fun _ _ _ h => h) (by rfl) (by intro w'; go_simp; with_reducible rfl) (by simp only [Act.put, z1, z2, z3, i64_w, i32_w]; rfl) ?_
      refine pl0 ?_
      refine done_ (done_of HT_.out (by kernel_rfl)) ?_
      try go_wp2
      go_roundg k1
      case measure => have := HK1.out; omega
      case rel => exact ⟨(x5_1), (wrap64 (x6_1 + 1)), (by first | rfl | (simp; done) | (simp [*]; done)), (by first | rfl | (simp; done) | (simp [*]; done)), H', ⟨by have := HK1.out; omega⟩, ⟨by (with_reducible repeat (first | refine blk_drewN ?_ _ | refine blk_drew ?_ | refine blk_alloc ?_ _)); exact BK301.out⟩, ⟨by repeat (first | (with_reducible first | exact HB.out | apply below_alloc | apply pw_below_drewN | apply below_drew1 | refine below_set ?_ GE301.out) | exact HB.out)⟩⟩
    ·rw [if_neg c5] at H
     exact absurd H (by simp)
   ·rw [if_neg c4] at H
    have c4b0 : decide (x6_1 < (l0.length : Int)) = false := decide_eq_false c4
    clear c4
    obtain rfl := Option.some.inj H
    go_wp2
    go_ret
    exact ⟨by first | rfl | (simp [errW_none, errW_some] <;> rfl) | (simp [*, errW_none, errW_some] <;> rfl), by repeat (first | (with_reducible first | exact HB.out | apply below_alloc | apply pw_below_drewN | apply below_drew1 | refine below_set ?_ GE301.out) | exact HB.out)⟩
end Go.Proofs.Ytfdbcnbakchcgaa.XT
