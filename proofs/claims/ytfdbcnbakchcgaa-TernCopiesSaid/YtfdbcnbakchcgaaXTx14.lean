import Derived.Test.YtfdbcnbakchcgaaSq
import Derived.Test.YtfdbcnbakchcgaaXTx0
import Derived.Test.YtfdbcnbakchcgaaXTx10
namespace Go.Proofs.Ytfdbcnbakchcgaa.XT
open Go.RowKit Go.Proofs.YtfdbcnbakchcgaaW.PrintWords Go.Proofs.YtfdbcnbakchcgaaW.PrintLast Go.Proofs.YtfdbcnbakchcgaaW.PrintMore
attribute [local go_sem] max2_int min2_int max_two min_two max_three min_three max_four min_four   -- for this text's walks alone
set_option linter.unusedVariables false
set_option linter.unusedSimpArgs false
mutual
def shunterref21_Sorted.l0 : Nat → List (S78) → List (S78) → Option ((List (S78)))
 | 0, _, _ => none
 | k + 1, x0, x3 => if (x3.length : Int) < (x0.length : Int) then (shunterref21_Sorted.l1 k x0 x3 (-1) 0) else (some x3)
def shunterref21_Sorted.l1 : Nat → List (S78) → List (S78) → Int → Int → Option ((List (S78)))
 | 0, _, _, _, _ => none
 | k + 1, x0, x3, x4, x5 => if x5 < (x0.length : Int) then (if 0 ≤ x5 then ((shunterref21_Find.f k x3 ((rd_T78 x0 x5).f0.f0) ((rd_T78 x0 x5).f0.f1) ((rd_T78 x0 x5).f0.f2) ((rd_T78 x0 x5).f1.f0) ((rd_T78 x0 x5).f1.f1) ((rd_T78 x0 x5).f1.f2) ((rd_T78 x0 x5).f2) ((rd_T78 x0 x5).f3)).bind fun t308 => (if t308 < 0 then (if x4 < 0 then (shunterref21_Sorted.l1 k x0 x3 x5 (wrap64 (x5 + 1))) else (if 0 ≤ x4 then (if x4 < (x0.length : Int) then (if ((rd_T78 x0 x5).f2) < ((rd_T78 x0 x4).f2) then (shunterref21_Sorted.l1 k x0 x3 x5 (wrap64 (x5 + 1))) else (shunterref21_Sorted.l1 k x0 x3 x4 (wrap64 (x5 + 1)))) else (none)) else (none))) else (shunterref21_Sorted.l1 k x0 x3 x4 (wrap64 (x5 + 1))))) else (none)) else (if 0 ≤ x4 then (if x4 < (x0.length : Int) then (if x3.length < 2199023255552 then (shunterref21_Sorted.l0 k x0 (x3 ++ [(⟨(⟨(rd_T78 x0 x4).f0.f0, (rd_T78 x0 x4).f0.f1, (rd_T78 x0 x4).f0.f2⟩ : S32), (⟨(rd_T78 x0 x4).f1.f0, (rd_T78 x0 x4).f1.f1, (rd_T78 x0 x4).f1.f2⟩ : S32), (rd_T78 x0 x4).f2, (rd_T78 x0 x4).f3⟩ : S78)])) else (none)) else (none)) else (none))
end
def shunterref21_Sorted.f (k : Nat) (l0 : List (S78)) : Option ((List (S78))) := shunterref21_Sorted.l0 k l0 ([] : List (S78))
theorem shunterref21_Sorted.mono_l : ∀ k, (∀ y0 y1, LeO (shunterref21_Sorted.l0 k y0 y1) (shunterref21_Sorted.l0 (k + 1) y0 y1)) ∧ (∀ y0 y1 y2 y3, LeO (shunterref21_Sorted.l1 k y0 y1 y2 y3) (shunterref21_Sorted.l1 (k + 1) y0 y1 y2 y3))
 | 0 => ⟨fun _ _ r h => by simp [shunterref21_Sorted.l0] at h, fun _ _ _ _ r h => by simp [shunterref21_Sorted.l1] at h⟩
 | k + 1 => by
  obtain ⟨ih0, ih1⟩ := shunterref21_Sorted.mono_l k
  refine ⟨?_, ?_⟩
  ·intro y0 y1
   unfold shunterref21_Sorted.l0
   repeat' first
   | (with_reducible exact ih0 _ _)
   | (with_reducible exact ih1 _ _ _ _)
   | (with_reducible exact shunterref21_Find.mono _ _ _ _ _ _ _ _ _ _)
   | (with_reducible exact LeO.refl _)
   | (with_reducible exact LeO.none _)
   | (with_reducible refine LeO.ite ?_ ?_)
   | (with_reducible refine LeO.bind ?_ (fun _ => ?_))
   | exact ih0 _ _
   | exact ih1 _ _ _ _
   | exact shunterref21_Find.mono _ _ _ _ _ _ _ _ _ _
   | exact LeO.none _
   | refine LeO.ite ?_ ?_
   | refine LeO.bind ?_ (fun _ => ?_)
  ·intro y0 y1 y2 y3
   unfold shunterref21_Sorted.l1
   repeat' first
   | (with_reducible exact ih0 _ _)
   | (with_reducible exact ih1 _ _ _ _)
   | (with_reducible exact shunterref21_Find.mono _ _ _ _ _ _ _ _ _ _)
   | (with_reducible exact LeO.refl _)
   | (with_reducible exact LeO.none _)
   | (with_reducible refine LeO.ite ?_ ?_)
   | (with_reducible refine LeO.bind ?_ (fun _ => ?_))
   | exact ih0 _ _
   | exact ih1 _ _ _ _
   | exact shunterref21_Find.mono _ _ _ _ _ _ _ _ _ _
   | exact LeO.none _
   | refine LeO.ite ?_ ?_
   | refine LeO.bind ?_ (fun _ => ?_)
theorem shunterref21_Sorted.mono : ∀ a0 k, LeO (shunterref21_Sorted.f k a0) (shunterref21_Sorted.f (k + 1) a0) := by
 intro a0 k
 obtain ⟨ih0, ih1⟩ := shunterref21_Sorted.mono_l k
 unfold shunterref21_Sorted.f
 repeat' first
  | (with_reducible exact ih0 _ _)
  | (with_reducible exact ih1 _ _ _ _)
  | (with_reducible exact shunterref21_Find.mono _ _ _ _ _ _ _ _ _ _)
  | (with_reducible exact LeO.refl _)
  | (with_reducible exact LeO.none _)
  | (with_reducible refine LeO.ite ?_ ?_)
  | (with_reducible refine LeO.bind ?_ (fun _ => ?_))
  | exact ih0 _ _
  | exact ih1 _ _ _ _
  | exact shunterref21_Find.mono _ _ _ _ _ _ _ _ _ _
  | exact LeO.none _
  | refine LeO.ite ?_ ?_
  | refine LeO.bind ?_ (fun _ => ?_)
def shunterref21_Sorted.T7 : Bool × List (List Nat × List Nat) := (true, [([], []), ([], []), ([], []), ([1, 2], [1, 2]), ([3], [3]), ([0, 4], [0, 4]), ([5], [5]), ([6, 5], [6]), ([7], [7]), ([8, 7], [7, 8]), ([9, 7, 7], [7, 9]), ([10], [10]), ([10], [10]), ([11, 12, 10], [10, 11, 12]), ([13, 10], [10, 13]), ([14, 10], [10, 14]), ([10], [10]), ([10], [10]), ([16, 17, 10], [10, 16, 17]), ([18, 10], [10, 18]), ([19, 10], [10, 19]), ([15, 20, 10], [10, 15, 20]), ([10, 21, 7], [7, 10, 21]), ([7, 22], [7, 22])])
def shunterref21_Sorted.B7 : List Nat := [0, 0, 0, 6, 14, 31, 63, 127, 255, 511, 1023, 2047, 2047, 8191, 16383, 32767, 2047, 2047, 198655, 460799, 985087, 2097151, 4194303, 8388607]
theorem shunterref21_Sorted.tab7 : rtab .any (opsOf Try.f44 7) = shunterref21_Sorted.T7 := by kernel_rfl
theorem shunterref21_Sorted.bits7 : waitsOk shunterref21_Sorted.T7.2 shunterref21_Sorted.B7 = true := by kernel_rfl
set_option maxHeartbeats 8000000 in
set_option maxRecDepth 100000 in
theorem shunterref21_Sorted.calls (k : Nat) (A0 : Option Addr) (c0 : Nat) (l0 : List (S78)) (r : List (S78)) (w : World) (hr0 : Kd.C k78 w A0 l0.length l0) (hc0 : l0.length ≤ c0) (h : shunterref21_Sorted.f k l0 = some r) :
 Calls Try.prog 44 #[.slice A0 l0.length c0] w fun e w' => ∃ v0_ : Value, e = .returned (v0_) ∧ Kd.R k78 78 w' w.heap.size (fun _ => True) v0_ r ∧ Below w.heap.size w w' := by
 have hu78 := Try.underlying78
 have HR0 := Aside0.mk hr0
 have HC0 := Aside0.mk hc0
 clear hr0 hc0
 have HB := Aside0.mk (Below.refl w.heap.size w)
 have H : (shunterref21_Sorted.l0 k l0 ([] : List (S78))) = some r := h
 clear h
 have H' := Aside0.mk H
 clear H
 go_enter Try.func44, Try.ntmps44
 go_wp2
 go_loopg [3] k (fun kq v3 w' => ∃ (x3_1 : List (S78)), Aside0 (shunterref21_Sorted.l0 kq l0 x3_1 = some r) ∧ Aside0 (kq ≤ k) ∧ Aside0 (Kd.R k78 78 w' w.heap.size (fun _ => True) v3 x3_1) ∧ Aside0 (Below w.heap.size w w'))
 case atStart => exact ⟨(([] : List (S78))), H', ⟨Nat.le_refl _⟩, ⟨by first | exact Kd.R_nil _ _ _ _ _ | exact Kd.N_nil _ _ _ _ _ | exact Kd.V_nil _ _ _ _ _ | exact Kd.Q_nil _ _ _ _ _ | exact Kd.S_nil _ _ _ _ _⟩, ⟨by repeat (first | (with_reducible first | exact HB.out | apply below_alloc | apply pw_below_drewN | apply below_drew1) | exact HB.out)⟩⟩
 case round =>
  clear H'
  obtain ⟨x3_1, HA, HK1, HO_3, HB⟩ := hrel
  cases gk with
  | zero => exact absurd HA.out (by simp [shunterref21_Sorted.l0])
  | succ k1 =>
   have H := HA.out
   clear HA
   simp only [shunterref21_Sorted.l0] at H
   by_cases c2 : (x3_1.length : Int) < (l0.length : Int)
   ·rw [if_pos c2] at H
    have c2b0 : decide ((x3_1.length : Int) < (l0.length : Int)) = true := decide_eq_true c2
    have c2b1 : decide (x3_1.length < l0.length) = true := decide_eq_true (Int.ofNat_lt.mp c2)
    clear c2
    have H' := Aside0.mk H
    clear H
    obtain ⟨Ao3, co3, eo3⟩ := Kd.R_slice HO_3.out
    subst eo3
    go_wp2
    go_loopg [4, 5] k1 (fun kq v4 v5 w' => ∃ (x4_2 : Int) (x5_2 : Int), v4 = .int .i64 x4_2 ∧ v5 = .int .i64 x5_2 ∧ Aside0 (shunterref21_Sorted.l1 kq l0 x3_1 x4_2 x5_2 = some r) ∧ Aside0 (kq ≤ k1) ∧ Aside0 (Kd.R k78 78 w' w.heap.size (fun _ => True) (.slice Ao3 x3_1.length co3) x3_1) ∧ Aside0 (Below w.heap.size w w'))
    case atStart => exact ⟨((-1)), (0), (by first | rfl | (simp; done) | (simp [*]; done)), (by first | rfl | (simp; done) | (simp [*]; done)), H', ⟨Nat.le_refl _⟩, ⟨by (with_reducible repeat (first | apply Kd.R_alloc | apply Kd.R_drewN | apply Kd.R_drew)); exact HO_3.out⟩, ⟨by repeat (first | (with_reducible first | exact HB.out | apply below_alloc | apply pw_below_drewN | apply below_drew1) | exact HB.out)⟩⟩
    case round =>
     clear H'
     try clear c2
     try clear c2b0
     try clear c2b1
     try clear p2
     obtain ⟨x4_2, x5_2, rfl, rfl, HA, HK2, HO_3, HB⟩ := hrel
     cases gk with
     | zero => exact absurd HA.out (by simp [shunterref21_Sorted.l1])
     | succ k2 =>
      have H := HA.out
      clear HA
      simp only [shunterref21_Sorted.l1] at H
      by_cases c4 : x5_2 < (l0.length : Int)
      ·rw [if_pos c4] at H
       have c4b0 : decide (x5_2 < (l0.length : Int)) = true := decide_eq_true c4
       clear c4
       by_cases c5 : 0 ≤ x5_2
       ·rw [if_pos c5] at H
        have c5b0 : decide (0 ≤ x5_2) = true := decide_eq_true c5
        clear c5
        replace H := Option.bind_eq_some_iff.mp H
        obtain ⟨t308, A60, H⟩ := H
        replace H : (if t308 < 0 then (if x4_2 < 0 then (shunterref21_Sorted.l1 k2 l0 x3_1 x5_2 (wrap64 (x5_2 + 1))) else (if 0 ≤ x4_2 then (if x4_2 < (l0.length : Int) then (if ((rd_T78 l0 x5_2).f2) < ((rd_T78 l0 x4_2).f2) then (shunterref21_Sorted.l1 k2 l0 x3_1 x5_2 (wrap64 (x5_2 + 1))) else (shunterref21_Sorted.l1 k2 l0 x3_1 x4_2 (wrap64 (x5_2 + 1)))) else (none)) else (none))) else (shunterref21_Sorted.l1 k2 l0 x3_1 x4_2 (wrap64 (x5_2 + 1)))) = some r := H
        have A6 := Aside0.mk A60
        clear A60
        by_cases c7 : t308 < 0
        ·rw [if_pos c7] at H
         have c7b0 : decide (t308 < 0) = true := decide_eq_true c7
         clear c7
         by_cases c8 : x4_2 < 0
         ·rw [if_pos c8] at H
          have c8b0 : decide (x4_2 < 0) = true := decide_eq_true c8
          clear c8
          have H' := Aside0.mk H
          clear H
          try go_wp2
          replace HO_3 := Aside0.mk (Kd.R_drew HO_3.out)
          replace HB := Aside0.mk (below_drew1 HB.out)
          have p307 : 0 ≤ (x5_2 : Int) := of_decide_eq_true (by first | (with_reducible assumption) | assumption)
          have q307 : x5_2 < (l0.length : Int) := of_decide_eq_true (by first | (with_reducible assumption) | assumption)
          obtain ⟨ad307, e307, hx307_0, hx307_1, hx307_2, hx307_3, hx307_4, hx307_5, hx307_6, hx307_7⟩ := at_T78 HR0.out x5_2 p307 q307
          have hw307_7 := hx307_7
          have hw307_6 := hx307_6
          have hw307_5 := hx307_5
          have hw307_4 := hx307_4
          have hw307_3 := hx307_3
          have hw307_2 := hx307_2
          have hw307_1 := hx307_1
          have hw307_0 := hx307_0
          cases e307
          replace hx307_0 := (HB.out.cell (World.block_lt_of_cell? w _ hx307_0)).trans hx307_0
          replace hx307_1 := (HB.out.cell (World.block_lt_of_cell? w _ hx307_1)).trans hx307_1
          replace hx307_2 := (HB.out.cell (World.block_lt_of_cell? w _ hx307_2)).trans hx307_2
          replace hx307_3 := (HB.out.cell (World.block_lt_of_cell? w _ hx307_3)).trans hx307_3
          replace hx307_4 := (HB.out.cell (World.block_lt_of_cell? w _ hx307_4)).trans hx307_4
          replace hx307_5 := (HB.out.cell (World.block_lt_of_cell? w _ hx307_5)).trans hx307_5
          replace hx307_6 := (HB.out.cell (World.block_lt_of_cell? w _ hx307_6)).trans hx307_6
          replace hx307_7 := (HB.out.cell (World.block_lt_of_cell? w _ hx307_7)).trans hx307_7
          replace p307 := eq_true p307
          replace q307 := eq_true q307
          refine start_ (n := 24) (S := fun w' => w'.cell? (ad307.add ((x5_2).toNat * 8)) = some (.int .i64 ((rd_T78 l0 x5_2).f0.f0)) ∧ w'.cell? ⟨(ad307.add ((x5_2).toNat * 8)).block, (ad307.add ((x5_2).toNat * 8)).off + 1, none⟩ = some (.int .u64 ((rd_T78 l0 x5_2).f0.f1)) ∧ w'.cell? ⟨(ad307.add ((x5_2).toNat * 8)).block, (ad307.add ((x5_2).toNat * 8)).off + 2, none⟩ = some (.int .u64 ((rd_T78 l0 x5_2).f0.f2)) ∧ w'.cell? ⟨(ad307.add ((x5_2).toNat * 8)).block, (ad307.add ((x5_2).toNat * 8)).off + 3, none⟩ = some (.int .i64 ((rd_T78 l0 x5_2).f1.f0)) ∧ w'.cell? ⟨(ad307.add ((x5_2).toNat * 8)).block, (ad307.add ((x5_2).toNat * 8)).off + 4, none⟩ = some (.int .u64 ((rd_T78 l0 x5_2).f1.f1)) ∧ w'.cell? ⟨(ad307.add ((x5_2).toNat * 8)).block, (ad307.add ((x5_2).toNat * 8)).off + 5, none⟩ = some (.int .u64 ((rd_T78 l0 x5_2).f1.f2)) ∧ w'.cell? ⟨(ad307.add ((x5_2).toNat * 8)).block, (ad307.add ((x5_2).toNat * 8)).off + 6, none⟩ = some (.int .i64 ((rd_T78 l0 x5_2).f2)) ∧ w'.cell? ⟨(ad307.add ((x5_2).toNat * 8)).block, (ad307.add ((x5_2).toNat * 8)).off + 7, none⟩ = some (.int .i64 ((rd_T78 l0 x5_2).f3))) (ds := []) #[false, false, false, false, false, false, false, false, false, false, false, false, false, false, false, false, false, false, false, false, false, false, false, false] (by kernel_rfl) rfl rfl ⟨((HB.out.cell (World.block_lt_of_cell? w _ hw307_0)).trans hw307_0), ((HB.out.cell (World.block_lt_of_cell? w _ hw307_1)).trans hw307_1), ((HB.out.cell (World.block_lt_of_cell? w _ hw307_2)).trans hw307_2), ((HB.out.cell (World.block_lt_of_cell? w _ hw307_3)).trans hw307_3), ((HB.out.cell (World.block_lt_of_cell? w _ hw307_4)).trans hw307_4), ((HB.out.cell (World.block_lt_of_cell? w _ hw307_5)).trans hw307_5), ((HB.out.cell (World.block_lt_of_cell? w _ hw307_6)).trans hw307_6), ((HB.out.cell (World.block_lt_of_cell? w _ hw307_7)).trans hw307_7)⟩ (fun hHeld => ?_); refine with_tabW shunterref21_Sorted.tab7 shunterref21_Sorted.bits7 (fun HT_ HW_ => ?_)
          generalize wr.drew = w9 at HO_3 HB hx307_0 hx307_1 hx307_2 hx307_3 hx307_4 hx307_5 hx307_6 hx307_7 hHeld ⊢
          refine pl_ [0, 1, 2, 3, 4] ?_
          iterate 4 refine pP rfl rfl (any_of HT_.out (by kernel_rfl)) (fun _ _ _ h => h) (by rfl) (by intro w'; go_simp; with_reducible rfl) (by simp only [Act.put, z1, z2, z3, i64_w, i32_w]; rfl) ?_
          refine pT hHeld rfl rfl (take_ofW HT_.out HW_.out (by kernel_rfl)) (fun _ _ _ h => h) (by rfl) (by rintro w' ⟨s0, s1, s2, s3, s4, s5, s6, s7⟩; go_simp; with_reducible rfl) (by simp only [Act.put, z1, z2, z3, i64_w, i32_w]; rfl) ?_
          refine pl0 ?_
          refine one_ (i := 5) (N := some 22) #[true, true, true, true, true, true, false, false, false, false, false, false, false, false, false, false, false, false, false, false, false, false, false, false] rfl rfl (one_of HT_.out (by kernel_rfl)) (by decide) (fun K hK => ?_)
          refine goes_ Try.func96 (by kernel_rfl) rfl #[.slice Ao3 x3_1.length co3, .agg #[.int .i64 ((rd_T78 l0 x5_2).f0.f0), .int .u64 ((rd_T78 l0 x5_2).f0.f1), .int .u64 ((rd_T78 l0 x5_2).f0.f2), .int .i64 ((rd_T78 l0 x5_2).f1.f0), .int .u64 ((rd_T78 l0 x5_2).f1.f1), .int .u64 ((rd_T78 l0 x5_2).f1.f2), .int .i64 ((rd_T78 l0 x5_2).f2), .int .i64 ((rd_T78 l0 x5_2).f3)]] (by rfl) rfl rfl (by (try simp only [List.map_toArray, List.map_cons, List.map_nil]); first | done | rfl | (simp only [List.length_drop, List.length_take]; rfl)) ?_
          with_reducible refine (shunterref21_Find.calls k2 _ _ x3_1 ((rd_T78 l0 x5_2).f0.f0) ((rd_T78 l0 x5_2).f0.f1) ((rd_T78 l0 x5_2).f0.f2) ((rd_T78 l0 x5_2).f1.f0) ((rd_T78 l0 x5_2).f1.f1) ((rd_T78 l0 x5_2).f1.f2) ((rd_T78 l0 x5_2).f2) ((rd_T78 l0 x5_2).f3) t308 _ ?side1 ?side2 A6.out).mono ?_
          (case side1 => repeat (first | exact (Kd.R_reads' HO_3.out).2.2 | (with_reducible refine Kd.C_alloc ?_ _) | (with_reducible refine Kd.C_drewN ?_ _) | (with_reducible refine Kd.C_drew ?_)))
          (case side2 => exact (Kd.R_reads' HO_3.out).2.1)
          rintro e w10 ⟨rfl, hb⟩
          refine ⟨_, rfl, ?_⟩
          replace HB := Aside0.mk (below_step (by repeat (first | (with_reducible first | exact HB.out | apply below_alloc | apply pw_below_drewN | apply below_drew1) | exact HB.out)) hb)
          replace HO_3 := Aside0.mk (Kd.R_below (by (with_reducible repeat (first | apply Kd.R_alloc | apply Kd.R_drewN | apply Kd.R_drew)); exact HO_3.out) hb)
          (try clear hb)
          (try clear hb2)
          (try clear hk)
          (try clear hi)
          refine hK.out _ _ ⟨((HB.out.cell (World.block_lt_of_cell? w _ hw307_0)).trans hw307_0), ((HB.out.cell (World.block_lt_of_cell? w _ hw307_1)).trans hw307_1), ((HB.out.cell (World.block_lt_of_cell? w _ hw307_2)).trans hw307_2), ((HB.out.cell (World.block_lt_of_cell? w _ hw307_3)).trans hw307_3), ((HB.out.cell (World.block_lt_of_cell? w _ hw307_4)).trans hw307_4), ((HB.out.cell (World.block_lt_of_cell? w _ hw307_5)).trans hw307_5), ((HB.out.cell (World.block_lt_of_cell? w _ hw307_6)).trans hw307_6), ((HB.out.cell (World.block_lt_of_cell? w _ hw307_7)).trans hw307_7)⟩ (fun hHeld => ?_)
          clear hK K
          refine norm_ (a' := ?_) ?_ ?_
          rotate_left
          ·show Act.put _ (some 22) _ = _
           simp only [Act.put, List.setIfInBounds_toArray, List.set_cons_zero, List.set_cons_succ, i64_w, i32_w]
           rfl
          refine pl_ [6, 7, 8, 9, 10, 11, 12, 13, 14, 15, 16, 17, 18, 19, 20, 21, 22, 23] ?_
          iterate 5 refine pP rfl rfl (any_of HT_.out (by kernel_rfl)) (fun _ _ _ h => h) (by rfl) (by intro w'; go_simp; with_reducible rfl) (by simp only [Act.put, z1, z2, z3, i64_w, i32_w]; rfl) ?_
          iterate 11 refine pU rfl rfl (any_of HT_.out (by kernel_rfl)) (fun _ _ _ h => h) (by rfl) (by simp only [Act.put, z1, z2, z3, i64_w, i32_w]; rfl) ?_
          iterate 2 refine pP rfl rfl (any_of HT_.out (by kernel_rfl)) (fun _ _ _ h => h) (by rfl) (by intro w'; go_simp; with_reducible rfl) (by simp only [Act.put, z1, z2, z3, i64_w, i32_w]; rfl) ?_
          refine pl0 ?_
          refine done_ (done_of HT_.out (by kernel_rfl)) ?_
          try go_wp2
          go_roundg k2
          case measure => have := HK1.out; have := HK2.out; omega
          case rel => exact ⟨(x5_2), (wrap64 (x5_2 + 1)), (by first | rfl | (simp; done) | (simp [*]; done)), (by first | rfl | (simp; done) | (simp [*]; done)), H', ⟨by have := HK1.out; have := HK2.out; omega⟩, ⟨by (with_reducible repeat (first | apply Kd.R_alloc | apply Kd.R_drewN | apply Kd.R_drew)); exact HO_3.out⟩, ⟨by repeat (first | (with_reducible first | exact HB.out | apply below_alloc | apply pw_below_drewN | apply below_drew1) | exact HB.out)⟩⟩
         ·rw [if_neg c8] at H
          have c8b0 : decide (x4_2 < 0) = false := decide_eq_false c8
          clear c8
          by_cases c11 : 0 ≤ x4_2
          ·rw [if_pos c11] at H
           have c11b0 : decide (0 ≤ x4_2) = true := decide_eq_true c11
           clear c11
           by_cases c12 : x4_2 < (l0.length : Int)
           ·rw [if_pos c12] at H
            have c12b0 : decide (x4_2 < (l0.length : Int)) = true := decide_eq_true c12
            clear c12
            by_cases c13 : ((rd_T78 l0 x5_2).f2) < ((rd_T78 l0 x4_2).f2)
            ·rw [if_pos c13] at H
             have c13b0 : decide (((rd_T78 l0 x5_2).f2) < ((rd_T78 l0 x4_2).f2)) = true := decide_eq_true c13
             clear c13
             have H' := Aside0.mk H
             clear H
             try go_wp2
             replace HO_3 := Aside0.mk (Kd.R_drew HO_3.out)
             replace HB := Aside0.mk (below_drew1 HB.out)
             have p307 : 0 ≤ (x5_2 : Int) := of_decide_eq_true (by first | (with_reducible assumption) | assumption)
             have q307 : x5_2 < (l0.length : Int) := of_decide_eq_true (by first | (with_reducible assumption) | assumption)
             obtain ⟨ad307, e307, hx307_0, hx307_1, hx307_2, hx307_3, hx307_4, hx307_5, hx307_6, hx307_7⟩ := at_T78 HR0.out x5_2 p307 q307
             have hw307_7 := hx307_7
             have hw307_6 := hx307_6
             have hw307_5 := hx307_5
             have hw307_4 := hx307_4
             have hw307_3 := hx307_3
             have hw307_2 := hx307_2
             have hw307_1 := hx307_1
             have hw307_0 := hx307_0
             cases e307
             replace hx307_0 := (HB.out.cell (World.block_lt_of_cell? w _ hx307_0)).trans hx307_0
             replace hx307_1 := (HB.out.cell (World.block_lt_of_cell? w _ hx307_1)).trans hx307_1
             replace hx307_2 := (HB.out.cell (World.block_lt_of_cell? w _ hx307_2)).trans hx307_2
             replace hx307_3 := (HB.out.cell (World.block_lt_of_cell? w _ hx307_3)).trans hx307_3
             replace hx307_4 := (HB.out.cell (World.block_lt_of_cell? w _ hx307_4)).trans hx307_4
             replace hx307_5 := (HB.out.cell (World.block_lt_of_cell? w _ hx307_5)).trans hx307_5
             replace hx307_6 := (HB.out.cell (World.block_lt_of_cell? w _ hx307_6)).trans hx307_6
             replace hx307_7 := (HB.out.cell (World.block_lt_of_cell? w _ hx307_7)).trans hx307_7
             replace p307 := eq_true p307
             replace q307 := eq_true q307
             have p309 : 0 ≤ (x5_2 : Int) := of_decide_eq_true (by first | (with_reducible assumption) | assumption)
             have q309 : x5_2 < (l0.length : Int) := of_decide_eq_true (by first | (with_reducible assumption) | assumption)
             obtain ⟨ad309, e309, hx309_0, hx309_1, hx309_2, hx309_3, hx309_4, hx309_5, hx309_6, hx309_7⟩ := at_T78 HR0.out x5_2 p309 q309
             have hw309_7 := hx309_7
             have hw309_6 := hx309_6
             have hw309_5 := hx309_5
             have hw309_4 := hx309_4
             have hw309_3 := hx309_3
             have hw309_2 := hx309_2
             have hw309_1 := hx309_1
             have hw309_0 := hx309_0
             obtain rfl : ad307 = ad309 := (by injection e309)
             replace hx309_0 := (HB.out.cell (World.block_lt_of_cell? w _ hx309_0)).trans hx309_0
             replace hx309_1 := (HB.out.cell (World.block_lt_of_cell? w _ hx309_1)).trans hx309_1
             replace hx309_2 := (HB.out.cell (World.block_lt_of_cell? w _ hx309_2)).trans hx309_2
             replace hx309_3 := (HB.out.cell (World.block_lt_of_cell? w _ hx309_3)).trans hx309_3
             replace hx309_4 := (HB.out.cell (World.block_lt_of_cell? w _ hx309_4)).trans hx309_4
             replace hx309_5 := (HB.out.cell (World.block_lt_of_cell? w _ hx309_5)).trans hx309_5
             replace hx309_6 := (HB.out.cell (World.block_lt_of_cell? w _ hx309_6)).trans hx309_6
             replace hx309_7 := (HB.out.cell (World.block_lt_of_cell? w _ hx309_7)).trans hx309_7
             replace p309 := eq_true p309
             replace q309 := eq_true q309
             have p310 : 0 ≤ (x4_2 : Int) := of_decide_eq_true (by first | (with_reducible assumption) | assumption)
             have q310 : x4_2 < (l0.length : Int) := of_decide_eq_true (by first | (with_reducible assumption) | assumption)
             obtain ⟨ad310, e310, hx310_0, hx310_1, hx310_2, hx310_3, hx310_4, hx310_5, hx310_6, hx310_7⟩ := at_T78 HR0.out x4_2 p310 q310
             have hw310_7 := hx310_7
             have hw310_6 := hx310_6
             have hw310_5 := hx310_5
             have hw310_4 := hx310_4
             have hw310_3 := hx310_3
             have hw310_2 := hx310_2
             have hw310_1 := hx310_1
             have hw310_0 := hx310_0
             obtain rfl : ad307 = ad310 := (by injection e310)
             replace hx310_0 := (HB.out.cell (World.block_lt_of_cell? w _ hx310_0)).trans hx310_0
             replace hx310_1 := (HB.out.cell (World.block_lt_of_cell? w _ hx310_1)).trans hx310_1
             replace hx310_2 := (HB.out.cell (World.block_lt_of_cell? w _ hx310_2)).trans hx310_2
             replace hx310_3 := (HB.out.cell (World.block_lt_of_cell? w _ hx310_3)).trans hx310_3
             replace hx310_4 := (HB.out.cell (World.block_lt_of_cell? w _ hx310_4)).trans hx310_4
             replace hx310_5 := (HB.out.cell (World.block_lt_of_cell? w _ hx310_5)).trans hx310_5
             replace hx310_6 := (HB.out.cell (World.block_lt_of_cell? w _ hx310_6)).trans hx310_6
             replace hx310_7 := (HB.out.cell (World.block_lt_of_cell? w _ hx310_7)).trans hx310_7
             replace p310 := eq_true p310
             replace q310 := eq_true q310
             refine start_ (n := 24) (S := fun w' => w'.cell? (ad307.add ((x5_2).toNat * 8)) = some (.int .i64 ((rd_T78 l0 x5_2).f0.f0)) ∧ w'.cell? ⟨(ad307.add ((x5_2).toNat * 8)).block, (ad307.add ((x5_2).toNat * 8)).off + 1, none⟩ = some (.int .u64 ((rd_T78 l0 x5_2).f0.f1)) ∧ w'.cell? ⟨(ad307.add ((x5_2).toNat * 8)).block, (ad307.add ((x5_2).toNat * 8)).off + 2, none⟩ = some (.int .u64 ((rd_T78 l0 x5_2).f0.f2)) ∧ w'.cell? ⟨(ad307.add ((x5_2).toNat * 8)).block, (ad307.add ((x5_2).toNat * 8)).off + 3, none⟩ = some (.int .i64 ((rd_T78 l0 x5_2).f1.f0)) ∧ w'.cell? ⟨(ad307.add ((x5_2).toNat * 8)).block, (ad307.add ((x5_2).toNat * 8)).off + 4, none⟩ = some (.int .u64 ((rd_T78 l0 x5_2).f1.f1)) ∧ w'.cell? ⟨(ad307.add ((x5_2).toNat * 8)).block, (ad307.add ((x5_2).toNat * 8)).off + 5, none⟩ = some (.int .u64 ((rd_T78 l0 x5_2).f1.f2)) ∧ w'.cell? ⟨(ad307.add ((x5_2).toNat * 8)).block, (ad307.add ((x5_2).toNat * 8)).off + 6, none⟩ = some (.int .i64 ((rd_T78 l0 x5_2).f2)) ∧ w'.cell? ⟨(ad307.add ((x5_2).toNat * 8)).block, (ad307.add ((x5_2).toNat * 8)).off + 7, none⟩ = some (.int .i64 ((rd_T78 l0 x5_2).f3)) ∧ w'.cell? (ad307.add ((x5_2).toNat * 8)) = some (.int .i64 ((rd_T78 l0 x5_2).f0.f0)) ∧ w'.cell? ⟨(ad307.add ((x5_2).toNat * 8)).block, (ad307.add ((x5_2).toNat * 8)).off + 1, none⟩ = some (.int .u64 ((rd_T78 l0 x5_2).f0.f1)) ∧ w'.cell? ⟨(ad307.add ((x5_2).toNat * 8)).block, (ad307.add ((x5_2).toNat * 8)).off + 2, none⟩ = some (.int .u64 ((rd_T78 l0 x5_2).f0.f2)) ∧ w'.cell? ⟨(ad307.add ((x5_2).toNat * 8)).block, (ad307.add ((x5_2).toNat * 8)).off + 3, none⟩ = some (.int .i64 ((rd_T78 l0 x5_2).f1.f0)) ∧ w'.cell? ⟨(ad307.add ((x5_2).toNat * 8)).block, (ad307.add ((x5_2).toNat * 8)).off + 4, none⟩ = some (.int .u64 ((rd_T78 l0 x5_2).f1.f1)) ∧ w'.cell? ⟨(ad307.add ((x5_2).toNat * 8)).block, (ad307.add ((x5_2).toNat * 8)).off + 5, none⟩ = some (.int .u64 ((rd_T78 l0 x5_2).f1.f2)) ∧ w'.cell? ⟨(ad307.add ((x5_2).toNat * 8)).block, (ad307.add ((x5_2).toNat * 8)).off + 6, none⟩ = some (.int .i64 ((rd_T78 l0 x5_2).f2)) ∧ w'.cell? ⟨(ad307.add ((x5_2).toNat * 8)).block, (ad307.add ((x5_2).toNat * 8)).off + 7, none⟩ = some (.int .i64 ((rd_T78 l0 x5_2).f3)) ∧ w'.cell? (ad307.add ((x4_2).toNat * 8)) = some (.int .i64 ((rd_T78 l0 x4_2).f0.f0)) ∧ w'.cell? ⟨(ad307.add ((x4_2).toNat * 8)).block, (ad307.add ((x4_2).toNat * 8)).off + 1, none⟩ = some (.int .u64 ((rd_T78 l0 x4_2).f0.f1)) ∧ w'.cell? ⟨(ad307.add ((x4_2).toNat * 8)).block, (ad307.add ((x4_2).toNat * 8)).off + 2, none⟩ = some (.int .u64 ((rd_T78 l0 x4_2).f0.f2)) ∧ w'.cell? ⟨(ad307.add ((x4_2).toNat * 8)).block, (ad307.add ((x4_2).toNat * 8)).off + 3, none⟩ = some (.int .i64 ((rd_T78 l0 x4_2).f1.f0)) ∧ w'.cell? ⟨(ad307.add ((x4_2).toNat * 8)).block, (ad307.add ((x4_2).toNat * 8)).off + 4, none⟩ = some (.int .u64 ((rd_T78 l0 x4_2).f1.f1)) ∧ w'.cell? ⟨(ad307.add ((x4_2).toNat * 8)).block, (ad307.add ((x4_2).toNat * 8)).off + 5, none⟩ = some (.int .u64 ((rd_T78 l0 x4_2).f1.f2)) ∧ w'.cell? ⟨(ad307.add ((x4_2).toNat * 8)).block, (ad307.add ((x4_2).toNat * 8)).off + 6, none⟩ = some (.int .i64 ((rd_T78 l0 x4_2).f2)) ∧ w'.cell? ⟨(ad307.add ((x4_2).toNat * 8)).block, (ad307.add ((x4_2).toNat * 8)).off + 7, none⟩ = some (.int .i64 ((rd_T78 l0 x4_2).f3))) (ds := []) #[false, false, false, false, false, false, false, false, false, false, false, false, false, false, false, false, false, false, false, false, false, false, false, false] (by kernel_rfl) rfl rfl ⟨((HB.out.cell (World.block_lt_of_cell? w _ hw307_0)).trans hw307_0), ((HB.out.cell (World.block_lt_of_cell? w _ hw307_1)).trans hw307_1), ((HB.out.cell (World.block_lt_of_cell? w _ hw307_2)).trans hw307_2), ((HB.out.cell (World.block_lt_of_cell? w _ hw307_3)).trans hw307_3), ((HB.out.cell (World.block_lt_of_cell? w _ hw307_4)).trans hw307_4), ((HB.out.cell (World.block_lt_of_cell? w _ hw307_5)).trans hw307_5), ((HB.out.cell (World.block_lt_of_cell? w _ hw307_6)).trans hw307_6), ((HB.out.cell (World.block_lt_of_cell? w _ hw307_7)).trans hw307_7), ((HB.out.cell (World.block_lt_of_cell? w _ hw309_0)).trans hw309_0), ((HB.out.cell (World.block_lt_of_cell? w _ hw309_1)).trans hw309_1), ((HB.out.cell (World.block_lt_of_cell? w _ hw309_2)).trans hw309_2), ((HB.out.cell (World.block_lt_of_cell? w _ hw309_3)).trans hw309_3), ((HB.out.cell (World.block_lt_of_cell? w _ hw309_4)).trans hw309_4), ((HB.out.cell (World.block_lt_of_cell? w _ hw309_5)).trans hw309_5), ((HB.out.cell (World.block_lt_of_cell? w _ hw309_6)).trans hw309_6), ((HB.out.cell (World.block_lt_of_cell? w _ hw309_7)).trans hw309_7), ((HB.out.cell (World.block_lt_of_cell? w _ hw310_0)).trans hw310_0), ((HB.out.cell (World.block_lt_of_cell? w _ hw310_1)).trans hw310_1), ((HB.out.cell (World.block_lt_of_cell? w _ hw310_2)).trans hw310_2), ((HB.out.cell (World.block_lt_of_cell? w _ hw310_3)).trans hw310_3), ((HB.out.cell (World.block_lt_of_cell? w _ hw310_4)).trans hw310_4), ((HB.out.cell (World.block_lt_of_cell? w _ hw310_5)).trans hw310_5), ((HB.out.cell (World.block_lt_of_cell? w _ hw310_6)).trans hw310_6), ((HB.out.cell (World.block_lt_of_cell? w _ hw310_7)).trans hw310_7)⟩ (fun hHeld => ?_); refine with_tabW shunterref21_Sorted.tab7 shunterref21_Sorted.bits7 (fun HT_ HW_ => ?_)
             generalize wr.drew = w14 at HO_3 HB hx307_0 hx307_1 hx307_2 hx307_3 hx307_4 hx307_5 hx307_6 hx307_7 hx309_0 hx309_1 hx309_2 hx309_3 hx309_4 hx309_5 hx309_6 hx309_7 hx310_0 hx310_1 hx310_2 hx310_3 hx310_4 hx310_5 hx310_6 hx310_7 hHeld ⊢
             refine pl_ [0, 1, 2, 3, 4] ?_
             iterate 4 refine pP rfl rfl (any_of HT_.out (by kernel_rfl)) (fun _ _ _ h => h) (by rfl) (by intro w'; go_simp; with_reducible rfl) (by simp only [Act.put, z1, z2, z3, i64_w, i32_w]; rfl) ?_
             refine pT hHeld rfl rfl (take_ofW HT_.out HW_.out (by kernel_rfl)) (fun _ _ _ h => h) (by rfl) (by rintro w' ⟨s0, s1, s2, s3, s4, s5, s6, s7, s8, s9, s10, s11, s12, s13, s14, s15, s16, s17, s18, s19, s20, s21, s22, s23⟩; go_simp; with_reducible rfl) (by simp only [Act.put, z1, z2, z3, i64_w, i32_w]; rfl) ?_
             refine pl0 ?_
             refine one_ (i := 5) (N := some 22) #[true, true, true, true, true, true, false, false, false, false, false, false, false, false, false, false, false, false, false, false, false, false, false, false] rfl rfl (one_of HT_.out (by kernel_rfl)) (by decide) (fun K hK => ?_)
             refine goes_ Try.func96 (by kernel_rfl) rfl #[.slice Ao3 x3_1.length co3, .agg #[.int .i64 ((rd_T78 l0 x5_2).f0.f0), .int .u64 ((rd_T78 l0 x5_2).f0.f1), .int .u64 ((rd_T78 l0 x5_2).f0.f2), .int .i64 ((rd_T78 l0 x5_2).f1.f0), .int .u64 ((rd_T78 l0 x5_2).f1.f1), .int .u64 ((rd_T78 l0 x5_2).f1.f2), .int .i64 ((rd_T78 l0 x5_2).f2), .int .i64 ((rd_T78 l0 x5_2).f3)]] (by rfl) rfl rfl (by (try simp only [List.map_toArray, List.map_cons, List.map_nil]); first | done | rfl | (simp only [List.length_drop, List.length_take]; rfl)) ?_
             with_reducible refine (shunterref21_Find.calls k2 _ _ x3_1 ((rd_T78 l0 x5_2).f0.f0) ((rd_T78 l0 x5_2).f0.f1) ((rd_T78 l0 x5_2).f0.f2) ((rd_T78 l0 x5_2).f1.f0) ((rd_T78 l0 x5_2).f1.f1) ((rd_T78 l0 x5_2).f1.f2) ((rd_T78 l0 x5_2).f2) ((rd_T78 l0 x5_2).f3) t308 _ ?side1 ?side2 A6.out).mono ?_
             (case side1 => repeat (first | exact (Kd.R_reads' HO_3.out).2.2 | (with_reducible refine Kd.C_alloc ?_ _) | (with_reducible refine Kd.C_drewN ?_ _) | (with_reducible refine Kd.C_drew ?_)))
             (case side2 => exact (Kd.R_reads' HO_3.out).2.1)
             rintro e w15 ⟨rfl, hb⟩
             refine ⟨_, rfl, ?_⟩
             replace HB := Aside0.mk (below_step (by repeat (first | (with_reducible first | exact HB.out | apply below_alloc | apply pw_below_drewN | apply below_drew1) | exact HB.out)) hb)
             replace HO_3 := Aside0.mk (Kd.R_below (by (with_reducible repeat (first | apply Kd.R_alloc | apply Kd.R_drewN | apply Kd.R_drew)); exact HO_3.out) hb)
             (try clear hb)
             (try clear hb2)
             (try clear hk)
             (try clear hi)
             refine hK.out _ _ ⟨((HB.out.cell (World.block_lt_of_cell? w _ hw307_0)).trans hw307_0), ((HB.out.cell (World.block_lt_of_cell? w _ hw307_1)).trans hw307_1), ((HB.out.cell (World.block_lt_of_cell? w _ hw307_2)).trans hw307_2), ((HB.out.cell (World.block_lt_of_cell? w _ hw307_3)).trans hw307_3), ((HB.out.cell (World.block_lt_of_cell? w _ hw307_4)).trans hw307_4), ((HB.out.cell (World.block_lt_of_cell? w _ hw307_5)).trans hw307_5), ((HB.out.cell (World.block_lt_of_cell? w _ hw307_6)).trans hw307_6), ((HB.out.cell (World.block_lt_of_cell? w _ hw307_7)).trans hw307_7), ((HB.out.cell (World.block_lt_of_cell? w _ hw309_0)).trans hw309_0), ((HB.out.cell (World.block_lt_of_cell? w _ hw309_1)).trans hw309_1), ((HB.out.cell (World.block_lt_of_cell? w _ hw309_2)).trans hw309_2), ((HB.out.cell (World.block_lt_of_cell? w _ hw309_3)).trans hw309_3), ((HB.out.cell (World.block_lt_of_cell? w _ hw309_4)).trans hw309_4), ((HB.out.cell (World.block_lt_of_cell? w _ hw309_5)).trans hw309_5), ((HB.out.cell (World.block_lt_of_cell? w _ hw309_6)).trans hw309_6), ((HB.out.cell (World.block_lt_of_cell? w _ hw309_7)).trans hw309_7), ((HB.out.cell (World.block_lt_of_cell? w _ hw310_0)).trans hw310_0), ((HB.out.cell (World.block_lt_of_cell? w _ hw310_1)).trans hw310_1), ((HB.out.cell (World.block_lt_of_cell? w _ hw310_2)).trans hw310_2), ((HB.out.cell (World.block_lt_of_cell? w _ hw310_3)).trans hw310_3), ((HB.out.cell (World.block_lt_of_cell? w _ hw310_4)).trans hw310_4), ((HB.out.cell (World.block_lt_of_cell? w _ hw310_5)).trans hw310_5), ((HB.out.cell (World.block_lt_of_cell? w _ hw310_6)).trans hw310_6), ((HB.out.cell (World.block_lt_of_cell? w _ hw310_7)).trans hw310_7)⟩ (fun hHeld => ?_)
             clear hK K
             refine norm_ (a' := ?_) ?_ ?_
             rotate_left
             ·show Act.put _ (some 22) _ = _
              simp only [Act.put, List.setIfInBounds_toArray, List.set_cons_zero, List.set_cons_succ, i64_w, i32_w]
              rfl
             refine pl_ [6, 7, 8, 9, 10, 11, 12, 13, 14, 16, 17, 18, 19, 15, 20, 21, 22, 23] ?_
             iterate 13 refine pP rfl rfl (any_of HT_.out (by kernel_rfl)) (fun _ _ _ h => h) (by rfl) (by intro w'; go_simp; with_reducible rfl) (by simp only [Act.put, z1, z2, z3, i64_w, i32_w]; rfl) ?_
             iterate 2 refine pT hHeld rfl rfl (take_ofW HT_.out HW_.out (by kernel_rfl)) (fun _ _ _ h => h) (by rfl) (by rintro w' ⟨s0, s1, s2, s3, s4, s5, s6, s7, s8, s9, s10, s11, s12, s13, s14, s15, s16, s17, s18, s19, s20, s21, s22, s23⟩; go_simp; with_reducible rfl) (by simp only [Act.put, z1, z2, z3, i64_w, i32_w]; rfl) ?_
             iterate 3 refine pP rfl rfl (any_of HT_.out (by kernel_rfl)) (fun _ _ _ h => h) (by rfl) (by intro w'; go_simp; with_reducible rfl) (by simp only [Act.put, z1, z2, z3, i64_w, i32_w]; rfl) ?_
             refine pl0 ?_
             refine done_ (done_of HT_.out (by kernel_rfl)) ?_
             try go_wp2
             go_roundg k2
             case measure => have := HK1.out; have := HK2.out; omega
             case rel => exact ⟨(x5_2), (wrap64 (x5_2 + 1)), (by first | rfl | (simp; done) | (simp [*]; done)), (by first | rfl | (simp; done) | (simp [*]; done)), H', ⟨by have := HK1.out; have := HK2.out; omega⟩, ⟨by (with_reducible repeat (first | apply Kd.R_alloc | apply Kd.R_drewN | apply Kd.R_drew)); exact HO_3.out⟩, ⟨by repeat (first | (with_reducible first | exact HB.out | apply below_alloc | apply pw_below_drewN | apply below_drew1) | exact HB.out)⟩⟩
            ·rw [if_neg c13] at H
             have c13b0 : decide (((rd_T78 l0 x5_2).f2) < ((rd_T78 l0 x4_2).f2)) = false := decide_eq_false c13
             clear c13
             have H' := Aside0.mk H
             clear H
             try go_wp2
             replace HO_3 := Aside0.mk (Kd.R_drew HO_3.out)
             replace HB := Aside0.mk (below_drew1 HB.out)
             have p307 : 0 ≤ (x5_2 : Int) := of_decide_eq_true (by first | (with_reducible assumption) | assumption)
             have q307 : x5_2 < (l0.length : Int) := of_decide_eq_true (by first | (with_reducible assumption) | assumption)
             obtain ⟨ad307, e307, hx307_0, hx307_1, hx307_2, hx307_3, hx307_4, hx307_5, hx307_6, hx307_7⟩ := at_T78 HR0.out x5_2 p307 q307
             have hw307_7 := hx307_7
             have hw307_6 := hx307_6
             have hw307_5 := hx307_5
             have hw307_4 := hx307_4
             have hw307_3 := hx307_3
             have hw307_2 := hx307_2
             have hw307_1 := hx307_1
             have hw307_0 := hx307_0
             cases e307
             replace hx307_0 := (HB.out.cell (World.block_lt_of_cell? w _ hx307_0)).trans hx307_0
             replace hx307_1 := (HB.out.cell (World.block_lt_of_cell? w _ hx307_1)).trans hx307_1
             replace hx307_2 := (HB.out.cell (World.block_lt_of_cell? w _ hx307_2)).trans hx307_2
             replace hx307_3 := (HB.out.cell (World.block_lt_of_cell? w _ hx307_3)).trans hx307_3
             replace hx307_4 := (HB.out.cell (World.block_lt_of_cell? w _ hx307_4)).trans hx307_4
             replace hx307_5 := (HB.out.cell (World.block_lt_of_cell? w _ hx307_5)).trans hx307_5
             replace hx307_6 := (HB.out.cell (World.block_lt_of_cell? w _ hx307_6)).trans hx307_6
             replace hx307_7 := (HB.out.cell (World.block_lt_of_cell? w _ hx307_7)).trans hx307_7
             replace p307 := eq_true p307
             replace q307 := eq_true q307
             have p309 : 0 ≤ (x5_2 : Int) := of_decide_eq_true (by first | (with_reducible assumption) | assumption)
             have q309 : x5_2 < (l0.length : Int) := of_decide_eq_true (by first | (with_reducible assumption) | assumption)
             obtain ⟨ad309, e309, hx309_0, hx309_1, hx309_2, hx309_3, hx309_4, hx309_5, hx309_6, hx309_7⟩ := at_T78 HR0.out x5_2 p309 q309
             have hw309_7 := hx309_7
             have hw309_6 := hx309_6
             have hw309_5 := hx309_5
             have hw309_4 := hx309_4
             have hw309_3 := hx309_3
             have hw309_2 := hx309_2
             have hw309_1 := hx309_1
             have hw309_0 := hx309_0
             obtain rfl : ad307 = ad309 := (by injection e309)
             replace hx309_0 := (HB.out.cell (World.block_lt_of_cell? w _ hx309_0)).trans hx309_0
             replace hx309_1 := (HB.out.cell (World.block_lt_of_cell? w _ hx309_1)).trans hx309_1
             replace hx309_2 := (HB.out.cell (World.block_lt_of_cell? w _ hx309_2)).trans hx309_2
             replace hx309_3 := (HB.out.cell (World.block_lt_of_cell? w _ hx309_3)).trans hx309_3
             replace hx309_4 := (HB.out.cell (World.block_lt_of_cell? w _ hx309_4)).trans hx309_4
             replace hx309_5 := (HB.out.cell (World.block_lt_of_cell? w _ hx309_5)).trans hx309_5
             replace hx309_6 := (HB.out.cell (World.block_lt_of_cell? w _ hx309_6)).trans hx309_6
             replace hx309_7 := (HB.out.cell (World.block_lt_of_cell? w _ hx309_7)).trans hx309_7
             replace p309 := eq_true p309
             replace q309 := eq_true q309
             have p310 : 0 ≤ (x4_2 : Int) := of_decide_eq_true (by first | (with_reducible assumption) | assumption)
             have q310 : x4_2 < (l0.length : Int) := of_decide_eq_true (by first | (with_reducible assumption) | assumption)
             obtain ⟨ad310, e310, hx310_0, hx310_1, hx310_2, hx310_3, hx310_4, hx310_5, hx310_6, hx310_7⟩ := at_T78 HR0.out x4_2 p310 q310
             have hw310_7 := hx310_7
             have hw310_6 := hx310_6
             have hw310_5 := hx310_5
             have hw310_4 := hx310_4
             have hw310_3 := hx310_3
             have hw310_2 := hx310_2
             have hw310_1 := hx310_1
             have hw310_0 := hx310_0
             obtain rfl : ad307 = ad310 := (by injection e310)
             replace hx310_0 := (HB.out.cell (World.block_lt_of_cell? w _ hx310_0)).trans hx310_0
             replace hx310_1 := (HB.out.cell (World.block_lt_of_cell? w _ hx310_1)).trans hx310_1
             replace hx310_2 := (HB.out.cell (World.block_lt_of_cell? w _ hx310_2)).trans hx310_2
             replace hx310_3 := (HB.out.cell (World.block_lt_of_cell? w _ hx310_3)).trans hx310_3
             replace hx310_4 := (HB.out.cell (World.block_lt_of_cell? w _ hx310_4)).trans hx310_4
             replace hx310_5 := (HB.out.cell (World.block_lt_of_cell? w _ hx310_5)).trans hx310_5
             replace hx310_6 := (HB.out.cell (World.block_lt_of_cell? w _ hx310_6)).trans hx310_6
             replace hx310_7 := (HB.out.cell (World.block_lt_of_cell? w _ hx310_7)).trans hx310_7
             replace p310 := eq_true p310
             replace q310 := eq_true q310
             refine start_ (n := 24) (S := fun w' => w'.cell? (ad307.add ((x5_2).toNat * 8)) = some (.int .i64 ((rd_T78 l0 x5_2).f0.f0)) ∧ w'.cell? ⟨(ad307.add ((x5_2).toNat * 8)).block, (ad307.add ((x5_2).toNat * 8)).off + 1, none⟩ = some (.int .u64 ((rd_T78 l0 x5_2).f0.f1)) ∧ w'.cell? ⟨(ad307.add ((x5_2).toNat * 8)).block, (ad307.add ((x5_2).toNat * 8)).off + 2, none⟩ = some (.int .u64 ((rd_T78 l0 x5_2).f0.f2)) ∧ w'.cell? ⟨(ad307.add ((x5_2).toNat * 8)).block, (ad307.add ((x5_2).toNat * 8)).off + 3, none⟩ = some (.int .i64 ((rd_T78 l0 x5_2).f1.f0)) ∧ w'.cell? ⟨(ad307.add ((x5_2).toNat * 8)).block, (ad307.add ((x5_2).toNat * 8)).off + 4, none⟩ = some (.int .u64 ((rd_T78 l0 x5_2).f1.f1)) ∧ w'.cell? ⟨(ad307.add ((x5_2).toNat * 8)).block, (ad307.add ((x5_2).toNat * 8)).off + 5, none⟩ = some (.int .u64 ((rd_T78 l0 x5_2).f1.f2)) ∧ w'.cell? ⟨(ad307.add ((x5_2).toNat * 8)).block, (ad307.add ((x5_2).toNat * 8)).off + 6, none⟩ = some (.int .i64 ((rd_T78 l0 x5_2).f2)) ∧ w'.cell? ⟨(ad307.add ((x5_2).toNat * 8)).block, (ad307.add ((x5_2).toNat * 8)).off + 7, none⟩ = some (.int .i64 ((rd_T78 l0 x5_2).f3)) ∧ w'.cell? (ad307.add ((x5_2).toNat * 8)) = some (.int .i64 ((rd_T78 l0 x5_2).f0.f0)) ∧ w'.cell? ⟨(ad307.add ((x5_2).toNat * 8)).block, (ad307.add ((x5_2).toNat * 8)).off + 1, none⟩ = some (.int .u64 ((rd_T78 l0 x5_2).f0.f1)) ∧ w'.cell? ⟨(ad307.add ((x5_2).toNat * 8)).block, (ad307.add ((x5_2).toNat * 8)).off + 2, none⟩ = some (.int .u64 ((rd_T78 l0 x5_2).f0.f2)) ∧ w'.cell? ⟨(ad307.add ((x5_2).toNat * 8)).block, (ad307.add ((x5_2).toNat * 8)).off + 3, none⟩ = some (.int .i64 ((rd_T78 l0 x5_2).f1.f0)) ∧ w'.cell? ⟨(ad307.add ((x5_2).toNat * 8)).block, (ad307.add ((x5_2).toNat * 8)).off + 4, none⟩ = some (.int .u64 ((rd_T78 l0 x5_2).f1.f1)) ∧ w'.cell? ⟨(ad307.add ((x5_2).toNat * 8)).block, (ad307.add ((x5_2).toNat * 8)).off + 5, none⟩ = some (.int .u64 ((rd_T78 l0 x5_2).f1.f2)) ∧ w'.cell? ⟨(ad307.add ((x5_2).toNat * 8)).block, (ad307.add ((x5_2).toNat * 8)).off + 6, none⟩ = some (.int .i64 ((rd_T78 l0 x5_2).f2)) ∧ w'.cell? ⟨(ad307.add ((x5_2).toNat * 8)).block, (ad307.add ((x5_2).toNat * 8)).off + 7, none⟩ = some (.int .i64 ((rd_T78 l0 x5_2).f3)) ∧ w'.cell? (ad307.add ((x4_2).toNat * 8)) = some (.int .i64 ((rd_T78 l0 x4_2).f0.f0)) ∧ w'.cell? ⟨(ad307.add ((x4_2).toNat * 8)).block, (ad307.add ((x4_2).toNat * 8)).off + 1, none⟩ = some (.int .u64 ((rd_T78 l0 x4_2).f0.f1)) ∧ w'.cell? ⟨(ad307.add ((x4_2).toNat * 8)).block, (ad307.add ((x4_2).toNat * 8)).off + 2, none⟩ = some (.int .u64 ((rd_T78 l0 x4_2).f0.f2)) ∧ w'.cell? ⟨(ad307.add ((x4_2).toNat * 8)).block, (ad307.add ((x4_2).toNat * 8)).off + 3, none⟩ = some (.int .i64 ((rd_T78 l0 x4_2).f1.f0)) ∧ w'.cell? ⟨(ad307.add ((x4_2).toNat * 8)).block, (ad307.add ((x4_2).toNat * 8)).off + 4, none⟩ = some (.int .u64 ((rd_T78 l0 x4_2).f1.f1)) ∧ w'.cell? ⟨(ad307.add ((x4_2).toNat * 8)).block, (ad307.add ((x4_2).toNat * 8)).off + 5, none⟩ = some (.int .u64 ((rd_T78 l0 x4_2).f1.f2)) ∧ w'.cell? ⟨(ad307.add ((x4_2).toNat * 8)).block, (ad307.add ((x4_2).toNat * 8)).off + 6, none⟩ = some (.int .i64 ((rd_T78 l0 x4_2).f2)) ∧ w'.cell? ⟨(ad307.add ((x4_2).toNat * 8)).block, (ad307.add ((x4_2).toNat * 8)).off + 7, none⟩ = some (.int .i64 ((rd_T78 l0 x4_2).f3))) (ds := []) #[false, false, false, false, false, false, false, false, false, false, false, false, false, false, false, false, false, false, false, false, false, false, false, false] (by kernel_rfl) rfl rfl ⟨((HB.out.cell (World.block_lt_of_cell? w _ hw307_0)).trans hw307_0), ((HB.out.cell (World.block_lt_of_cell? w _ hw307_1)).trans hw307_1), ((HB.out.cell (World.block_lt_of_cell? w _ hw307_2)).trans hw307_2), ((HB.out.cell (World.block_lt_of_cell? w _ hw307_3)).trans hw307_3), ((HB.out.cell (World.block_lt_of_cell? w _ hw307_4)).trans hw307_4), ((HB.out.cell (World.block_lt_of_cell? w _ hw307_5)).trans hw307_5), ((HB.out.cell (World.block_lt_of_cell? w _ hw307_6)).trans hw307_6), ((HB.out.cell (World.block_lt_of_cell? w _ hw307_7)).trans hw307_7), ((HB.out.cell (World.block_lt_of_cell? w _ hw309_0)).trans hw309_0), ((HB.out.cell (World.block_lt_of_cell? w _ hw309_1)).trans hw309_1), ((HB.out.cell (World.block_lt_of_cell? w _ hw309_2)).trans hw309_2), ((HB.out.cell (World.block_lt_of_cell? w _ hw309_3)).trans hw309_3), ((HB.out.cell (World.block_lt_of_cell? w _ hw309_4)).trans hw309_4), ((HB.out.cell (World.block_lt_of_cell? w _ hw309_5)).trans hw309_5), ((HB.out.cell (World.block_lt_of_cell? w _ hw309_6)).trans hw309_6), ((HB.out.cell (World.block_lt_of_cell? w _ hw309_7)).trans hw309_7), ((HB.out.cell (World.block_lt_of_cell? w _ hw310_0)).trans hw310_0), ((HB.out.cell (World.block_lt_of_cell? w _ hw310_1)).trans hw310_1), ((HB.out.cell (World.block_lt_of_cell? w _ hw310_2)).trans hw310_2), ((HB.out.cell (World.block_lt_of_cell? w _ hw310_3)).trans hw310_3), ((HB.out.cell (World.block_lt_of_cell? w _ hw310_4)).trans hw310_4), ((HB.out.cell (World.block_lt_of_cell? w _ hw310_5)).trans hw310_5), ((HB.out.cell (World.block_lt_of_cell? w _ hw310_6)).trans hw310_6), ((HB.out.cell (World.block_lt_of_cell? w _ hw310_7)).trans hw310_7)⟩ (fun hHeld => ?_); refine with_tabW shunterref21_Sorted.tab7 shunterref21_Sorted.bits7 (fun HT_ HW_ => ?_)
             generalize wr.drew = w16 at HO_3 HB hx307_0 hx307_1 hx307_2 hx307_3 hx307_4 hx307_5 hx307_6 hx307_7 hx309_0 hx309_1 hx309_2 hx309_3 hx309_4 hx309_5 hx309_6 hx309_7 hx310_0 hx310_1 hx310_2 hx310_3 hx310_4 hx310_5 hx310_6 hx310_7 hHeld ⊢
             refine pl_ [0, 1, 2, 3, 4] ?_
             iterate 4 refine pP rfl rfl (any_of HT_.out (by kernel_rfl)) (fun _ _ _ h => h) (by rfl) (by intro w'; go_simp; with_reducible rfl) (by simp only [Act.put, z1, z2, z3, i64_w, i32_w]; rfl) ?_
             refine pT hHeld rfl rfl (take_ofW HT_.out HW_.out (by kernel_rfl)) (fun _ _ _ h => h) (by rfl) (by rintro w' ⟨s0, s1, s2, s3, s4, s5, s6, s7, s8, s9, s10, s11, s12, s13, s14, s15, s16, s17, s18, s19, s20, s21, s22, s23⟩; go_simp; with_reducible rfl) (by simp only [Act.put, z1, z2, z3, i64_w, i32_w]; rfl) ?_
             refine pl0 ?_
             refine one_ (i := 5) (N := some 22) #[true, true, true, true, true, true, false, false, false, false, false, false, false, false, false, false, false, false, false, false, false, false, false, false] rfl rfl (one_of HT_.out (by kernel_rfl)) (by decide) (fun K hK => ?_)
             refine goes_ Try.func96 (by kernel_rfl) rfl #[.slice Ao3 x3_1.length co3, .agg #[.int .i64 ((rd_T78 l0 x5_2).f0.f0), .int .u64 ((rd_T78 l0 x5_2).f0.f1), .int .u64 ((rd_T78 l0 x5_2).f0.f2), .int .i64 ((rd_T78 l0 x5_2).f1.f0), .int .u64 ((rd_T78 l0 x5_2).f1.f1), .int .u64 ((rd_T78 l0 x5_2).f1.f2), .int .i64 ((rd_T78 l0 x5_2).f2), .int .i64 ((rd_T78 l0 x5_2).f3)]] (by rfl) rfl rfl (by (try simp only [List.map_toArray, List.map_cons, List.map_nil]); first | done | rfl | (simp only [List.length_drop, List.length_take]; rfl)) ?_
             with_reducible refine (shunterref21_Find.calls k2 _ _ x3_1 ((rd_T78 l0 x5_2).f0.f0) ((rd_T78 l0 x5_2).f0.f1) ((rd_T78 l0 x5_2).f0.f2) ((rd_T78 l0 x5_2).f1.f0) ((rd_T78 l0 x5_2).f1.f1) ((rd_T78 l0 x5_2).f1.f2) ((rd_T78 l0 x5_2).f2) ((rd_T78 l0 x5_2).f3) t308 _ ?side1 ?side2 A6.out).mono ?_
             (case side1 => repeat (first | exact (Kd.R_reads' HO_3.out).2.2 | (with_reducible refine Kd.C_alloc ?_ _) | (with_reducible refine Kd.C_drewN ?_ _) | (with_reducible refine Kd.C_drew ?_)))
             (case side2 => exact (Kd.R_reads' HO_3.out).2.1)
             rintro e w17 ⟨rfl, hb⟩
             refine ⟨_, rfl, ?_⟩
             replace HB := Aside0.mk (below_step (by repeat (first | (with_reducible first | exact HB.out | apply below_alloc | apply pw_below_drewN | apply below_drew1) | exact HB.out)) hb)
             replace HO_3 := Aside0.mk (Kd.R_below (by (with_reducible repeat (first | apply Kd.R_alloc | apply Kd.R_drewN | apply Kd.R_drew)); exact HO_3.out) hb)
             (try clear hb)
             (try clear hb2)
             (try clear hk)
             (try clear hi)
             refine hK.out _ _ ⟨((HB.out.cell (World.block_lt_of_cell? w _ hw307_0)).trans hw307_0), ((HB.out.cell (World.block_lt_of_cell? w _ hw307_1)).trans hw307_1), ((HB.out.cell (World.block_lt_of_cell? w _ hw307_2)).trans hw307_2), ((HB.out.cell (World.block_lt_of_cell? w _ hw307_3)).trans hw307_3), ((HB.out.cell (World.block_lt_of_cell? w _ hw307_4)).trans hw307_4), ((HB.out.cell (World.block_lt_of_cell? w _ hw307_5)).trans hw307_5), ((HB.out.cell (World.block_lt_of_cell? w _ hw307_6)).trans hw307_6), ((HB.out.cell (World.block_lt_of_cell? w _ hw307_7)).trans hw307_7), ((HB.out.cell (World.block_lt_of_cell? w _ hw309_0)).trans hw309_0), ((HB.out.cell (World.block_lt_of_cell? w _ hw309_1)).trans hw309_1), ((HB.out.cell (World.block_lt_of_cell? w _ hw309_2)).trans hw309_2), ((HB.out.cell (World.block_lt_of_cell? w _ hw309_3)).trans hw309_3), ((HB.out.cell (World.block_lt_of_cell? w _ hw309_4)).trans hw309_4), ((HB.out.cell (World.block_lt_of_cell? w _ hw309_5)).trans hw309_5), ((HB.out.cell (World.block_lt_of_cell? w _ hw309_6)).trans hw309_6), ((HB.out.cell (World.block_lt_of_cell? w _ hw309_7)).trans hw309_7), ((HB.out.cell (World.block_lt_of_cell? w _ hw310_0)).trans hw310_0), ((HB.out.cell (World.block_lt_of_cell? w _ hw310_1)).trans hw310_1), ((HB.out.cell (World.block_lt_of_cell? w _ hw310_2)).trans hw310_2), ((HB.out.cell (World.block_lt_of_cell? w _ hw310_3)).trans hw310_3), ((HB.out.cell (World.block_lt_of_cell? w _ hw310_4)).trans hw310_4), ((HB.out.cell (World.block_lt_of_cell? w _ hw310_5)).trans hw310_5), ((HB.out.cell (World.block_lt_of_cell? w _ hw310_6)).trans hw310_6), ((HB.out.cell (World.block_lt_of_cell? w _ hw310_7)).trans hw310_7)⟩ (fun hHeld => ?_)
             clear hK K
             refine norm_ (a' := ?_) ?_ ?_
             rotate_left
             ·show Act.put _ (some 22) _ = _
              simp only [Act.put, List.setIfInBounds_toArray, List.set_cons_zero, List.set_cons_succ, i64_w, i32_w]
              rfl
             refine pl_ [6, 7, 8, 9, 10, 11, 12, 13, 14, 16, 17, 18, 19, 15, 20, 21, 22, 23] ?_
             iterate 13 refine pP rfl rfl (any_of HT_.out (by kernel_rfl)) (fun _ _ _ h => h) (by rfl) (by intro w'; go_simp; with_reducible rfl) (by simp only [Act.put, z1, z2, z3, i64_w, i32_w]; rfl) ?_
             iterate 2 refine pT hHeld rfl rfl (take_ofW HT_.out HW_.out (by kernel_rfl)) (fun _ _ _ h => h) (by rfl) (by rintro w' ⟨s0, s1, s2, s3, s4, s5, s6, s7, s8, s9, s10, s11, s12, s13, s14, s15, s16, s17, s18, s19, s20, s21, s22, s23⟩; go_simp; with_reducible rfl) (by simp only [Act.put, z1, z2, z3, i64_w, i32_w]; rfl) ?_
             iterate 3 refine pP rfl rfl (any_of HT_.out (by kernel_rfl)) (fun _ _ _ h => h) (by rfl) (by intro w'; go_simp; with_reducible rfl) (by simp only [Act.put, z1, z2, z3, i64_w, i32_w]; rfl) ?_
             refine pl0 ?_
             refine done_ (done_of HT_.out (by kernel_rfl)) ?_
             try go_wp2
             go_roundg k2
             case measure => have := HK1.out; have := HK2.out; omega
             case rel => exact ⟨(x4_2), (wrap64 (x5_2 + 1)), (by first | rfl | (simp; done) | (simp [*]; done)), (by first | rfl | (simp; done) | (simp [*]; done)), H', ⟨by have := HK1.out; have := HK2.out; omega⟩, ⟨by (with_reducible repeat (first | apply Kd.R_alloc | apply Kd.R_drewN | apply Kd.R_drew)); exact HO_3.out⟩, ⟨by repeat (first | (with_reducible first | exact HB.out | apply below_alloc | apply pw_below_drewN | apply below_drew1) | exact HB.out)⟩⟩
           ·rw [if_neg c12] at H
            exact absurd H (by simp)
          ·rw [if_neg c11] at H
           exact absurd H (by simp)
        ·rw [if_neg c7] at H
         have c7b0 : decide (t308 < 0) = false := decide_eq_false c7
         clear c7
         have H' := Aside0.mk H
         clear H
         try go_wp2
         replace HO_3 := Aside0.mk (Kd.R_drew HO_3.out)
         replace HB := Aside0.mk (below_drew1 HB.out)
         have p307 : 0 ≤ (x5_2 : Int) := of_decide_eq_true (by first | (with_reducible assumption) | assumption)
         have q307 : x5_2 < (l0.length : Int) := of_decide_eq_true (by first | (with_reducible assumption) | assumption)
         obtain ⟨ad307, e307, hx307_0, hx307_1, hx307_2, hx307_3, hx307_4, hx307_5, hx307_6, hx307_7⟩ := at_T78 HR0.out x5_2 p307 q307
         have hw307_7 := hx307_7
         have hw307_6 := hx307_6
         have hw307_5 := hx307_5
         have hw307_4 := hx307_4
         have hw307_3 := hx307_3
         have hw307_2 := hx307_2
         have hw307_1 := hx307_1
         have hw307_0 := hx307_0
         cases e307
         replace hx307_0 := (HB.out.cell (World.block_lt_of_cell? w _ hx307_0)).trans hx307_0
         replace hx307_1 := (HB.out.cell (World.block_lt_of_cell? w _ hx307_1)).trans hx307_1
         replace hx307_2 := (HB.out.cell (World.block_lt_of_cell? w _ hx307_2)).trans hx307_2
         replace hx307_3 := (HB.out.cell (World.block_lt_of_cell? w _ hx307_3)).trans hx307_3
         replace hx307_4 := (HB.out.cell (World.block_lt_of_cell? w _ hx307_4)).trans hx307_4
         replace hx307_5 := (HB.out.cell (World.block_lt_of_cell? w _ hx307_5)).trans hx307_5
         replace hx307_6 := (HB.out.cell (World.block_lt_of_cell? w _ hx307_6)).trans hx307_6
         replace hx307_7 := (HB.out.cell (World.block_lt_of_cell? w _ hx307_7)).trans hx307_7
         replace p307 := eq_true p307
         replace q307 := eq_true q307
         refine start_ (n := 24) (S := fun w' => w'.cell? (ad307.add ((x5_2).toNat * 8)) = some (.int .i64 ((rd_T78 l0 x5_2).f0.f0)) ∧ w'.cell? ⟨(ad307.add ((x5_2).toNat * 8)).block, (ad307.add ((x5_2).toNat * 8)).off + 1, none⟩ = some (.int .u64 ((rd_T78 l0 x5_2).f0.f1)) ∧ w'.cell? ⟨(ad307.add ((x5_2).toNat * 8)).block, (ad307.add ((x5_2).toNat * 8)).off + 2, none⟩ = some (.int .u64 ((rd_T78 l0 x5_2).f0.f2)) ∧ w'.cell? ⟨(ad307.add ((x5_2).toNat * 8)).block, (ad307.add ((x5_2).toNat * 8)).off + 3, none⟩ = some (.int .i64 ((rd_T78 l0 x5_2).f1.f0)) ∧ w'.cell? ⟨(ad307.add ((x5_2).toNat * 8)).block, (ad307.add ((x5_2).toNat * 8)).off + 4, none⟩ = some (.int .u64 ((rd_T78 l0 x5_2).f1.f1)) ∧ w'.cell? ⟨(ad307.add ((x5_2).toNat * 8)).block, (ad307.add ((x5_2).toNat * 8)).off + 5, none⟩ = some (.int .u64 ((rd_T78 l0 x5_2).f1.f2)) ∧ w'.cell? ⟨(ad307.add ((x5_2).toNat * 8)).block, (ad307.add ((x5_2).toNat * 8)).off + 6, none⟩ = some (.int .i64 ((rd_T78 l0 x5_2).f2)) ∧ w'.cell? ⟨(ad307.add ((x5_2).toNat * 8)).block, (ad307.add ((x5_2).toNat * 8)).off + 7, none⟩ = some (.int .i64 ((rd_T78 l0 x5_2).f3))) (ds := []) #[false, false, false, false, false, false, false, false, false, false, false, false, false, false, false, false, false, false, false, false, false, false, false, false] (by kernel_rfl) rfl rfl ⟨((HB.out.cell (World.block_lt_of_cell? w _ hw307_0)).trans hw307_0), ((HB.out.cell (World.block_lt_of_cell? w _ hw307_1)).trans hw307_1), ((HB.out.cell (World.block_lt_of_cell? w _ hw307_2)).trans hw307_2), ((HB.out.cell (World.block_lt_of_cell? w _ hw307_3)).trans hw307_3), ((HB.out.cell (World.block_lt_of_cell? w _ hw307_4)).trans hw307_4), ((HB.out.cell (World.block_lt_of_cell? w _ hw307_5)).trans hw307_5), ((HB.out.cell (World.block_lt_of_cell? w _ hw307_6)).trans hw307_6), ((HB.out.cell (World.block_lt_of_cell? w _ hw307_7)).trans hw307_7)⟩ (fun hHeld => ?_); refine with_tabW shunterref21_Sorted.tab7 shunterref21_Sorted.bits7 (fun HT_ HW_ => ?_)
         generalize wr.drew = w18 at HO_3 HB hx307_0 hx307_1 hx307_2 hx307_3 hx307_4 hx307_5 hx307_6 hx307_7 hHeld ⊢
         refine pl_ [0, 1, 2, 3, 4] ?_
         iterate 4 refine pP rfl rfl (any_of HT_.out (by kernel_rfl)) (fun _ _ _ h => h) (by rfl) (by intro w'; go_simp; with_reducible rfl) (by simp only [Act.put, z1, z2, z3, i64_w, i32_w]; rfl) ?_
         refine pT hHeld rfl rfl (take_ofW HT_.out HW_.out (by kernel_rfl)) (fun _ _ _ h => h) (by rfl) (by rintro w' ⟨s0, s1, s2, s3, s4, s5, s6, s7⟩; go_simp; with_reducible rfl) (by simp only [Act.put, z1, z2, z3, i64_w, i32_w]; rfl) ?_
         refine pl0 ?_
         refine one_ (i := 5) (N := some 22) #[true, true, true, true, true, true, false, false, false, false, false, false, false, false, false, false, false, false, false, false, false, false, false, false] rfl rfl (one_of HT_.out (by kernel_rfl)) (by decide) (fun K hK => ?_)
         refine goes_ Try.func96 (by kernel_rfl) rfl #[.slice Ao3 x3_1.length co3, .agg #[.int .i64 ((rd_T78 l0 x5_2).f0.f0), .int .u64 ((rd_T78 l0 x5_2).f0.f1), .int .u64 ((rd_T78 l0 x5_2).f0.f2), .int .i64 ((rd_T78 l0 x5_2).f1.f0), .int .u64 ((rd_T78 l0 x5_2).f1.f1), .int .u64 ((rd_T78 l0 x5_2).f1.f2), .int .i64 ((rd_T78 l0 x5_2).f2), .int .i64 ((rd_T78 l0 x5_2).f3)]] (by rfl) rfl rfl (by (try simp only [List.map_toArray, List.map_cons, List.map_nil]); first | done | rfl | (simp only [List.length_drop, List.length_take]; rfl)) ?_
         with_reducible refine (shunterref21_Find.calls k2 _ _ x3_1 ((rd_T78 l0 x5_2).f0.f0) ((rd_T78 l0 x5_2).f0.f1) ((rd_T78 l0 x5_2).f0.f2) ((rd_T78 l0 x5_2).f1.f0) ((rd_T78 l0 x5_2).f1.f1) ((rd_T78 l0 x5_2).f1.f2) ((rd_T78 l0 x5_2).f2) ((rd_T78 l0 x5_2).f3) t308 _ ?side1 ?side2 A6.out).mono ?_
         (case side1 => repeat (first | exact (Kd.R_reads' HO_3.out).2.2 | (with_reducible refine Kd.C_alloc ?_ _) | (with_reducible refine Kd.C_drewN ?_ _) | (with_reducible refine Kd.C_drew ?_)))
         (case side2 => exact (Kd.R_reads' HO_3.out).2.1)
         rintro e w19 ⟨rfl, hb⟩
         refine ⟨_, rfl, ?_⟩
         replace HB := Aside0.mk (below_step (by repeat (first | (with_reducible first | exact HB.out | apply below_alloc | apply pw_below_drewN | apply below_drew1) | exact HB.out)) hb)
         replace HO_3 := Aside0.mk (Kd.R_below (by (with_reducible repeat (first | apply Kd.R_alloc | apply Kd.R_drewN | apply Kd.R_drew)); exact HO_3.out) hb)
         (try clear hb)
         (try clear hb2)
         (try clear hk)
         (try clear hi)
         refine hK.out _ _ ⟨((HB.out.cell (World.block_lt_of_cell? w _ hw307_0)).trans hw307_0), ((HB.out.cell (World.block_lt_of_cell? w _ hw307_1)).trans hw307_1), ((HB.out.cell (World.block_lt_of_cell? w _ hw307_2)).trans hw307_2), ((HB.out.cell (World.block_lt_of_cell? w _ hw307_3)).trans hw307_3), ((HB.out.cell (World.block_lt_of_cell? w _ hw307_4)).trans hw307_4), ((HB.out.cell (World.block_lt_of_cell? w _ hw307_5)).trans hw307_5), ((HB.out.cell (World.block_lt_of_cell? w _ hw307_6)).trans hw307_6), ((HB.out.cell (World.block_lt_of_cell? w _ hw307_7)).trans hw307_7)⟩ (fun hHeld => ?_)
         clear hK K
         refine norm_ (a' := ?_) ?_ ?_
         rotate_left
         ·show Act.put _ (some 22) _ = _
          simp only [Act.put, List.setIfInBounds_toArray, List.set_cons_zero, List.set_cons_succ, i64_w, i32_w]
          rfl
         refine pl_ [6, 7, 8, 9, 10, 11, 12, 13, 14, 15, 16, 17, 18, 19, 20, 21, 22, 23] ?_
         iterate 2 refine pP rfl rfl (any_of HT_.out (by kernel_rfl)) (fun _ _ _ h => h) (by rfl) (by intro w'; go_simp; with_reducible rfl) (by simp only [Act.put, z1, z2, z3, i64_w, i32_w]; rfl) ?_
         iterate 15 refine pU rfl rfl (any_of HT_.out (by kernel_rfl)) (fun _ _ _ h => h) (by rfl) (by simp only [Act.put, z1, z2, z3, i64_w, i32_w]; rfl) ?_
         refine pP rfl rfl (any_of HT_.out (by kernel_rfl)) (fun _ _ _ h => h) (by rfl) (by intro w'; go_simp; with_reducible rfl) (by simp only [Act.put, z1, z2, z3, i64_w, i32_w]; rfl) ?_
         refine pl0 ?_
         refine done_ (done_of HT_.out (by kernel_rfl)) ?_
         try go_wp2
         go_roundg k2
         case measure => have := HK1.out; have := HK2.out; omega
         case rel => exact ⟨(x4_2), (wrap64 (x5_2 + 1)), (by first | rfl | (simp; done) | (simp [*]; done)), (by first | rfl | (simp; done) | (simp [*]; done)), H', ⟨by have := HK1.out; have := HK2.out; omega⟩, ⟨by (with_reducible repeat (first | apply Kd.R_alloc | apply Kd.R_drewN | apply Kd.R_drew)); exact HO_3.out⟩, ⟨by repeat (first | (with_reducible first | exact HB.out | apply below_alloc | apply pw_below_drewN | apply below_drew1) | exact HB.out)⟩⟩
       ·rw [if_neg c5] at H
        exact absurd H (by simp)
      ·rw [if_neg c4] at H
       have c4b0 : decide (x5_2 < (l0.length : Int)) = false := decide_eq_false c4
       clear c4
       by_cases c20 : 0 ≤ x4_2
       ·rw [if_pos c20] at H
        have c20b0 : decide (0 ≤ x4_2) = true := decide_eq_true c20
        clear c20
        by_cases c21 : x4_2 < (l0.length : Int)
        ·rw [if_pos c21] at H
         have c21b0 : decide (x4_2 < (l0.length : Int)) = true := decide_eq_true c21
         clear c21
         by_cases c22 : x3_1.length < 2199023255552
         ·rw [if_pos c22] at H
          have LMc22 := Aside0.mk c22
          clear c22
          obtain ⟨y312, hy312⟩ : ∃ y_ : List (S78), y_ = (x3_1 ++ [(⟨(⟨(rd_T78 l0 x4_2).f0.f0, (rd_T78 l0 x4_2).f0.f1, (rd_T78 l0 x4_2).f0.f2⟩ : S32), (⟨(rd_T78 l0 x4_2).f1.f0, (rd_T78 l0 x4_2).f1.f1, (rd_T78 l0 x4_2).f1.f2⟩ : S32), (rd_T78 l0 x4_2).f2, (rd_T78 l0 x4_2).f3⟩ : S78)]) := ⟨_, rfl⟩
          replace H : (shunterref21_Sorted.l0 k2 l0 y312) = some r := by first | (rw [hy312]; with_reducible exact H) | (have H2_ := (Option.bind_some _ _).symm.trans H; rw [hy312]; with_reducible exact H2_) | (have H2_ := (Option.bind_some _ _).symm.trans H; with_reducible exact H2_) | with_reducible exact H | (rw [hy312]; exact H) | exact H
          have Ny312 := Aside0.mk hy312
          clear hy312
          have H' := Aside0.mk H
          clear H
          have p311 : 0 ≤ (x4_2 : Int) := of_decide_eq_true (by first | (with_reducible assumption) | assumption)
          have q311 : x4_2 < (l0.length : Int) := of_decide_eq_true (by first | (with_reducible assumption) | assumption)
          obtain ⟨ad311, e311, hx311_0, hx311_1, hx311_2, hx311_3, hx311_4, hx311_5, hx311_6, hx311_7⟩ := at_T78 HR0.out x4_2 p311 q311
          cases e311
          replace hx311_0 := (HB.out.cell (World.block_lt_of_cell? w _ hx311_0)).trans hx311_0
          replace hx311_1 := (HB.out.cell (World.block_lt_of_cell? w _ hx311_1)).trans hx311_1
          replace hx311_2 := (HB.out.cell (World.block_lt_of_cell? w _ hx311_2)).trans hx311_2
          replace hx311_3 := (HB.out.cell (World.block_lt_of_cell? w _ hx311_3)).trans hx311_3
          replace hx311_4 := (HB.out.cell (World.block_lt_of_cell? w _ hx311_4)).trans hx311_4
          replace hx311_5 := (HB.out.cell (World.block_lt_of_cell? w _ hx311_5)).trans hx311_5
          replace hx311_6 := (HB.out.cell (World.block_lt_of_cell? w _ hx311_6)).trans hx311_6
          replace hx311_7 := (HB.out.cell (World.block_lt_of_cell? w _ hx311_7)).trans hx311_7
          replace p311 := eq_true p311
          replace q311 := eq_true q311
          go_wp2_with (first | ((with_reducible refine gate_builtin (b := .append) (xs := #[.tmp 42, .tmp 47]) rfl ?_); at_builtin; refine Kd.R_append k78 (w0 := w) w.heap.size rfl (.tmp 42) (.tmp 47) 71 78 (.agg #[(.int .i64 0), (.int .u64 0), (.int .u64 0), (.int .i64 0), (.int .u64 0), (.int .u64 0), (.int .i64 0), (.int .i64 0)]) 64 rfl Try.underlying71 info78 rfl (by decide) (by omega) (.slice Ao3 x3_1.length co3) x3_1 (⟨(⟨(rd_T78 l0 x4_2).f0.f0, (rd_T78 l0 x4_2).f0.f1, (rd_T78 l0 x4_2).f0.f2⟩ : S32), (⟨(rd_T78 l0 x4_2).f1.f0, (rd_T78 l0 x4_2).f1.f1, (rd_T78 l0 x4_2).f1.f2⟩ : S32), (rd_T78 l0 x4_2).f2, (rd_T78 l0 x4_2).f3⟩ : S78) [.int .i64 ((rd_T78 l0 x4_2).f0.f0), .int .u64 ((rd_T78 l0 x4_2).f0.f1), .int .u64 ((rd_T78 l0 x4_2).f0.f2), .int .i64 ((rd_T78 l0 x4_2).f1.f0), .int .u64 ((rd_T78 l0 x4_2).f1.f1), .int .u64 ((rd_T78 l0 x4_2).f1.f2), .int .i64 ((rd_T78 l0 x4_2).f2), .int .i64 ((rd_T78 l0 x4_2).f3)] (fun _ => True) (fun _ => False) rfl rfl ?aP (fun _ hk => hk.elim) ?aF ?aO ?aB ?aS ?aL ?_; (case aP => exact k78_mkM _ _ _ (⟨(⟨(rd_T78 l0 x4_2).f0.f0, (rd_T78 l0 x4_2).f0.f1, (rd_T78 l0 x4_2).f0.f2⟩ : S32), (⟨(rd_T78 l0 x4_2).f1.f0, (rd_T78 l0 x4_2).f1.f1, (rd_T78 l0 x4_2).f1.f2⟩ : S32), (rd_T78 l0 x4_2).f2, (rd_T78 l0 x4_2).f3⟩ : S78)); (case aB => exact (by repeat (first | (with_reducible first | exact HB.out | apply below_alloc | apply pw_below_drewN | apply below_drew1) | exact HB.out))); (case aF => exact (fun _ _ => trivial)); (case aO => exact (by (with_reducible repeat (first | apply Kd.R_alloc | apply Kd.R_drewN | apply Kd.R_drew)); exact HO_3.out)); (case aS => exact (below_size (by repeat (first | (with_reducible first | exact HB.out | apply below_alloc | apply pw_below_drewN | apply below_drew1) | exact HB.out)))); (case aL => have := LMc22.out; omega); intro v313 w23 ho hb hg hat; rw [← Ny312.out] at ho; have n0_ := Aside0.mk (hb); have n1_ := Aside0.mk (ho); clear HB; clear HO_3; have HB := n0_; have HO314 := n1_; clear n0_ n1_; clear ho hb hg hat))
          go_roundg k2
          case measure => have := HK1.out; have := HK2.out; omega
          case rel => exact ⟨(y312), H', ⟨by have := HK1.out; have := HK2.out; omega⟩, ⟨by (with_reducible repeat (first | apply Kd.R_alloc | apply Kd.R_drewN | apply Kd.R_drew)); exact HO314.out⟩, ⟨by repeat (first | (with_reducible first | exact HB.out | apply below_alloc | apply pw_below_drewN | apply below_drew1) | exact HB.out)⟩⟩
         ·rw [if_neg c22] at H
          exact absurd H (by simp)
        ·rw [if_neg c21] at H
         exact absurd H (by simp)
       ·rw [if_neg c20] at H
        exact absurd H (by simp)
   ·rw [if_neg c2] at H
    have c2b0 : decide ((x3_1.length : Int) < (l0.length : Int)) = false := decide_eq_false c2
    have c2b1 : decide (x3_1.length < l0.length) = false := decide_eq_false (fun h => c2 (Int.ofNat_lt.mpr h))
    clear c2
    obtain rfl := Option.some.inj H
    obtain ⟨Ao24, co24, eo24⟩ := Kd.R_slice HO_3.out
    subst eo24
    go_wp2
    go_ret
    exact ⟨_, by first | rfl | (simp [errW_none, errW_some] <;> rfl) | (simp [*, errW_none, errW_some] <;> rfl), by (with_reducible repeat (first | apply Kd.R_alloc | apply Kd.R_drewN | apply Kd.R_drew)); exact HO_3.out, by repeat (first | (with_reducible first | exact HB.out | apply below_alloc | apply pw_below_drewN | apply below_drew1) | exact HB.out)⟩
end Go.Proofs.Ytfdbcnbakchcgaa.XT
