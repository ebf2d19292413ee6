import Derived.Test.YtfdbcnbakchcgaaSv
import Derived.Test.YtfdbcnbakchcgaaXQx0
import Derived.Test.YtfdbcnbakchcgaaXQx11
namespace Go.Proofs.Ytfdbcnbakchcgaa.XQ
open Go.RowKit Go.Proofs.YtfdbcnbakchcgaaW.PrintWords Go.Proofs.YtfdbcnbakchcgaaW.PrintLast Go.Proofs.YtfdbcnbakchcgaaW.PrintMore
attribute [local go_sem] max2_int min2_int max_two min_two max_three min_three max_four min_four
set_option linter.unusedVariables false
set_option linter.unusedSimpArgs false
mutual
def shunterref22_Sorted.l0 : Nat → List (S99) → List (S99) → Option ((List (S99)))
 | 0, _, _ => none
 | k + 1, x0, x3 => if (x3.length : Int) < (x0.length : Int) then (shunterref22_Sorted.l1 k x0 x3 (-1) 0) else (some x3)
def shunterref22_Sorted.l1 : Nat → List (S99) → List (S99) → Int → Int → Option ((List (S99)))
 | 0, _, _, _, _ => none
 | k + 1, x0, x3, x4, x5 => if x5 < (x0.length : Int) then (if 0 ≤ x5 then ((shunterref22_Find.f k x3 ((rd_T99 x0 x5).f0) ((rd_T99 x0 x5).f1) ((rd_T99 x0 x5).f2) ((rd_T99 x0 x5).f3)).bind fun t303 => (if t303 < 0 then (if x4 < 0 then (shunterref22_Sorted.l1 k x0 x3 x5 (wrap64 (x5 + 1))) else (if 0 ≤ x4 then (if x4 < (x0.length : Int) then (if ((rd_T99 x0 x5).f2) < ((rd_T99 x0 x4).f2) then (shunterref22_Sorted.l1 k x0 x3 x5 (wrap64 (x5 + 1))) else (shunterref22_Sorted.l1 k x0 x3 x4 (wrap64 (x5 + 1)))) else (none)) else (none))) else (shunterref22_Sorted.l1 k x0 x3 x4 (wrap64 (x5 + 1))))) else (none)) else (if 0 ≤ x4 then (if x4 < (x0.length : Int) then (if x3.length < 2199023255552 then (shunterref22_Sorted.l0 k x0 (x3 ++ [(⟨(rd_T99 x0 x4).f0, (rd_T99 x0 x4).f1, (rd_T99 x0 x4).f2, (rd_T99 x0 x4).f3⟩ : S99)])) else (none)) else (none)) else (none))
end
def shunterref22_Sorted.f (k : Nat) (l0 : List (S99)) : Option ((List (S99))) := shunterref22_Sorted.l0 k l0 ([] : List (S99))
theorem shunterref22_Sorted.mono_l : ∀ k, (∀ y0 y1, LeO (shunterref22_Sorted.l0 k y0 y1) (shunterref22_Sorted.l0 (k + 1) y0 y1)) ∧ (∀ y0 y1 y2 y3, LeO (shunterref22_Sorted.l1 k y0 y1 y2 y3) (shunterref22_Sorted.l1 (k + 1) y0 y1 y2 y3))
 | 0 => ⟨fun _ _ r h => by simp [shunterref22_Sorted.l0] at h, fun _ _ _ _ r h => by simp [shunterref22_Sorted.l1] at h⟩
 | k + 1 => by
  obtain ⟨ih0, ih1⟩ := shunterref22_Sorted.mono_l k
  refine ⟨?_, ?_⟩
  ·intro y0 y1
   unfold shunterref22_Sorted.l0
   repeat' first
   | (with_reducible exact ih0 _ _)
   | (with_reducible exact ih1 _ _ _ _)
   | (with_reducible exact shunterref22_Find.mono _ _ _ _ _ _)
   | (with_reducible exact LeO.refl _)
   | (with_reducible exact LeO.none _)
   | (with_reducible refine LeO.ite ?_ ?_)
   | (with_reducible refine LeO.bind ?_ (fun _ => ?_))
   | exact ih0 _ _
   | exact ih1 _ _ _ _
   | exact shunterref22_Find.mono _ _ _ _ _ _
   | exact LeO.none _
   | refine LeO.ite ?_ ?_
   | refine LeO.bind ?_ (fun _ => ?_)
  ·intro y0 y1 y2 y3
   unfold shunterref22_Sorted.l1
   repeat' first
   | (with_reducible exact ih0 _ _)
   | (with_reducible exact ih1 _ _ _ _)
   | (with_reducible exact shunterref22_Find.mono _ _ _ _ _ _)
   | (with_reducible exact LeO.refl _)
   | (with_reducible exact LeO.none _)
   | (with_reducible refine LeO.ite ?_ ?_)
   | (with_reducible refine LeO.bind ?_ (fun _ => ?_))
   | exact ih0 _ _
   | exact ih1 _ _ _ _
   | exact shunterref22_Find.mono _ _ _ _ _ _
   | exact LeO.none _
   | refine LeO.ite ?_ ?_
   | refine LeO.bind ?_ (fun _ => ?_)
theorem shunterref22_Sorted.mono : ∀ a0 k, LeO (shunterref22_Sorted.f k a0) (shunterref22_Sorted.f (k + 1) a0) := by
 intro a0 k
 obtain ⟨ih0, ih1⟩ := shunterref22_Sorted.mono_l k
 unfold shunterref22_Sorted.f
 repeat' first
  | (with_reducible exact ih0 _ _)
  | (with_reducible exact ih1 _ _ _ _)
  | (with_reducible exact shunterref22_Find.mono _ _ _ _ _ _)
  | (with_reducible exact LeO.refl _)
  | (with_reducible exact LeO.none _)
  | (with_reducible refine LeO.ite ?_ ?_)
  | (with_reducible refine LeO.bind ?_ (fun _ => ?_))
  | exact ih0 _ _
  | exact ih1 _ _ _ _
  | exact shunterref22_Find.mono _ _ _ _ _ _
  | exact LeO.none _
  | refine LeO.ite ?_ ?_
  | refine LeO.bind ?_ (fun _ => ?_)
def shunterref22_Sorted.T7 : Bool × List (List Nat × List Nat) := (true, [([], []), ([], []), ([], []), ([1, 2], [1, 2]), ([3], [3]), ([0, 4], [0, 4]), ([5], [5]), ([6, 5], [6]), ([7], [7]), ([8, 7], [7, 8]), ([9, 7, 7], [7, 9]), ([10], [10]), ([10], [10]), ([11, 12, 10], [10, 11, 12]), ([13, 10], [10, 13]), ([14, 10], [10, 14]), ([10], [10]), ([10], [10]), ([16, 17, 10], [10, 16, 17]), ([18, 10], [10, 18]), ([19, 10], [10, 19]), ([15, 20, 10], [10, 15, 20]), ([10, 21, 7], [7, 10, 21]), ([7, 22], [7, 22])])
def shunterref22_Sorted.B7 : List Nat := [0, 0, 0, 6, 14, 31, 63, 127, 255, 511, 1023, 2047, 2047, 8191, 16383, 32767, 2047, 2047, 198655, 460799, 985087, 2097151, 4194303, 8388607]
theorem shunterref22_Sorted.tab7 : rtab .any (opsOf Try.f62 7) = shunterref22_Sorted.T7 := by kernel_rfl
theorem shunterref22_Sorted.bits7 : waitsOk shunterref22_Sorted.T7.2 shunterref22_Sorted.B7 = true := by kernel_rfl
set_option maxHeartbeats 8000000 in
set_option maxRecDepth 100000 in
theorem shunterref22_Sorted.calls (k : Nat) (P0_ : Nat → Prop) (A0 : Option Addr) (c0 : Nat) (l0 : List (S99)) (r : List (S99)) (w : World) (hs0 : Kd.V k99 99 w w.heap.size (fun k_ => P0_ k_) (.slice A0 l0.length c0) l0) (h : shunterref22_Sorted.f k l0 = some r) :
 Calls Try.prog 62 #[.slice A0 l0.length c0] w fun e w' => ∃ v0_ : Value, e = .returned (v0_) ∧ Kd.N k99 99 w' w.heap.size (fun k_ => (P0_ k_ ∨ w.heap.size ≤ k_)) v0_ r ∧ Below w.heap.size w w' := by
 have hu99 := Try.underlying99
 have HO0 := Aside0.mk (show Kd.V k99 99 w w.heap.size (fun k_ => (P0_ k_ ∨ w.heap.size ≤ k_)) (.slice A0 l0.length c0) l0 from Kd.V_mono hs0 (fun k_ hk => .inl hk))
 have HB := Aside0.mk (Below.refl w.heap.size w)
 have H : (shunterref22_Sorted.l0 k l0 ([] : List (S99))) = some r := h
 clear h
 have H' := Aside0.mk H
 clear H
 go_enter Try.func62, Try.ntmps62
 go_wp2
 go_loopg [3] k (fun kq v3 w' => ∃ (x3_1 : List (S99)), Aside0 (shunterref22_Sorted.l0 kq l0 x3_1 = some r) ∧ Aside0 (kq ≤ k) ∧ Aside0 (Kd.V k99 99 w' w.heap.size (fun k_ => (P0_ k_ ∨ w.heap.size ≤ k_) ∧ some k_ ≠ (v3 : Value).ownBlock) (.slice A0 l0.length c0) l0) ∧ Aside0 (Kd.N k99 99 w' w.heap.size (fun k_ => (P0_ k_ ∨ w.heap.size ≤ k_)) v3 x3_1) ∧ Aside0 (Below w.heap.size w w'))
 case atStart => exact ⟨(([] : List (S99))), H', ⟨Nat.le_refl _⟩, ⟨by (with_reducible repeat (first | apply Kd.V_alloc | apply Kd.V_drewN | apply Kd.V_drew)); exact Kd.V_mono HO0.out (fun _ hk => ⟨hk, (by simp [Value.ownBlock])⟩)⟩, ⟨by first | exact Kd.S_nil _ _ _ _ _ | exact Kd.N_nil _ _ _ _ _ | exact Kd.V_nil _ _ _ _ _ | exact Kd.Q_nil _ _ _ _ _ | exact Kd.R_nil _ _ _ _ _⟩, ⟨by repeat (first | (with_reducible first | exact HB.out | apply below_alloc | apply pw_below_drewN | apply below_drew1) | exact HB.out)⟩⟩
 case round =>
  clear H'
  obtain ⟨x3_1, HA, HK1, HO_0, HO_3, HB⟩ := hrel
  cases gk with
  | zero => exact absurd HA.out (by simp [shunterref22_Sorted.l0])
  | succ k1 =>
   have H := HA.out
   clear HA
   simp only [shunterref22_Sorted.l0] at H
   by_cases c2 : (x3_1.length : Int) < (l0.length : Int)
   ·rw [if_pos c2] at H
    have c2b0 : decide ((x3_1.length : Int) < (l0.length : Int)) = true := decide_eq_true c2
    have c2b1 : decide (x3_1.length < l0.length) = true := decide_eq_true (Int.ofNat_lt.mp c2)
    clear c2
    have H' := Aside0.mk H
    clear H
    obtain ⟨Ao3, co3, eo3⟩ := Kd.N_slice HO_3.out
    subst eo3
    go_wp2
    go_loopg [4, 5] k1 (fun kq v4 v5 w' => ∃ (x4_2 : Int) (x5_2 : Int), v4 = .int .i64 x4_2 ∧ v5 = .int .i64 x5_2 ∧ Aside0 (shunterref22_Sorted.l1 kq l0 x3_1 x4_2 x5_2 = some r) ∧ Aside0 (kq ≤ k1) ∧ Aside0 (Kd.V k99 99 w' w.heap.size (fun k_ => (P0_ k_ ∨ w.heap.size ≤ k_) ∧ some k_ ≠ ((.slice Ao3 x3_1.length co3) : Value).ownBlock) (.slice A0 l0.length c0) l0) ∧ Aside0 (Kd.N k99 99 w' w.heap.size (fun k_ => (P0_ k_ ∨ w.heap.size ≤ k_)) (.slice Ao3 x3_1.length co3) x3_1) ∧ Aside0 (Below w.heap.size w w'))
    case atStart => exact ⟨((-1)), (0), (by first | rfl | (simp; done) | (simp [*]; done)), (by first | rfl | (simp; done) | (simp [*]; done)), H', ⟨Nat.le_refl _⟩, ⟨by (with_reducible repeat (first | apply Kd.V_alloc | apply Kd.V_drewN | apply Kd.V_drew)); exact HO_0.out⟩, ⟨by (with_reducible repeat (first | apply Kd.N_alloc | apply Kd.N_drewN | apply Kd.N_drew)); exact HO_3.out⟩, ⟨by repeat (first | (with_reducible first | exact HB.out | apply below_alloc | apply pw_below_drewN | apply below_drew1) | exact HB.out)⟩⟩
    case round =>
     clear H'
     try clear c2
     try clear c2b0
     try clear c2b1
     try clear p2
     obtain ⟨x4_2, x5_2, rfl, rfl, HA, HK2, HO_0, HO_3, HB⟩ := hrel
     cases gk with
     | zero => exact absurd HA.out (by simp [shunterref22_Sorted.l1])
     | succ k2 =>
      have H := HA.out
      clear HA
      simp only [shunterref22_Sorted.l1] at H
      by_cases c4 : x5_2 < (l0.length : Int)
      ·rw [if_pos c4] at H
       have c4b0 : decide (x5_2 < (l0.length : Int)) = true := decide_eq_true c4
       clear c4
       by_cases c5 : 0 ≤ x5_2
       ·rw [if_pos c5] at H
        have c5b0 : decide (0 ≤ x5_2) = true := decide_eq_true c5
        clear c5
        replace H := Option.bind_eq_some_iff.mp H
        obtain ⟨t303, A60, H⟩ := H
        replace H : (if t303 < 0 then (if x4_2 < 0 then (shunterref22_Sorted.l1 k2 l0 x3_1 x5_2 (wrap64 (x5_2 + 1))) else (if 0 ≤ x4_2 then (if x4_2 < (l0.length : Int) then (if ((rd_T99 l0 x5_2).f2) < ((rd_T99 l0 x4_2).f2) then (shunterref22_Sorted.l1 k2 l0 x3_1 x5_2 (wrap64 (x5_2 + 1))) else (shunterref22_Sorted.l1 k2 l0 x3_1 x4_2 (wrap64 (x5_2 + 1)))) else (none)) else (none))) else (shunterref22_Sorted.l1 k2 l0 x3_1 x4_2 (wrap64 (x5_2 + 1)))) = some r := H
        have A6 := Aside0.mk A60
        clear A60
        by_cases c7 : t303 < 0
        ·rw [if_pos c7] at H
         have c7b0 : decide (t303 < 0) = true := decide_eq_true c7
         clear c7
         by_cases c8 : x4_2 < 0
         ·rw [if_pos c8] at H
          have c8b0 : decide (x4_2 < 0) = true := decide_eq_true c8
          clear c8
          have H' := Aside0.mk H
          clear H
          try go_wp2
          replace HO_0 := Aside0.mk (Kd.V_drew HO_0.out)
          replace HO_3 := Aside0.mk (Kd.N_drew HO_3.out)
          replace HB := Aside0.mk (below_drew1 HB.out)
          have p302 : 0 ≤ (x5_2 : Int) := of_decide_eq_true (by first | (with_reducible assumption) | assumption)
          have q302 : x5_2 < (l0.length : Int) := of_decide_eq_true (by first | (with_reducible assumption) | assumption)
          obtain ⟨ad302, A302_0, c302_0, A302_1, c302_1, e302, hx302_0, hx302_1, hx302_2, hx302_3, hl302_0, hi302_0, hl302_1, hi302_1⟩ := at_T99 (Kd.V_reads' HO_0.out).2.2 x5_2 p302 q302
          cases e302
          obtain ⟨ce302, hce302, hMe302, hcc302⟩ := Kd.V_get HO_0.out z99 x5_2 p302 (by first | exact q302 | exact of_decide_eq_true (by first | (with_reducible assumption) | assumption) | (have e_ := (Kd.V_reads' HO_0.out).1; omega))
          obtain ⟨ua302_0, uc302_0, ua302_1, uc302_1, rfl, ul302_0, ge302_0, ul302_1, ge302_1⟩ := k99_openF hMe302
          have hv302_0 := hcc302 0 _ rfl
          rw [Nat.add_zero] at hv302_0
          replace hv302_0 := Option.some.inj (hv302_0.symm.trans hx302_0)
          injection hv302_0 with hva_ hvn_ hvc_
          rw [hva_] at ge302_0
          rw [hvc_] at ul302_0
          have HL302_0 := Aside0.mk (show Kd.V k32 32 _ w.heap.size _ _ ((rd_T99 l0 x5_2).f0) from Kd.V_mk ul302_0 ge302_0)
          clear hva_ hvn_ hvc_ ge302_0 ul302_0
          have hv302_1 := hcc302 1 _ rfl
          rw [add_field _ _ 1 (by omega)] at hv302_1
          replace hv302_1 := Option.some.inj (hv302_1.symm.trans hx302_1)
          injection hv302_1 with hva_ hvn_ hvc_
          rw [hva_] at ge302_1
          rw [hvc_] at ul302_1
          have HL302_1 := Aside0.mk (show Kd.V k32 32 _ w.heap.size _ _ ((rd_T99 l0 x5_2).f1) from Kd.V_mk ul302_1 ge302_1)
          clear hva_ hvn_ hvc_ ge302_1 ul302_1
          clear hcc302 hce302
          have HR302_0 := Aside0.mk hi302_0
          have HC302_0 := Aside0.mk hl302_0
          clear hi302_0 hl302_0
          have HR302_1 := Aside0.mk hi302_1
          have HC302_1 := Aside0.mk hl302_1
          clear hi302_1 hl302_1
          replace p302 := eq_true p302
          replace q302 := eq_true q302
          refine start_ (n := 24) (S := fun w' => w'.cell? (ad302.add ((x5_2).toNat * 4)) = some (.slice A302_0 ((rd_T99 l0 x5_2).f0).length c302_0) ∧ w'.cell? ⟨(ad302.add ((x5_2).toNat * 4)).block, (ad302.add ((x5_2).toNat * 4)).off + 1, none⟩ = some (.slice A302_1 ((rd_T99 l0 x5_2).f1).length c302_1) ∧ w'.cell? ⟨(ad302.add ((x5_2).toNat * 4)).block, (ad302.add ((x5_2).toNat * 4)).off + 2, none⟩ = some (.int .i64 ((rd_T99 l0 x5_2).f2)) ∧ w'.cell? ⟨(ad302.add ((x5_2).toNat * 4)).block, (ad302.add ((x5_2).toNat * 4)).off + 3, none⟩ = some (.int .i64 ((rd_T99 l0 x5_2).f3))) (ds := []) #[false, false, false, false, false, false, false, false, false, false, false, false, false, false, false, false, false, false, false, false, false, false, false, false] (by kernel_rfl) rfl rfl ⟨hx302_0, hx302_1, hx302_2, hx302_3⟩ (fun hHeld => ?_); refine with_tabW shunterref22_Sorted.tab7 shunterref22_Sorted.bits7 (fun HT_ HW_ => ?_)
          generalize wr.drew = w9 at HO_0 HO_3 HB HL302_0 HL302_1 HR302_0 HR302_1 hx302_0 hx302_1 hx302_2 hx302_3 hHeld ⊢
          refine pl_ [0, 1, 2, 3, 4] ?_
          iterate 4 refine qP rfl rfl ?_ (hc := any_of HT_.out (by kernel_rfl))
          refine yT hHeld rfl rfl ?_ (by rintro w' ⟨s0, s1, s2, s3⟩; go_simp; with_reducible rfl) (hc := take_ofW HT_.out HW_.out (by kernel_rfl))
          refine pl0 ?_
          refine one_ (i := 5) (N := some 22) #[true, true, true, true, true, true, false, false, false, false, false, false, false, false, false, false, false, false, false, false, false, false, false, false] rfl rfl (one_of HT_.out (by kernel_rfl)) (by decide) (fun K hK => ?_)
          refine goes_ Try.func118 (by kernel_rfl) rfl #[.slice Ao3 x3_1.length co3, .agg #[.slice A302_0 ((rd_T99 l0 x5_2).f0).length c302_0, .slice A302_1 ((rd_T99 l0 x5_2).f1).length c302_1, .int .i64 ((rd_T99 l0 x5_2).f2), .int .i64 ((rd_T99 l0 x5_2).f3)]] (by rfl) rfl rfl (by (try simp only [List.map_toArray, List.map_cons, List.map_nil]); first | done | rfl | (simp only [List.length_drop, List.length_take]; rfl)) ?_
          with_reducible refine (shunterref22_Find.calls k2 _ _ x3_1 _ _ ((rd_T99 l0 x5_2).f0) _ _ ((rd_T99 l0 x5_2).f1) ((rd_T99 l0 x5_2).f2) ((rd_T99 l0 x5_2).f3) t303 _ ?side1 ?side2 ?side3 ?side4 ?side5 ?side6 A6.out).mono ?_
          (case side1 => repeat (first | exact (Kd.N_reads' HO_3.out).2.2 | (with_reducible refine Kd.C_alloc ?_ _) | (with_reducible refine Kd.C_drewN ?_ _) | (with_reducible refine Kd.C_drew ?_)))
          (case side2 => exact (Kd.N_reads' HO_3.out).2.1)
          (case side3 => repeat (first | exact (by repeat (first | (with_reducible exact HR302_0.out) | (with_reducible refine Kd.C_alloc ?_ _) | (with_reducible refine Kd.C_drewN ?_ _) | (with_reducible refine Kd.C_drew ?_) | exact HR302_0.out)) | (with_reducible refine Kd.C_alloc ?_ _) | (with_reducible refine Kd.C_drewN ?_ _) | (with_reducible refine Kd.C_drew ?_)))
          (case side4 => exact HC302_0.out)
          (case side5 => repeat (first | exact (by repeat (first | (with_reducible exact HR302_1.out) | (with_reducible refine Kd.C_alloc ?_ _) | (with_reducible refine Kd.C_drewN ?_ _) | (with_reducible refine Kd.C_drew ?_) | exact HR302_1.out)) | (with_reducible refine Kd.C_alloc ?_ _) | (with_reducible refine Kd.C_drewN ?_ _) | (with_reducible refine Kd.C_drew ?_)))
          (case side6 => exact HC302_1.out)
          rintro e w10 ⟨rfl, hb⟩
          have HS0_ := (hb.cell (World.block_lt_of_cell? _ _ (hHeld.1))).trans (hHeld.1)
          have HS1_ := (hb.cell (World.block_lt_of_cell? _ _ (hHeld.2.1))).trans (hHeld.2.1)
          have HS2_ := (hb.cell (World.block_lt_of_cell? _ _ (hHeld.2.2.1))).trans (hHeld.2.2.1)
          have HS3_ := (hb.cell (World.block_lt_of_cell? _ _ (hHeld.2.2.2))).trans (hHeld.2.2.2)
          refine ⟨_, rfl, ?_⟩
          replace HB := Aside0.mk (below_step (by repeat (first | (with_reducible first | exact HB.out | apply below_alloc | apply pw_below_drewN | apply below_drew1) | exact HB.out)) hb)
          replace HO_0 := Aside0.mk (Kd.V_below (by (with_reducible repeat (first | apply Kd.V_alloc | apply Kd.V_drewN | apply Kd.V_drew)); exact HO_0.out) hb)
          replace HO_3 := Aside0.mk (Kd.N_below (by (with_reducible repeat (first | apply Kd.N_alloc | apply Kd.N_drewN | apply Kd.N_drew)); exact HO_3.out) hb)
          replace HL302_0 := Aside0.mk (Kd.V_below (by (with_reducible repeat (first | apply Kd.V_alloc | apply Kd.V_drewN | apply Kd.V_drew)); exact HL302_0.out) hb)
          replace HL302_1 := Aside0.mk (Kd.V_below (by (with_reducible repeat (first | apply Kd.V_alloc | apply Kd.V_drewN | apply Kd.V_drew)); exact HL302_1.out) hb)
          replace HR302_0 := Aside0.mk (Kd.C_below (by repeat (first | (with_reducible exact HR302_0.out) | (with_reducible refine Kd.C_alloc ?_ _) | (with_reducible refine Kd.C_drewN ?_ _) | (with_reducible refine Kd.C_drew ?_) | exact HR302_0.out)) hb)
          replace HR302_1 := Aside0.mk (Kd.C_below (by repeat (first | (with_reducible exact HR302_1.out) | (with_reducible refine Kd.C_alloc ?_ _) | (with_reducible refine Kd.C_drewN ?_ _) | (with_reducible refine Kd.C_drew ?_) | exact HR302_1.out)) hb)
          (try clear hb)
          (try clear hb2)
          (try clear hk)
          (try clear hi)
          refine hK.out _ _ ⟨HS0_, HS1_, HS2_, HS3_⟩ (fun hHeld => ?_)
          clear hK K
          refine norm_ (a' := ?_) ?_ ?_
          rotate_left
          ·show Act.put _ (some 22) _ = _
           simp only [Act.put, List.setIfInBounds_toArray, List.set_cons_zero, List.set_cons_succ, i64_w, i32_w]
           rfl
          refine pl_ [6, 7, 8, 9, 10, 11, 12, 13, 14, 15, 16, 17, 18, 19, 20, 21, 22, 23] ?_
          iterate 5 refine qP rfl rfl ?_ (hc := any_of HT_.out (by kernel_rfl))
          iterate 11 refine qU rfl rfl ?_ (hc := any_of HT_.out (by kernel_rfl))
          iterate 2 refine qP rfl rfl ?_ (hc := any_of HT_.out (by kernel_rfl))
          refine pl0 ?_
          refine done_ (done_of HT_.out (by kernel_rfl)) ?_
          try go_wp2
          go_roundg k2
          case measure => have := HK1.out; have := HK2.out; omega
          case rel => exact ⟨(x5_2), (wrap64 (x5_2 + 1)), (by first | rfl | (simp; done) | (simp [*]; done)), (by first | rfl | (simp; done) | (simp [*]; done)), H', ⟨by have := HK1.out; have := HK2.out; omega⟩, ⟨by (with_reducible repeat (first | apply Kd.V_alloc | apply Kd.V_drewN | apply Kd.V_drew)); exact HO_0.out⟩, ⟨by (with_reducible repeat (first | apply Kd.N_alloc | apply Kd.N_drewN | apply Kd.N_drew)); exact HO_3.out⟩, ⟨by repeat (first | (with_reducible first | exact HB.out | apply below_alloc | apply pw_below_drewN | apply below_drew1) | exact HB.out)⟩⟩
         ·rw [if_neg c8] at H
          have c8b0 : decide (x4_2 < 0) = false := decide_eq_false c8
          clear c8
          by_cases c11 : 0 ≤ x4_2
          ·rw [if_pos c11] at H
           have c11b0 : decide (0 ≤ x4_2) = true := decide_eq_true c11
           clear c11
           by_cases c12 : x4_2 < (l0.length : Int)
           ·rw [if_pos c12] at H
            have c12b0 : decide (x4_2 < (l0.length : Int)) = true := decide_eq_true c12
            clear c12
            by_cases c13 : ((rd_T99 l0 x5_2).f2) < ((rd_T99 l0 x4_2).f2)
            ·rw [if_pos c13] at H
             have c13b0 : decide (((rd_T99 l0 x5_2).f2) < ((rd_T99 l0 x4_2).f2)) = true := decide_eq_true c13
             clear c13
             have H' := Aside0.mk H
             clear H
             try go_wp2
             replace HO_0 := Aside0.mk (Kd.V_drew HO_0.out)
             replace HO_3 := Aside0.mk (Kd.N_drew HO_3.out)
             replace HB := Aside0.mk (below_drew1 HB.out)
             have p302 : 0 ≤ (x5_2 : Int) := of_decide_eq_true (by first | (with_reducible assumption) | assumption)
             have q302 : x5_2 < (l0.length : Int) := of_decide_eq_true (by first | (with_reducible assumption) | assumption)
             obtain ⟨ad302, A302_0, c302_0, A302_1, c302_1, e302, hx302_0, hx302_1, hx302_2, hx302_3, hl302_0, hi302_0, hl302_1, hi302_1⟩ := at_T99 (Kd.V_reads' HO_0.out).2.2 x5_2 p302 q302
             cases e302
             obtain ⟨ce302, hce302, hMe302, hcc302⟩ := Kd.V_get HO_0.out z99 x5_2 p302 (by first | exact q302 | exact of_decide_eq_true (by first | (with_reducible assumption) | assumption) | (have e_ := (Kd.V_reads' HO_0.out).1; omega))
             obtain ⟨ua302_0, uc302_0, ua302_1, uc302_1, rfl, ul302_0, ge302_0, ul302_1, ge302_1⟩ := k99_openF hMe302
             have hv302_0 := hcc302 0 _ rfl
             rw [Nat.add_zero] at hv302_0
             replace hv302_0 := Option.some.inj (hv302_0.symm.trans hx302_0)
             injection hv302_0 with hva_ hvn_ hvc_
             rw [hva_] at ge302_0
             rw [hvc_] at ul302_0
             have HL302_0 := Aside0.mk (show Kd.V k32 32 _ w.heap.size _ _ ((rd_T99 l0 x5_2).f0) from Kd.V_mk ul302_0 ge302_0)
             clear hva_ hvn_ hvc_ ge302_0 ul302_0
             have hv302_1 := hcc302 1 _ rfl
             rw [add_field _ _ 1 (by omega)] at hv302_1
             replace hv302_1 := Option.some.inj (hv302_1.symm.trans hx302_1)
             injection hv302_1 with hva_ hvn_ hvc_
             rw [hva_] at ge302_1
             rw [hvc_] at ul302_1
             have HL302_1 := Aside0.mk (show Kd.V k32 32 _ w.heap.size _ _ ((rd_T99 l0 x5_2).f1) from Kd.V_mk ul302_1 ge302_1)
             clear hva_ hvn_ hvc_ ge302_1 ul302_1
             clear hcc302 hce302
             have HR302_0 := Aside0.mk hi302_0
             have HC302_0 := Aside0.mk hl302_0
             clear hi302_0 hl302_0
             have HR302_1 := Aside0.mk hi302_1
             have HC302_1 := Aside0.mk hl302_1
             clear hi302_1 hl302_1
             replace p302 := eq_true p302
             replace q302 := eq_true q302
             have p304 : 0 ≤ (x5_2 : Int) := of_decide_eq_true (by first | (with_reducible assumption) | assumption)
             have q304 : x5_2 < (l0.length : Int) := of_decide_eq_true (by first | (with_reducible assumption) | assumption)
             obtain ⟨ad304, A304_0, c304_0, A304_1, c304_1, e304, hx304_0, hx304_1, hx304_2, hx304_3, hl304_0, hi304_0, hl304_1, hi304_1⟩ := at_T99 (Kd.V_reads' HO_0.out).2.2 x5_2 p304 q304
             obtain rfl : ad302 = ad304 := (by injection e304)
             obtain ⟨ce304, hce304, hMe304, hcc304⟩ := Kd.V_get HO_0.out z99 x5_2 p304 (by first | exact q304 | exact of_decide_eq_true (by first | (with_reducible assumption) | assumption) | (have e_ := (Kd.V_reads' HO_0.out).1; omega))
             obtain ⟨ua304_0, uc304_0, ua304_1, uc304_1, rfl, ul304_0, ge304_0, ul304_1, ge304_1⟩ := k99_openF hMe304
             have hv304_0 := hcc304 0 _ rfl
             rw [Nat.add_zero] at hv304_0
             replace hv304_0 := Option.some.inj (hv304_0.symm.trans hx304_0)
             injection hv304_0 with hva_ hvn_ hvc_
             rw [hva_] at ge304_0
             rw [hvc_] at ul304_0
             have HL304_0 := Aside0.mk (show Kd.V k32 32 _ w.heap.size _ _ ((rd_T99 l0 x5_2).f0) from Kd.V_mk ul304_0 ge304_0)
             clear hva_ hvn_ hvc_ ge304_0 ul304_0
             have hv304_1 := hcc304 1 _ rfl
             rw [add_field _ _ 1 (by omega)] at hv304_1
             replace hv304_1 := Option.some.inj (hv304_1.symm.trans hx304_1)
             injection hv304_1 with hva_ hvn_ hvc_
             rw [hva_] at ge304_1
             rw [hvc_] at ul304_1
             have HL304_1 := Aside0.mk (show Kd.V k32 32 _ w.heap.size _ _ ((rd_T99 l0 x5_2).f1) from Kd.V_mk ul304_1 ge304_1)
             clear hva_ hvn_ hvc_ ge304_1 ul304_1
             clear hcc304 hce304
             have HR304_0 := Aside0.mk hi304_0
             have HC304_0 := Aside0.mk hl304_0
             clear hi304_0 hl304_0
             have HR304_1 := Aside0.mk hi304_1
             have HC304_1 := Aside0.mk hl304_1
             clear hi304_1 hl304_1
             replace p304 := eq_true p304
             replace q304 := eq_true q304
             have p305 : 0 ≤ (x4_2 : Int) := of_decide_eq_true (by first | (with_reducible assumption) | assumption)
             have q305 : x4_2 < (l0.length : Int) := of_decide_eq_true (by first | (with_reducible assumption) | assumption)
             obtain ⟨ad305, A305_0, c305_0, A305_1, c305_1, e305, hx305_0, hx305_1, hx305_2, hx305_3, hl305_0, hi305_0, hl305_1, hi305_1⟩ := at_T99 (Kd.V_reads' HO_0.out).2.2 x4_2 p305 q305
             obtain rfl : ad302 = ad305 := (by injection e305)
             obtain ⟨ce305, hce305, hMe305, hcc305⟩ := Kd.V_get HO_0.out z99 x4_2 p305 (by first | exact q305 | exact of_decide_eq_true (by first | (with_reducible assumption) | assumption) | (have e_ := (Kd.V_reads' HO_0.out).1; omega))
             obtain ⟨ua305_0, uc305_0, ua305_1, uc305_1, rfl, ul305_0, ge305_0, ul305_1, ge305_1⟩ := k99_openF hMe305
             have hv305_0 := hcc305 0 _ rfl
             rw [Nat.add_zero] at hv305_0
             replace hv305_0 := Option.some.inj (hv305_0.symm.trans hx305_0)
             injection hv305_0 with hva_ hvn_ hvc_
             rw [hva_] at ge305_0
             rw [hvc_] at ul305_0
             have HL305_0 := Aside0.mk (show Kd.V k32 32 _ w.heap.size _ _ ((rd_T99 l0 x4_2).f0) from Kd.V_mk ul305_0 ge305_0)
             clear hva_ hvn_ hvc_ ge305_0 ul305_0
             have hv305_1 := hcc305 1 _ rfl
             rw [add_field _ _ 1 (by omega)] at hv305_1
             replace hv305_1 := Option.some.inj (hv305_1.symm.trans hx305_1)
             injection hv305_1 with hva_ hvn_ hvc_
             rw [hva_] at ge305_1
             rw [hvc_] at ul305_1
             have HL305_1 := Aside0.mk (show Kd.V k32 32 _ w.heap.size _ _ ((rd_T99 l0 x4_2).f1) from Kd.V_mk ul305_1 ge305_1)
             clear hva_ hvn_ hvc_ ge305_1 ul305_1
             clear hcc305 hce305
             have HR305_0 := Aside0.mk hi305_0
             have HC305_0 := Aside0.mk hl305_0
             clear hi305_0 hl305_0
             have HR305_1 := Aside0.mk hi305_1
             have HC305_1 := Aside0.mk hl305_1
             clear hi305_1 hl305_1
             replace p305 := eq_true p305
             replace q305 := eq_true q305
             refine start_ (n := 24) (S := fun w' => w'.cell? (ad302.add ((x5_2).toNat * 4)) = some (.slice A302_0 ((rd_T99 l0 x5_2).f0).length c302_0) ∧ w'.cell? ⟨(ad302.add ((x5_2).toNat * 4)).block, (ad302.add ((x5_2).toNat * 4)).off + 1, none⟩ = some (.slice A302_1 ((rd_T99 l0 x5_2).f1).length c302_1) ∧ w'.cell? ⟨(ad302.add ((x5_2).toNat * 4)).block, (ad302.add ((x5_2).toNat * 4)).off + 2, none⟩ = some (.int .i64 ((rd_T99 l0 x5_2).f2)) ∧ w'.cell? ⟨(ad302.add ((x5_2).toNat * 4)).block, (ad302.add ((x5_2).toNat * 4)).off + 3, none⟩ = some (.int .i64 ((rd_T99 l0 x5_2).f3)) ∧ w'.cell? (ad302.add ((x5_2).toNat * 4)) = some (.slice A304_0 ((rd_T99 l0 x5_2).f0).length c304_0) ∧ w'.cell? ⟨(ad302.add ((x5_2).toNat * 4)).block, (ad302.add ((x5_2).toNat * 4)).off + 1, none⟩ = some (.slice A304_1 ((rd_T99 l0 x5_2).f1).length c304_1) ∧ w'.cell? ⟨(ad302.add ((x5_2).toNat * 4)).block, (ad302.add ((x5_2).toNat * 4)).off + 2, none⟩ = some (.int .i64 ((rd_T99 l0 x5_2).f2)) ∧ w'.cell? ⟨(ad302.add ((x5_2).toNat * 4)).block, (ad302.add ((x5_2).toNat * 4)).off + 3, none⟩ = some (.int .i64 ((rd_T99 l0 x5_2).f3)) ∧ w'.cell? (ad302.add ((x4_2).toNat * 4)) = some (.slice A305_0 ((rd_T99 l0 x4_2).f0).length c305_0) ∧ w'.cell? ⟨(ad302.add ((x4_2).toNat * 4)).block, (ad302.add ((x4_2).toNat * 4)).off + 1, none⟩ = some (.slice A305_1 ((rd_T99 l0 x4_2).f1).length c305_1) ∧ w'.cell? ⟨(ad302.add ((x4_2).toNat * 4)).block, (ad302.add ((x4_2).toNat * 4)).off + 2, none⟩ = some (.int .i64 ((rd_T99 l0 x4_2).f2)) ∧ w'.cell? ⟨(ad302.add ((x4_2).toNat * 4)).block, (ad302.add ((x4_2).toNat * 4)).off + 3, none⟩ = some (.int .i64 ((rd_T99 l0 x4_2).f3))) (ds := []) #[false, false, false, false, false, false, false, false, false, false, false, false, false, false, false, false, false, false, false, false, false, false, false, false] (by kernel_rfl) rfl rfl ⟨hx302_0, hx302_1, hx302_2, hx302_3, hx304_0, hx304_1, hx304_2, hx304_3, hx305_0, hx305_1, hx305_2, hx305_3⟩ (fun hHeld => ?_); refine with_tabW shunterref22_Sorted.tab7 shunterref22_Sorted.bits7 (fun HT_ HW_ => ?_)
             generalize wr.drew = w14 at HO_0 HO_3 HB HL302_0 HL302_1 HL304_0 HL304_1 HL305_0 HL305_1 HR302_0 HR302_1 HR304_0 HR304_1 HR305_0 HR305_1 hx302_0 hx302_1 hx302_2 hx302_3 hx304_0 hx304_1 hx304_2 hx304_3 hx305_0 hx305_1 hx305_2 hx305_3 hHeld ⊢
             refine pl_ [0, 1, 2, 3, 4] ?_
             iterate 4 refine qP rfl rfl ?_ (hc := any_of HT_.out (by kernel_rfl))
             refine yT hHeld rfl rfl ?_ (by rintro w' ⟨s0, s1, s2, s3, s4, s5, s6, s7, s8, s9, s10, s11⟩; go_simp; with_reducible rfl) (hc := take_ofW HT_.out HW_.out (by kernel_rfl))
             refine pl0 ?_
             refine one_ (i := 5) (N := some 22) #[true, true, true, true, true, true, false, false, false, false, false, false, false, false, false, false, false, false, false, false, false, false, false, false] rfl rfl (one_of HT_.out (by kernel_rfl)) (by decide) (fun K hK => ?_)
             refine goes_ Try.func118 (by kernel_rfl) rfl #[.slice Ao3 x3_1.length co3, .agg #[.slice A302_0 ((rd_T99 l0 x5_2).f0).length c302_0, .slice A302_1 ((rd_T99 l0 x5_2).f1).length c302_1, .int .i64 ((rd_T99 l0 x5_2).f2), .int .i64 ((rd_T99 l0 x5_2).f3)]] (by rfl) rfl rfl (by (try simp only [List.map_toArray, List.map_cons, List.map_nil]); first | done | rfl | (simp only [List.length_drop, List.length_take]; rfl)) ?_
             with_reducible refine (shunterref22_Find.calls k2 _ _ x3_1 _ _ ((rd_T99 l0 x5_2).f0) _ _ ((rd_T99 l0 x5_2).f1) ((rd_T99 l0 x5_2).f2) ((rd_T99 l0 x5_2).f3) t303 _ ?side1 ?side2 ?side3 ?side4 ?side5 ?side6 A6.out).mono ?_
             (case side1 => repeat (first | exact (Kd.N_reads' HO_3.out).2.2 | (with_reducible refine Kd.C_alloc ?_ _) | (with_reducible refine Kd.C_drewN ?_ _) | (with_reducible refine Kd.C_drew ?_)))
             (case side2 => exact (Kd.N_reads' HO_3.out).2.1)
             (case side3 => repeat (first | exact (by repeat (first | (with_reducible exact HR302_0.out) | (with_reducible refine Kd.C_alloc ?_ _) | (with_reducible refine Kd.C_drewN ?_ _) | (with_reducible refine Kd.C_drew ?_) | exact HR302_0.out)) | (with_reducible refine Kd.C_alloc ?_ _) | (with_reducible refine Kd.C_drewN ?_ _) | (with_reducible refine Kd.C_drew ?_)))
             (case side4 => exact HC302_0.out)
             (case side5 => repeat (first | exact (by repeat (first | (with_reducible exact HR302_1.out) | (with_reducible refine Kd.C_alloc ?_ _) | (with_reducible refine Kd.C_drewN ?_ _) | (with_reducible refine Kd.C_drew ?_) | exact HR302_1.out)) | (with_reducible refine Kd.C_alloc ?_ _) | (with_reducible refine Kd.C_drewN ?_ _) | (with_reducible refine Kd.C_drew ?_)))
             (case side6 => exact HC302_1.out)
             rintro e w15 ⟨rfl, hb⟩
             have HS0_ := (hb.cell (World.block_lt_of_cell? _ _ (hHeld.1))).trans (hHeld.1)
             have HS1_ := (hb.cell (World.block_lt_of_cell? _ _ (hHeld.2.1))).trans (hHeld.2.1)
             have HS2_ := (hb.cell (World.block_lt_of_cell? _ _ (hHeld.2.2.1))).trans (hHeld.2.2.1)
             have HS3_ := (hb.cell (World.block_lt_of_cell? _ _ (hHeld.2.2.2.1))).trans (hHeld.2.2.2.1)
             have HS4_ := (hb.cell (World.block_lt_of_cell? _ _ (hHeld.2.2.2.2.1))).trans (hHeld.2.2.2.2.1)
             have HS5_ := (hb.cell (World.block_lt_of_cell? _ _ (hHeld.2.2.2.2.2.1))).trans (hHeld.2.2.2.2.2.1)
             have HS6_ := (hb.cell (World.block_lt_of_cell? _ _ (hHeld.2.2.2.2.2.2.1))).trans (hHeld.2.2.2.2.2.2.1)
             have HS7_ := (hb.cell (World.block_lt_of_cell? _ _ (hHeld.2.2.2.2.2.2.2.1))).trans (hHeld.2.2.2.2.2.2.2.1)
             have HS8_ := (hb.cell (World.block_lt_of_cell? _ _ (hHeld.2.2.2.2.2.2.2.2.1))).trans (hHeld.2.2.2.2.2.2.2.2.1)
             have HS9_ := (hb.cell (World.block_lt_of_cell? _ _ (hHeld.2.2.2.2.2.2.2.2.2.1))).trans (hHeld.2.2.2.2.2.2.2.2.2.1)
             have HS10_ := (hb.cell (World.block_lt_of_cell? _ _ (hHeld.2.2.2.2.2.2.2.2.2.2.1))).trans (hHeld.2.2.2.2.2.2.2.2.2.2.1)
             have HS11_ := (hb.cell (World.block_lt_of_cell? _ _ (hHeld.2.2.2.2.2.2.2.2.2.2.2))).trans (hHeld.2.2.2.2.2.2.2.2.2.2.2)
             refine ⟨_, rfl, ?_⟩
             replace HB := Aside0.mk (below_step (by repeat (first | (with_reducible first | exact HB.out | apply below_alloc | apply pw_below_drewN | apply below_drew1) | exact HB.out)) hb)
             replace HO_0 := Aside0.mk (Kd.V_below (by (with_reducible repeat (first | apply Kd.V_alloc | apply Kd.V_drewN | apply Kd.V_drew)); exact HO_0.out) hb)
             replace HO_3 := Aside0.mk (Kd.N_below (by (with_reducible repeat (first | apply Kd.N_alloc | apply Kd.N_drewN | apply Kd.N_drew)); exact HO_3.out) hb)
             replace HL302_0 := Aside0.mk (Kd.V_below (by (with_reducible repeat (first | apply Kd.V_alloc | apply Kd.V_drewN | apply Kd.V_drew)); exact HL302_0.out) hb)
             replace HL302_1 := Aside0.mk (Kd.V_below (by (with_reducible repeat (first | apply Kd.V_alloc | apply Kd.V_drewN | apply Kd.V_drew)); exact HL302_1.out) hb)
             replace HR302_0 := Aside0.mk (Kd.C_below (by repeat (first | (with_reducible exact HR302_0.out) | (with_reducible refine Kd.C_alloc ?_ _) | (with_reducible refine Kd.C_drewN ?_ _) | (with_reducible refine Kd.C_drew ?_) | exact HR302_0.out)) hb)
             replace HR302_1 := Aside0.mk (Kd.C_below (by repeat (first | (with_reducible exact HR302_1.out) | (with_reducible refine Kd.C_alloc ?_ _) | (with_reducible refine Kd.C_drewN ?_ _) | (with_reducible refine Kd.C_drew ?_) | exact HR302_1.out)) hb)
             (try clear hb)
             (try clear hb2)
             (try clear hk)
             (try clear hi)
             refine hK.out _ _ ⟨HS0_, HS1_, HS2_, HS3_, HS4_, HS5_, HS6_, HS7_, HS8_, HS9_, HS10_, HS11_⟩ (fun hHeld => ?_)
             clear hK K
             refine norm_ (a' := ?_) ?_ ?_
             rotate_left
             ·show Act.put _ (some 22) _ = _
              simp only [Act.put, List.setIfInBounds_toArray, List.set_cons_zero, List.set_cons_succ, i64_w, i32_w]
              rfl
             refine pl_ [6, 7, 8, 9, 10, 11, 12, 13, 14, 16, 17, 18, 19, 15, 20, 21, 22, 23] ?_
             iterate 13 refine qP rfl rfl ?_ (hc := any_of HT_.out (by kernel_rfl))
             iterate 2 refine yT hHeld rfl rfl ?_ (by rintro w' ⟨s0, s1, s2, s3, s4, s5, s6, s7, s8, s9, s10, s11⟩; go_simp; with_reducible rfl) (hc := take_ofW HT_.out HW_.out (by kernel_rfl))
             iterate 3 refine qP rfl rfl ?_ (hc := any_of HT_.out (by kernel_rfl))
             refine pl0 ?_
             refine done_ (done_of HT_.out (by kernel_rfl)) ?_
             try go_wp2
             go_roundg k2
             case measure => have := HK1.out; have := HK2.out; omega
             case rel => exact ⟨(x5_2), (wrap64 (x5_2 + 1)), (by first | rfl | (simp; done) | (simp [*]; done)), (by first | rfl | (simp; done) | (simp [*]; done)), H', ⟨by have := HK1.out; have := HK2.out; omega⟩, ⟨by (with_reducible repeat (first | apply Kd.V_alloc | apply Kd.V_drewN | apply Kd.V_drew)); exact HO_0.out⟩, ⟨by (with_reducible repeat (first | apply Kd.N_alloc | apply Kd.N_drewN | apply Kd.N_drew)); exact HO_3.out⟩, ⟨by repeat (first | (with_reducible first | exact HB.out | apply below_alloc | apply pw_below_drewN | apply below_drew1) | exact HB.out)⟩⟩
            ·rw [if_neg c13] at H
             have c13b0 : decide (((rd_T99 l0 x5_2).f2) < ((rd_T99 l0 x4_2).f2)) = false := decide_eq_false c13
             clear c13
             have H' := Aside0.mk H
             clear H
             try go_wp2
             replace HO_0 := Aside0.mk (Kd.V_drew HO_0.out)
             replace HO_3 := Aside0.mk (Kd.N_drew HO_3.out)
             replace HB := Aside0.mk (below_drew1 HB.out)
             have p302 : 0 ≤ (x5_2 : Int) := of_decide_eq_true (by first | (with_reducible assumption) | assumption)
             have q302 : x5_2 < (l0.length : Int) := of_decide_eq_true (by first | (with_reducible assumption) | assumption)
             obtain ⟨ad302, A302_0, c302_0, A302_1, c302_1, e302, hx302_0, hx302_1, hx302_2, hx302_3, hl302_0, hi302_0, hl302_1, hi302_1⟩ := at_T99 (Kd.V_reads' HO_0.out).2.2 x5_2 p302 q302
             cases e302
             obtain ⟨ce302, hce302, hMe302, hcc302⟩ := Kd.V_get HO_0.out z99 x5_2 p302 (by first | exact q302 | exact of_decide_eq_true (by first | (with_reducible assumption) | assumption) | (have e_ := (Kd.V_reads' HO_0.out).1; omega))
             obtain ⟨ua302_0, uc302_0, ua302_1, uc302_1, rfl, ul302_0, ge302_0, ul302_1, ge302_1⟩ := k99_openF hMe302
             have hv302_0 := hcc302 0 _ rfl
             rw [Nat.add_zero] at hv302_0
             replace hv302_0 := Option.some.inj (hv302_0.symm.trans hx302_0)
             injection hv302_0 with hva_ hvn_ hvc_
             rw [hva_] at ge302_0
             rw [hvc_] at ul302_0
             have HL302_0 := Aside0.mk (show Kd.V k32 32 _ w.heap.size _ _ ((rd_T99 l0 x5_2).f0) from Kd.V_mk ul302_0 ge302_0)
             clear hva_ hvn_ hvc_ ge302_0 ul302_0
             have hv302_1 := hcc302 1 _ rfl
             rw [add_field _ _ 1 (by omega)] at hv302_1
             replace hv302_1 := Option.some.inj (hv302_1.symm.trans hx302_1)
             injection hv302_1 with hva_ hvn_ hvc_
             rw [hva_] at ge302_1
             rw [hvc_] at ul302_1
             have HL302_1 := Aside0.mk (show Kd.V k32 32 _ w.heap.size _ _ ((rd_T99 l0 x5_2).f1) from Kd.V_mk ul302_1 ge302_1)
             clear hva_ hvn_ hvc_ ge302_1 ul302_1
             clear hcc302 hce302
             have HR302_0 := Aside0.mk hi302_0
             have HC302_0 := Aside0.mk hl302_0
             clear hi302_0 hl302_0
             have HR302_1 := Aside0.mk hi302_1
             have HC302_1 := Aside0.mk hl302_1
             clear hi302_1 hl302_1
             replace p302 := eq_true p302
             replace q302 := eq_true q302
             have p304 : 0 ≤ (x5_2 : Int) := of_decide_eq_true (by first | (with_reducible assumption) | assumption)
             have q304 : x5_2 < (l0.length : Int) := of_decide_eq_true (by first | (with_reducible assumption) | assumption)
             obtain ⟨ad304, A304_0, c304_0, A304_1, c304_1, e304, hx304_0, hx304_1, hx304_2, hx304_3, hl304_0, hi304_0, hl304_1, hi304_1⟩ := at_T99 (Kd.V_reads' HO_0.out).2.2 x5_2 p304 q304
             obtain rfl : ad302 = ad304 := (by injection e304)
             obtain ⟨ce304, hce304, hMe304, hcc304⟩ := Kd.V_get HO_0.out z99 x5_2 p304 (by first | exact q304 | exact of_decide_eq_true (by first | (with_reducible assumption) | assumption) | (have e_ := (Kd.V_reads' HO_0.out).1; omega))
             obtain ⟨ua304_0, uc304_0, ua304_1, uc304_1, rfl, ul304_0, ge304_0, ul304_1, ge304_1⟩ := k99_openF hMe304
             have hv304_0 := hcc304 0 _ rfl
             rw [Nat.add_zero] at hv304_0
             replace hv304_0 := Option.some.inj (hv304_0.symm.trans hx304_0)
             injection hv304_0 with hva_ hvn_ hvc_
             rw [hva_] at ge304_0
             rw [hvc_] at ul304_0
             have HL304_0 := Aside0.mk (show Kd.V k32 32 _ w.heap.size _ _ ((rd_T99 l0 x5_2).f0) from Kd.V_mk ul304_0 ge304_0)
             clear hva_ hvn_ hvc_ ge304_0 ul304_0
             have hv304_1 := hcc304 1 _ rfl
             rw [add_field _ _ 1 (by omega)] at hv304_1
             replace hv304_1 := Option.some.inj (hv304_1.symm.trans hx304_1)
             injection hv304_1 with hva_ hvn_ hvc_
             rw [hva_] at ge304_1
             rw [hvc_] at ul304_1
             have HL304_1 := Aside0.mk (show Kd.V k32 32 _ w.heap.size _ _ ((rd_T99 l0 x5_2).f1) from Kd.V_mk ul304_1 ge304_1)
             clear hva_ hvn_ hvc_ ge304_1 ul304_1
             clear hcc304 hce304
             have HR304_0 := Aside0.mk hi304_0
             have HC304_0 := Aside0.mk hl304_0
             clear hi304_0 hl304_0
             have HR304_1 := Aside0.mk hi304_1
             have HC304_1 := Aside0.mk hl304_1
             clear hi304_1 hl304_1
             replace p304 := eq_true p304
             replace q304 := eq_true q304
             have p305 : 0 ≤ (x4_2 : Int) := of_decide_eq_true (by first | (with_reducible assumption) | assumption)
             have q305 : x4_2 < (l0.length : Int) := of_decide_eq_true (by first | (with_reducible assumption) | assumption)
             obtain ⟨ad305, A305_0, c305_0, A305_1, c305_1, e305, hx305_0, hx305_1, hx305_2, hx305_3, hl305_0, hi305_0, hl305_1, hi305_1⟩ := at_T99 (Kd.V_reads' HO_0.out).2.2 x4_2 p305 q305
             obtain rfl : ad302 = ad305 := (by injection e305)
             obtain ⟨ce305, hce305, hMe305, hcc305⟩ := Kd.V_get HO_0.out z99 x4_2 p305 (by first | exact q305 | exact of_decide_eq_true (by first | (with_reducible assumption) | assumption) | (have e_ := (Kd.V_reads' HO_0.out).1; omega))
             obtain ⟨ua305_0, uc305_0, ua305_1, uc305_1, rfl, ul305_0, ge305_0, ul305_1, ge305_1⟩ := k99_openF hMe305
             have hv305_0 := hcc305 0 _ rfl
             rw [Nat.add_zero] at hv305_0
             replace hv305_0 := Option.some.inj (hv305_0.symm.trans hx305_0)
             injection hv305_0 with hva_ hvn_ hvc_
             rw [hva_] at ge305_0
             rw [hvc_] at ul305_0
             have HL305_0 := Aside0.mk (show Kd.V k32 32 _ w.heap.size _ _ ((rd_T99 l0 x4_2).f0) from Kd.V_mk ul305_0 ge305_0)
             clear hva_ hvn_ hvc_ ge305_0 ul305_0
             have hv305_1 := hcc305 1 _ rfl
             rw [add_field _ _ 1 (by omega)] at hv305_1
             replace hv305_1 := Option.some.inj (hv305_1.symm.trans hx305_1)
             injection hv305_1 with hva_ hvn_ hvc_
             rw [hva_] at ge305_1
             rw [hvc_] at ul305_1
             have HL305_1 := Aside0.mk (show Kd.V k32 32 _ w.heap.size _ _ ((rd_T99 l0 x4_2).f1) from Kd.V_mk ul305_1 ge305_1)
             clear hva_ hvn_ hvc_ ge305_1 ul305_1
             clear hcc305 hce305
             have HR305_0 := Aside0.mk hi305_0
             have HC305_0 := Aside0.mk hl305_0
             clear hi305_0 hl305_0
             have HR305_1 := Aside0.mk hi305_1
             have HC305_1 := Aside0.mk hl305_1
             clear hi305_1 hl305_1
             replace p305 := eq_true p305
             replace q305 := eq_true q305
             refine start_ (n := 24) (S := fun w' => w'.cell? (ad302.add ((x5_2).toNat * 4)) = some (.slice A302_0 ((rd_T99 l0 x5_2).f0).length c302_0) ∧ w'.cell? ⟨(ad302.add ((x5_2).toNat * 4)).block, (ad302.add ((x5_2).toNat * 4)).off + 1, none⟩ = some (.slice A302_1 ((rd_T99 l0 x5_2).f1).length c302_1) ∧ w'.cell? ⟨(ad302.add ((x5_2).toNat * 4)).block, (ad302.add ((x5_2).toNat * 4)).off + 2, none⟩ = some (.int .i64 ((rd_T99 l0 x5_2).f2)) ∧ w'.cell? ⟨(ad302.add ((x5_2).toNat * 4)).block, (ad302.add ((x5_2).toNat * 4)).off + 3, none⟩ = some (.int .i64 ((rd_T99 l0 x5_2).f3)) ∧ w'.cell? (ad302.add ((x5_2).toNat * 4)) = some (.slice A304_0 ((rd_T99 l0 x5_2).f0).length c304_0) ∧ w'.cell? ⟨(ad302.add ((x5_2).toNat * 4)).block, (ad302.add ((x5_2).toNat * 4)).off + 1, none⟩ = some (.slice A304_1 ((rd_T99 l0 x5_2).f1).length c304_1) ∧ w'.cell? ⟨(ad302.add ((x5_2).toNat * 4)).block, (ad302.add ((x5_2).toNat * 4)).off + 2, none⟩ = some (.int .i64 ((rd_T99 l0 x5_2).f2)) ∧ w'.cell? ⟨(ad302.add ((x5_2).toNat * 4)).block, (ad302.add ((x5_2).toNat * 4)).off + 3, none⟩ = some (.int .i64 ((rd_T99 l0 x5_2).f3)) ∧ w'.cell? (ad302.add ((x4_2).toNat * 4)) = some (.slice A305_0 ((rd_T99 l0 x4_2).f0).length c305_0) ∧ w'.cell? ⟨(ad302.add ((x4_2).toNat * 4)).block, (ad302.add ((x4_2).toNat * 4)).off + 1, none⟩ = some (.slice A305_1 ((rd_T99 l0 x4_2).f1).length c305_1) ∧ w'.cell? ⟨(ad302.add ((x4_2).toNat * 4)).block, (ad302.add ((x4_2).toNat * 4)).off + 2, none⟩ = some (.int .i64 ((rd_T99 l0 x4_2).f2)) ∧ w'.cell? ⟨(ad302.add ((x4_2).toNat * 4)).block, (ad302.add ((x4_2).toNat * 4)).off + 3, none⟩ = some (.int .i64 ((rd_T99 l0 x4_2).f3))) (ds := []) #[false, false, false, false, false, false, false, false, false, false, false, false, false, false, false, false, false, false, false, false, false, false, false, false] (by kernel_rfl) rfl rfl ⟨hx302_0, hx302_1, hx302_2, hx302_3, hx304_0, hx304_1, hx304_2, hx304_3, hx305_0, hx305_1, hx305_2, hx305_3⟩ (fun hHeld => ?_); refine with_tabW shunterref22_Sorted.tab7 shunterref22_Sorted.bits7 (fun HT_ HW_ => ?_)
             generalize wr.drew = w16 at HO_0 HO_3 HB HL302_0 HL302_1 HL304_0 HL304_1 HL305_0 HL305_1 HR302_0 HR302_1 HR304_0 HR304_1 HR305_0 HR305_1 hx302_0 hx302_1 hx302_2 hx302_3 hx304_0 hx304_1 hx304_2 hx304_3 hx305_0 hx305_1 hx305_2 hx305_3 hHeld ⊢
             refine pl_ [0, 1, 2, 3, 4] ?_
             iterate 4 refine qP rfl rfl ?_ (hc := any_of HT_.out (by kernel_rfl))
             refine yT hHeld rfl rfl ?_ (by rintro w' ⟨s0, s1, s2, s3, s4, s5, s6, s7, s8, s9, s10, s11⟩; go_simp; with_reducible rfl) (hc := take_ofW HT_.out HW_.out (by kernel_rfl))
             refine pl0 ?_
             refine one_ (i := 5) (N := some 22) #[true, true, true, true, true, true, false, false, false, false, false, false, false, false, false, false, false, false, false, false, false, false, false, false] rfl rfl (one_of HT_.out (by kernel_rfl)) (by decide) (fun K hK => ?_)
             refine goes_ Try.func118 (by kernel_rfl) rfl #[.slice Ao3 x3_1.length co3, .agg #[.slice A302_0 ((rd_T99 l0 x5_2).f0).length c302_0, .slice A302_1 ((rd_T99 l0 x5_2).f1).length c302_1, .int .i64 ((rd_T99 l0 x5_2).f2), .int .i64 ((rd_T99 l0 x5_2).f3)]] (by rfl) rfl rfl (by (try simp only [List.map_toArray, List.map_cons, List.map_nil]); first | done | rfl | (simp only [List.length_drop, List.length_take]; rfl)) ?_
             with_reducible refine (shunterref22_Find.calls k2 _ _ x3_1 _ _ ((rd_T99 l0 x5_2).f0) _ _ ((rd_T99 l0 x5_2).f1) ((rd_T99 l0 x5_2).f2) ((rd_T99 l0 x5_2).f3) t303 _ ?side1 ?side2 ?side3 ?side4 ?side5 ?side6 A6.out).mono ?_
             (case side1 => repeat (first | exact (Kd.N_reads' HO_3.out).2.2 | (with_reducible refine Kd.C_alloc ?_ _) | (with_reducible refine Kd.C_drewN ?_ _) | (with_reducible refine Kd.C_drew ?_)))
             (case side2 => exact (Kd.N_reads' HO_3.out).2.1)
             (case side3 => repeat (first | exact (by repeat (first | (with_reducible exact HR302_0.out) | (with_reducible refine Kd.C_alloc ?_ _) | (with_reducible refine Kd.C_drewN ?_ _) | (with_reducible refine Kd.C_drew ?_) | exact HR302_0.out)) | (with_reducible refine Kd.C_alloc ?_ _) | (with_reducible refine Kd.C_drewN ?_ _) | (with_reducible refine Kd.C_drew ?_)))
             (case side4 => exact HC302_0.out)
             (case side5 => repeat (first | exact (by repeat (first | (with_reducible exact HR302_1.out) | (with_reducible refine Kd.C_alloc ?_ _) | (with_reducible refine Kd.C_drewN ?_ _) | (with_reducible refine Kd.C_drew ?_) | exact HR302_1.out)) | (with_reducible refine Kd.C_alloc ?_ _) | (with_reducible refine Kd.C_drewN ?_ _) | (with_reducible refine Kd.C_drew ?_)))
             (case side6 => exact HC302_1.out)
             rintro e w17 ⟨rfl, hb⟩
             have HS0_ := (hb.cell (World.block_lt_of_cell? _ _ (hHeld.1))).trans (hHeld.1)
             have HS1_ := (hb.cell (World.block_lt_of_cell? _ _ (hHeld.2.1))).trans (hHeld.2.1)
             have HS2_ := (hb.cell (World.block_lt_of_cell? _ _ (hHeld.2.2.1))).trans (hHeld.2.2.1)
             have HS3_ := (hb.cell (World.block_lt_of_cell? _ _ (hHeld.2.2.2.1))).trans (hHeld.2.2.2.1)
             have HS4_ := (hb.cell (World.block_lt_of_cell? _ _ (hHeld.2.2.2.2.1))).trans (hHeld.2.2.2.2.1)
             have HS5_ := (hb.cell (World.block_lt_of_cell? _ _ (hHeld.2.2.2.2.2.1))).trans (hHeld.2.2.2.2.2.1)
             have HS6_ := (hb.cell (World.block_lt_of_cell? _ _ (hHeld.2.2.2.2.2.2.1))).trans (hHeld.2.2.2.2.2.2.1)
             have HS7_ := (hb.cell (World.block_lt_of_cell? _ _ (hHeld.2.2.2.2.2.2.2.1))).trans (hHeld.2.2.2.2.2.2.2.1)
             have HS8_ := (hb.cell (World.block_lt_of_cell? _ _ (hHeld.2.2.2.2.2.2.2.2.1))).trans (hHeld.2.2.2.2.2.2.2.2.1)
             have HS9_ := (hb.cell (World.block_lt_of_cell? _ _ (hHeld.2.2.2.2.2.2.2.2.2.1))).trans (hHeld.2.2.2.2.2.2.2.2.2.1)
             have HS10_ := (hb.cell (World.block_lt_of_cell? _ _ (hHeld.2.2.2.2.2.2.2.2.2.2.1))).trans (hHeld.2.2.2.2.2.2.2.2.2.2.1)
             have HS11_ := (hb.cell (World.block_lt_of_cell? _ _ (hHeld.2.2.2.2.2.2.2.2.2.2.2))).trans (hHeld.2.2.2.2.2.2.2.2.2.2.2)
             refine ⟨_, rfl, ?_⟩
             replace HB := Aside0.mk (below_step (by repeat (first | (with_reducible first | exact HB.out | apply below_alloc | apply pw_below_drewN | apply below_drew1) | exact HB.out)) hb)
             replace HO_0 := Aside0.mk (Kd.V_below (by (with_reducible repeat (first | apply Kd.V_alloc | apply Kd.V_drewN | apply Kd.V_drew)); exact HO_0.out) hb)
             replace HO_3 := Aside0.mk (Kd.N_below (by (with_reducible repeat (first | apply Kd.N_alloc | apply Kd.N_drewN | apply Kd.N_drew)); exact HO_3.out) hb)
             replace HL302_0 := Aside0.mk (Kd.V_below (by (with_reducible repeat (first | apply Kd.V_alloc | apply Kd.V_drewN | apply Kd.V_drew)); exact HL302_0.out) hb)
             replace HL302_1 := Aside0.mk (Kd.V_below (by (with_reducible repeat (first | apply Kd.V_alloc | apply Kd.V_drewN | apply Kd.V_drew)); exact HL302_1.out) hb)
             replace HR302_0 := Aside0.mk (Kd.C_below (by repeat (first | (with_reducible exact HR302_0.out) | (with_reducible refine Kd.C_alloc ?_ _) | (with_reducible refine Kd.C_drewN ?_ _) | (with_reducible refine Kd.C_drew ?_) | exact HR302_0.out)) hb)
             replace HR302_1 := Aside0.mk (Kd.C_below (by repeat (first | (with_reducible exact HR302_1.out) | (with_reducible refine Kd.C_alloc ?_ _) | (with_reducible refine Kd.C_drewN ?_ _) | (with_reducible refine Kd.C_drew ?_) | exact HR302_1.out)) hb)
             (try clear hb)
             (try clear hb2)
             (try clear hk)
             (try clear hi)
             refine hK.out _ _ ⟨HS0_, HS1_, HS2_, HS3_, HS4_, HS5_, HS6_, HS7_, HS8_, HS9_, HS10_, HS11_⟩ (fun hHeld => ?_)
             clear hK K
             refine norm_ (a' := ?_) ?_ ?_
             rotate_left
             ·show Act.put _ (some 22) _ = _
              simp only [Act.put, List.setIfInBounds_toArray, List.set_cons_zero, List.set_cons_succ, i64_w, i32_w]
              rfl
             refine pl_ [6, 7, 8, 9, 10, 11, 12, 13, 14, 16, 17, 18, 19, 15, 20, 21, 22, 23] ?_
             iterate 13 refine qP rfl rfl ?_ (hc := any_of HT_.out (by kernel_rfl))
             iterate 2 refine yT hHeld rfl rfl ?_ (by rintro w' ⟨s0, s1, s2, s3, s4, s5, s6, s7, s8, s9, s10, s11⟩; go_simp; with_reducible rfl) (hc := take_ofW HT_.out HW_.out (by kernel_rfl))
             iterate 3 refine qP rfl rfl ?_ (hc := any_of HT_.out (by kernel_rfl))
             refine pl0 ?_
             refine done_ (done_of HT_.out (by kernel_rfl)) ?_
             try go_wp2
             go_roundg k2
             case measure => have := HK1.out; have := HK2.out; omega
             case rel => exact ⟨(x4_2), (wrap64 (x5_2 + 1)), (by first | rfl | (simp; done) | (simp [*]; done)), (by first | rfl | (simp; done) | (simp [*]; done)), H', ⟨by have := HK1.out; have := HK2.out; omega⟩, ⟨by (with_reducible repeat (first | apply Kd.V_alloc | apply Kd.V_drewN | apply Kd.V_drew)); exact HO_0.out⟩, ⟨by (with_reducible repeat (first | apply Kd.N_alloc | apply Kd.N_drewN | apply Kd.N_drew)); exact HO_3.out⟩, ⟨by repeat (first | (with_reducible first | exact HB.out | apply below_alloc | apply pw_below_drewN | apply below_drew1) | exact HB.out)⟩⟩
           ·rw [if_neg c12] at H
            exact absurd H (by simp)
          ·rw [if_neg c11] at H
           exact absurd H (by simp)
        ·rw [if_neg c7] at H
         have c7b0 : decide (t303 < 0) = false := decide_eq_false c7
         clear c7
         have H' := Aside0.mk H
         clear H
         try go_wp2
         replace HO_0 := Aside0.mk (Kd.V_drew HO_0.out)
         replace HO_3 := Aside0.mk (Kd.N_drew HO_3.out)
         replace HB := Aside0.mk (below_drew1 HB.out)
         have p302 : 0 ≤ (x5_2 : Int) := of_decide_eq_true (by first | (with_reducible assumption) | assumption)
         have q302 : x5_2 < (l0.length : Int) := of_decide_eq_true (by first | (with_reducible assumption) | assumption)
         obtain ⟨ad302, A302_0, c302_0, A302_1, c302_1, e302, hx302_0, hx302_1, hx302_2, hx302_3, hl302_0, hi302_0, hl302_1, hi302_1⟩ := at_T99 (Kd.V_reads' HO_0.out).2.2 x5_2 p302 q302
         cases e302
         obtain ⟨ce302, hce302, hMe302, hcc302⟩ := Kd.V_get HO_0.out z99 x5_2 p302 (by first | exact q302 | exact of_decide_eq_true (by first | (with_reducible assumption) | assumption) | (have e_ := (Kd.V_reads' HO_0.out).1; omega))
         obtain ⟨ua302_0, uc302_0, ua302_1, uc302_1, rfl, ul302_0, ge302_0, ul302_1, ge302_1⟩ := k99_openF hMe302
         have hv302_0 := hcc302 0 _ rfl
         rw [Nat.add_zero] at hv302_0
         replace hv302_0 := Option.some.inj (hv302_0.symm.trans hx302_0)
         injection hv302_0 with hva_ hvn_ hvc_
         rw [hva_] at ge302_0
         rw [hvc_] at ul302_0
         have HL302_0 := Aside0.mk (show Kd.V k32 32 _ w.heap.size _ _ ((rd_T99 l0 x5_2).f0) from Kd.V_mk ul302_0 ge302_0)
         clear hva_ hvn_ hvc_ ge302_0 ul302_0
         have hv302_1 := hcc302 1 _ rfl
         rw [add_field _ _ 1 (by omega)] at hv302_1
         replace hv302_1 := Option.some.inj (hv302_1.symm.trans hx302_1)
         injection hv302_1 with hva_ hvn_ hvc_
         rw [hva_] at ge302_1
         rw [hvc_] at ul302_1
         have HL302_1 := Aside0.mk (show Kd.V k32 32 _ w.heap.size _ _ ((rd_T99 l0 x5_2).f1) from Kd.V_mk ul302_1 ge302_1)
         clear hva_ hvn_ hvc_ ge302_1 ul302_1
         clear hcc302 hce302
         have HR302_0 := Aside0.mk hi302_0
         have HC302_0 := Aside0.mk hl302_0
         clear hi302_0 hl302_0
         have HR302_1 := Aside0.mk hi302_1
         have HC302_1 := Aside0.mk hl302_1
         clear hi302_1 hl302_1
         replace p302 := eq_true p302
         replace q302 := eq_true q302
         refine start_ (n := 24) (S := fun w' => w'.cell? (ad302.add ((x5_2).toNat * 4)) = some (.slice A302_0 ((rd_T99 l0 x5_2).f0).length c302_0) ∧ w'.cell? ⟨(ad302.add ((x5_2).toNat * 4)).block, (ad302.add ((x5_2).toNat * 4)).off + 1, none⟩ = some (.slice A302_1 ((rd_T99 l0 x5_2).f1).length c302_1) ∧ w'.cell? ⟨(ad302.add ((x5_2).toNat * 4)).block, (ad302.add ((x5_2).toNat * 4)).off + 2, none⟩ = some (.int .i64 ((rd_T99 l0 x5_2).f2)) ∧ w'.cell? ⟨(ad302.add ((x5_2).toNat * 4)).block, (ad302.add ((x5_2).toNat * 4)).off + 3, none⟩ = some (.int .i64 ((rd_T99 l0 x5_2).f3))) (ds := []) #[false, false, false, false, false, false, false, false, false, false, false, false, false, false, false, false, false, false, false, false, false, false, false, false] (by kernel_rfl) rfl rfl ⟨hx302_0, hx302_1, hx302_2, hx302_3⟩ (fun hHeld => ?_); refine with_tabW shunterref22_Sorted.tab7 shunterref22_Sorted.bits7 (fun HT_ HW_ => ?_)
         generalize wr.drew = w18 at HO_0 HO_3 HB HL302_0 HL302_1 HR302_0 HR302_1 hx302_0 hx302_1 hx302_2 hx302_3 hHeld ⊢
         refine pl_ [0, 1, 2, 3, 4] ?_
         iterate 4 refine qP rfl rfl ?_ (hc := any_of HT_.out (by kernel_rfl))
         refine yT hHeld rfl rfl ?_ (by rintro w' ⟨s0, s1, s2, s3⟩; go_simp; with_reducible rfl) (hc := take_ofW HT_.out HW_.out (by kernel_rfl))
         refine pl0 ?_
         refine one_ (i := 5) (N := some 22) #[true, true, true, true, true, true, false, false, false, false, false, false, false, false, false, false, false, false, false, false, false, false, false, false] rfl rfl (one_of HT_.out (by kernel_rfl)) (by decide) (fun K hK => ?_)
         refine goes_ Try.func118 (by kernel_rfl) rfl #[.slice Ao3 x3_1.length co3, .agg #[.slice A302_0 ((rd_T99 l0 x5_2).f0).length c302_0, .slice A302_1 ((rd_T99 l0 x5_2).f1).length c302_1, .int .i64 ((rd_T99 l0 x5_2).f2), .int .i64 ((rd_T99 l0 x5_2).f3)]] (by rfl) rfl rfl (by (try simp only [List.map_toArray, List.map_cons, List.map_nil]); first | done | rfl | (simp only [List.length_drop, List.length_take]; rfl)) ?_
         with_reducible refine (shunterref22_Find.calls k2 _ _ x3_1 _ _ ((rd_T99 l0 x5_2).f0) _ _ ((rd_T99 l0 x5_2).f1) ((rd_T99 l0 x5_2).f2) ((rd_T99 l0 x5_2).f3) t303 _ ?side1 ?side2 ?side3 ?side4 ?side5 ?side6 A6.out).mono ?_
         (case side1 => repeat (first | exact (Kd.N_reads' HO_3.out).2.2 | (with_reducible refine Kd.C_alloc ?_ _) | (with_reducible refine Kd.C_drewN ?_ _) | (with_reducible refine Kd.C_drew ?_)))
         (case side2 => exact (Kd.N_reads' HO_3.out).2.1)
         (case side3 => repeat (first | exact (by repeat (first | (with_reducible exact HR302_0.out) | (with_reducible refine Kd.C_alloc ?_ _) | (with_reducible refine Kd.C_drewN ?_ _) | (with_reducible refine Kd.C_drew ?_) | exact HR302_0.out)) | (with_reducible refine Kd.C_alloc ?_ _) | (with_reducible refine Kd.C_drewN ?_ _) | (with_reducible refine Kd.C_drew ?_)))
         (case side4 => exact HC302_0.out)
         (case side5 => repeat (first | exact (by repeat (first | (with_reducible exact HR302_1.out) | (with_reducible refine Kd.C_alloc ?_ _) | (with_reducible refine Kd.C_drewN ?_ _) | (with_reducible refine Kd.C_drew ?_) | exact HR302_1.out)) | (with_reducible refine Kd.C_alloc ?_ _) | (with_reducible refine Kd.C_drewN ?_ _) | (with_reducible refine Kd.C_drew ?_)))
         (case side6 => exact HC302_1.out)
         rintro e w19 ⟨rfl, hb⟩
         have HS0_ := (hb.cell (World.block_lt_of_cell? _ _ (hHeld.1))).trans (hHeld.1)
         have HS1_ := (hb.cell (World.block_lt_of_cell? _ _ (hHeld.2.1))).trans (hHeld.2.1)
         have HS2_ := (hb.cell (World.block_lt_of_cell? _ _ (hHeld.2.2.1))).trans (hHeld.2.2.1)
         have HS3_ := (hb.cell (World.block_lt_of_cell? _ _ (hHeld.2.2.2))).trans (hHeld.2.2.2)
         refine ⟨_, rfl, ?_⟩
         replace HB := Aside0.mk (below_step (by repeat (first | (with_reducible first | exact HB.out | apply below_alloc | apply pw_below_drewN | apply below_drew1) | exact HB.out)) hb)
         replace HO_0 := Aside0.mk (Kd.V_below (by (with_reducible repeat (first | apply Kd.V_alloc | apply Kd.V_drewN | apply Kd.V_drew)); exact HO_0.out) hb)
         replace HO_3 := Aside0.mk (Kd.N_below (by (with_reducible repeat (first | apply Kd.N_alloc | apply Kd.N_drewN | apply Kd.N_drew)); exact HO_3.out) hb)
         replace HL302_0 := Aside0.mk (Kd.V_below (by (with_reducible repeat (first | apply Kd.V_alloc | apply Kd.V_drewN | apply Kd.V_drew)); exact HL302_0.out) hb)
         replace HL302_1 := Aside0.mk (Kd.V_below (by (with_reducible repeat (first | apply Kd.V_alloc | apply Kd.V_drewN | apply Kd.V_drew)); exact HL302_1.out) hb)
         replace HR302_0 := Aside0.mk (Kd.C_below (by repeat (first | (with_reducible exact HR302_0.out) | (with_reducible refine Kd.C_alloc ?_ _) | (with_reducible refine Kd.C_drewN ?_ _) | (with_reducible refine Kd.C_drew ?_) | exact HR302_0.out)) hb)
         replace HR302_1 := Aside0.mk (Kd.C_below (by repeat (first | (with_reducible exact HR302_1.out) | (with_reducible refine Kd.C_alloc ?_ _) | (with_reducible refine Kd.C_drewN ?_ _) | (with_reducible refine Kd.C_drew ?_) | exact HR302_1.out)) hb)
         (try clear hb)
         (try clear hb2)
         (try clear hk)
         (try clear hi)
         refine hK.out _ _ ⟨HS0_, HS1_, HS2_, HS3_⟩ (fun hHeld => ?_)
         clear hK K
         refine norm_ (a' := ?_) ?_ ?_
         rotate_left
         ·show Act.put _ (some 22) _ = _
          simp only [Act.put, List.setIfInBounds_toArray, List.set_cons_zero, List.set_cons_succ, i64_w, i32_w]
          rfl
         refine pl_ [6, 7, 8, 9, 10, 11, 12, 13, 14, 15, 16, 17, 18, 19, 20, 21, 22, 23] ?_
         iterate 2 refine qP rfl rfl ?_ (hc := any_of HT_.out (by kernel_rfl))
         iterate 15 refine qU rfl rfl ?_ (hc := any_of HT_.out (by kernel_rfl))
         refine qP rfl rfl ?_ (hc := any_of HT_.out (by kernel_rfl))
         refine pl0 ?_
         refine done_ (done_of HT_.out (by kernel_rfl)) ?_
         try go_wp2
         go_roundg k2
         case measure => have := HK1.out; have := HK2.out; omega
         case rel => exact ⟨(x4_2), (wrap64 (x5_2 + 1)), (by first | rfl | (simp; done) | (simp [*]; done)), (by first | rfl | (simp; done) | (simp [*]; done)), H', ⟨by have := HK1.out; have := HK2.out; omega⟩, ⟨by (with_reducible repeat (first | apply Kd.V_alloc | apply Kd.V_drewN | apply Kd.V_drew)); exact HO_0.out⟩, ⟨by (with_reducible repeat (first | apply Kd.N_alloc | apply Kd.N_drewN | apply Kd.N_drew)); exact HO_3.out⟩, ⟨by repeat (first | (with_reducible first | exact HB.out | apply below_alloc | apply pw_below_drewN | apply below_drew1) | exact HB.out)⟩⟩
       ·rw [if_neg c5] at H
        exact absurd H (by simp)
      ·rw [if_neg c4] at H
       have c4b0 : decide (x5_2 < (l0.length : Int)) = false := decide_eq_false c4
       clear c4
       by_cases c20 : 0 ≤ x4_2
       ·rw [if_pos c20] at H
        have c20b0 : decide (0 ≤ x4_2) = true := decide_eq_true c20
        clear c20
        by_cases c21 : x4_2 < (l0.length : Int)
        ·rw [if_pos c21] at H
         have c21b0 : decide (x4_2 < (l0.length : Int)) = true := decide_eq_true c21
         clear c21
         by_cases c22 : x3_1.length < 2199023255552
         ·rw [if_pos c22] at H
          have LMc22 := Aside0.mk c22
          clear c22
          obtain ⟨y307, hy307⟩ : ∃ y_ : List (S99), y_ = (x3_1 ++ [(⟨(rd_T99 l0 x4_2).f0, (rd_T99 l0 x4_2).f1, (rd_T99 l0 x4_2).f2, (rd_T99 l0 x4_2).f3⟩ : S99)]) := ⟨_, rfl⟩
          replace H : (shunterref22_Sorted.l0 k2 l0 y307) = some r := by first | (rw [hy307]; with_reducible exact H) | (have H2_ := (Option.bind_some _ _).symm.trans H; rw [hy307]; with_reducible exact H2_) | (have H2_ := (Option.bind_some _ _).symm.trans H; with_reducible exact H2_) | with_reducible exact H | (rw [hy307]; exact H) | exact H
          have Ny307 := Aside0.mk hy307
          clear hy307
          have H' := Aside0.mk H
          clear H
          have p306 : 0 ≤ (x4_2 : Int) := of_decide_eq_true (by first | (with_reducible assumption) | assumption)
          have q306 : x4_2 < (l0.length : Int) := of_decide_eq_true (by first | (with_reducible assumption) | assumption)
          obtain ⟨ad306, A306_0, c306_0, A306_1, c306_1, e306, hx306_0, hx306_1, hx306_2, hx306_3, hl306_0, hi306_0, hl306_1, hi306_1⟩ := at_T99 (Kd.V_reads' HO_0.out).2.2 x4_2 p306 q306
          cases e306
          obtain ⟨ce306, hce306, hMe306, hcc306⟩ := Kd.V_get HO_0.out z99 x4_2 p306 (by first | exact q306 | exact of_decide_eq_true (by first | (with_reducible assumption) | assumption) | (have e_ := (Kd.V_reads' HO_0.out).1; omega))
          obtain ⟨ua306_0, uc306_0, ua306_1, uc306_1, rfl, ul306_0, ge306_0, ul306_1, ge306_1⟩ := k99_openF hMe306
          have hv306_0 := hcc306 0 _ rfl
          rw [Nat.add_zero] at hv306_0
          replace hv306_0 := Option.some.inj (hv306_0.symm.trans hx306_0)
          injection hv306_0 with hva_ hvn_ hvc_
          rw [hva_] at ge306_0
          rw [hvc_] at ul306_0
          have HL306_0 := Aside0.mk (show Kd.V k32 32 _ w.heap.size _ _ ((rd_T99 l0 x4_2).f0) from Kd.V_mk ul306_0 ge306_0)
          clear hva_ hvn_ hvc_ ge306_0 ul306_0
          have hv306_1 := hcc306 1 _ rfl
          rw [add_field _ _ 1 (by omega)] at hv306_1
          replace hv306_1 := Option.some.inj (hv306_1.symm.trans hx306_1)
          injection hv306_1 with hva_ hvn_ hvc_
          rw [hva_] at ge306_1
          rw [hvc_] at ul306_1
          have HL306_1 := Aside0.mk (show Kd.V k32 32 _ w.heap.size _ _ ((rd_T99 l0 x4_2).f1) from Kd.V_mk ul306_1 ge306_1)
          clear hva_ hvn_ hvc_ ge306_1 ul306_1
          clear hcc306 hce306
          have HR306_0 := Aside0.mk hi306_0
          have HC306_0 := Aside0.mk hl306_0
          clear hi306_0 hl306_0
          have HR306_1 := Aside0.mk hi306_1
          have HC306_1 := Aside0.mk hl306_1
          clear hi306_1 hl306_1
          replace p306 := eq_true p306
          replace q306 := eq_true q306
          go_wp2_with (first | ((with_reducible refine gate_builtin (b := .append) (xs := #[.tmp 42, .tmp 47]) rfl ?_); at_builtin; refine Kd.N_append k99 (w0 := w) w.heap.size rfl (.tmp 42) (.tmp 47) 102 99 (.agg #[(.slice none 0 0), (.slice none 0 0), (.int .i64 0), (.int .i64 0)]) 64 rfl Try.underlying102 info99 rfl (by decide) (by omega) (.slice Ao3 x3_1.length co3) x3_1 (⟨(rd_T99 l0 x4_2).f0, (rd_T99 l0 x4_2).f1, (rd_T99 l0 x4_2).f2, (rd_T99 l0 x4_2).f3⟩ : S99) [.slice A306_0 ((rd_T99 l0 x4_2).f0).length c306_0, .slice A306_1 ((rd_T99 l0 x4_2).f1).length c306_1, .int .i64 ((rd_T99 l0 x4_2).f2), .int .i64 ((rd_T99 l0 x4_2).f3)] (fun k_ => (P0_ k_ ∨ w.heap.size ≤ k_)) (fun k_ => ((fun k_ => (P0_ k_ ∨ w.heap.size ≤ k_))) k_ ∧ some k_ ≠ (.slice Ao3 x3_1.length co3 : Value).ownBlock) rfl rfl ?aP (fun _ hk => hk) ?aF ?aO ?aB ?aS ?aL ?_; (case aP => exact (k99_mkF _ _ (⟨(rd_T99 l0 x4_2).f0, (rd_T99 l0 x4_2).f1, (rd_T99 l0 x4_2).f2, (rd_T99 l0 x4_2).f3⟩ : S99) (Kd.V_reads' (Kd.V_mono (ok' := (fun k_ => ((fun k_ => (P0_ k_ ∨ w.heap.size ≤ k_))) k_ ∧ some k_ ≠ (.slice Ao3 x3_1.length co3 : Value).ownBlock)) (HL306_0.out) (fun k_ hk => ⟨hk.1, hk.2⟩))).2.1 (Kd.V_F (Kd.V_mono (ok' := (fun k_ => ((fun k_ => (P0_ k_ ∨ w.heap.size ≤ k_))) k_ ∧ some k_ ≠ (.slice Ao3 x3_1.length co3 : Value).ownBlock)) (HL306_0.out) (fun k_ hk => ⟨hk.1, hk.2⟩))) (Kd.V_reads' (Kd.V_mono (ok' := (fun k_ => ((fun k_ => (P0_ k_ ∨ w.heap.size ≤ k_))) k_ ∧ some k_ ≠ (.slice Ao3 x3_1.length co3 : Value).ownBlock)) (HL306_1.out) (fun k_ hk => ⟨hk.1, hk.2⟩))).2.1 (Kd.V_F (Kd.V_mono (ok' := (fun k_ => ((fun k_ => (P0_ k_ ∨ w.heap.size ≤ k_))) k_ ∧ some k_ ≠ (.slice Ao3 x3_1.length co3 : Value).ownBlock)) (HL306_1.out) (fun k_ hk => ⟨hk.1, hk.2⟩))))); (case aB => exact (by repeat (first | (with_reducible first | exact HB.out | apply below_alloc | apply pw_below_drewN | apply below_drew1) | exact HB.out))); (case aF => exact (fun k_ hk => (.inr (Nat.le_trans (below_size (by repeat (first | (with_reducible first | exact HB.out | apply below_alloc | apply pw_below_drewN | apply below_drew1) | exact HB.out))) hk)))); (case aO => exact (by (with_reducible repeat (first | apply Kd.N_alloc | apply Kd.N_drewN | apply Kd.N_drew)); exact HO_3.out)); (case aS => exact (below_size (by repeat (first | (with_reducible first | exact HB.out | apply below_alloc | apply pw_below_drewN | apply below_drew1) | exact HB.out)))); (case aL => have := LMc22.out; omega); intro v308 w23 ho hb hg hat; rw [← Ny307.out] at ho; have n0_ := Aside0.mk (Kd.V_afterv (ok := (fun k_ => (P0_ k_ ∨ w.heap.size ≤ k_))) (by (with_reducible repeat (first | apply Kd.V_alloc | apply Kd.V_drewN | apply Kd.V_drew)); exact HO_0.out) hg hat); have n1_ := Aside0.mk (Kd.V_afterv (ok := (fun k_ => (P0_ k_ ∨ w.heap.size ≤ k_))) (by (with_reducible repeat (first | apply Kd.V_alloc | apply Kd.V_drewN | apply Kd.V_drew)); exact HL306_0.out) hg hat); have n2_ := Aside0.mk (Kd.V_afterv (ok := (fun k_ => (P0_ k_ ∨ w.heap.size ≤ k_))) (by (with_reducible repeat (first | apply Kd.V_alloc | apply Kd.V_drewN | apply Kd.V_drew)); exact HL306_1.out) hg hat); have n3_ := Aside0.mk (hb); have n4_ := Aside0.mk (ho); clear HO_0; clear HL306_0; clear HL306_1; clear HB; clear HO_3; have HO_0 := n0_; have HL306_0 := n1_; have HL306_1 := n2_; have HB := n3_; have HO309 := n4_; clear n0_ n1_ n2_ n3_ n4_; clear ho hb hg hat))
          go_roundg k2
          case measure => have := HK1.out; have := HK2.out; omega
          case rel => exact ⟨(y307), H', ⟨by have := HK1.out; have := HK2.out; omega⟩, ⟨by (with_reducible repeat (first | apply Kd.V_alloc | apply Kd.V_drewN | apply Kd.V_drew)); exact HO_0.out⟩, ⟨by (with_reducible repeat (first | apply Kd.N_alloc | apply Kd.N_drewN | apply Kd.N_drew)); exact HO309.out⟩, ⟨by repeat (first | (with_reducible first | exact HB.out | apply below_alloc | apply pw_below_drewN | apply below_drew1) | exact HB.out)⟩⟩
         ·rw [if_neg c22] at H
          exact absurd H (by simp)
        ·rw [if_neg c21] at H
         exact absurd H (by simp)
       ·rw [if_neg c20] at H
        exact absurd H (by simp)
   ·rw [if_neg c2] at H
    have c2b0 : decide ((x3_1.length : Int) < (l0.length : Int)) = false := decide_eq_false c2
    have c2b1 : decide (x3_1.length < l0.length) = false := decide_eq_false (fun h => c2 (Int.ofNat_lt.mpr h))
    clear c2
    obtain rfl := Option.some.inj H
    obtain ⟨Ao24, co24, eo24⟩ := Kd.N_slice HO_3.out
    subst eo24
    go_wp2
    go_ret
    exact ⟨_, by first | rfl | (simp [errW_none, errW_some] <;> rfl) | (simp [*, errW_none, errW_some] <;> rfl), by (with_reducible repeat (first | apply Kd.N_alloc | apply Kd.N_drewN | apply Kd.N_drew)); exact HO_3.out, by repeat (first | (with_reducible first | exact HB.out | apply below_alloc | apply pw_below_drewN | apply below_drew1) | exact HB.out)⟩
end Go.Proofs.Ytfdbcnbakchcgaa.XQ
