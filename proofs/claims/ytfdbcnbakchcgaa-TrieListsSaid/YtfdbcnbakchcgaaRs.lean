import Derived.Test.YtfdbcnbakchcgaaSr
import Derived.Test.YtfdbcnbakchcgaaRy
import Derived.Test.YtfdbcnbakchcgaaRv
import Derived.Test.YtfdbcnbakchcgaaXRx6
namespace Go.Proofs.Ytfdbcnbakchcgaa.XR
open Go.RowKit Go.Proofs.YtfdbcnbakchcgaaW.PrintWords Go.Proofs.YtfdbcnbakchcgaaW.PrintLast Go.Proofs.YtfdbcnbakchcgaaW.PrintMore
attribute [local go_sem] max2_int min2_int max_two min_two max_three min_three max_four min_four   -- for this text's walks alone
set_option linter.unusedVariables false
set_option linter.unusedSimpArgs false
theorem skipW {c : Bool} {A B : Prop} (h : c = false) (hb : B) : if c = true then A else B := by subst h; simpa using hb
set_option maxHeartbeats 1000000 in
set_option maxRecDepth 100000 in
theorem TrieLists_bad (W m : Int) (A : Option Addr) (c : Nat) (ops : List S34) (w : World) (h : W < 1 ∨ 128 < W ∨ m < 1 ∨ 256 < m) :
 Calls Try.prog 5 #[.agg #[.int .i64 W, .int .i64 m], .slice A ops.length c] w fun e_ w' => e_ = .returned (.bool true) ∧ Below w.heap.size w w' := by
 have HN := Aside0.mk (fun w => tNew_no W m w h)
 have hc : (W < 1) ∨ (¬ W < 1 ∧ 128 < W) ∨ (¬ W < 1 ∧ ¬ 128 < W ∧ m < 1) ∨ (¬ W < 1 ∧ ¬ 128 < W ∧ ¬ m < 1 ∧ 256 < m) := by omega
 clear h
 have n0 := blk_cell (blk_new w (.cells #[.int .i64 W, .int .i64 m] 22 (0, 0))) 0
 have n1 := blk_cell (blk_new w (.cells #[.int .i64 W, .int .i64 m] 22 (0, 0))) 1
 simp only [List.getElem?_toArray, List.getElem?_cons_succ, List.getElem?_cons_zero] at n0 n1
 rcases hc with h1 | ⟨h1, h2⟩ | ⟨h1, h2, h3⟩ | ⟨h1, h2, h3, h4⟩
 ·have g1 : decide (W < 1) = true := decide_eq_true h1
  clear h1
  go_enter Try.func5, Try.ntmps5
  go_wp2_with (first | (go_at_call 16; with_reducible refine (HN.out _).mono ?_; rintro e_ w1 ⟨rfl, rfl⟩) | (go_at_call 17; with_reducible refine (tlives_calls _).mono ?_; rintro e_ w1 ⟨rfl, hb⟩; have HZ := Aside0.mk (below_step (below_alloc (Below.refl _ _) (.cells #[.int .i64 W, .int .i64 m] 22 (0, 0))) hb); clear hb))
  go_ret
  exact ⟨rfl, HZ.out⟩
 ·have g1 : decide (W < 1) = false := decide_eq_false h1
  have g2 : decide (128 < W) = true := decide_eq_true h2
  clear h1 h2
  go_enter Try.func5, Try.ntmps5
  go_wp2_with (first | (go_at_call 16; with_reducible refine (HN.out _).mono ?_; rintro e_ w1 ⟨rfl, rfl⟩) | (go_at_call 17; with_reducible refine (tlives_calls _).mono ?_; rintro e_ w1 ⟨rfl, hb⟩; have HZ := Aside0.mk (below_step (below_alloc (Below.refl _ _) (.cells #[.int .i64 W, .int .i64 m] 22 (0, 0))) hb); clear hb))
  go_ret
  exact ⟨rfl, HZ.out⟩
 ·have g1 : decide (W < 1) = false := decide_eq_false h1
  have g2 : decide (128 < W) = false := decide_eq_false h2
  have g3 : decide (m < 1) = true := decide_eq_true h3
  clear h1 h2 h3
  go_enter Try.func5, Try.ntmps5
  go_wp2_with (first | (go_at_call 16; with_reducible refine (HN.out _).mono ?_; rintro e_ w1 ⟨rfl, rfl⟩) | (go_at_call 17; with_reducible refine (tlives_calls _).mono ?_; rintro e_ w1 ⟨rfl, hb⟩; have HZ := Aside0.mk (below_step (below_alloc (Below.refl _ _) (.cells #[.int .i64 W, .int .i64 m] 22 (0, 0))) hb); clear hb))
  go_ret
  exact ⟨rfl, HZ.out⟩
 ·have g1 : decide (W < 1) = false := decide_eq_false h1
  have g2 : decide (128 < W) = false := decide_eq_false h2
  have g3 : decide (m < 1) = false := decide_eq_false h3
  have g4 : decide (256 < m) = true := decide_eq_true h4
  clear h1 h2 h3 h4
  go_enter Try.func5, Try.ntmps5
  go_wp2_with (first | (go_at_call 16; with_reducible refine (HN.out _).mono ?_; rintro e_ w1 ⟨rfl, rfl⟩) | (go_at_call 17; with_reducible refine (tlives_calls _).mono ?_; rintro e_ w1 ⟨rfl, hb⟩; have HZ := Aside0.mk (below_step (below_alloc (Below.refl _ _) (.cells #[.int .i64 W, .int .i64 m] 22 (0, 0))) hb); clear hb))
  go_ret
  exact ⟨rfl, HZ.out⟩
set_option maxHeartbeats 1000000 in
set_option maxRecDepth 100000 in
theorem TrieLists_many (W m : Int) (A : Option Addr) (c : Nat) (ops : List S34) (w : World) (h : 1 ≤ W ∧ W ≤ 128 ∧ 1 ≤ m ∧ m ≤ 256) (hl : 80 < ops.length) :
 Calls Try.prog 5 #[.agg #[.int .i64 W, .int .i64 m], .slice A ops.length c] w fun e_ w' => e_ = .returned (.bool true) ∧ Below w.heap.size w w' := by
 have HN := Aside0.mk (fun w => tNew_kt W m w h.1 h.2.1 h.2.2.1 h.2.2.2)
 have g1 : decide (W < 1) = false := decide_eq_false (by omega)
 have g2 : decide (128 < W) = false := decide_eq_false (by omega)
 have g3 : decide (m < 1) = false := decide_eq_false (by omega)
 have g4 : decide (256 < m) = false := decide_eq_false (by omega)
 have g5 : decide ((80 : Int) < (ops.length : Int)) = true := decide_eq_true (by omega)
 clear h hl
 obtain ⟨wb, hwb⟩ : ∃ wb, wb = w.alloc (.cells #[.int .i64 W, .int .i64 m] 22 (0, 0)) := ⟨_, rfl⟩
 have HBX := Aside0.mk (show wb.heap[w.heap.size]? = some (.cells #[.int .i64 W, .int .i64 m] 22 (0, 0)) from by rw [hwb]; exact blk_new w _)
 have HWB := Aside0.mk (show Below w.heap.size w wb from by rw [hwb]; exact below_alloc (Below.refl _ _) (.cells #[.int .i64 W, .int .i64 m] 22 (0, 0)))
 have hgs : wb.heap.size = w.heap.size + 1 := by rw [hwb]; simp
 have n0 := blk_cell (blk_new w (.cells #[.int .i64 W, .int .i64 m] 22 (0, 0))) 0
 have n1 := blk_cell (blk_new w (.cells #[.int .i64 W, .int .i64 m] 22 (0, 0))) 1
 simp only [List.getElem?_toArray, List.getElem?_cons_succ, List.getElem?_cons_zero] at n0 n1
 go_enter Try.func5, Try.ntmps5
 go_wp2_with (first | (go_at_call 16; with_reducible refine (HN.out _).mono ?_; rintro e_ w2 ⟨rfl, hk⟩; rw [← hwb] at hk; rw [hgs] at hk; have HK := Aside0.mk hk; clear hk n0 n1; have n0 := blk_cell (blk_below HBX.out HK.out.below) 0; have n1 := blk_cell (blk_below HBX.out HK.out.below) 1; simp only [List.getElem?_toArray, List.getElem?_cons_succ, List.getElem?_cons_zero] at n0 n1) | (go_at_call 17; with_reducible refine (tlives_calls _).mono ?_; rintro e_ w1 ⟨rfl, hb⟩; have HZ := Aside0.mk (below_step (HK.out.below) hb); clear hb))
 go_ret
 exact ⟨rfl, below_step HWB.out HZ.out⟩
set_option maxHeartbeats 1000000 in
set_option maxRecDepth 100000 in
theorem TrieLists_plays (W m : Int) (A : Option Addr) (c : Nat) (ops : List S34) (w : World) (Wn : Nat) (hWn : W = (Wn : Int)) (h : 1 ≤ W ∧ W ≤ 128 ∧ 1 ≤ m ∧ m ≤ 256) (hl : ops.length ≤ 80) (hC : Kd.C k34 w A ops.length ops) (hok : ∀ y ∈ ops, okV y.f3) :
 Calls Try.prog 5 #[.agg #[.int .i64 W, .int .i64 m], .slice A ops.length c] w fun e_ w' => e_ = .returned (.bool true) ∧ Below w.heap.size w w' := by
 have HN := Aside0.mk (fun w => tNew_kt W m w h.1 h.2.1 h.2.2.1 h.2.2.2)
 have HRUN := Aside0.mk (runQ_ok Wn m [] (SIt_nil Wn m (by omega)) ops hok)
 have HW1 := Aside0.mk (show 1 ≤ Wn from by omega)
 have HW2 := Aside0.mk (show Wn ≤ 128 from by omega)
 have HM := Aside0.mk h.2.2.2
 have g1 : decide (W < 1) = false := decide_eq_false (by omega)
 have g2 : decide (128 < W) = false := decide_eq_false (by omega)
 have g3 : decide (m < 1) = false := decide_eq_false (by omega)
 have g4 : decide (256 < m) = false := decide_eq_false (by omega)
 have g5 : decide ((80 : Int) < (ops.length : Int)) = false := decide_eq_false (by omega)
 have HWN := Aside0.mk hWn
 obtain ⟨wb, hwb⟩ : ∃ wb, wb = w.alloc (.cells #[.int .i64 W, .int .i64 m] 22 (0, 0)) := ⟨_, rfl⟩
 have HBX := Aside0.mk (show wb.heap[w.heap.size]? = some (.cells #[.int .i64 W, .int .i64 m] 22 (0, 0)) from by rw [hwb]; exact blk_new w _)
 have HWB := Aside0.mk (show Below w.heap.size w wb from by rw [hwb]; exact below_alloc (Below.refl _ _) (.cells #[.int .i64 W, .int .i64 m] 22 (0, 0)))
 have hgs : wb.heap.size = w.heap.size + 1 := by rw [hwb]; simp
 have HC := Aside0.mk (show Kd.C k34 wb A ops.length ops from by rw [hwb]; exact Kd.C_below hC (below_alloc (Below.refl _ _) _))
 have HLN := Aside0.mk hl
 have HOKS := Aside0.mk hok
 clear h hl hC hok hWn
 have n0 := blk_cell (blk_new w (.cells #[.int .i64 W, .int .i64 m] 22 (0, 0))) 0
 have n1 := blk_cell (blk_new w (.cells #[.int .i64 W, .int .i64 m] 22 (0, 0))) 1
 simp only [List.getElem?_toArray, List.getElem?_cons_succ, List.getElem?_cons_zero] at n0 n1
 go_enter Try.func5, Try.ntmps5
 go_wp2_with (first | (go_at_call 16; with_reducible refine (HN.out _).mono ?_; rintro e_ w2 ⟨rfl, hk⟩; rw [← hwb] at hk; rw [hgs] at hk; have HK := Aside0.mk hk; clear hk n0 n1; have n0 := blk_cell (blk_below HBX.out HK.out.below) 0; have n1 := blk_cell (blk_below HBX.out HK.out.below) 1; simp only [List.getElem?_toArray, List.getElem?_cons_succ, List.getElem?_cons_zero] at n0 n1))
 have HS0 := Aside0.mk (show STt wb w2 (w.heap.size + 1 + 1) (newM (w.heap.size + 1)) (.slice none 0 0) (runQ Wn m [] (ops.take 0)) (runQ Wn m [] (ops.take 0)) Wn m from by rw [show runQ Wn m [] (ops.take 0) = [] from by rw [List.take_zero]; rfl]; have hk := HK.out; rw [HWN.out] at hk; exact STt_new hk)
 go_loopw [6, 7] (fun u6 u7 w' => ∃ (i : Nat) (M : NM), i ≤ ops.length ∧ u7 = .int .i64 i ∧ Aside0 (STt wb w' (w.heap.size + 1 + 1) M u6 (runQ Wn m [] (ops.take i)) (runQ Wn m [] (ops.take i)) Wn m)) (fun _ u7 _ => ops.length - (intOf u7).toNat)
 case atStart => exact ⟨0, _, Nat.zero_le _, rfl, HS0⟩
 case round =>
  obtain ⟨i, M, hi, rfl, HT⟩ := hrel
  clear n0 n1 HK HS0
  by_cases hlt : i < ops.length
  ·have hl100 := HLN.out
   have hi0 : 0 ≤ (i : Int) := by omega
   have hil : (i : Int) < (ops.length : Int) := by omega
   obtain ⟨ad, hA, _⟩ := at_T34 HC.out (i : Int) hi0 hil
   subst hA
   have hy : rd_T34 ops (i : Int) = ops[i] := by simp [rd_T34, List.getD_eq_getElem?_getD, hlt]
   have HR1 := Aside0.mk (HRUN.out i hi)
   have HRS := Aside0.mk (runQ_take Wn m [] ops i hlt)
   obtain ⟨y, hyy⟩ : ∃ y, y = ops[i] := ⟨_, rfl⟩
   rw [← hyy] at hy HRS
   have HOK := Aside0.mk (show okV y.f3 from by rw [hyy]; exact HOKS.out _ (List.getElem_mem hlt))
   have HCY := Aside0.mk (show ∀ w', Below wb.heap.size wb w' → w'.cell? (ad.add (i * 6)) = some (.int .i64 y.f0) ∧ w'.cell? ⟨(ad.add (i * 6)).block, (ad.add (i * 6)).off + 1, none⟩ = some (.int .i64 y.f1) ∧ w'.cell? ⟨(ad.add (i * 6)).block, (ad.add (i * 6)).off + 2, none⟩ = some (.int .i64 y.f2) ∧ w'.cell? ⟨(ad.add (i * 6)).block, (ad.add (i * 6)).off + 3, none⟩ = some (.int .i64 y.f3.f0) ∧ w'.cell? ⟨(ad.add (i * 6)).block, (ad.add (i * 6)).off + 4, none⟩ = some (.int .u64 y.f3.f1) ∧ w'.cell? ⟨(ad.add (i * 6)).block, (ad.add (i * 6)).off + 5, none⟩ = some (.int .u64 y.f3.f2) from fun w' hb => by
    obtain ⟨ad2, e2, h2⟩ := at_T34 (Kd.C_below HC.out hb) (i : Int) hi0 hil
    injection e2 with e2
    subst e2
    rw [Int.toNat_natCast, hy] at h2
    exact h2)
   clear hyy hy
   have HST7 := Aside0.mk (fun w5 (ht : STt wb w5 (w.heap.size + 1 + 1) M u6 (runQ Wn m [] (ops.take i)) (runQ Wn m [] (ops.take i)) Wn m) => (show Calls Try.prog 18 #[.pointer (some ⟨(w.heap.size + 1 + 1), 0, none⟩), u6, .agg #[.int .i64 W, .int .i64 m], .agg #[.int .i64 y.f0, .int .i64 y.f1, .int .i64 y.f2, .int .i64 y.f3.f0, .int .u64 y.f3.f1, .int .u64 y.f3.f2]] w5 (fun e_ w' => ∃ M1 vx1, e_ = .returned (.tuple #[vx1, .bool true]) ∧ STt wb w' (w.heap.size + 1 + 1) M1 vx1 (stepQ Wn m (runQ Wn m [] (ops.take i)) y.f0 ⟨y.f3, y.f1, y.f2⟩) (stepQ Wn m (runQ Wn m [] (ops.take i)) y.f0 ⟨y.f3, y.f1, y.f2⟩) Wn m) from by
    rw [HWN.out]
    refine (tstep_two wb w5 (w.heap.size + 1 + 1) M u6 (runQ Wn m [] (ops.take i)) (runQ Wn m [] (ops.take i)) Wn m y.f0 y.f1 y.f2 y.f3 ht HR1.out HR1.out HW1.out HW2.out HM.out HOK.out).mono ?_
    rintro e_ w' ⟨M1, vx1, bb, rfl, hbb, ht, _⟩
    obtain rfl := hbb rfl
    exact ⟨M1, vx1, rfl, ht⟩))
   go_wp2
   refine start_ (n := 12) (S := fun w' => Below wb.heap.size wb w') (ds := []) #[false, false, false, false, false, false, false, false, false, false, false, false] (by kernel_rfl) rfl rfl (below_drew1 HT.out.kt.below) (fun hHeld => ?_)
   have HT2 := Aside0.mk (HT.out.step (below_drew1 (Below.refl _ _)))
   clear HT
   generalize World.drew _ = w5 at HT2 hHeld ⊢
   refine pl_ [0, 1, 3, 4, 5] ?_
   iterate 5 refine pP rfl rfl (by kernel_rfl) (fun _ _ _ h => h) (by rfl) (by intro w'; go_simp; with_reducible rfl) (by simp only [Act.put, z1, z2, z3, i64_w, i32_w]; rfl) ?_
   refine pl0 ?_
   refine take_ (i := 2) (N := some 56) (v := ?_) (a' := ?_) #[true, true, true, true, true, true, false, false, false, false, false, false] rfl rfl (by kernel_rfl) (fun _ _ _ h => h) (Or.inl ⟨by rfl, ?_⟩) hHeld ?_ ?_
   rotate_left
   ·intro w' hs
    have m0 := blk_cell (blk_below HBX.out hs) 0
    have m1 := blk_cell (blk_below HBX.out hs) 1
    simp only [List.getElem?_toArray, List.getElem?_cons_succ, List.getElem?_cons_zero] at m0 m1
    go_simp
    with_reducible rfl
   rotate_left
   ·simp only [Act.put, List.setIfInBounds_toArray, List.set_cons_zero, List.set_cons_succ, i64_w, i32_w]
    rfl
   refine take_ (i := 6) (N := some 60) (v := ?_) (a' := ?_) #[true, true, true, true, true, true, true, false, false, false, false, false] rfl rfl (by kernel_rfl) (fun _ _ _ h => h) (Or.inl ⟨by rfl, ?_⟩) hHeld ?_ ?_
   rotate_left
   ·intro w' hs
    obtain ⟨s0, s1, s2, s3, s4, s5⟩ := HCY.out w' hs
    go_simp
    with_reducible rfl
   rotate_left
   ·simp only [Act.put, List.setIfInBounds_toArray, List.set_cons_zero, List.set_cons_succ, i64_w, i32_w]
    rfl
   refine one_ (i := 7) (N := some 61) #[true, true, true, true, true, true, true, true, false, false, false, false] rfl rfl (by kernel_rfl) (by decide) (fun K hK => ?_)
   refine goes_ Try.func18 (by kernel_rfl) rfl #[.pointer (some ⟨(w.heap.size + 1 + 1), 0, none⟩), u6, .agg #[.int .i64 W, .int .i64 m], .agg #[.int .i64 y.f0, .int .i64 y.f1, .int .i64 y.f2, .int .i64 y.f3.f0, .int .u64 y.f3.f1, .int .u64 y.f3.f2]] (by rfl) rfl rfl (by simp only [List.map_toArray, List.map_cons, List.map_nil]; first | rfl | (go_simp; done)) ?_
   with_reducible refine ((HST7.out _ HT2.out)).mono ?_
   rintro e_ w1 ⟨M1, vx1, rfl, hst⟩
   refine ⟨_, rfl, ?_⟩
   rw [show stepQ Wn m (runQ Wn m [] (ops.take i)) y.f0 ⟨y.f3, y.f1, y.f2⟩ = runQ Wn m [] (ops.take (i + 1)) from HRS.out.symm] at hst
   obtain ⟨Ax, cx, rfl⟩ := Kd.R_slice hst.rx
   have HT := Aside0.mk hst
   clear hst HT2
   refine hK.out _ _ HT.out.kt.below (fun hHeld => ?_)
   clear hK K
   refine norm_ (a' := ?_) ?_ ?_
   rotate_left
   ·show Act.put _ (some 61) _ = _
    simp only [Act.put, List.setIfInBounds_toArray, List.set_cons_zero, List.set_cons_succ, i64_w, i32_w]
    rfl
   refine pl_ [8, 9, 10, 11] ?_
   iterate 4 refine pP rfl rfl (by kernel_rfl) (fun _ _ _ h => h) (by rfl) (by intro w'; go_simp; with_reducible rfl) (by simp only [Act.put, z1, z2, z3, i64_w, i32_w]; rfl) ?_
   refine pl0 ?_
   refine done_ (by kernel_rfl) ?_
   go_wp2
   go_roundw
   case measure => first | (simp [intOf]; done) | (simp [intOf]; omega)
   case rel => exact ⟨i + 1, M1, hlt, by go_num, HT⟩
  ·have hie : i = ops.length := by omega
   have HR1 := HRUN.out i hi
   obtain ⟨p, hp⟩ : ∃ p, p = runQ Wn m [] (ops.take i) := ⟨_, rfl⟩
   rw [← hp] at HT HR1
   clear hp
   obtain ⟨Ax, cx, rfl⟩ := Kd.R_slice HT.out.rx
   obtain ⟨l, hll⟩ : ∃ l, l = p.map (toTI Wn) := ⟨_, rfl⟩
   have had : apartT l := by rw [hll]; exact HR1.apart
   have hf : fitT Wn l := by rw [hll]; exact toTI_fit HR1.ok
   have hpl : p.length ≤ 256 := by have := HR1.le; have := HM.out; omega
   have hlp : l.length = p.length := by rw [hll, List.length_map]
   have HPL := Aside0.mk hpl
   have HSH := Aside0.mk (show SH M l from by rw [hll]; exact HT.out.sh)
   obtain ⟨q, hq⟩ : ∃ q, q = walkT l (Wn + 1) 0 0 := ⟨_, rfl⟩
   have hql : q.length = p.length := by rw [hq, walk_length had hf, hlp]
   have hfq : ∀ y ∈ q, y.len ≤ Wn ∧ y.key < 2 ^ y.len := fun y hy => hf y ((mem_list had hf y).1 (by rw [← hq]; exact hy))
   have HFD := Aside0.mk (show ∀ y ∈ q, ∃ (k : Nat) (hk : k < p.length), shunterref20_Find.f 1000 p (outT Wn y).f0.f0 (outT Wn y).f0.f1 (outT Wn y).f0.f2 (outT Wn y).f1 = some (k : Int) ∧ p[k].f2 = (outT Wn y).f2 from fun y hy => by
    obtain ⟨i1, i2⟩ := item_ok HW1.out HW2.out (hfq y hy) 0
    have hyl : y ∈ l := (mem_list had hf y).1 (by rw [← hq]; exact hy)
    have hfi := ref20_Find_eq Wn 1000 p (by omega) (by omega) HR1.ok _ i1
    have han : p.any (fun z => sameP (toTI Wn z) (toTI Wn ⟨(outT Wn y).f0, (y.len : Int), 0⟩)) = true := by
     rw [hll] at hyl
     obtain ⟨z, hz, hzy⟩ := List.mem_map.1 hyl
     rw [List.any_eq_true]
     refine ⟨z, hz, ?_⟩
     rw [hzy, i2]
     unfold sameP
     simp
    obtain ⟨k, hk, e1, e2⟩ := fidx_pos han
    refine ⟨k, hk, hfi.trans (congrArg some e1), ?_⟩
    rw [i2] at e2
    unfold sameP at e2
    simp only [Bool.and_eq_true, beq_iff_eq] at e2
    have hm1 : toTI Wn p[k] ∈ l := by rw [hll]; exact List.mem_map.2 ⟨_, List.getElem_mem hk, rfl⟩
    have l1 := lookT_mem had hm1
    have l2 := lookT_mem had hyl
    rw [e2.1, e2.2, l2] at l1
    injection l1 with _ l1
    exact l1.symm)
   have HLS := Aside0.mk (show ∀ (a b : TI), a ∈ q → b ∈ q → ltT a b → shunterref20_Less.f 1000 (outT Wn a).f0.f0 (outT Wn a).f0.f1 (outT Wn a).f0.f2 (outT Wn a).f1 0 (outT Wn b).f0.f0 (outT Wn b).f0.f1 (outT Wn b).f0.f2 (outT Wn b).f1 0 = some true from fun a b ha hb hab => by
    obtain ⟨i1, i2⟩ := item_ok HW1.out HW2.out (hfq a ha) 0
    obtain ⟨j1, j2⟩ := item_ok HW1.out HW2.out (hfq b hb) 0
    exact ref20_Less_eq Wn HW2.out _ _ i1 j1 (by rw [i2, j2]; exact hab) 1000 (by decide))
   have HSRT := Aside0.mk (show q.Pairwise ltT from by rw [hq]; exact walk_pairwise _ _ _ _)
   obtain ⟨kN, hkN⟩ := ref20_Nodes_eq Wn p HR1.ok HW2.out (by omega)
   rw [← hll] at hkN
   have HLI := Aside0.mk (fun w1 (h : KT wb w1 (w.heap.size + 1 + 1) M (Wn : Int) m (p.length : Int)) => List_calls wb w1 (w.heap.size + 1 + 1) M Wn m (p.length : Int) l hf HW1.out HW2.out HSH.out h (by rw [← hq]; omega))
   rw [← hq] at HLI
   have HND := Aside0.mk (fun w1 (h : KT wb w1 (w.heap.size + 1 + 1) M (Wn : Int) m (p.length : Int)) => tNodes_calls wb w1 (w.heap.size + 1 + 1) M Wn m (p.length : Int) l h HSH.out hf (by omega) HW2.out)
   generalize countT l (Wn + 1) 0 0 = nn at hkN HND
   have HKN := Aside0.mk hkN
   have HQL := Aside0.mk hql
   clear hkN hll had hf hpl hq hfq HR1 HSH hlp
   go_wp2_with (first | (go_at_call 22; with_reducible refine (HLI.out _ HT.out.kt).mono ?_; rintro e_ w3 ⟨v5, rfl, hr, hb⟩; obtain ⟨Ag, cg, e0⟩ := Kd.R_slice hr; rw [List.length_map] at e0; subst e0; rw [hql]; have HG := Aside0.mk hr; have HT1 := Aside0.mk (HT.out.step hb); clear hr hb) | (go_at_call 24; with_reducible refine (HND.out _ HT1.out.kt).mono ?_; rintro e_ w4 ⟨rfl, hb⟩; have HG1 := Aside0.mk (Kd.R_below HG.out hb); have HT2 := Aside0.mk (HT1.out.step hb); clear hb HG) | (go_at_call 25; with_reducible refine (shunterref20_Nodes.calls kN Ax cx p _ _ (Kd.R_reads' HT2.out.rx).2.2 (Kd.R_reads' HT2.out.rx).2.1 HKN.out).mono ?_; rintro e_ w5 ⟨rfl, hb⟩; have HG2 := Aside0.mk (Kd.R_below HG1.out hb); have HT3 := Aside0.mk (HT2.out.step hb); clear hb HG1) | (fail_if_success skip))
   have HB6 := Aside0.mk HT3.out.kt.below
   have HX := Aside0.mk (Kd.R_reads' HT3.out.rx)
   clear HT HT1 HT2 HT3 HLI HND HC HBX
   obtain ⟨w6, hw6⟩ : ∃ w6, w6 = w5 := ⟨_, rfl⟩
   rw [← hw6] at HB6 HG2 HX ⊢
   clear hw6
   go_loopw [9, 10] (fun u9 u10 w' => ∃ j : Nat, j ≤ p.length ∧ u9 = .int .i64 j ∧ Aside0 (Below w6.heap.size w6 w')) (fun u9 _ _ => p.length - (intOf u9).toNat)
   case atStart => exact ⟨0, Nat.zero_le _, rfl, ⟨Below.refl _ _⟩⟩
   case round =>
    obtain ⟨j, hj, rfl, HB7⟩ := hrel
    by_cases hjt : j < p.length
    ·have hpl := HPL.out
     have hj0 : 0 ≤ (j : Int) := by omega
     have hjl : (j : Int) < (p.length : Int) := by omega
     have hjq : j < q.length := by omega
     obtain ⟨d1, hA1, _⟩ := at_T44 (Kd.R_reads' HG2.out).2.2 (j : Int) hj0 (by rw [List.length_map]; omega)
     subst hA1
     obtain ⟨y, hy⟩ : ∃ y, y = outT Wn q[j] := ⟨_, rfl⟩
     have HC1 := Aside0.mk (show ∀ w', Below w6.heap.size w6 w' → w'.cell? (d1.add (j * 5)) = some (.int .i64 y.f0.f0) ∧ w'.cell? ⟨(d1.add (j * 5)).block, (d1.add (j * 5)).off + 1, none⟩ = some (.int .u64 y.f0.f1) ∧ w'.cell? ⟨(d1.add (j * 5)).block, (d1.add (j * 5)).off + 2, none⟩ = some (.int .u64 y.f0.f2) ∧ w'.cell? ⟨(d1.add (j * 5)).block, (d1.add (j * 5)).off + 3, none⟩ = some (.int .i64 y.f1) ∧ w'.cell? ⟨(d1.add (j * 5)).block, (d1.add (j * 5)).off + 4, none⟩ = some (.int .i64 y.f2) from fun w' hb => by
      obtain ⟨ad2, e2, h2⟩ := at_T44 (Kd.C_below (Kd.R_reads' HG2.out).2.2 hb) (j : Int) (by omega) (by rw [List.length_map]; omega)
      injection e2 with e2
      subst e2
      rw [Int.toNat_natCast, show rd_T44 (q.map (outT Wn)) (j : Int) = y from by rw [rd44 _ j (by rw [List.length_map]; omega), hy, List.getElem_map]] at h2
      exact h2)
     have HLP := Aside0.mk (fun (i : Nat) (hi : i < j) => HLS.out (q[i]'(by omega)) q[j] (List.getElem_mem _) (List.getElem_mem hjq) (List.pairwise_iff_getElem.1 HSRT.out i j (by omega) hjq hi))
     rw [← hy] at HLP
     obtain ⟨k, hk, hfd, hfn⟩ := HFD.out q[j] (List.getElem_mem hjq)
     rw [← hy] at hfd hfn
     have HFI := Aside0.mk hfd
     have hk0 : 0 ≤ (k : Int) := by omega
     have hkl : (k : Int) < (p.length : Int) := by omega
     have hkz : decide ((k : Int) < 0) = false := decide_eq_false (by omega)
     obtain ⟨d2, hA2, _⟩ := at_T45 HX.out.2.2 (k : Int) hk0 hkl
     subst hA2
     have HC2 := Aside0.mk (show ∀ w', Below w6.heap.size w6 w' → w'.cell? ⟨(d2.add (k * 5)).block, (d2.add (k * 5)).off + 4, none⟩ = some (.int .i64 y.f2) from fun w' hb => by
      obtain ⟨ad2, e2, h2⟩ := at_T45 (Kd.C_below HX.out.2.2 hb) (k : Int) hk0 hkl
      injection e2 with e2
      subst e2
      rw [Int.toNat_natCast, rd45 p k hk, hfn] at h2
      exact h2.2.2.2.2)
     clear hfd hfn hk
     go_wp2
     refine start_ (n := 13) (S := fun w' => Below w6.heap.size w6 w') (ds := []) #[false, false, false, false, false, false, false, false, false, false, false, false, false] (by kernel_rfl) rfl rfl (below_drew1 HB7.out) (fun hHeld => ?_)
     clear HB7
     generalize World.drew _ = w8 at hHeld ⊢
     refine pl_ [0, 1, 2, 3, 4, 6, 7, 8, 9] ?_
     iterate 9 refine pP rfl rfl (by kernel_rfl) (fun _ _ _ h => h) (by rfl) (by intro w'; go_simp; with_reducible rfl) (by simp only [Act.put, z1, z2, z3, i64_w, i32_w]; rfl) ?_
     refine pl0 ?_
     refine take_ (i := 5) (N := some 89) (v := ?_) (a' := ?_) #[true, true, true, true, true, true, true, true, true, true, false, false, false] rfl rfl (by kernel_rfl) (fun _ _ _ h => h) (Or.inl ⟨by rfl, ?_⟩) hHeld ?_ ?_
     rotate_left
     ·intro w' hs
      obtain ⟨s0, s1, s2, s3, s4⟩ := HC1.out w' hs
      go_simp
      with_reducible rfl
     rotate_left
     ·simp only [Act.put, List.setIfInBounds_toArray, List.set_cons_zero, List.set_cons_succ, i64_w, i32_w]
      rfl
     refine take_ (i := 10) (N := some 94) (v := ?_) (a' := ?_) #[true, true, true, true, true, true, true, true, true, true, true, false, false] rfl rfl (by kernel_rfl) (fun _ _ _ h => h) (Or.inl ⟨by rfl, ?_⟩) hHeld ?_ ?_
     rotate_left
     ·intro w' hs
      obtain ⟨s0, s1, s2, s3, s4⟩ := HC1.out w' hs
      go_simp
      with_reducible rfl
     rotate_left
     ·simp only [Act.put, List.setIfInBounds_toArray, List.set_cons_zero, List.set_cons_succ, i64_w, i32_w]
      rfl
     have HH := Aside0.mk hHeld
     clear hHeld
     refine one_ (i := 11) (N := some 95) #[true, true, true, true, true, true, true, true, true, true, true, true, false] rfl rfl (by kernel_rfl) (by decide) (fun K hK => ?_)
     refine goes_ Try.func26 (by kernel_rfl) rfl #[.slice (some d2) p.length cx, .agg #[.int .i64 y.f0.f0, .int .u64 y.f0.f1, .int .u64 y.f0.f2], .int .i64 y.f1] (by rfl) rfl rfl (by simp only [List.map_toArray, List.map_cons, List.map_nil]; first | rfl | (go_simp; done)) ?_
     with_reducible refine (shunterref20_Find.calls 1000 (some d2) cx p y.f0.f0 y.f0.f1 y.f0.f2 y.f1 (k : Int) _ (Kd.C_below HX.out.2.2 HH.out) HX.out.2.1 HFI.out).mono ?_
     rintro e_ w1 ⟨rfl, hb⟩
     refine ⟨_, rfl, ?_⟩
     have HB8 := Aside0.mk (below_step HH.out hb)
     clear hb HH
     refine hK.out _ _ HB8.out (fun hHeld => ?_)
     clear hK K
     refine norm_ (a' := ?_) ?_ ?_
     rotate_left
     ·show Act.put _ (some 95) _ = _
      simp only [Act.put, List.setIfInBounds_toArray, List.set_cons_zero, List.set_cons_succ, i64_w, i32_w]
      rfl
     refine pl_ [12] ?_
     refine pP rfl rfl (by kernel_rfl) (fun _ _ _ h => h) (by rfl) (by intro w'; go_simp; with_reducible rfl) (by simp only [Act.put, z1, z2, z3, i64_w, i32_w]; rfl) ?_
     refine pl0 ?_
     refine done_ (by kernel_rfl) ?_
     clear hHeld
     go_wp2
     refine start_ (n := 15) (S := fun w' => Below w6.heap.size w6 w') (ds := []) #[false, false, false, false, false, false, false, false, false, false, false, false, false, false, false] (by kernel_rfl) rfl rfl (below_drew1 HB8.out) (fun hHeld => ?_)
     clear HB8
     generalize World.drew _ = w9 at hHeld ⊢
     refine pl_ [0, 1, 2, 3, 4, 5, 6, 8, 9, 10, 11] ?_
     iterate 11 refine pP rfl rfl (by kernel_rfl) (fun _ _ _ h => h) (by rfl) (by intro w'; go_simp; with_reducible rfl) (by simp only [Act.put, z1, z2, z3, i64_w, i32_w]; rfl) ?_
     refine pl0 ?_
     refine take_ (i := 7) (N := some 103) (v := ?_) (a' := ?_) #[true, true, true, true, true, true, true, true, true, true, true, true, false, false, false] rfl rfl (by kernel_rfl) (fun _ _ _ h => h) (Or.inl ⟨by rfl, ?_⟩) hHeld ?_ ?_
     rotate_left
     ·intro w' hs
      have s4 := HC2.out w' hs
      go_simp
      with_reducible rfl
     rotate_left
     ·simp only [Act.put, List.setIfInBounds_toArray, List.set_cons_zero, List.set_cons_succ, i64_w, i32_w]
      rfl
     refine take_ (i := 12) (N := some 108) (v := ?_) (a' := ?_) #[true, true, true, true, true, true, true, true, true, true, true, true, true, false, false] rfl rfl (by kernel_rfl) (fun _ _ _ h => h) (Or.inl ⟨by rfl, ?_⟩) hHeld ?_ ?_
     rotate_left
     ·intro w' hs
      obtain ⟨s0, s1, s2, s3, s4⟩ := HC1.out w' hs
      go_simp
      with_reducible rfl
     rotate_left
     ·simp only [Act.put, List.setIfInBounds_toArray, List.set_cons_zero, List.set_cons_succ, i64_w, i32_w]
      rfl
     refine pl_ [13, 14] ?_
     iterate 2 refine pP rfl rfl (by kernel_rfl) (fun _ _ _ h => h) (by rfl) (by intro w'; go_simp; with_reducible rfl) (by simp only [Act.put, z1, z2, z3, i64_w, i32_w]; rfl) ?_
     refine pl0 ?_
     refine done_ (by kernel_rfl) ?_
     have HB9 := Aside0.mk hHeld
     clear hHeld hkz
     by_cases hjz : j = 0
     ·have hgt : decide (0 < (j : Int)) = false := decide_eq_false (by omega)
      have hgt2 : decide (0 < j) = false := decide_eq_false (by omega)
      clear hjz
      go_wp2
      refine start_ (n := 30) (S := fun w' => Below w6.heap.size w6 w') (ds := []) #[false, false, false, false, false, false, false, false, false, false, false, false, false, false, false, false, false, false, false, false, false, false, false, false, false, false, false, false, false, false] (by kernel_rfl) rfl rfl (below_drew1 HB9.out) (fun hHeld => ?_)
      clear HB9
      generalize World.drew _ = w10 at hHeld ⊢
      refine pl_ [0, 1, 2, 3, 4, 5, 6, 7, 8, 9, 10, 11, 12, 13, 14, 15, 16, 17, 18, 19, 20, 21, 22, 23, 24, 25, 26] ?_
      iterate 3 refine pP rfl rfl (by kernel_rfl) (fun _ _ _ h => h) (by rfl) (by intro w'; go_simp; with_reducible rfl) (by simp only [Act.put, z1, z2, z3, i64_w, i32_w]; rfl) ?_
      iterate 24 refine pU rfl rfl (by kernel_rfl) (fun _ _ _ h => h) (by rfl) (by simp only [Act.put, z1, z2, z3, i64_w, i32_w]; rfl) ?_
      refine pl0 ?_
      refine one_ (i := 27) (N := some 138) #[true, true, true, true, true, true, true, true, true, true, true, true, true, true, true, true, true, true, true, true, true, true, true, true, true, true, true, true, false, false] rfl rfl (by kernel_rfl) (by decide) (fun K hK => ?_)
      refine skipW (by rfl) ?_
      refine hK.out _ _ hHeld (fun hHeld => ?_)
      clear hK K
      refine norm_ (a' := ?_) ?_ ?_
      rotate_left
      ·show Act.put _ (some 138) _ = _
       simp only [Act.put, List.setIfInBounds_toArray, List.set_cons_zero, List.set_cons_succ, i64_w, i32_w]
       rfl
      refine pl_ [28, 29] ?_
      refine pU rfl rfl (by kernel_rfl) (fun _ _ _ h => h) (by rfl) (by simp only [Act.put, z1, z2, z3, i64_w, i32_w]; rfl) ?_
      refine pP rfl rfl (by kernel_rfl) (fun _ _ _ h => h) (by rfl) (by intro w'; go_simp; with_reducible rfl) (by simp only [Act.put, z1, z2, z3, i64_w, i32_w]; rfl) ?_
      refine pl0 ?_
      have HBC := Aside0.mk hHeld
      clear hHeld
      refine done_ (by kernel_rfl) ?_
      go_wp2
      go_roundw
      case measure => first | (simp [intOf]; done) | (simp [intOf]; omega)
      case rel => exact ⟨j + 1, hjt, by go_num, HBC⟩
     ·obtain ⟨i2, hp2⟩ : ∃ i2, j = i2 + 1 := ⟨j - 1, by omega⟩
      have hpj : i2 < j := by omega
      have hpq : i2 < q.length := by omega
      obtain ⟨z, hz⟩ : ∃ z, z = outT Wn q[i2] := ⟨_, rfl⟩
      have HC3 := Aside0.mk (show ∀ w', Below w6.heap.size w6 w' → w'.cell? (d1.add (i2 * 5)) = some (.int .i64 z.f0.f0) ∧ w'.cell? ⟨(d1.add (i2 * 5)).block, (d1.add (i2 * 5)).off + 1, none⟩ = some (.int .u64 z.f0.f1) ∧ w'.cell? ⟨(d1.add (i2 * 5)).block, (d1.add (i2 * 5)).off + 2, none⟩ = some (.int .u64 z.f0.f2) ∧ w'.cell? ⟨(d1.add (i2 * 5)).block, (d1.add (i2 * 5)).off + 3, none⟩ = some (.int .i64 z.f1) ∧ w'.cell? ⟨(d1.add (i2 * 5)).block, (d1.add (i2 * 5)).off + 4, none⟩ = some (.int .i64 z.f2) from fun w' hb => by
       obtain ⟨ad2, e2, h2⟩ := at_T44 (Kd.C_below (Kd.R_reads' HG2.out).2.2 hb) (i2 : Int) (by omega) (by rw [List.length_map]; omega)
       injection e2 with e2
       subst e2
       rw [Int.toNat_natCast, show rd_T44 (q.map (outT Wn)) (i2 : Int) = z from by rw [rd44 _ i2 (by rw [List.length_map]; omega), hz, List.getElem_map]] at h2
       exact h2)
      have hls := HLP.out i2 hpj
      rw [← hz] at hls
      have HLF := Aside0.mk hls
      have hw1 : wrap64 ((j : Int) - 1) = (i2 : Int) := by rw [hp2]; unfold wrap64; omega
      have hp0 : 0 ≤ (i2 : Int) := by omega
      have hpx : (i2 : Int) < (p.length : Int) := by omega
      have hgt : decide (0 < (j : Int)) = true := decide_eq_true (by omega)
      have hgt2 : decide (0 < j) = true := decide_eq_true (by omega)
      clear hz hls hp2 hjz
      go_wp2
      refine start_ (n := 30) (S := fun w' => Below w6.heap.size w6 w') (ds := []) #[false, false, false, false, false, false, false, false, false, false, false, false, false, false, false, false, false, false, false, false, false, false, false, false, false, false, false, false, false, false] (by kernel_rfl) rfl rfl (below_drew1 HB9.out) (fun hHeld => ?_)
      clear HB9
      generalize World.drew _ = w10 at hHeld ⊢
      refine pl_ [0, 1, 2, 3, 4, 5, 6, 7, 9, 10, 11, 12, 13, 16, 17, 18, 19, 21, 22, 23, 24] ?_
      iterate 21 refine pP rfl rfl (by kernel_rfl) (fun _ _ _ h => h) (by rfl) (by intro w'; go_simp; with_reducible rfl) (by simp only [Act.put, z1, z2, z3, i64_w, i32_w]; rfl) ?_
      refine pl0 ?_
      refine take_ (i := 8) (N := some 119) (v := ?_) (a' := ?_) #[true, true, true, true, true, true, true, true, true, true, true, true, true, true, false, false, true, true, true, true, false, true, true, true, true, false, false, false, false, false] rfl rfl (by kernel_rfl) (fun _ _ _ h => h) (Or.inl ⟨by rfl, ?_⟩) hHeld ?_ ?_
      rotate_left
      ·intro w' hs
       obtain ⟨s0, s1, s2, s3, s4⟩ := HC3.out w' hs
       go_simp
       with_reducible rfl
      rotate_left
      ·simp only [Act.put, List.setIfInBounds_toArray, List.set_cons_zero, List.set_cons_succ, i64_w, i32_w]
       rfl
      refine take_ (i := 14) (N := some 125) (v := ?_) (a' := ?_) #[true, true, true, true, true, true, true, true, true, true, true, true, true, true, true, false, true, true, true, true, false, true, true, true, true, false, false, false, false, false] rfl rfl (by kernel_rfl) (fun _ _ _ h => h) (Or.inl ⟨by rfl, ?_⟩) hHeld ?_ ?_
      rotate_left
      ·intro w' hs
       obtain ⟨s0, s1, s2, s3, s4⟩ := HC3.out w' hs
       go_simp
       with_reducible rfl
      rotate_left
      ·simp only [Act.put, List.setIfInBounds_toArray, List.set_cons_zero, List.set_cons_succ, i64_w, i32_w]
       rfl
      refine take_ (i := 20) (N := some 131) (v := ?_) (a' := ?_) #[true, true, true, true, true, true, true, true, true, true, true, true, true, true, true, false, true, true, true, true, true, true, true, true, true, false, false, false, false, false] rfl rfl (by kernel_rfl) (fun _ _ _ h => h) (Or.inl ⟨by rfl, ?_⟩) hHeld ?_ ?_
      rotate_left
      ·intro w' hs
       obtain ⟨s0, s1, s2, s3, s4⟩ := HC1.out w' hs
       go_simp
       with_reducible rfl
      rotate_left
      ·simp only [Act.put, List.setIfInBounds_toArray, List.set_cons_zero, List.set_cons_succ, i64_w, i32_w]
       rfl
      refine take_ (i := 25) (N := some 136) (v := ?_) (a' := ?_) #[true, true, true, true, true, true, true, true, true, true, true, true, true, true, true, false, true, true, true, true, true, true, true, true, true, true, false, false, false, false] rfl rfl (by kernel_rfl) (fun _ _ _ h => h) (Or.inl ⟨by rfl, ?_⟩) hHeld ?_ ?_
      rotate_left
      ·intro w' hs
       obtain ⟨s0, s1, s2, s3, s4⟩ := HC1.out w' hs
       go_simp
       with_reducible rfl
      rotate_left
      ·simp only [Act.put, List.setIfInBounds_toArray, List.set_cons_zero, List.set_cons_succ, i64_w, i32_w]
       rfl
      refine pl_ [15, 26] ?_
      iterate 2 refine pP rfl rfl (by kernel_rfl) (fun _ _ _ h => h) (by rfl) (by intro w'; go_simp; with_reducible rfl) (by simp only [Act.put, z1, z2, z3, i64_w, i32_w]; rfl) ?_
      refine pl0 ?_
      have HH := Aside0.mk hHeld
      clear hHeld
      refine one_ (i := 27) (N := some 138) #[true, true, true, true, true, true, true, true, true, true, true, true, true, true, true, true, true, true, true, true, true, true, true, true, true, true, true, true, false, false] rfl rfl (by kernel_rfl) (by decide) (fun K hK => ?_)
      refine goes_ Try.func27 (by kernel_rfl) rfl #[.agg #[.int .i64 z.f0.f0, .int .u64 z.f0.f1, .int .u64 z.f0.f2, .int .i64 z.f1, .int .i64 0], .agg #[.int .i64 y.f0.f0, .int .u64 y.f0.f1, .int .u64 y.f0.f2, .int .i64 y.f1, .int .i64 0]] (by rfl) rfl rfl (by simp only [List.map_toArray, List.map_cons, List.map_nil]; first | rfl | (go_simp; done)) ?_
      with_reducible refine (shunterref20_Less.calls 1000 z.f0.f0 z.f0.f1 z.f0.f2 z.f1 0 y.f0.f0 y.f0.f1 y.f0.f2 y.f1 0 true _ HLF.out).mono ?_
      rintro e_ w1 ⟨rfl, hb⟩
      refine ⟨_, rfl, ?_⟩
      have HBC := Aside0.mk (below_step HH.out hb)
      clear hb HH
      refine hK.out _ _ HBC.out (fun hHeld => ?_)
      clear hK K
      refine norm_ (a' := ?_) ?_ ?_
      rotate_left
      ·show Act.put _ (some 138) _ = _
       simp only [Act.put, List.setIfInBounds_toArray, List.set_cons_zero, List.set_cons_succ, i64_w, i32_w]
       rfl
      refine pl_ [28, 29] ?_
      iterate 2 refine pP rfl rfl (by kernel_rfl) (fun _ _ _ h => h) (by rfl) (by intro w'; go_simp; with_reducible rfl) (by simp only [Act.put, z1, z2, z3, i64_w, i32_w]; rfl) ?_
      refine pl0 ?_
      refine done_ (by kernel_rfl) ?_
      go_wp2
      go_roundw
      case measure => first | (simp [intOf]; done) | (simp [intOf]; omega)
      case rel => exact ⟨j + 1, hjt, by go_num, HBC⟩
    ·have hje : j = p.length := by omega
     go_wp2_with (first | (go_at_call 17; with_reducible refine (tlives_calls _).mono ?_; rintro e_ w8 ⟨rfl, hb⟩; have HZ := Aside0.mk (below_step HB7.out hb); clear hb))
     go_ret
     exact ⟨rfl, below_step HWB.out (below_step HB6.out HZ.out)⟩
theorem TrieLists_true (W m : Int) (A : Option Addr) (c : Nat) (ops : List S34) (w : World) (hC : Kd.C k34 w A ops.length ops) (hok : ∀ y ∈ ops, okV y.f3) :
 Calls Try.prog 5 #[.agg #[.int .i64 W, .int .i64 m], .slice A ops.length c] w fun e_ w' => e_ = .returned (.bool true) ∧ Below w.heap.size w w' := by
 by_cases h : W < 1 ∨ 128 < W ∨ m < 1 ∨ 256 < m
 ·exact TrieLists_bad W m A c ops w h
 ·by_cases hl : 80 < ops.length
  ·exact TrieLists_many W m A c ops w (by omega) hl
  ·exact TrieLists_plays W m A c ops w W.toNat (by omega) (by omega) (by omega) hC hok
end Go.Proofs.Ytfdbcnbakchcgaa.XR
