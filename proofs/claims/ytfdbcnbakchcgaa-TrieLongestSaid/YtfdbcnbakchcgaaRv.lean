import Derived.Test.YtfdbcnbakchcgaaSr
import Derived.Test.YtfdbcnbakchcgaaRu
namespace Go.Proofs.Ytfdbcnbakchcgaa.XR
open Go.RowKit Go.Proofs.YtfdbcnbakchcgaaW.PrintWords Go.Proofs.YtfdbcnbakchcgaaW.PrintLast Go.Proofs.YtfdbcnbakchcgaaW.PrintMore
attribute [local go_sem] max2_int min2_int max_two min_two max_three min_three max_four min_four   -- for this text's walks alone
set_option linter.unusedVariables false
set_option linter.unusedSimpArgs false
set_option maxHeartbeats 1000000 in
set_option maxRecDepth 100000 in
theorem TrieLongest_bad (W m : Int) (A : Option Addr) (c : Nat) (ops : List S34) (k0 k1 k2 : Int) (w : World) (h : W < 1 ∨ 128 < W ∨ m < 1 ∨ 256 < m) :
 Calls Try.prog 4 #[.agg #[.int .i64 W, .int .i64 m], .slice A ops.length c, .agg #[.int .i64 k0, .int .u64 k1, .int .u64 k2]] w fun e_ w' => e_ = .returned (.bool true) ∧ Below w.heap.size w w' := by
 have HN := Aside0.mk (fun w => tNew_no W m w h)
 have hc : (W < 1) ∨ (¬ W < 1 ∧ 128 < W) ∨ (¬ W < 1 ∧ ¬ 128 < W ∧ m < 1) ∨ (¬ W < 1 ∧ ¬ 128 < W ∧ ¬ m < 1 ∧ 256 < m) := by omega
 clear h
 have n0 := blk_cell (blk_below (blk_new w (.cells #[.int .i64 W, .int .i64 m] 22 (0, 0))) (below_alloc (Below.refl _ _) (.cells #[.int .i64 k0, .int .u64 k1, .int .u64 k2] 32 (0, 0)))) 0
 have n1 := blk_cell (blk_below (blk_new w (.cells #[.int .i64 W, .int .i64 m] 22 (0, 0))) (below_alloc (Below.refl _ _) (.cells #[.int .i64 k0, .int .u64 k1, .int .u64 k2] 32 (0, 0)))) 1
 simp only [List.getElem?_toArray, List.getElem?_cons_succ, List.getElem?_cons_zero] at n0 n1
 rcases hc with h1 | ⟨h1, h2⟩ | ⟨h1, h2, h3⟩ | ⟨h1, h2, h3, h4⟩
 ·have g1 : decide (W < 1) = true := decide_eq_true h1
  clear h1
  go_enter Try.func4, Try.ntmps4
  go_wp2_with (first | (go_at_call 16; with_reducible refine (HN.out _).mono ?_; rintro e_ w1 ⟨rfl, rfl⟩) | (go_at_call 17; with_reducible refine (tlives_calls _).mono ?_; rintro e_ w1 ⟨rfl, hb⟩; have HZ := Aside0.mk (below_step (below_alloc (below_alloc (Below.refl _ _) (.cells #[.int .i64 W, .int .i64 m] 22 (0, 0))) (.cells #[.int .i64 k0, .int .u64 k1, .int .u64 k2] 32 (0, 0))) hb); clear hb))
  go_ret
  exact ⟨rfl, HZ.out⟩
 ·have g1 : decide (W < 1) = false := decide_eq_false h1
  have g2 : decide (128 < W) = true := decide_eq_true h2
  clear h1 h2
  go_enter Try.func4, Try.ntmps4
  go_wp2_with (first | (go_at_call 16; with_reducible refine (HN.out _).mono ?_; rintro e_ w1 ⟨rfl, rfl⟩) | (go_at_call 17; with_reducible refine (tlives_calls _).mono ?_; rintro e_ w1 ⟨rfl, hb⟩; have HZ := Aside0.mk (below_step (below_alloc (below_alloc (Below.refl _ _) (.cells #[.int .i64 W, .int .i64 m] 22 (0, 0))) (.cells #[.int .i64 k0, .int .u64 k1, .int .u64 k2] 32 (0, 0))) hb); clear hb))
  go_ret
  exact ⟨rfl, HZ.out⟩
 ·have g1 : decide (W < 1) = false := decide_eq_false h1
  have g2 : decide (128 < W) = false := decide_eq_false h2
  have g3 : decide (m < 1) = true := decide_eq_true h3
  clear h1 h2 h3
  go_enter Try.func4, Try.ntmps4
  go_wp2_with (first | (go_at_call 16; with_reducible refine (HN.out _).mono ?_; rintro e_ w1 ⟨rfl, rfl⟩) | (go_at_call 17; with_reducible refine (tlives_calls _).mono ?_; rintro e_ w1 ⟨rfl, hb⟩; have HZ := Aside0.mk (below_step (below_alloc (below_alloc (Below.refl _ _) (.cells #[.int .i64 W, .int .i64 m] 22 (0, 0))) (.cells #[.int .i64 k0, .int .u64 k1, .int .u64 k2] 32 (0, 0))) hb); clear hb))
  go_ret
  exact ⟨rfl, HZ.out⟩
 ·have g1 : decide (W < 1) = false := decide_eq_false h1
  have g2 : decide (128 < W) = false := decide_eq_false h2
  have g3 : decide (m < 1) = false := decide_eq_false h3
  have g4 : decide (256 < m) = true := decide_eq_true h4
  clear h1 h2 h3 h4
  go_enter Try.func4, Try.ntmps4
  go_wp2_with (first | (go_at_call 16; with_reducible refine (HN.out _).mono ?_; rintro e_ w1 ⟨rfl, rfl⟩) | (go_at_call 17; with_reducible refine (tlives_calls _).mono ?_; rintro e_ w1 ⟨rfl, hb⟩; have HZ := Aside0.mk (below_step (below_alloc (below_alloc (Below.refl _ _) (.cells #[.int .i64 W, .int .i64 m] 22 (0, 0))) (.cells #[.int .i64 k0, .int .u64 k1, .int .u64 k2] 32 (0, 0))) hb); clear hb))
  go_ret
  exact ⟨rfl, HZ.out⟩
set_option maxHeartbeats 1000000 in
set_option maxRecDepth 100000 in
theorem TrieLongest_many (W m : Int) (A : Option Addr) (c : Nat) (ops : List S34) (k0 k1 k2 : Int) (w : World) (h : 1 ≤ W ∧ W ≤ 128 ∧ 1 ≤ m ∧ m ≤ 256) (hl : 200 < ops.length) :
 Calls Try.prog 4 #[.agg #[.int .i64 W, .int .i64 m], .slice A ops.length c, .agg #[.int .i64 k0, .int .u64 k1, .int .u64 k2]] w fun e_ w' => e_ = .returned (.bool true) ∧ Below w.heap.size w w' := by
 have HN := Aside0.mk (fun w => tNew_kt W m w h.1 h.2.1 h.2.2.1 h.2.2.2)
 have g1 : decide (W < 1) = false := decide_eq_false (by omega)
 have g2 : decide (128 < W) = false := decide_eq_false (by omega)
 have g3 : decide (m < 1) = false := decide_eq_false (by omega)
 have g4 : decide (256 < m) = false := decide_eq_false (by omega)
 have g5 : decide ((200 : Int) < (ops.length : Int)) = true := decide_eq_true (by omega)
 clear h hl
 obtain ⟨wb, hwb⟩ : ∃ wb, wb = (w.alloc (.cells #[.int .i64 W, .int .i64 m] 22 (0, 0))).alloc (.cells #[.int .i64 k0, .int .u64 k1, .int .u64 k2] 32 (0, 0)) := ⟨_, rfl⟩
 have HBX := Aside0.mk (show wb.heap[w.heap.size]? = some (.cells #[.int .i64 W, .int .i64 m] 22 (0, 0)) from by rw [hwb]; exact (blk_below (blk_new w (.cells #[.int .i64 W, .int .i64 m] 22 (0, 0))) (below_alloc (Below.refl _ _) (.cells #[.int .i64 k0, .int .u64 k1, .int .u64 k2] 32 (0, 0)))))
 have HKX := Aside0.mk (show wb.heap[w.heap.size + 1]? = some (.cells #[.int .i64 k0, .int .u64 k1, .int .u64 k2] 32 (0, 0)) from by rw [hwb]; have := blk_new (w.alloc (.cells #[.int .i64 W, .int .i64 m] 22 (0, 0))) (.cells #[.int .i64 k0, .int .u64 k1, .int .u64 k2] 32 (0, 0)); simpa using this)
 have HWB := Aside0.mk (show Below w.heap.size w wb from by rw [hwb]; exact below_alloc (below_alloc (Below.refl _ _) (.cells #[.int .i64 W, .int .i64 m] 22 (0, 0))) (.cells #[.int .i64 k0, .int .u64 k1, .int .u64 k2] 32 (0, 0)))
 have hgs : wb.heap.size = w.heap.size + 2 := by rw [hwb]; simp
 have n0 := blk_cell (blk_below (blk_new w (.cells #[.int .i64 W, .int .i64 m] 22 (0, 0))) (below_alloc (Below.refl _ _) (.cells #[.int .i64 k0, .int .u64 k1, .int .u64 k2] 32 (0, 0)))) 0
 have n1 := blk_cell (blk_below (blk_new w (.cells #[.int .i64 W, .int .i64 m] 22 (0, 0))) (below_alloc (Below.refl _ _) (.cells #[.int .i64 k0, .int .u64 k1, .int .u64 k2] 32 (0, 0)))) 1
 simp only [List.getElem?_toArray, List.getElem?_cons_succ, List.getElem?_cons_zero] at n0 n1
 go_enter Try.func4, Try.ntmps4
 go_wp2_with (first | (go_at_call 16; with_reducible refine (HN.out _).mono ?_; rintro e_ w2 ⟨rfl, hk⟩; rw [← hwb] at hk; rw [hgs] at hk; have HK := Aside0.mk hk; clear hk n0 n1; have n0 := blk_cell (blk_below HBX.out HK.out.below) 0; have n1 := blk_cell (blk_below HBX.out HK.out.below) 1; have j0 := blk_cell (blk_below HKX.out HK.out.below) 0; have j1 := blk_cell (blk_below HKX.out HK.out.below) 1; have j2 := blk_cell (blk_below HKX.out HK.out.below) 2; simp only [List.getElem?_toArray, List.getElem?_cons_succ, List.getElem?_cons_zero] at n0 n1 j0 j1 j2) | (go_at_call 17; with_reducible refine (tlives_calls _).mono ?_; rintro e_ w1 ⟨rfl, hb⟩; have HZ := Aside0.mk (below_step (HK.out.below) hb); clear hb))
 go_ret
 exact ⟨rfl, below_step HWB.out HZ.out⟩
set_option maxHeartbeats 1000000 in
set_option maxRecDepth 100000 in
theorem TrieLongest_not (W m : Int) (A : Option Addr) (c : Nat) (ops : List S34) (k0 k1 k2 : Int) (w : World) (h : 1 ≤ W ∧ W ≤ 128 ∧ 1 ≤ m ∧ m ≤ 256) (hl : ops.length ≤ 200) (hm : shunterref02_May.f k0 k1 k2 = some false) :
 Calls Try.prog 4 #[.agg #[.int .i64 W, .int .i64 m], .slice A ops.length c, .agg #[.int .i64 k0, .int .u64 k1, .int .u64 k2]] w fun e_ w' => e_ = .returned (.bool true) ∧ Below w.heap.size w w' := by
 have HN := Aside0.mk (fun w => tNew_kt W m w h.1 h.2.1 h.2.2.1 h.2.2.2)
 have g1 : decide (W < 1) = false := decide_eq_false (by omega)
 have g2 : decide (128 < W) = false := decide_eq_false (by omega)
 have g3 : decide (m < 1) = false := decide_eq_false (by omega)
 have g4 : decide (256 < m) = false := decide_eq_false (by omega)
 have g5 : decide ((200 : Int) < (ops.length : Int)) = false := decide_eq_false (by omega)
 have HMK := Aside0.mk hm
 clear h hl hm
 obtain ⟨wb, hwb⟩ : ∃ wb, wb = (w.alloc (.cells #[.int .i64 W, .int .i64 m] 22 (0, 0))).alloc (.cells #[.int .i64 k0, .int .u64 k1, .int .u64 k2] 32 (0, 0)) := ⟨_, rfl⟩
 have HBX := Aside0.mk (show wb.heap[w.heap.size]? = some (.cells #[.int .i64 W, .int .i64 m] 22 (0, 0)) from by rw [hwb]; exact (blk_below (blk_new w (.cells #[.int .i64 W, .int .i64 m] 22 (0, 0))) (below_alloc (Below.refl _ _) (.cells #[.int .i64 k0, .int .u64 k1, .int .u64 k2] 32 (0, 0)))))
 have HKX := Aside0.mk (show wb.heap[w.heap.size + 1]? = some (.cells #[.int .i64 k0, .int .u64 k1, .int .u64 k2] 32 (0, 0)) from by rw [hwb]; have := blk_new (w.alloc (.cells #[.int .i64 W, .int .i64 m] 22 (0, 0))) (.cells #[.int .i64 k0, .int .u64 k1, .int .u64 k2] 32 (0, 0)); simpa using this)
 have HWB := Aside0.mk (show Below w.heap.size w wb from by rw [hwb]; exact below_alloc (below_alloc (Below.refl _ _) (.cells #[.int .i64 W, .int .i64 m] 22 (0, 0))) (.cells #[.int .i64 k0, .int .u64 k1, .int .u64 k2] 32 (0, 0)))
 have hgs : wb.heap.size = w.heap.size + 2 := by rw [hwb]; simp
 have n0 := blk_cell (blk_below (blk_new w (.cells #[.int .i64 W, .int .i64 m] 22 (0, 0))) (below_alloc (Below.refl _ _) (.cells #[.int .i64 k0, .int .u64 k1, .int .u64 k2] 32 (0, 0)))) 0
 have n1 := blk_cell (blk_below (blk_new w (.cells #[.int .i64 W, .int .i64 m] 22 (0, 0))) (below_alloc (Below.refl _ _) (.cells #[.int .i64 k0, .int .u64 k1, .int .u64 k2] 32 (0, 0)))) 1
 simp only [List.getElem?_toArray, List.getElem?_cons_succ, List.getElem?_cons_zero] at n0 n1
 go_enter Try.func4, Try.ntmps4
 go_wp2_with (first | (go_at_call 16; with_reducible refine (HN.out _).mono ?_; rintro e_ w2 ⟨rfl, hk⟩; rw [← hwb] at hk; rw [hgs] at hk; have HK := Aside0.mk hk; clear hk n0 n1; have n0 := blk_cell (blk_below HBX.out HK.out.below) 0; have n1 := blk_cell (blk_below HBX.out HK.out.below) 1; have j0 := blk_cell (blk_below HKX.out HK.out.below) 0; have j1 := blk_cell (blk_below HKX.out HK.out.below) 1; have j2 := blk_cell (blk_below HKX.out HK.out.below) 2; simp only [List.getElem?_toArray, List.getElem?_cons_succ, List.getElem?_cons_zero] at n0 n1 j0 j1 j2) | (go_at_call 20; with_reducible refine (shunterref02_May.calls k0 k1 k2 _ _ HMK.out).mono ?_; rintro e_ w3 ⟨rfl, hb⟩; have HK3 := Aside0.mk (HK.out.step hb); clear HK hb n0 n1 j0 j1 j2; have n0 := blk_cell (blk_below HBX.out HK3.out.below) 0; have n1 := blk_cell (blk_below HBX.out HK3.out.below) 1; have j0 := blk_cell (blk_below HKX.out HK3.out.below) 0; have j1 := blk_cell (blk_below HKX.out HK3.out.below) 1; have j2 := blk_cell (blk_below HKX.out HK3.out.below) 2; simp only [List.getElem?_toArray, List.getElem?_cons_succ, List.getElem?_cons_zero] at n0 n1 j0 j1 j2) | (go_at_call 17; with_reducible refine (tlives_calls _).mono ?_; rintro e_ w1 ⟨rfl, hb⟩; have HZ := Aside0.mk (below_step (HK3.out.below) hb); clear hb))
 go_ret
 exact ⟨rfl, below_step HWB.out HZ.out⟩
set_option maxHeartbeats 1000000 in
set_option maxRecDepth 100000 in
theorem TrieLongest_other (W m : Int) (A : Option Addr) (c : Nat) (ops : List S34) (k0 k1 k2 : Int) (w : World) (h : 1 ≤ W ∧ W ≤ 128 ∧ 1 ≤ m ∧ m ≤ 256) (hl : ops.length ≤ 200) (hm : shunterref02_May.f k0 k1 k2 = some true) (hw : (k0 != W) = true) :
 Calls Try.prog 4 #[.agg #[.int .i64 W, .int .i64 m], .slice A ops.length c, .agg #[.int .i64 k0, .int .u64 k1, .int .u64 k2]] w fun e_ w' => e_ = .returned (.bool true) ∧ Below w.heap.size w w' := by
 have HN := Aside0.mk (fun w => tNew_kt W m w h.1 h.2.1 h.2.2.1 h.2.2.2)
 have g1 : decide (W < 1) = false := decide_eq_false (by omega)
 have g2 : decide (128 < W) = false := decide_eq_false (by omega)
 have g3 : decide (m < 1) = false := decide_eq_false (by omega)
 have g4 : decide (256 < m) = false := decide_eq_false (by omega)
 have g5 : decide ((200 : Int) < (ops.length : Int)) = false := decide_eq_false (by omega)
 have HMK := Aside0.mk hm
 clear h hl hm
 obtain ⟨wb, hwb⟩ : ∃ wb, wb = (w.alloc (.cells #[.int .i64 W, .int .i64 m] 22 (0, 0))).alloc (.cells #[.int .i64 k0, .int .u64 k1, .int .u64 k2] 32 (0, 0)) := ⟨_, rfl⟩
 have HBX := Aside0.mk (show wb.heap[w.heap.size]? = some (.cells #[.int .i64 W, .int .i64 m] 22 (0, 0)) from by rw [hwb]; exact (blk_below (blk_new w (.cells #[.int .i64 W, .int .i64 m] 22 (0, 0))) (below_alloc (Below.refl _ _) (.cells #[.int .i64 k0, .int .u64 k1, .int .u64 k2] 32 (0, 0)))))
 have HKX := Aside0.mk (show wb.heap[w.heap.size + 1]? = some (.cells #[.int .i64 k0, .int .u64 k1, .int .u64 k2] 32 (0, 0)) from by rw [hwb]; have := blk_new (w.alloc (.cells #[.int .i64 W, .int .i64 m] 22 (0, 0))) (.cells #[.int .i64 k0, .int .u64 k1, .int .u64 k2] 32 (0, 0)); simpa using this)
 have HWB := Aside0.mk (show Below w.heap.size w wb from by rw [hwb]; exact below_alloc (below_alloc (Below.refl _ _) (.cells #[.int .i64 W, .int .i64 m] 22 (0, 0))) (.cells #[.int .i64 k0, .int .u64 k1, .int .u64 k2] 32 (0, 0)))
 have hgs : wb.heap.size = w.heap.size + 2 := by rw [hwb]; simp
 have n0 := blk_cell (blk_below (blk_new w (.cells #[.int .i64 W, .int .i64 m] 22 (0, 0))) (below_alloc (Below.refl _ _) (.cells #[.int .i64 k0, .int .u64 k1, .int .u64 k2] 32 (0, 0)))) 0
 have n1 := blk_cell (blk_below (blk_new w (.cells #[.int .i64 W, .int .i64 m] 22 (0, 0))) (below_alloc (Below.refl _ _) (.cells #[.int .i64 k0, .int .u64 k1, .int .u64 k2] 32 (0, 0)))) 1
 simp only [List.getElem?_toArray, List.getElem?_cons_succ, List.getElem?_cons_zero] at n0 n1
 go_enter Try.func4, Try.ntmps4
 go_wp2_with (first | (go_at_call 16; with_reducible refine (HN.out _).mono ?_; rintro e_ w2 ⟨rfl, hk⟩; rw [← hwb] at hk; rw [hgs] at hk; have HK := Aside0.mk hk; clear hk n0 n1; have n0 := blk_cell (blk_below HBX.out HK.out.below) 0; have n1 := blk_cell (blk_below HBX.out HK.out.below) 1; have j0 := blk_cell (blk_below HKX.out HK.out.below) 0; have j1 := blk_cell (blk_below HKX.out HK.out.below) 1; have j2 := blk_cell (blk_below HKX.out HK.out.below) 2; simp only [List.getElem?_toArray, List.getElem?_cons_succ, List.getElem?_cons_zero] at n0 n1 j0 j1 j2) | (go_at_call 20; with_reducible refine (shunterref02_May.calls k0 k1 k2 _ _ HMK.out).mono ?_; rintro e_ w3 ⟨rfl, hb⟩; have HK3 := Aside0.mk (HK.out.step hb); clear HK hb n0 n1 j0 j1 j2; have n0 := blk_cell (blk_below HBX.out HK3.out.below) 0; have n1 := blk_cell (blk_below HBX.out HK3.out.below) 1; have j0 := blk_cell (blk_below HKX.out HK3.out.below) 0; have j1 := blk_cell (blk_below HKX.out HK3.out.below) 1; have j2 := blk_cell (blk_below HKX.out HK3.out.below) 2; simp only [List.getElem?_toArray, List.getElem?_cons_succ, List.getElem?_cons_zero] at n0 n1 j0 j1 j2) | (go_at_call 17; with_reducible refine (tlives_calls _).mono ?_; rintro e_ w1 ⟨rfl, hb⟩; have HZ := Aside0.mk (below_step (HK3.out.below) hb); clear hb))
 go_ret
 exact ⟨rfl, below_step HWB.out HZ.out⟩
/-- What has been found among the first ones. -/
def FDp (q : List TI) (f : TI → Bool) (j : Nat) (u : Value) : Prop := ∃ fb : Bool, u = .bool fb ∧ (q.take j).any f = fb
theorem FDp.start (q : List TI) (f : TI → Bool) : FDp q f 0 (.bool false) := ⟨false, rfl, by rw [List.take_zero]; rfl⟩
theorem any_step (q : List TI) (f : TI → Bool) (j : Nat) (h : j < q.length) : (q.take (j + 1)).any f = ((q.take j).any f || f q[j]) := by
 rw [List.take_succ_eq_append_getElem h, List.any_append]; simp
theorem rd44 (l : List S44) (j : Nat) (h : j < l.length) : rd_T44 l (j : Int) = l[j] := by simp [rd_T44, List.getD_eq_getElem?_getD, h]
set_option maxHeartbeats 1000000 in
set_option maxRecDepth 100000 in
theorem TrieLongest_plays (W m : Int) (A : Option Addr) (c : Nat) (ops : List S34) (k0 k1 k2 : Int) (w : World) (Wn : Nat) (hWn : W = (Wn : Int)) (h : 1 ≤ W ∧ W ≤ 128 ∧ 1 ≤ m ∧ m ≤ 256) (hl : ops.length ≤ 200) (hm : shunterref02_May.f k0 k1 k2 = some true) (hw : (k0 != W) = false) (hC : Kd.C k34 w A ops.length ops) (hok : ∀ y ∈ ops, okV y.f3) (hK : okV ⟨k0, k1, k2⟩) (hKX : vV ⟨k0, k1, k2⟩ < 2 ^ Wn) :
 Calls Try.prog 4 #[.agg #[.int .i64 W, .int .i64 m], .slice A ops.length c, .agg #[.int .i64 k0, .int .u64 k1, .int .u64 k2]] w fun e_ w' => e_ = .returned (.bool true) ∧ Below w.heap.size w w' := by
 have HN := Aside0.mk (fun w => tNew_kt W m w h.1 h.2.1 h.2.2.1 h.2.2.2)
 have HRUN := Aside0.mk (runQ_ok Wn m [] (SIt_nil Wn m (by omega)) ops hok)
 have HW1 := Aside0.mk (show 1 ≤ Wn from by omega)
 have HW2 := Aside0.mk (show Wn ≤ 128 from by omega)
 have HM := Aside0.mk h.2.2.2
 have g1 : decide (W < 1) = false := decide_eq_false (by omega)
 have g2 : decide (128 < W) = false := decide_eq_false (by omega)
 have g3 : decide (m < 1) = false := decide_eq_false (by omega)
 have g4 : decide (256 < m) = false := decide_eq_false (by omega)
 have g5 : decide ((200 : Int) < (ops.length : Int)) = false := decide_eq_false (by omega)
 have HWN := Aside0.mk hWn
 have HMK := Aside0.mk hm
 have HKW := Aside0.mk (show k0 = (Wn : Int) from by rw [← hWn]; simpa using hw)
 have HKV := Aside0.mk hK
 have HKL := Aside0.mk hKX
 obtain ⟨wb, hwb⟩ : ∃ wb, wb = (w.alloc (.cells #[.int .i64 W, .int .i64 m] 22 (0, 0))).alloc (.cells #[.int .i64 k0, .int .u64 k1, .int .u64 k2] 32 (0, 0)) := ⟨_, rfl⟩
 have HBX := Aside0.mk (show wb.heap[w.heap.size]? = some (.cells #[.int .i64 W, .int .i64 m] 22 (0, 0)) from by rw [hwb]; exact (blk_below (blk_new w (.cells #[.int .i64 W, .int .i64 m] 22 (0, 0))) (below_alloc (Below.refl _ _) (.cells #[.int .i64 k0, .int .u64 k1, .int .u64 k2] 32 (0, 0)))))
 have HKX := Aside0.mk (show wb.heap[w.heap.size + 1]? = some (.cells #[.int .i64 k0, .int .u64 k1, .int .u64 k2] 32 (0, 0)) from by rw [hwb]; have := blk_new (w.alloc (.cells #[.int .i64 W, .int .i64 m] 22 (0, 0))) (.cells #[.int .i64 k0, .int .u64 k1, .int .u64 k2] 32 (0, 0)); simpa using this)
 have HWB := Aside0.mk (show Below w.heap.size w wb from by rw [hwb]; exact below_alloc (below_alloc (Below.refl _ _) (.cells #[.int .i64 W, .int .i64 m] 22 (0, 0))) (.cells #[.int .i64 k0, .int .u64 k1, .int .u64 k2] 32 (0, 0)))
 have hgs : wb.heap.size = w.heap.size + 2 := by rw [hwb]; simp
 have HC := Aside0.mk (show Kd.C k34 wb A ops.length ops from by rw [hwb]; exact Kd.C_below hC (below_alloc (below_alloc (Below.refl _ _) _) _))
 have HLN := Aside0.mk hl
 have HOKS := Aside0.mk hok
 clear h hl hC hok hWn hm hK hKX
 have n0 := blk_cell (blk_below (blk_new w (.cells #[.int .i64 W, .int .i64 m] 22 (0, 0))) (below_alloc (Below.refl _ _) (.cells #[.int .i64 k0, .int .u64 k1, .int .u64 k2] 32 (0, 0)))) 0
 have n1 := blk_cell (blk_below (blk_new w (.cells #[.int .i64 W, .int .i64 m] 22 (0, 0))) (below_alloc (Below.refl _ _) (.cells #[.int .i64 k0, .int .u64 k1, .int .u64 k2] 32 (0, 0)))) 1
 simp only [List.getElem?_toArray, List.getElem?_cons_succ, List.getElem?_cons_zero] at n0 n1
 go_enter Try.func4, Try.ntmps4
 go_wp2_with (first | (go_at_call 16; with_reducible refine (HN.out _).mono ?_; rintro e_ w2 ⟨rfl, hk⟩; rw [← hwb] at hk; rw [hgs] at hk; have HK := Aside0.mk hk; clear hk n0 n1; have n0 := blk_cell (blk_below HBX.out HK.out.below) 0; have n1 := blk_cell (blk_below HBX.out HK.out.below) 1; have j0 := blk_cell (blk_below HKX.out HK.out.below) 0; have j1 := blk_cell (blk_below HKX.out HK.out.below) 1; have j2 := blk_cell (blk_below HKX.out HK.out.below) 2; simp only [List.getElem?_toArray, List.getElem?_cons_succ, List.getElem?_cons_zero] at n0 n1 j0 j1 j2) | (go_at_call 20; with_reducible refine (shunterref02_May.calls k0 k1 k2 _ _ HMK.out).mono ?_; rintro e_ w3 ⟨rfl, hb⟩; have HK3 := Aside0.mk (HK.out.step hb); clear HK hb n0 n1 j0 j1 j2; have n0 := blk_cell (blk_below HBX.out HK3.out.below) 0; have n1 := blk_cell (blk_below HBX.out HK3.out.below) 1; have j0 := blk_cell (blk_below HKX.out HK3.out.below) 0; have j1 := blk_cell (blk_below HKX.out HK3.out.below) 1; have j2 := blk_cell (blk_below HKX.out HK3.out.below) 2; simp only [List.getElem?_toArray, List.getElem?_cons_succ, List.getElem?_cons_zero] at n0 n1 j0 j1 j2))
 have HS0 := Aside0.mk (show STt wb w3 (w.heap.size + 2 + 1) (newM (w.heap.size + 2)) (.slice none 0 0) (runQ Wn m [] (ops.take 0)) (runQ Wn m [] (ops.take 0)) Wn m from by rw [show runQ Wn m [] (ops.take 0) = [] from by rw [List.take_zero]; rfl]; have hk := HK3.out; rw [HWN.out] at hk; exact STt_new hk)
 go_loopw [8, 9] (fun u8 u9 w' => ∃ (i : Nat) (M : NM), i ≤ ops.length ∧ u9 = .int .i64 i ∧ Aside0 (STt wb w' (w.heap.size + 2 + 1) M u8 (runQ Wn m [] (ops.take i)) (runQ Wn m [] (ops.take i)) Wn m)) (fun _ u9 _ => ops.length - (intOf u9).toNat)
 case atStart => exact ⟨0, _, Nat.zero_le _, rfl, HS0⟩
 case round =>
  obtain ⟨i, M, hi, rfl, HT⟩ := hrel
  clear n0 n1 j0 j1 j2 HK3 HS0
  by_cases hlt : i < ops.length
  ·have hl100 := HLN.out
   have hi0 : 0 ≤ (i : Int) := by omega
   have hil : (i : Int) < (ops.length : Int) := by omega
   obtain ⟨ad, hA, _⟩ := at_T34 HC.out (i : Int) hi0 hil
   subst hA
   have hy : rd_T34 ops (i : Int) = ops[i] := by simp [rd_T34, List.getD_eq_getElem?_getD, hlt]
   have HR1 := Aside0.mk (HRUN.out i hi)
   have HRS := Aside0.mk (runQ_take Wn m [] ops i hlt)
   obtain ⟨y, hyy⟩ : ∃ y, y = ops[i] := ⟨_, rfl⟩
   rw [← hyy] at hy HRS
   have HOK := Aside0.mk (show okV y.f3 from by rw [hyy]; exact HOKS.out _ (List.getElem_mem hlt))
   have HCY := Aside0.mk (show ∀ w', Below wb.heap.size wb w' → w'.cell? (ad.add (i * 6)) = some (.int .i64 y.f0) ∧ w'.cell? ⟨(ad.add (i * 6)).block, (ad.add (i * 6)).off + 1, none⟩ = some (.int .i64 y.f1) ∧ w'.cell? ⟨(ad.add (i * 6)).block, (ad.add (i * 6)).off + 2, none⟩ = some (.int .i64 y.f2) ∧ w'.cell? ⟨(ad.add (i * 6)).block, (ad.add (i * 6)).off + 3, none⟩ = some (.int .i64 y.f3.f0) ∧ w'.cell? ⟨(ad.add (i * 6)).block, (ad.add (i * 6)).off + 4, none⟩ = some (.int .u64 y.f3.f1) ∧ w'.cell? ⟨(ad.add (i * 6)).block, (ad.add (i * 6)).off + 5, none⟩ = some (.int .u64 y.f3.f2) from fun w' hb => by
    obtain ⟨ad2, e2, h2⟩ := at_T34 (Kd.C_below HC.out hb) (i : Int) hi0 hil
    injection e2 with e2
    subst e2
    rw [Int.toNat_natCast, hy] at h2
    exact h2)
   clear hyy hy
   have HST7 := Aside0.mk (fun w5 (ht : STt wb w5 (w.heap.size + 2 + 1) M u8 (runQ Wn m [] (ops.take i)) (runQ Wn m [] (ops.take i)) Wn m) => (show Calls Try.prog 18 #[.pointer (some ⟨(w.heap.size + 2 + 1), 0, none⟩), u8, .agg #[.int .i64 W, .int .i64 m], .agg #[.int .i64 y.f0, .int .i64 y.f1, .int .i64 y.f2, .int .i64 y.f3.f0, .int .u64 y.f3.f1, .int .u64 y.f3.f2]] w5 (fun e_ w' => ∃ M1 vx1, e_ = .returned (.tuple #[vx1, .bool true]) ∧ STt wb w' (w.heap.size + 2 + 1) M1 vx1 (stepQ Wn m (runQ Wn m [] (ops.take i)) y.f0 ⟨y.f3, y.f1, y.f2⟩) (stepQ Wn m (runQ Wn m [] (ops.take i)) y.f0 ⟨y.f3, y.f1, y.f2⟩) Wn m) from by
    rw [HWN.out]
    refine (tstep_two wb w5 (w.heap.size + 2 + 1) M u8 (runQ Wn m [] (ops.take i)) (runQ Wn m [] (ops.take i)) Wn m y.f0 y.f1 y.f2 y.f3 ht HR1.out HR1.out HW1.out HW2.out HM.out HOK.out).mono ?_
    rintro e_ w' ⟨M1, vx1, bb, rfl, hbb, ht, _⟩
    obtain rfl := hbb rfl
    exact ⟨M1, vx1, rfl, ht⟩))
   go_wp2
   refine start_ (n := 12) (S := fun w' => Below wb.heap.size wb w') (ds := []) #[false, false, false, false, false, false, false, false, false, false, false, false] (by kernel_rfl) rfl rfl (below_drew1 HT.out.kt.below) (fun hHeld => ?_)
   have HT2 := Aside0.mk (HT.out.step (below_drew1 (Below.refl _ _)))
   clear HT
   generalize World.drew _ = w5 at HT2 hHeld ⊢
   refine pl_ [0, 1, 3, 4, 5] ?_
   iterate 5 refine pP rfl rfl (by kernel_rfl) (fun _ _ _ h => h) (by rfl) (by intro w'; go_simp; with_reducible rfl) (by simp only [Act.put, z1, z2, z3, i64_w, i32_w]; rfl) ?_
   refine pl0 ?_
   refine take_ (i := 2) (N := some 74) (v := ?_) (a' := ?_) #[true, true, true, true, true, true, false, false, false, false, false, false] rfl rfl (by kernel_rfl) (fun _ _ _ h => h) (Or.inl ⟨by rfl, ?_⟩) hHeld ?_ ?_
   rotate_left
   ·intro w' hs
    have m0 := blk_cell (blk_below HBX.out hs) 0
    have m1 := blk_cell (blk_below HBX.out hs) 1
    simp only [List.getElem?_toArray, List.getElem?_cons_succ, List.getElem?_cons_zero] at m0 m1
    go_simp
    with_reducible rfl
   rotate_left
   ·simp only [Act.put, List.setIfInBounds_toArray, List.set_cons_zero, List.set_cons_succ, i64_w, i32_w]
    rfl
   refine take_ (i := 6) (N := some 78) (v := ?_) (a' := ?_) #[true, true, true, true, true, true, true, false, false, false, false, false] rfl rfl (by kernel_rfl) (fun _ _ _ h => h) (Or.inl ⟨by rfl, ?_⟩) hHeld ?_ ?_
   rotate_left
   ·intro w' hs
    obtain ⟨s0, s1, s2, s3, s4, s5⟩ := HCY.out w' hs
    go_simp
    with_reducible rfl
   rotate_left
   ·simp only [Act.put, List.setIfInBounds_toArray, List.set_cons_zero, List.set_cons_succ, i64_w, i32_w]
    rfl
   refine one_ (i := 7) (N := some 79) #[true, true, true, true, true, true, true, true, false, false, false, false] rfl rfl (by kernel_rfl) (by decide) (fun K hK => ?_)
   refine goes_ Try.func18 (by kernel_rfl) rfl #[.pointer (some ⟨(w.heap.size + 2 + 1), 0, none⟩), u8, .agg #[.int .i64 W, .int .i64 m], .agg #[.int .i64 y.f0, .int .i64 y.f1, .int .i64 y.f2, .int .i64 y.f3.f0, .int .u64 y.f3.f1, .int .u64 y.f3.f2]] (by rfl) rfl rfl (by simp only [List.map_toArray, List.map_cons, List.map_nil]; rfl) ?_
   with_reducible refine ((HST7.out _ HT2.out)).mono ?_
   rintro e_ w1 ⟨M1, vx1, rfl, hst⟩
   refine ⟨_, rfl, ?_⟩
   rw [show stepQ Wn m (runQ Wn m [] (ops.take i)) y.f0 ⟨y.f3, y.f1, y.f2⟩ = runQ Wn m [] (ops.take (i + 1)) from HRS.out.symm] at hst
   obtain ⟨Ax, cx, rfl⟩ := Kd.R_slice hst.rx
   have HT := Aside0.mk hst
   clear hst HT2
   refine hK.out _ _ HT.out.kt.below (fun hHeld => ?_)
   clear hK K
   refine norm_ (a' := ?_) ?_ ?_
   rotate_left
   ·show Act.put _ (some 79) _ = _
    simp only [Act.put, List.setIfInBounds_toArray, List.set_cons_zero, List.set_cons_succ, i64_w, i32_w]
    rfl
   refine pl_ [8, 9, 10, 11] ?_
   iterate 4 refine pP rfl rfl (by kernel_rfl) (fun _ _ _ h => h) (by rfl) (by intro w'; go_simp; with_reducible rfl) (by simp only [Act.put, z1, z2, z3, i64_w, i32_w]; rfl) ?_
   refine pl0 ?_
   refine done_ (by kernel_rfl) ?_
   go_wp2
   go_roundw
   case measure => first | (simp [intOf]; done) | (simp [intOf]; omega)
   case rel => exact ⟨i + 1, M1, hlt, by go_num, HT⟩
  ·have hie : i = ops.length := by omega
   have HR1 := HRUN.out i hi
   obtain ⟨p, hp⟩ : ∃ p, p = runQ Wn m [] (ops.take i) := ⟨_, rfl⟩
   rw [← hp] at HT HR1
   clear hp
   obtain ⟨l, hll⟩ : ∃ l, l = p.map (toTI Wn) := ⟨_, rfl⟩
   have had : apartT l := by rw [hll]; exact HR1.apart
   have hf : fitT Wn l := by rw [hll]; exact toTI_fit HR1.ok
   have hpl : p.length ≤ 256 := by have := HR1.le; have := HM.out; omega
   have HSH := Aside0.mk (show SH M l from by rw [hll]; exact HT.out.sh)
   obtain ⟨q, hq⟩ : ∃ q, q = walkT l (Wn + 1) 0 0 := ⟨_, rfl⟩
   have hql : q.length ≤ 256 := by rw [hq, walk_length had hf, hll, List.length_map]; exact hpl
   have HFQ := Aside0.mk (show ∀ y ∈ q, y.len ≤ Wn ∧ y.key < 2 ^ y.len from fun y hy => hf y ((mem_list had hf y).1 (by rw [← hq]; exact hy)))
   obtain ⟨X, hX⟩ : ∃ X, X = vV ⟨k0, k1, k2⟩ := ⟨_, rfl⟩
   have hX2 : X < 2 ^ Wn := by rw [hX]; exact HKL.out
   have HXW := Aside0.mk hX2
   have eh : hiW X = k1 := by rw [hX, vV_hi HKV.out]
   have el : loW X = k2 := by rw [hX, vV_lo HKV.out]
   obtain ⟨tr, htr⟩ : ∃ t, t = trip (bestTo l Wn X (Wn + 1)) := ⟨_, rfl⟩
   have HBT := Aside0.mk (fun y (hy : y ∈ q) (hm : meetT Wn X y = true) => best_trip had hf hX2 (by rw [← hq]; exact hy) hm)
   have HBF := Aside0.mk (best_found had hf hX2)
   have HB0 := Aside0.mk (@best_none l Wn X)
   rw [← htr] at HBT HBF HB0
   rw [← hq] at HBF
   obtain ⟨r1, r2, r3⟩ := tr
   have HBT := Aside0.mk (show ∀ y ∈ q, meetT Wn X y = true → r3 = true ∧ (y.len : Int) ≤ r2 from HBT.out)
   have HBF := Aside0.mk (show q.any (hitT Wn X r2 r1) = r3 from HBF.out)
   have HB0 := Aside0.mk (show r3 = false → r1 = 0 ∧ r2 = 0 from HB0.out)
   have HGE := Aside0.mk (fun w1 (h : KT wb w1 (w.heap.size + 2 + 1) M (Wn : Int) m (p.length : Int)) => (show Calls Try.prog 21 #[.pointer (some ⟨(w.heap.size + 2 + 1), 0, none⟩), .agg #[.int .i64 k0, .int .u64 k1, .int .u64 k2]] w1 (fun e_ w' => e_ = .returned (.tuple #[.int .i64 r1, .int .i64 r2, .bool r3]) ∧ Below w1.heap.size w1 w') from by
    have := tGet_ok wb w1 (w.heap.size + 2 + 1) M l Wn X k0 m (p.length : Int) h HSH.out HW1.out HW2.out HXW.out HKW.out
    rw [← htr, eh, el] at this
    exact this))
   have HLI := Aside0.mk (fun w1 (h : KT wb w1 (w.heap.size + 2 + 1) M (Wn : Int) m (p.length : Int)) => List_calls wb w1 (w.heap.size + 2 + 1) M Wn m (p.length : Int) l hf HW1.out HW2.out HSH.out h (by rw [← hq]; omega))
   rw [← hq] at HLI
   have HMT := Aside0.mk (fun y (hy : y ∈ q) => (show shunterref20_Meets.f 1000 k0 k1 k2 (outT Wn y).f0.f0 (outT Wn y).f0.f1 (outT Wn y).f0.f2 (outT Wn y).f1 0 = some (meetT Wn X y) from by
    obtain ⟨i1, i2⟩ := item_ok HW1.out HW2.out (HFQ.out y hy) 0
    have := ref20_Meets_eq 1000 Wn (by decide) HW1.out HW2.out X HXW.out _ i1
    rw [i2, eh, el, ← HKW.out] at this
    exact this))
   clear hll had hf hpl hq hX hX2 eh el htr HR1
   have k0_ := blk_cell (blk_below HKX.out HT.out.kt.below) 0
   have k1_ := blk_cell (blk_below HKX.out HT.out.kt.below) 1
   have k2_ := blk_cell (blk_below HKX.out HT.out.kt.below) 2
   simp only [List.getElem?_toArray, List.getElem?_cons_succ, List.getElem?_cons_zero] at k0_ k1_ k2_
   go_wp2_with (first | (go_at_call 21; with_reducible refine (HGE.out _ HT.out.kt).mono ?_; rintro e_ w4 ⟨rfl, hb⟩; clear k0_ k1_ k2_; have HT1 := Aside0.mk (HT.out.step hb); clear hb) | (go_at_call 22; with_reducible refine (HLI.out _ HT1.out.kt).mono ?_; rintro e_ w5 ⟨v5, rfl, hr, hb⟩; obtain ⟨Ag, cg, e0⟩ := Kd.R_slice hr; rw [List.length_map] at e0; subst e0; have HG := Aside0.mk hr; have HB6 := Aside0.mk (below_step HT1.out.kt.below hb); clear hr hb))
   have HKW6 := Aside0.mk (blk_below HKX.out HB6.out)
   clear HT HT1 HGE HLI HSH HC HBX
   obtain ⟨w6, hw6⟩ : ∃ w6, w6 = w5 := ⟨_, rfl⟩
   rw [← hw6] at HB6 HG HKW6 ⊢
   clear hw6
   go_loopw [14, 15, 16] (fun u14 u15 u16 w' => ∃ j : Nat, j ≤ q.length ∧ u15 = .int .i64 j ∧ Aside0 (FDp q (hitT Wn X r2 r1) j u14) ∧ Aside0 (Below w6.heap.size w6 w')) (fun _ u15 _ _ => q.length - (intOf u15).toNat)
   case atStart => exact ⟨0, Nat.zero_le _, rfl, ⟨FDp.start _ _⟩, ⟨Below.refl _ _⟩⟩
   case round =>
    obtain ⟨j, hj, rfl, HF, HB7⟩ := hrel
    obtain ⟨fb, hu, hfb⟩ := HF.out
    subst hu
    clear HF
    by_cases hjt : j < q.length
    ·have hj0 : 0 ≤ (j : Int) := by omega
     have hjl : (j : Int) < (q.length : Int) := by omega
     have hjm : j < (q.map (outT Wn)).length := by rw [List.length_map]; exact hjt
     obtain ⟨d1, hA1, _⟩ := at_T44 (Kd.R_reads' HG.out).2.2 (j : Int) hj0 (by omega)
     subst hA1
     obtain ⟨y, hy⟩ : ∃ y, y = outT Wn q[j] := ⟨_, rfl⟩
     have hrd : rd_T44 (q.map (outT Wn)) (j : Int) = y := by rw [rd44 _ j hjm, hy, List.getElem_map]
     have HC1 := Aside0.mk (show ∀ w', Below w6.heap.size w6 w' → w'.cell? (d1.add (j * 5)) = some (.int .i64 y.f0.f0) ∧ w'.cell? ⟨(d1.add (j * 5)).block, (d1.add (j * 5)).off + 1, none⟩ = some (.int .u64 y.f0.f1) ∧ w'.cell? ⟨(d1.add (j * 5)).block, (d1.add (j * 5)).off + 2, none⟩ = some (.int .u64 y.f0.f2) ∧ w'.cell? ⟨(d1.add (j * 5)).block, (d1.add (j * 5)).off + 3, none⟩ = some (.int .i64 y.f1) ∧ w'.cell? ⟨(d1.add (j * 5)).block, (d1.add (j * 5)).off + 4, none⟩ = some (.int .i64 y.f2) from fun w' hb => by
      obtain ⟨ad2, e2, h2⟩ := at_T44 (Kd.C_below (Kd.R_reads' HG.out).2.2 hb) (j : Int) (by omega) (by omega)
      injection e2 with e2
      subst e2
      rw [Int.toNat_natCast, hrd] at h2
      exact h2)
     have HMY := Aside0.mk (HMT.out q[j] (List.getElem_mem hjt))
     have HBY := Aside0.mk (HBT.out q[j] (List.getElem_mem hjt))
     have HNX := Aside0.mk (any_step q (hitT Wn X r2 r1) j hjt)
     rw [hfb] at HNX
     unfold hitT at HNX
     have HNX := Aside0.mk (show (q.take (j + 1)).any (hitT Wn X r2 r1) = (fb || (meetT Wn X q[j] && (y.f1 == r2 && y.f2 == r1))) from by rw [hy]; exact HNX.out)
     have HBY := Aside0.mk (show meetT Wn X q[j] = true → r3 = true ∧ y.f1 ≤ r2 from by rw [hy]; exact HBY.out)
     rw [← hy] at HMY
     generalize meetT Wn X q[j] = mb at HMY HBY HNX
     clear hrd hy hfb
     go_wp2
     refine start_ (n := 14) (S := fun w' => Below w6.heap.size w6 w') (ds := []) #[false, false, false, false, false, false, false, false, false, false, false, false, false, false] (by kernel_rfl) rfl rfl (below_drew1 HB7.out) (fun hHeld => ?_)
     clear HB7
     generalize World.drew _ = w8 at hHeld ⊢
     refine take_ (i := 0) (N := some 97) (v := ?_) (a' := ?_) #[true, false, false, false, false, false, false, false, false, false, false, false, false, false] rfl rfl (by kernel_rfl) (fun _ _ _ h => h) (Or.inl ⟨by rfl, ?_⟩) hHeld ?_ ?_
     rotate_left
     ·intro w' hs
      have m0 := blk_cell (blk_below HKW6.out hs) 0
      have m1 := blk_cell (blk_below HKW6.out hs) 1
      have m2 := blk_cell (blk_below HKW6.out hs) 2
      simp only [List.getElem?_toArray, List.getElem?_cons_succ, List.getElem?_cons_zero] at m0 m1 m2
      go_simp
      with_reducible rfl
     rotate_left
     ·simp only [Act.put, List.setIfInBounds_toArray, List.set_cons_zero, List.set_cons_succ, i64_w, i32_w]
      rfl
     refine pl_ [1, 2, 3, 4, 6, 7, 8, 9] ?_
     iterate 8 refine pP rfl rfl (by kernel_rfl) (fun _ _ _ h => h) (by rfl) (by intro w'; go_simp; with_reducible rfl) (by simp only [Act.put, z1, z2, z3, i64_w, i32_w]; rfl) ?_
     refine pl0 ?_
     refine take_ (i := 5) (N := some 102) (v := ?_) (a' := ?_) #[true, true, true, true, true, true, true, true, true, true, false, false, false, false] rfl rfl (by kernel_rfl) (fun _ _ _ h => h) (Or.inl ⟨by rfl, ?_⟩) hHeld ?_ ?_
     rotate_left
     ·intro w' hs
      obtain ⟨s0, s1, s2, s3, s4⟩ := HC1.out w' hs
      go_simp
      with_reducible rfl
     rotate_left
     ·simp only [Act.put, List.setIfInBounds_toArray, List.set_cons_zero, List.set_cons_succ, i64_w, i32_w]
      rfl
     refine take_ (i := 10) (N := some 107) (v := ?_) (a' := ?_) #[true, true, true, true, true, true, true, true, true, true, true, false, false, false] rfl rfl (by kernel_rfl) (fun _ _ _ h => h) (Or.inl ⟨by rfl, ?_⟩) hHeld ?_ ?_
     rotate_left
     ·intro w' hs
      obtain ⟨s0, s1, s2, s3, s4⟩ := HC1.out w' hs
      go_simp
      with_reducible rfl
     rotate_left
     ·simp only [Act.put, List.setIfInBounds_toArray, List.set_cons_zero, List.set_cons_succ, i64_w, i32_w]
      rfl
     refine pl_ [11] ?_
     refine pP rfl rfl (by kernel_rfl) (fun _ _ _ h => h) (by rfl) (by intro w'; go_simp; with_reducible rfl) (by simp only [Act.put, z1, z2, z3, i64_w, i32_w]; rfl) ?_
     refine pl0 ?_
     have HH := Aside0.mk hHeld
     clear hHeld
     refine one_ (i := 12) (N := some 109) #[true, true, true, true, true, true, true, true, true, true, true, true, true, false] rfl rfl (by kernel_rfl) (by decide) (fun K hK => ?_)
     refine goes_ Try.func23 (by kernel_rfl) rfl #[.agg #[.int .i64 k0, .int .u64 k1, .int .u64 k2], .agg #[.int .i64 y.f0.f0, .int .u64 y.f0.f1, .int .u64 y.f0.f2, .int .i64 y.f1, .int .i64 0]] (by rfl) rfl rfl (by simp only [List.map_toArray, List.map_cons, List.map_nil]; rfl) ?_
     with_reducible refine (shunterref20_Meets.calls 1000 k0 k1 k2 y.f0.f0 y.f0.f1 y.f0.f2 y.f1 0 mb _ HMY.out).mono ?_
     rintro e_ w1 ⟨rfl, hb⟩
     refine ⟨_, rfl, ?_⟩
     have HB8 := Aside0.mk (below_step HH.out hb)
     clear hb HH
     refine hK.out _ _ HB8.out (fun hHeld => ?_)
     clear hK K
     refine norm_ (a' := ?_) ?_ ?_
     rotate_left
     ·show Act.put _ (some 109) _ = _
      simp only [Act.put, List.setIfInBounds_toArray, List.set_cons_zero, List.set_cons_succ, i64_w, i32_w]
      rfl
     refine pl_ [13] ?_
     refine pP rfl rfl (by kernel_rfl) (fun _ _ _ h => h) (by rfl) (by intro w'; go_simp; with_reducible rfl) (by simp only [Act.put, z1, z2, z3, i64_w, i32_w]; rfl) ?_
     refine pl0 ?_
     refine done_ (by kernel_rfl) ?_
     obtain ⟨s0, s1, s2, s3, s4⟩ := HC1.out _ HB8.out
     cases mb with
     | false =>
      cases fb with
      | false =>
       go_wp2
       go_roundw
       case measure => first | (simp [intOf]; done) | (simp [intOf]; omega)
       case rel => exact ⟨j + 1, hjt, by go_num, ⟨⟨_, rfl, by rw [HNX.out]; rfl⟩⟩, HB8⟩
      | true =>
       go_wp2
       go_roundw
       case measure => first | (simp [intOf]; done) | (simp [intOf]; omega)
       case rel => exact ⟨j + 1, hjt, by go_num, ⟨⟨_, rfl, by rw [HNX.out]; rfl⟩⟩, HB8⟩
     | true =>
      obtain ⟨hr3, hle⟩ := HBY.out rfl
      subst hr3
      have hgt : decide (r2 < y.f1) = false := decide_eq_false (by omega)
      clear hle
      cases fb with
      | true =>
       go_wp2
       go_roundw
       case measure => first | (simp [intOf]; done) | (simp [intOf]; omega)
       case rel => exact ⟨j + 1, hjt, by go_num, ⟨⟨_, rfl, by rw [HNX.out]; rfl⟩⟩, HB8⟩
      | false =>
       cases hb1 : (y.f1 == r2) with
       | false =>
        go_wp2
        go_roundw
        case measure => first | (simp [intOf]; done) | (simp [intOf]; omega)
        case rel => exact ⟨j + 1, hjt, by go_num, ⟨⟨_, rfl, by rw [HNX.out]; rw [hb1]; rfl⟩⟩, HB8⟩
       | true =>
        cases hb2 : (y.f2 == r1) with
        | false =>
         go_wp2
         go_roundw
         case measure => first | (simp [intOf]; done) | (simp [intOf]; omega)
         case rel => exact ⟨j + 1, hjt, by go_num, ⟨⟨_, rfl, by rw [HNX.out]; rw [hb1, hb2]; rfl⟩⟩, HB8⟩
        | true =>
         go_wp2
         go_roundw
         case measure => first | (simp [intOf]; done) | (simp [intOf]; omega)
         case rel => exact ⟨j + 1, hjt, by go_num, ⟨⟨_, rfl, by rw [HNX.out]; rw [hb1, hb2]; rfl⟩⟩, HB8⟩
    ·have hje : j = q.length := by omega
     subst hje
     rw [List.take_length] at hfb
     have e := HBF.out
     rw [hfb] at e
     subst e
     cases fb with
     | false =>
      obtain ⟨e1, e2⟩ := HB0.out rfl
      subst e1 e2
      go_wp2_with (first | (go_at_call 17; with_reducible refine (tlives_calls _).mono ?_; rintro e_ w8 ⟨rfl, hb⟩; have HZ := Aside0.mk (below_step HB7.out hb); clear hb))
      go_ret
      exact ⟨rfl, below_step HWB.out (below_step HB6.out HZ.out)⟩
     | true =>
      go_wp2_with (first | (go_at_call 17; with_reducible refine (tlives_calls _).mono ?_; rintro e_ w8 ⟨rfl, hb⟩; have HZ := Aside0.mk (below_step HB7.out hb); clear hb))
      go_ret
      exact ⟨rfl, below_step HWB.out (below_step HB6.out HZ.out)⟩
theorem TrieLongest_true (W m : Int) (A : Option Addr) (c : Nat) (ops : List S34) (k0 k1 k2 : Int) (w : World) (hC : Kd.C k34 w A ops.length ops) (hok : ∀ y ∈ ops, okV y.f3) (hK : okV ⟨k0, k1, k2⟩) :
 Calls Try.prog 4 #[.agg #[.int .i64 W, .int .i64 m], .slice A ops.length c, .agg #[.int .i64 k0, .int .u64 k1, .int .u64 k2]] w fun e_ w' => e_ = .returned (.bool true) ∧ Below w.heap.size w w' := by
 have hm := ref02_May_eq k0 (vV ⟨k0, k1, k2⟩) (vV_lt hK)
 rw [vV_hi hK, vV_lo hK] at hm
 by_cases h : W < 1 ∨ 128 < W ∨ m < 1 ∨ 256 < m
 ·exact TrieLongest_bad W m A c ops k0 k1 k2 w h
 ·by_cases hl : 200 < ops.length
  ·exact TrieLongest_many W m A c ops k0 k1 k2 w (by omega) hl
  ·cases hv : vmay k0 (vV ⟨k0, k1, k2⟩) with
   | false => rw [hv] at hm; exact TrieLongest_not W m A c ops k0 k1 k2 w (by omega) (by omega) hm
   | true =>
    rw [hv] at hm
    cases hw : (k0 != W) with
    | true => exact TrieLongest_other W m A c ops k0 k1 k2 w (by omega) (by omega) hm hw
    | false =>
     have hkw : k0 = W := by simpa using hw
     have hx : vV ⟨k0, k1, k2⟩ < 2 ^ W.toNat := by
      unfold vmay at hv
      rw [decide_eq_true_eq] at hv
      rw [← hkw]
      exact hv.2.2
     exact TrieLongest_plays W m A c ops k0 k1 k2 w W.toNat (by omega) (by omega) (by omega) hm hw hC hok hK hx
end Go.Proofs.Ytfdbcnbakchcgaa.XR
