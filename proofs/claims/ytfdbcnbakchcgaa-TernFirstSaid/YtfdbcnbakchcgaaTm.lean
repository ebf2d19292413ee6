import Derived.Test.YtfdbcnbakchcgaaSq
import Derived.Test.YtfdbcnbakchcgaaTl
namespace Go.Proofs.Ytfdbcnbakchcgaa.XT
open Go.RowKit Go.Proofs.YtfdbcnbakchcgaaW.PrintWords Go.Proofs.YtfdbcnbakchcgaaW.PrintLast Go.Proofs.YtfdbcnbakchcgaaW.PrintMore
attribute [local go_sem] max2_int min2_int max_two min_two max_three min_three max_four min_four   -- for this text's walks alone
set_option linter.unusedVariables false
set_option linter.unusedSimpArgs false
set_option maxHeartbeats 1000000 in
set_option maxRecDepth 100000 in
theorem TernFirst_bad (W m : Int) (A : Option Addr) (c : Nat) (ops : List S57) (k0 k1 k2 : Int) (w : World) (h : W < 1 ∨ 128 < W ∨ m < 1 ∨ 256 < m) :
 Calls Try.prog 9 #[.agg #[.int .i64 W, .int .i64 m], .slice A ops.length c, .agg #[.int .i64 k0, .int .u64 k1, .int .u64 k2]] w fun e_ w' => e_ = .returned (.bool true) ∧ Below w.heap.size w w' := by
 have HN := Aside0.mk (fun w => New_no W m w h)
 have hc : (W < 1) ∨ (¬ W < 1 ∧ 128 < W) ∨ (¬ W < 1 ∧ ¬ 128 < W ∧ m < 1) ∨ (¬ W < 1 ∧ ¬ 128 < W ∧ ¬ m < 1 ∧ 256 < m) := by omega
 clear h
 have n0 := blk_cell (BX2.start w (.cells #[.int .i64 W, .int .i64 m] 22 (0, 0)) (.cells #[.int .i64 k0, .int .u64 k1, .int .u64 k2] 32 (0, 0))).b0 0
 have n1 := blk_cell (BX2.start w (.cells #[.int .i64 W, .int .i64 m] 22 (0, 0)) (.cells #[.int .i64 k0, .int .u64 k1, .int .u64 k2] 32 (0, 0))).b0 1
 simp only [List.getElem?_toArray, List.getElem?_cons_succ, List.getElem?_cons_zero] at n0 n1
 rcases hc with h1 | ⟨h1, h2⟩ | ⟨h1, h2, h3⟩ | ⟨h1, h2, h3, h4⟩
 ·have g1 : decide (W < 1) = true := decide_eq_true h1
  clear h1
  go_enter Try.func9, Try.ntmps9
  go_wp2_with (first | (go_at_call 39; with_reducible refine (HN.out _).mono ?_; rintro e_ w1 ⟨rfl, rfl⟩) | (go_at_call 35; with_reducible refine (lives_calls _).mono ?_; rintro e_ w1 ⟨rfl, hb⟩; have HZ := Aside0.mk (below_step (below_alloc (below_alloc (Below.refl _ _) (.cells #[.int .i64 W, .int .i64 m] 22 (0, 0))) (.cells #[.int .i64 k0, .int .u64 k1, .int .u64 k2] 32 (0, 0))) hb); clear hb))
  go_ret
  exact ⟨rfl, HZ.out⟩
 ·have g1 : decide (W < 1) = false := decide_eq_false h1
  have g2 : decide (128 < W) = true := decide_eq_true h2
  clear h1 h2
  go_enter Try.func9, Try.ntmps9
  go_wp2_with (first | (go_at_call 39; with_reducible refine (HN.out _).mono ?_; rintro e_ w1 ⟨rfl, rfl⟩) | (go_at_call 35; with_reducible refine (lives_calls _).mono ?_; rintro e_ w1 ⟨rfl, hb⟩; have HZ := Aside0.mk (below_step (below_alloc (below_alloc (Below.refl _ _) (.cells #[.int .i64 W, .int .i64 m] 22 (0, 0))) (.cells #[.int .i64 k0, .int .u64 k1, .int .u64 k2] 32 (0, 0))) hb); clear hb))
  go_ret
  exact ⟨rfl, HZ.out⟩
 ·have g1 : decide (W < 1) = false := decide_eq_false h1
  have g2 : decide (128 < W) = false := decide_eq_false h2
  have g3 : decide (m < 1) = true := decide_eq_true h3
  clear h1 h2 h3
  go_enter Try.func9, Try.ntmps9
  go_wp2_with (first | (go_at_call 39; with_reducible refine (HN.out _).mono ?_; rintro e_ w1 ⟨rfl, rfl⟩) | (go_at_call 35; with_reducible refine (lives_calls _).mono ?_; rintro e_ w1 ⟨rfl, hb⟩; have HZ := Aside0.mk (below_step (below_alloc (below_alloc (Below.refl _ _) (.cells #[.int .i64 W, .int .i64 m] 22 (0, 0))) (.cells #[.int .i64 k0, .int .u64 k1, .int .u64 k2] 32 (0, 0))) hb); clear hb))
  go_ret
  exact ⟨rfl, HZ.out⟩
 ·have g1 : decide (W < 1) = false := decide_eq_false h1
  have g2 : decide (128 < W) = false := decide_eq_false h2
  have g3 : decide (m < 1) = false := decide_eq_false h3
  have g4 : decide (256 < m) = true := decide_eq_true h4
  clear h1 h2 h3 h4
  go_enter Try.func9, Try.ntmps9
  go_wp2_with (first | (go_at_call 39; with_reducible refine (HN.out _).mono ?_; rintro e_ w1 ⟨rfl, rfl⟩) | (go_at_call 35; with_reducible refine (lives_calls _).mono ?_; rintro e_ w1 ⟨rfl, hb⟩; have HZ := Aside0.mk (below_step (below_alloc (below_alloc (Below.refl _ _) (.cells #[.int .i64 W, .int .i64 m] 22 (0, 0))) (.cells #[.int .i64 k0, .int .u64 k1, .int .u64 k2] 32 (0, 0))) hb); clear hb))
  go_ret
  exact ⟨rfl, HZ.out⟩
set_option maxHeartbeats 1000000 in
set_option maxRecDepth 100000 in
theorem TernFirst_many (W m : Int) (A : Option Addr) (c : Nat) (ops : List S57) (k0 k1 k2 : Int) (w : World) (h : 1 ≤ W ∧ W ≤ 128 ∧ 1 ≤ m ∧ m ≤ 256) (hl : 100 < ops.length) :
 Calls Try.prog 9 #[.agg #[.int .i64 W, .int .i64 m], .slice A ops.length c, .agg #[.int .i64 k0, .int .u64 k1, .int .u64 k2]] w fun e_ w' => e_ = .returned (.bool true) ∧ Below w.heap.size w w' := by
 have HN := Aside0.mk (fun w => New_ok W m w h.1 h.2.1 h.2.2.1 h.2.2.2)
 have g1 : decide (W < 1) = false := decide_eq_false (by omega)
 have g2 : decide (128 < W) = false := decide_eq_false (by omega)
 have g3 : decide (m < 1) = false := decide_eq_false (by omega)
 have g4 : decide (256 < m) = false := decide_eq_false (by omega)
 have g5 : decide ((100 : Int) < (ops.length : Int)) = true := decide_eq_true (by omega)
 clear h hl
 have n0 := blk_cell (BX2.start w (.cells #[.int .i64 W, .int .i64 m] 22 (0, 0)) (.cells #[.int .i64 k0, .int .u64 k1, .int .u64 k2] 32 (0, 0))).b0 0
 have n1 := blk_cell (BX2.start w (.cells #[.int .i64 W, .int .i64 m] 22 (0, 0)) (.cells #[.int .i64 k0, .int .u64 k1, .int .u64 k2] 32 (0, 0))).b0 1
 simp only [List.getElem?_toArray, List.getElem?_cons_succ, List.getElem?_cons_zero] at n0 n1
 go_enter Try.func9, Try.ntmps9
 go_wp2_with (first | (go_at_call 39; with_reducible refine (HN.out _).mono ?_; rintro e_ w1 ⟨rfl, rfl⟩; have n0 := blk_cell (blk_alloc (BX2.start w (.cells #[.int .i64 W, .int .i64 m] 22 (0, 0)) (.cells #[.int .i64 k0, .int .u64 k1, .int .u64 k2] 32 (0, 0))).b0 (.cells #[.slice none 0 0, .int .i64 W, .int .i64 m] 147 (0, 0))) 0; have n1 := blk_cell (blk_alloc (BX2.start w (.cells #[.int .i64 W, .int .i64 m] 22 (0, 0)) (.cells #[.int .i64 k0, .int .u64 k1, .int .u64 k2] 32 (0, 0))).b0 (.cells #[.slice none 0 0, .int .i64 W, .int .i64 m] 147 (0, 0))) 1; simp only [List.getElem?_toArray, List.getElem?_cons_succ, List.getElem?_cons_zero] at n0 n1) | (go_at_call 35; with_reducible refine (lives_calls _).mono ?_; rintro e_ w1 ⟨rfl, hb⟩; have HZ := Aside0.mk (below_step (below_alloc (below_alloc (below_alloc (Below.refl _ _) (.cells #[.int .i64 W, .int .i64 m] 22 (0, 0))) (.cells #[.int .i64 k0, .int .u64 k1, .int .u64 k2] 32 (0, 0))) (.cells #[.slice none 0 0, .int .i64 W, .int .i64 m] 147 (0, 0))) hb); clear hb))
 go_ret
 exact ⟨rfl, HZ.out⟩
set_option maxHeartbeats 1000000 in
set_option maxRecDepth 100000 in
theorem TernFirst_plays (W m : Int) (A : Option Addr) (c : Nat) (ops : List S57) (k0 k1 k2 : Int) (w : World) (h : 1 ≤ W ∧ W ≤ 128 ∧ 1 ≤ m ∧ m ≤ 256) (hl : ops.length ≤ 100) (hC : Kd.C k57 w A ops.length ops) (hok : ∀ y ∈ ops, okI (opX y)) (hK : okV ⟨k0, k1, k2⟩) :
 Calls Try.prog 9 #[.agg #[.int .i64 W, .int .i64 m], .slice A ops.length c, .agg #[.int .i64 k0, .int .u64 k1, .int .u64 k2]] w fun e_ w' => e_ = .returned (.bool true) ∧ Below w.heap.size w w' := by
 have HN := Aside0.mk (fun w => New_ok W m w h.1 h.2.1 h.2.2.1 h.2.2.2)
 have HRUN := Aside0.mk (runL_ok W m (by omega) ops hok)
 have g1 : decide (W < 1) = false := decide_eq_false (by omega)
 have g2 : decide (128 < W) = false := decide_eq_false (by omega)
 have g3 : decide (m < 1) = false := decide_eq_false (by omega)
 have g4 : decide (256 < m) = false := decide_eq_false (by omega)
 have g5 : decide ((100 : Int) < (ops.length : Int)) = false := decide_eq_false (by omega)
 obtain ⟨wb, hwb⟩ : ∃ wb, wb = (w.alloc (.cells #[.int .i64 W, .int .i64 m] 22 (0, 0))).alloc (.cells #[.int .i64 k0, .int .u64 k1, .int .u64 k2] 32 (0, 0)) := ⟨_, rfl⟩
 have HC := Aside0.mk (show Kd.C k57 wb A ops.length ops from by rw [hwb]; exact Kd.C_below hC (below_alloc (below_alloc (Below.refl _ _) _) _))
 have HBX := Aside0.mk (show wb.heap[w.heap.size]? = some (.cells #[.int .i64 W, .int .i64 m] 22 (0, 0)) from by rw [hwb]; exact (BX2.start w (.cells #[.int .i64 W, .int .i64 m] 22 (0, 0)) (.cells #[.int .i64 k0, .int .u64 k1, .int .u64 k2] 32 (0, 0))).b0)
 have HKX := Aside0.mk (show wb.heap[w.heap.size + 1]? = some (.cells #[.int .i64 k0, .int .u64 k1, .int .u64 k2] 32 (0, 0)) from by rw [hwb]; exact (BX2.start w (.cells #[.int .i64 W, .int .i64 m] 22 (0, 0)) (.cells #[.int .i64 k0, .int .u64 k1, .int .u64 k2] 32 (0, 0))).b1)
 have HWB := Aside0.mk (show Below w.heap.size w wb from by rw [hwb]; exact below_alloc (below_alloc (Below.refl _ _) (.cells #[.int .i64 W, .int .i64 m] 22 (0, 0))) (.cells #[.int .i64 k0, .int .u64 k1, .int .u64 k2] 32 (0, 0)))
 have hgs : wb.heap.size = w.heap.size + 2 := by rw [hwb]; simp
 have HLN := Aside0.mk hl
 have HOKS := Aside0.mk hok
 have HKV := Aside0.mk hK
 clear h hl hC hok hK
 have n0 := blk_cell (BX2.start w (.cells #[.int .i64 W, .int .i64 m] 22 (0, 0)) (.cells #[.int .i64 k0, .int .u64 k1, .int .u64 k2] 32 (0, 0))).b0 0
 have n1 := blk_cell (BX2.start w (.cells #[.int .i64 W, .int .i64 m] 22 (0, 0)) (.cells #[.int .i64 k0, .int .u64 k1, .int .u64 k2] 32 (0, 0))).b0 1
 simp only [List.getElem?_toArray, List.getElem?_cons_succ, List.getElem?_cons_zero] at n0 n1
 go_enter Try.func9, Try.ntmps9
 go_wp2_with (first | (go_at_call 39; with_reducible refine (HN.out _).mono ?_; rintro e_ w1 ⟨rfl, rfl⟩; rw [← hwb]; have HST := Aside0.mk (ST_new wb W m); rw [hgs] at HST; clear n0 n1; have n0 := blk_cell (blk_alloc HBX.out (.cells #[.slice none 0 0, .int .i64 W, .int .i64 m] 147 (0, 0))) 0; have n1 := blk_cell (blk_alloc HBX.out (.cells #[.slice none 0 0, .int .i64 W, .int .i64 m] 147 (0, 0))) 1; simp only [List.getElem?_toArray, List.getElem?_cons_succ, List.getElem?_cons_zero] at n0 n1; generalize wb.alloc (.cells #[.slice none 0 0, .int .i64 W, .int .i64 m] 147 (0, 0)) = w2 at HST n0 n1 ⊢))
 have HS0 := Aside0.mk (show ST wb w2 (w.heap.size + 2) (.slice none 0 0) (.slice none 0 0) (isoT (runL W m (ops.take 0))) (runL W m (ops.take 0)) W m from by rw [show runL W m (ops.take 0) = [] from by rw [List.take_zero]; rfl]; exact HST.out)
 go_loopw [8, 9] (fun u8 u9 w' => ∃ (i : Nat) (v : Value), i ≤ ops.length ∧ u9 = .int .i64 i ∧ Aside0 (ST wb w' (w.heap.size + 2) v u8 (isoT (runL W m (ops.take i))) (runL W m (ops.take i)) W m)) (fun _ u9 _ => ops.length - (intOf u9).toNat)
 case atStart => exact ⟨0, _, Nat.zero_le _, rfl, HS0⟩
 case round =>
  obtain ⟨i, v, hi, rfl, HT⟩ := hrel
  clear n0 n1 HST HS0
  by_cases hlt : i < ops.length
  ·have hl100 := HLN.out
   have hi0 : 0 ≤ (i : Int) := by omega
   have hil : (i : Int) < (ops.length : Int) := by omega
   obtain ⟨ad, hA, _⟩ := at_T57 HC.out (i : Int) hi0 hil
   subst hA
   have hy : rd_T57 ops (i : Int) = ops[i] := by simp [rd_T57, List.getD_eq_getElem?_getD, hlt]
   have HR1 := Aside0.mk (HRUN.out i hi)
   have HRS := Aside0.mk (runL_take W m ops i hlt)
   obtain ⟨y, hyy⟩ : ∃ y, y = ops[i] := ⟨_, rfl⟩
   rw [← hyy] at hy HRS
   have HOK := Aside0.mk (show okI (⟨⟨y.f3.f0, y.f3.f1, y.f3.f2⟩, ⟨y.f4.f0, y.f4.f1, y.f4.f2⟩, y.f1, y.f2⟩ : S59) from (show okI (opX y) from by rw [hyy]; exact HOKS.out _ (List.getElem_mem hlt)))
   have HCY := Aside0.mk (show ∀ w', Below wb.heap.size wb w' → w'.cell? (ad.add (i * 9)) = some (.int .i64 y.f0) ∧ w'.cell? ⟨(ad.add (i * 9)).block, (ad.add (i * 9)).off + 1, none⟩ = some (.int .i64 y.f1) ∧ w'.cell? ⟨(ad.add (i * 9)).block, (ad.add (i * 9)).off + 2, none⟩ = some (.int .i64 y.f2) ∧ w'.cell? ⟨(ad.add (i * 9)).block, (ad.add (i * 9)).off + 3, none⟩ = some (.int .i64 y.f3.f0) ∧ w'.cell? ⟨(ad.add (i * 9)).block, (ad.add (i * 9)).off + 4, none⟩ = some (.int .u64 y.f3.f1) ∧ w'.cell? ⟨(ad.add (i * 9)).block, (ad.add (i * 9)).off + 5, none⟩ = some (.int .u64 y.f3.f2) ∧ w'.cell? ⟨(ad.add (i * 9)).block, (ad.add (i * 9)).off + 6, none⟩ = some (.int .i64 y.f4.f0) ∧ w'.cell? ⟨(ad.add (i * 9)).block, (ad.add (i * 9)).off + 7, none⟩ = some (.int .u64 y.f4.f1) ∧ w'.cell? ⟨(ad.add (i * 9)).block, (ad.add (i * 9)).off + 8, none⟩ = some (.int .u64 y.f4.f2) from fun w' hb => by
    obtain ⟨ad2, e2, h2⟩ := at_T57 (Kd.C_below HC.out hb) (i : Int) hi0 hil
    injection e2 with e2
    subst e2
    rw [Int.toNat_natCast, hy] at h2
    exact h2)
   clear hyy hy
   go_wp2
   refine start_ (n := 12) (S := fun w' => Below wb.heap.size wb w') (ds := []) #[false, false, false, false, false, false, false, false, false, false, false, false] (by kernel_rfl) rfl rfl (below_drew1 HT.out.tk.below) (fun hHeld => ?_)
   have HT2 := Aside0.mk (HT.out.step (below_drew1 (Below.refl _ _)))
   clear HT
   generalize World.drew _ = w5 at HT2 hHeld ⊢
   refine pl_ [0, 1, 3, 4, 5] ?_
   iterate 5 refine pP rfl rfl (by kernel_rfl) (fun _ _ _ h => h) (by rfl) (by intro w'; go_simp; with_reducible rfl) (by simp only [Act.put, z1, z2, z3, i64_w, i32_w]; rfl) ?_
   refine pl0 ?_
   refine take_ (i := 2) (N := some 60) (v := ?_) (a' := ?_) #[true, true, true, true, true, true, false, false, false, false, false, false] rfl rfl (by kernel_rfl) (fun _ _ _ h => h) (Or.inl ⟨by rfl, ?_⟩) hHeld ?_ ?_
   rotate_left
   ·intro w' hs
    have m0 := blk_cell (blk_below HBX.out hs) 0
    have m1 := blk_cell (blk_below HBX.out hs) 1
    simp only [List.getElem?_toArray, List.getElem?_cons_succ, List.getElem?_cons_zero] at m0 m1
    go_simp
    with_reducible rfl
   rotate_left
   ·simp only [Act.put, List.setIfInBounds_toArray, List.set_cons_zero, List.set_cons_succ, i64_w, i32_w]
    rfl
   refine take_ (i := 6) (N := some 64) (v := ?_) (a' := ?_) #[true, true, true, true, true, true, true, false, false, false, false, false] rfl rfl (by kernel_rfl) (fun _ _ _ h => h) (Or.inl ⟨by rfl, ?_⟩) hHeld ?_ ?_
   rotate_left
   ·intro w' hs
    obtain ⟨s0, s1, s2, s3, s4, s5, s6, s7, s8⟩ := HCY.out w' hs
    go_simp
    with_reducible rfl
   rotate_left
   ·simp only [Act.put, List.setIfInBounds_toArray, List.set_cons_zero, List.set_cons_succ, i64_w, i32_w]
    rfl
   refine one_ (i := 7) (N := some 65) #[true, true, true, true, true, true, true, true, false, false, false, false] rfl rfl (by kernel_rfl) (by decide) (fun K hK => ?_)
   refine goes_ Try.func40 (by kernel_rfl) rfl #[.pointer (some ⟨w.heap.size + 2, 0, none⟩), u8, .agg #[.int .i64 W, .int .i64 m], .agg #[.int .i64 y.f0, .int .i64 y.f1, .int .i64 y.f2, .int .i64 y.f3.f0, .int .u64 y.f3.f1, .int .u64 y.f3.f2, .int .i64 y.f4.f0, .int .u64 y.f4.f1, .int .u64 y.f4.f2]] (by rfl) rfl rfl (by simp only [List.map_toArray, List.map_cons, List.map_nil]; rfl) ?_
   with_reducible refine (step_any wb _ (w.heap.size + 2) v u8 (runL W m (ops.take i)) W m y.f0 y.f1 y.f2 y.f3.f0 y.f3.f1 y.f3.f2 y.f4.f0 y.f4.f1 y.f4.f2 HT2.out HR1.out.1 (by have := HR1.out.2; have := HLN.out; omega) HOK.out).mono ?_
   rintro e_ w1 ⟨v1, vx1, rfl, hst⟩
   refine ⟨_, rfl, ?_⟩
   rw [show stepL W m (runL W m (ops.take i)) y.f0 ⟨⟨y.f3.f0, y.f3.f1, y.f3.f2⟩, ⟨y.f4.f0, y.f4.f1, y.f4.f2⟩, y.f1, y.f2⟩ = runL W m (ops.take (i + 1)) from HRS.out.symm] at hst
   obtain ⟨Ax, cx, rfl⟩ := Kd.R_slice hst.rx
   have HT := Aside0.mk hst
   clear hst HT2
   refine hK.out _ _ HT.out.tk.below (fun hHeld => ?_)
   clear hK K
   refine norm_ (a' := ?_) ?_ ?_
   rotate_left
   ·show Act.put _ (some 65) _ = _
    simp only [Act.put, List.setIfInBounds_toArray, List.set_cons_zero, List.set_cons_succ, i64_w, i32_w]
    rfl
   refine pl_ [8, 9, 10, 11] ?_
   iterate 4 refine pP rfl rfl (by kernel_rfl) (fun _ _ _ h => h) (by rfl) (by intro w'; go_simp; with_reducible rfl) (by simp only [Act.put, z1, z2, z3, i64_w, i32_w]; rfl) ?_
   refine pl0 ?_
   refine done_ (by kernel_rfl) ?_
   go_wp2
   go_roundw
   case measure => first | (simp [intOf]; done) | (simp [intOf]; omega)
   case rel => exact ⟨i + 1, v1, hlt, by go_num, HT⟩
  ·have hie : i = ops.length := by omega
   have hl100 := HLN.out
   obtain ⟨Ax, cx, rfl⟩ := Kd.R_slice HT.out.rx
   have HR1 := HRUN.out i hi
   obtain ⟨x, hx⟩ : ∃ x, x = runL W m (ops.take i) := ⟨_, rfl⟩
   rw [← hx] at HT HR1 ⊢
   clear hx
   have hxl : x.length ≤ 100 := by have := HR1.2; omega
   have hn1 : (isoT x).length ≤ 1000 := by rw [isoT_length]; omega
   have HQ1 := fun y (hy : y ∈ isoT x) => vec_Meets_q k0 (vV ⟨k0, k1, k2⟩) (vV_lt HKV.out) y (okI_iso HR1.1.ok y hy)
   have HQ2 := fun y (hy : y ∈ isoT x) => ref_Meets_q 200 (by omega) k0 (vV ⟨k0, k1, k2⟩) (vV_lt HKV.out) y (okI_iso HR1.1.ok y hy)
   rw [vV_hi HKV.out, vV_lo HKV.out] at HQ1 HQ2
   generalize qK k0 (vV ⟨k0, k1, k2⟩) = q at HQ1 HQ2
   have HM1 := Aside0.mk HQ1
   have HM2 := Aside0.mk HQ2
   have HSRT := Aside0.mk (show (isoT x).Pairwise (fun a b => a.f2 ≤ b.f2) from isort_sorted (fun y : S59 => y.f2) (x.map cv))
   obtain ⟨l, hxx⟩ : ∃ l, l = isoT x := ⟨_, rfl⟩
   have hll : l.length = x.length := by rw [hxx, isoT_length]
   rw [← hxx] at HT HM1 HM2 HSRT hn1
   have HN1 := Aside0.mk hn1
   clear HQ1 HQ2 HR1 hxx hn1
   obtain ⟨r, hr⟩ : ∃ r, r = getA q l := ⟨_, rfl⟩
   obtain ⟨r1, r2, r3⟩ := r
   have HGA := Aside0.mk hr.symm
   clear hr
   have k0_ := blk_cell (blk_below HKX.out HT.out.tk.below) 0
   have k1_ := blk_cell (blk_below HKX.out HT.out.tk.below) 1
   have k2_ := blk_cell (blk_below HKX.out HT.out.tk.below) 2
   simp only [List.getElem?_toArray, List.getElem?_cons_succ, List.getElem?_cons_zero] at k0_ k1_ k2_
   go_wp2_with (first | (go_at_call 41; with_reducible refine (Get_calls wb _ (w.heap.size + 2) v l W m k0 k1 k2 q HT.out.tk HN1.out HM1.out).mono ?_; rintro e_ w4 ⟨rfl, hb⟩; rw [HGA.out]; clear k0_ k1_ k2_; have HT1 := Aside0.mk (HT.out.step hb); clear hb) | (go_at_call 42; with_reducible refine (List_calls wb _ (w.heap.size + 2) v l W m HT1.out.tk HN1.out).mono ?_; rintro e_ w5 ⟨v5, rfl, hr, hb⟩; obtain ⟨Ag, cg, e0⟩ := Kd.R_slice hr; rw [hll] at e0; subst e0; have HG := Aside0.mk hr; have HT2 := Aside0.mk (HT1.out.step hb); clear hr hb))
   have HB6 := Aside0.mk HT2.out.tk.below
   have HKW := Aside0.mk (blk_below HKX.out HT2.out.tk.below)
   clear HT HT1 HT2
   obtain ⟨w6, hw6⟩ : ∃ w6, w6 = w5 := ⟨_, rfl⟩
   rw [← hw6] at HB6 HG HKW ⊢
   clear hw6
   go_loopw [14] (fun u14 w' => ∃ j : Nat, j ≤ x.length ∧ u14 = .int .i64 j ∧ Aside0 (∀ t, t < j → q (rd_T59 l (t : Int)) = false) ∧ Aside0 (Below w6.heap.size w6 w')) (fun u14 _ => x.length - (intOf u14).toNat)
   case atStart => exact ⟨0, Nat.zero_le _, rfl, ⟨fun t ht => by omega⟩, ⟨Below.refl _ _⟩⟩
   case round =>
    obtain ⟨j, hj, rfl, HNO, HB7⟩ := hrel
    by_cases hjt : j < x.length
    ·have hj0 : 0 ≤ (j : Int) := by omega
     have hjl : (j : Int) < (x.length : Int) := by omega
     have hlj : j < l.length := by omega
     obtain ⟨d1, hA1, _⟩ := at_T59 (Kd.R_reads' HG.out).2.2 (j : Int) hj0 (by omega)
     subst hA1
     obtain ⟨y, hy⟩ : ∃ y, y = l[j] := ⟨_, rfl⟩
     have hrd : rd_T59 l (j : Int) = y := by rw [hy]; simp [rd_T59, List.getD_eq_getElem?_getD, hlj]
     have HC1 := Aside0.mk (show ∀ w', Below w6.heap.size w6 w' → w'.cell? (d1.add (j * 8)) = some (.int .i64 y.f0.f0) ∧ w'.cell? ⟨(d1.add (j * 8)).block, (d1.add (j * 8)).off + 1, none⟩ = some (.int .u64 y.f0.f1) ∧ w'.cell? ⟨(d1.add (j * 8)).block, (d1.add (j * 8)).off + 2, none⟩ = some (.int .u64 y.f0.f2) ∧ w'.cell? ⟨(d1.add (j * 8)).block, (d1.add (j * 8)).off + 3, none⟩ = some (.int .i64 y.f1.f0) ∧ w'.cell? ⟨(d1.add (j * 8)).block, (d1.add (j * 8)).off + 4, none⟩ = some (.int .u64 y.f1.f1) ∧ w'.cell? ⟨(d1.add (j * 8)).block, (d1.add (j * 8)).off + 5, none⟩ = some (.int .u64 y.f1.f2) ∧ w'.cell? ⟨(d1.add (j * 8)).block, (d1.add (j * 8)).off + 6, none⟩ = some (.int .i64 y.f2) ∧ w'.cell? ⟨(d1.add (j * 8)).block, (d1.add (j * 8)).off + 7, none⟩ = some (.int .i64 y.f3) from fun w' hb => by
      obtain ⟨ad2, e2, h2⟩ := at_T59 (Kd.C_below (Kd.R_reads' HG.out).2.2 hb) (j : Int) (by omega) (by omega)
      injection e2 with e2
      subst e2
      rw [Int.toNat_natCast, show rd_T59 l (j : Int) = y from by rw [hy]; simp [rd_T59, List.getD_eq_getElem?_getD, hlj]] at h2
      exact h2)
     have HHIT := Aside0.mk (getA_hit q l j hlj HNO.out)
     rw [hrd] at HHIT
     have HNX := Aside0.mk (fun (hq : q y = false) (t : Nat) (ht : t < j + 1) => (show q (rd_T59 l (t : Int)) = false from by
      rcases Nat.lt_or_ge t j with c | c
      ·exact HNO.out t c
      ·obtain rfl : t = j := by omega
       rw [hrd]; exact hq))
     have HMY := Aside0.mk (HM2.out y (by rw [hy]; exact List.getElem_mem hlj))
     have HPR := Aside0.mk (fun (p : Nat) (hp : p < j) => (show (l[p]'(by omega)).f2 ≤ y.f2 from by rw [hy]; exact List.pairwise_iff_getElem.1 HSRT.out p j (by omega) hlj hp))
     clear hrd hy
     by_cases hjz : j = 0
     ·have hgt : decide (0 < (j : Int)) = false := decide_eq_false (by omega)
      have hgt2 : decide (0 < j) = false := decide_eq_false (by omega)
      clear hjz
      go_wp2
      refine start_ (n := 16) (S := fun w' => Below w6.heap.size w6 w') (ds := []) #[false, false, false, false, false, false, false, false, false, false, false, false, false, false, false, false] (by kernel_rfl) rfl rfl (below_drew1 HB7.out) (fun hHeld => ?_)
      clear HB7
      generalize World.drew _ = w7 at hHeld ⊢
      refine pl_ [0, 1, 2, 3, 4, 5, 6, 7, 8, 9, 10, 11, 12, 13, 14, 15] ?_
      iterate 3 refine pP rfl rfl (by kernel_rfl) (fun _ _ _ h => h) (by rfl) (by intro w'; go_simp; with_reducible rfl) (by simp only [Act.put, z1, z2, z3, i64_w, i32_w]; rfl) ?_
      iterate 12 refine pU rfl rfl (by kernel_rfl) (fun _ _ _ h => h) (by rfl) (by simp only [Act.put, z1, z2, z3, i64_w, i32_w]; rfl) ?_
      refine pP rfl rfl (by kernel_rfl) (fun _ _ _ h => h) (by rfl) (by intro w'; go_simp; with_reducible rfl) (by simp only [Act.put, z1, z2, z3, i64_w, i32_w]; rfl) ?_
      refine pl0 ?_
      refine done_ (by kernel_rfl) ?_
      have HBC := Aside0.mk hHeld
      clear hHeld hgt hgt2
      go_wp2
      refine start_ (n := 12) (S := fun w' => Below w6.heap.size w6 w') (ds := []) #[false, false, false, false, false, false, false, false, false, false, false, false] (by kernel_rfl) rfl rfl (below_drew1 HBC.out) (fun hHeld => ?_)
      clear HBC
      generalize World.drew _ = w8 at hHeld ⊢
      refine pl_ [1, 2, 3, 4, 6, 7, 8, 9] ?_
      iterate 8 refine pP rfl rfl (by kernel_rfl) (fun _ _ _ h => h) (by rfl) (by intro w'; go_simp; with_reducible rfl) (by simp only [Act.put, z1, z2, z3, i64_w, i32_w]; rfl) ?_
      refine pl0 ?_
      refine take_ (i := 0) (N := some 99) (v := ?_) (a' := ?_) #[true, true, true, true, true, false, true, true, true, true, false, false] rfl rfl (by kernel_rfl) (fun _ _ _ h => h) (Or.inl ⟨by rfl, ?_⟩) hHeld ?_ ?_
      rotate_left
      ·intro w' hs
       have m0 := blk_cell (blk_below HKW.out hs) 0
       have m1 := blk_cell (blk_below HKW.out hs) 1
       have m2 := blk_cell (blk_below HKW.out hs) 2
       simp only [List.getElem?_toArray, List.getElem?_cons_succ, List.getElem?_cons_zero] at m0 m1 m2
       go_simp
       with_reducible rfl
      rotate_left
      ·simp only [Act.put, List.setIfInBounds_toArray, List.set_cons_zero, List.set_cons_succ, i64_w, i32_w]
       rfl
      refine take_ (i := 5) (N := some 104) (v := ?_) (a' := ?_) #[true, true, true, true, true, true, true, true, true, true, false, false] rfl rfl (by kernel_rfl) (fun _ _ _ h => h) (Or.inl ⟨by rfl, ?_⟩) hHeld ?_ ?_
      rotate_left
      ·intro w' hs
       obtain ⟨s0, s1, s2, s3, s4, s5, s6, s7⟩ := HC1.out w' hs
       go_simp
       with_reducible rfl
      rotate_left
      ·simp only [Act.put, List.setIfInBounds_toArray, List.set_cons_zero, List.set_cons_succ, i64_w, i32_w]
       rfl
      refine take_ (i := 10) (N := some 109) (v := ?_) (a' := ?_) #[true, true, true, true, true, true, true, true, true, true, true, false] rfl rfl (by kernel_rfl) (fun _ _ _ h => h) (Or.inl ⟨by rfl, ?_⟩) hHeld ?_ ?_
      rotate_left
      ·intro w' hs
       obtain ⟨s0, s1, s2, s3, s4, s5, s6, s7⟩ := HC1.out w' hs
       go_simp
       with_reducible rfl
      rotate_left
      ·simp only [Act.put, List.setIfInBounds_toArray, List.set_cons_zero, List.set_cons_succ, i64_w, i32_w]
       rfl
      have HH := Aside0.mk hHeld
      clear hHeld
      generalize hqv : q y = qv at HMY HNX HHIT
      refine one_ (i := 11) (N := some 110) #[true, true, true, true, true, true, true, true, true, true, true, true] rfl rfl (by kernel_rfl) (by decide) (fun K hK => ?_)
      refine goes_ Try.func38 (by kernel_rfl) rfl #[.agg #[.int .i64 k0, .int .u64 k1, .int .u64 k2], .agg #[.int .i64 y.f0.f0, .int .u64 y.f0.f1, .int .u64 y.f0.f2], .agg #[.int .i64 y.f1.f0, .int .u64 y.f1.f1, .int .u64 y.f1.f2]] (by rfl) rfl rfl (by simp only [List.map_toArray, List.map_cons, List.map_nil]; rfl) ?_
      with_reducible refine (shunterref02_Meets.calls 200 k0 k1 k2 y.f0.f0 y.f0.f1 y.f0.f2 y.f1.f0 y.f1.f1 y.f1.f2 qv _ HMY.out).mono ?_
      rintro e_ w1 ⟨rfl, hb⟩
      refine ⟨_, rfl, ?_⟩
      have HB8 := Aside0.mk (below_step HH.out hb)
      clear hb HH
      refine hK.out _ _ HB8.out (fun hHeld => ?_)
      clear hK K
      refine norm_ (a' := ?_) ?_ ?_
      rotate_left
      ·show Act.put _ (some 110) _ = _
       simp only [Act.put, List.setIfInBounds_toArray, List.set_cons_zero, List.set_cons_succ, i64_w, i32_w]
       rfl
      refine done_ (by kernel_rfl) ?_
      clear hqv
      cases qv with
      | true =>
       have e := HHIT.out rfl
       rw [HGA.out] at e
       injection e with e1 e2
       injection e2 with e2 e3
       subst e1 e2 e3
       clear HHIT HNX
       obtain ⟨s0, s1, s2, s3, s4, s5, s6, s7⟩ := HC1.out _ HB8.out
       go_wp2_with (first | (go_at_call 35; with_reducible refine (lives_calls _).mono ?_; rintro e_ w9 ⟨rfl, hb⟩; have HZ := Aside0.mk (below_step HB8.out hb); clear hb))
       go_ret
       exact ⟨rfl, below_step HWB.out (below_step HB6.out HZ.out)⟩
      | false =>
       have HNO2 := Aside0.mk (HNX.out rfl)
       clear HHIT HNX
       go_wp2
       go_roundw
       case measure => first | (simp [intOf]; done) | (simp [intOf]; omega)
       case rel => exact ⟨j + 1, hjt, by go_num, HNO2, HB8⟩
     ·obtain ⟨p, hp⟩ : ∃ p, j = p + 1 := ⟨j - 1, by omega⟩
      have hpj : p < j := by omega
      have hpl : p < l.length := by omega
      obtain ⟨z, hz⟩ : ∃ z, z = l[p] := ⟨_, rfl⟩
      have HC2 := Aside0.mk (show ∀ w', Below w6.heap.size w6 w' → w'.cell? (d1.add (p * 8)) = some (.int .i64 z.f0.f0) ∧ w'.cell? ⟨(d1.add (p * 8)).block, (d1.add (p * 8)).off + 1, none⟩ = some (.int .u64 z.f0.f1) ∧ w'.cell? ⟨(d1.add (p * 8)).block, (d1.add (p * 8)).off + 2, none⟩ = some (.int .u64 z.f0.f2) ∧ w'.cell? ⟨(d1.add (p * 8)).block, (d1.add (p * 8)).off + 3, none⟩ = some (.int .i64 z.f1.f0) ∧ w'.cell? ⟨(d1.add (p * 8)).block, (d1.add (p * 8)).off + 4, none⟩ = some (.int .u64 z.f1.f1) ∧ w'.cell? ⟨(d1.add (p * 8)).block, (d1.add (p * 8)).off + 5, none⟩ = some (.int .u64 z.f1.f2) ∧ w'.cell? ⟨(d1.add (p * 8)).block, (d1.add (p * 8)).off + 6, none⟩ = some (.int .i64 z.f2) ∧ w'.cell? ⟨(d1.add (p * 8)).block, (d1.add (p * 8)).off + 7, none⟩ = some (.int .i64 z.f3) from fun w' hb => by
       obtain ⟨ad2, e2, h2⟩ := at_T59 (Kd.C_below (Kd.R_reads' HG.out).2.2 hb) (p : Int) (by omega) (by omega)
       injection e2 with e2
       subst e2
       rw [Int.toNat_natCast, show rd_T59 l (p : Int) = z from by rw [hz]; simp [rd_T59, List.getD_eq_getElem?_getD, hpl]] at h2
       exact h2)
      have hzy := HPR.out p hpj
      rw [← hz] at hzy
      have hcm : decide (y.f2 < z.f2) = false := decide_eq_false (by omega)
      have hw1 : wrap64 ((j : Int) - 1) = (p : Int) := by rw [hp]; unfold wrap64; omega
      have hp0 : 0 ≤ (p : Int) := by omega
      have hpx : (p : Int) < (x.length : Int) := by omega
      have hgt : decide (0 < (j : Int)) = true := decide_eq_true (by omega)
      have hgt2 : decide (0 < j) = true := decide_eq_true (by omega)
      clear hz hzy hp hjz
      go_wp2
      refine start_ (n := 16) (S := fun w' => Below w6.heap.size w6 w') (ds := []) #[false, false, false, false, false, false, false, false, false, false, false, false, false, false, false, false] (by kernel_rfl) rfl rfl (below_drew1 HB7.out) (fun hHeld => ?_)
      clear HB7
      generalize World.drew _ = w7 at hHeld ⊢
      refine pl_ [0, 1, 2, 3, 4, 5, 6, 8, 9, 10, 11, 12] ?_
      iterate 12 refine pP rfl rfl (by kernel_rfl) (fun _ _ _ h => h) (by rfl) (by intro w'; go_simp; with_reducible rfl) (by simp only [Act.put, z1, z2, z3, i64_w, i32_w]; rfl) ?_
      refine pl0 ?_
      refine take_ (i := 7) (N := some 90) (v := ?_) (a' := ?_) #[true, true, true, true, true, true, true, true, true, true, true, true, true, false, false, false] rfl rfl (by kernel_rfl) (fun _ _ _ h => h) (Or.inl ⟨by rfl, ?_⟩) hHeld ?_ ?_
      rotate_left
      ·intro w' hs
       obtain ⟨s0, s1, s2, s3, s4, s5, s6, s7⟩ := HC1.out w' hs
       go_simp
       with_reducible rfl
      rotate_left
      ·simp only [Act.put, List.setIfInBounds_toArray, List.set_cons_zero, List.set_cons_succ, i64_w, i32_w]
       rfl
      refine take_ (i := 13) (N := some 96) (v := ?_) (a' := ?_) #[true, true, true, true, true, true, true, true, true, true, true, true, true, true, false, false] rfl rfl (by kernel_rfl) (fun _ _ _ h => h) (Or.inl ⟨by rfl, ?_⟩) hHeld ?_ ?_
      rotate_left
      ·intro w' hs
       obtain ⟨s0, s1, s2, s3, s4, s5, s6, s7⟩ := HC2.out w' hs
       go_simp
       with_reducible rfl
      rotate_left
      ·simp only [Act.put, List.setIfInBounds_toArray, List.set_cons_zero, List.set_cons_succ, i64_w, i32_w]
       rfl
      refine pl_ [14, 15] ?_
      iterate 2 refine pP rfl rfl (by kernel_rfl) (fun _ _ _ h => h) (by rfl) (by intro w'; go_simp; with_reducible rfl) (by simp only [Act.put, z1, z2, z3, i64_w, i32_w]; rfl) ?_
      refine pl0 ?_
      refine done_ (by kernel_rfl) ?_
      have HBC := Aside0.mk hHeld
      clear hHeld hw1 hcm hgt hgt2
      go_wp2
      refine start_ (n := 12) (S := fun w' => Below w6.heap.size w6 w') (ds := []) #[false, false, false, false, false, false, false, false, false, false, false, false] (by kernel_rfl) rfl rfl (below_drew1 HBC.out) (fun hHeld => ?_)
      clear HBC
      generalize World.drew _ = w8 at hHeld ⊢
      refine pl_ [1, 2, 3, 4, 6, 7, 8, 9] ?_
      iterate 8 refine pP rfl rfl (by kernel_rfl) (fun _ _ _ h => h) (by rfl) (by intro w'; go_simp; with_reducible rfl) (by simp only [Act.put, z1, z2, z3, i64_w, i32_w]; rfl) ?_
      refine pl0 ?_
      refine take_ (i := 0) (N := some 99) (v := ?_) (a' := ?_) #[true, true, true, true, true, false, true, true, true, true, false, false] rfl rfl (by kernel_rfl) (fun _ _ _ h => h) (Or.inl ⟨by rfl, ?_⟩) hHeld ?_ ?_
      rotate_left
      ·intro w' hs
       have m0 := blk_cell (blk_below HKW.out hs) 0
       have m1 := blk_cell (blk_below HKW.out hs) 1
       have m2 := blk_cell (blk_below HKW.out hs) 2
       simp only [List.getElem?_toArray, List.getElem?_cons_succ, List.getElem?_cons_zero] at m0 m1 m2
       go_simp
       with_reducible rfl
      rotate_left
      ·simp only [Act.put, List.setIfInBounds_toArray, List.set_cons_zero, List.set_cons_succ, i64_w, i32_w]
       rfl
      refine take_ (i := 5) (N := some 104) (v := ?_) (a' := ?_) #[true, true, true, true, true, true, true, true, true, true, false, false] rfl rfl (by kernel_rfl) (fun _ _ _ h => h) (Or.inl ⟨by rfl, ?_⟩) hHeld ?_ ?_
      rotate_left
      ·intro w' hs
       obtain ⟨s0, s1, s2, s3, s4, s5, s6, s7⟩ := HC1.out w' hs
       go_simp
       with_reducible rfl
      rotate_left
      ·simp only [Act.put, List.setIfInBounds_toArray, List.set_cons_zero, List.set_cons_succ, i64_w, i32_w]
       rfl
      refine take_ (i := 10) (N := some 109) (v := ?_) (a' := ?_) #[true, true, true, true, true, true, true, true, true, true, true, false] rfl rfl (by kernel_rfl) (fun _ _ _ h => h) (Or.inl ⟨by rfl, ?_⟩) hHeld ?_ ?_
      rotate_left
      ·intro w' hs
       obtain ⟨s0, s1, s2, s3, s4, s5, s6, s7⟩ := HC1.out w' hs
       go_simp
       with_reducible rfl
      rotate_left
      ·simp only [Act.put, List.setIfInBounds_toArray, List.set_cons_zero, List.set_cons_succ, i64_w, i32_w]
       rfl
      have HH := Aside0.mk hHeld
      clear hHeld
      generalize hqv : q y = qv at HMY HNX HHIT
      refine one_ (i := 11) (N := some 110) #[true, true, true, true, true, true, true, true, true, true, true, true] rfl rfl (by kernel_rfl) (by decide) (fun K hK => ?_)
      refine goes_ Try.func38 (by kernel_rfl) rfl #[.agg #[.int .i64 k0, .int .u64 k1, .int .u64 k2], .agg #[.int .i64 y.f0.f0, .int .u64 y.f0.f1, .int .u64 y.f0.f2], .agg #[.int .i64 y.f1.f0, .int .u64 y.f1.f1, .int .u64 y.f1.f2]] (by rfl) rfl rfl (by simp only [List.map_toArray, List.map_cons, List.map_nil]; rfl) ?_
      with_reducible refine (shunterref02_Meets.calls 200 k0 k1 k2 y.f0.f0 y.f0.f1 y.f0.f2 y.f1.f0 y.f1.f1 y.f1.f2 qv _ HMY.out).mono ?_
      rintro e_ w1 ⟨rfl, hb⟩
      refine ⟨_, rfl, ?_⟩
      have HB8 := Aside0.mk (below_step HH.out hb)
      clear hb HH
      refine hK.out _ _ HB8.out (fun hHeld => ?_)
      clear hK K
      refine norm_ (a' := ?_) ?_ ?_
      rotate_left
      ·show Act.put _ (some 110) _ = _
       simp only [Act.put, List.setIfInBounds_toArray, List.set_cons_zero, List.set_cons_succ, i64_w, i32_w]
       rfl
      refine done_ (by kernel_rfl) ?_
      clear hqv
      cases qv with
      | true =>
       have e := HHIT.out rfl
       rw [HGA.out] at e
       injection e with e1 e2
       injection e2 with e2 e3
       subst e1 e2 e3
       clear HHIT HNX
       obtain ⟨s0, s1, s2, s3, s4, s5, s6, s7⟩ := HC1.out _ HB8.out
       go_wp2_with (first | (go_at_call 35; with_reducible refine (lives_calls _).mono ?_; rintro e_ w9 ⟨rfl, hb⟩; have HZ := Aside0.mk (below_step HB8.out hb); clear hb))
       go_ret
       exact ⟨rfl, below_step HWB.out (below_step HB6.out HZ.out)⟩
      | false =>
       have HNO2 := Aside0.mk (HNX.out rfl)
       clear HHIT HNX
       go_wp2
       go_roundw
       case measure => first | (simp [intOf]; done) | (simp [intOf]; omega)
       case rel => exact ⟨j + 1, hjt, by go_num, HNO2, HB8⟩
    ·have hje : j = x.length := by omega
     subst hje
     have e := getA_miss q l (by rw [hll]; exact HNO.out)
     rw [HGA.out] at e
     injection e with e1 e2
     injection e2 with e2 e3
     subst e1 e2 e3
     go_wp2_with (first | (go_at_call 35; with_reducible refine (lives_calls _).mono ?_; rintro e_ w8 ⟨rfl, hb⟩; have HZ := Aside0.mk (below_step HB7.out hb); clear hb))
     go_ret
     exact ⟨rfl, below_step HWB.out (below_step HB6.out HZ.out)⟩
theorem TernFirst_true (W m : Int) (A : Option Addr) (c : Nat) (ops : List S57) (k0 k1 k2 : Int) (w : World) (hC : Kd.C k57 w A ops.length ops) (hok : ∀ y ∈ ops, okI (opX y)) (hK : okV ⟨k0, k1, k2⟩) :
 Calls Try.prog 9 #[.agg #[.int .i64 W, .int .i64 m], .slice A ops.length c, .agg #[.int .i64 k0, .int .u64 k1, .int .u64 k2]] w fun e_ w' => e_ = .returned (.bool true) ∧ Below w.heap.size w w' := by
 by_cases h : W < 1 ∨ 128 < W ∨ m < 1 ∨ 256 < m
 ·exact TernFirst_bad W m A c ops k0 k1 k2 w h
 ·by_cases hl : 100 < ops.length
  ·exact TernFirst_many W m A c ops k0 k1 k2 w (by omega) hl
  ·exact TernFirst_plays W m A c ops k0 k1 k2 w (by omega) (by omega) hC hok hK
end Go.Proofs.Ytfdbcnbakchcgaa.XT
