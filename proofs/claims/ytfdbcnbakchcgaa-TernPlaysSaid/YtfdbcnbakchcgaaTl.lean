import Derived.Test.YtfdbcnbakchcgaaSq
import Derived.Test.YtfdbcnbakchcgaaTj
namespace Go.Proofs.Ytfdbcnbakchcgaa.XT
open Go.RowKit Go.Proofs.YtfdbcnbakchcgaaW.PrintWords Go.Proofs.YtfdbcnbakchcgaaW.PrintLast Go.Proofs.YtfdbcnbakchcgaaW.PrintMore
attribute [local go_sem] max2_int min2_int max_two min_two max_three min_three max_four min_four   -- for this text's walks alone
set_option linter.unusedVariables false
set_option linter.unusedSimpArgs false
structure S57 where
 f0 : Int
 f1 : Int
 f2 : Int
 f3 : S32
 f4 : S32
def z57 : S57 := ⟨0, 0, 0, z32, z32⟩
def k57 : Kd S57 := Kd.iso (Kd.pair (Kd.int .i64) (Kd.pair (Kd.int .i64) (Kd.pair (Kd.int .i64) (Kd.pair k32 k32)))) (fun x : S57 => (x.f0, x.f1, x.f2, x.f3, x.f4))
theorem k57_open {w : World} {x : S57} {cs : List Value} (h : k57.K w x cs) : cs = [.int .i64 x.f0, .int .i64 x.f1, .int .i64 x.f2, .int .i64 x.f3.f0, .int .u64 x.f3.f1, .int .u64 x.f3.f2, .int .i64 x.f4.f0, .int .u64 x.f4.f1, .int .u64 x.f4.f2] := by
 obtain ⟨_, _, rfl, rfl, ⟨_, _, rfl, rfl, ⟨_, _, rfl, rfl, ⟨_, _, rfl, s0, s1⟩⟩⟩⟩ := h
 obtain rfl := k32_open s0
 obtain rfl := k32_open s1
 exact rfl
theorem k57_mk (w : World) (x : S57) : k57.K w x [.int .i64 x.f0, .int .i64 x.f1, .int .i64 x.f2, .int .i64 x.f3.f0, .int .u64 x.f3.f1, .int .u64 x.f3.f2, .int .i64 x.f4.f0, .int .u64 x.f4.f1, .int .u64 x.f4.f2] :=
 ⟨[.int .i64 x.f0], _, rfl, rfl, ⟨[.int .i64 x.f1], _, rfl, rfl, ⟨[.int .i64 x.f2], _, rfl, rfl, ⟨[.int .i64 x.f3.f0, .int .u64 x.f3.f1, .int .u64 x.f3.f2], [.int .i64 x.f4.f0, .int .u64 x.f4.f1, .int .u64 x.f4.f2], rfl, k32_mk w x.f3, k32_mk w x.f4⟩⟩⟩⟩
def rd_T57 (xs : List S57) (i : Int) : S57 := xs.getD i.toNat z57
theorem at_T57 {w : World} {A : Option Addr} {n : Nat} {xs : List S57} (h : Kd.C k57 w A n xs) (i : Int) (h0 : 0 ≤ i) (h1 : i < n) : ∃ ad , A = some ad ∧ w.cell? (ad.add (i.toNat * 9)) = some (.int .i64 (rd_T57 xs i).f0) ∧ w.cell? ⟨(ad.add (i.toNat * 9)).block, (ad.add (i.toNat * 9)).off + 1, none⟩ = some (.int .i64 (rd_T57 xs i).f1) ∧ w.cell? ⟨(ad.add (i.toNat * 9)).block, (ad.add (i.toNat * 9)).off + 2, none⟩ = some (.int .i64 (rd_T57 xs i).f2) ∧ w.cell? ⟨(ad.add (i.toNat * 9)).block, (ad.add (i.toNat * 9)).off + 3, none⟩ = some (.int .i64 (rd_T57 xs i).f3.f0) ∧ w.cell? ⟨(ad.add (i.toNat * 9)).block, (ad.add (i.toNat * 9)).off + 4, none⟩ = some (.int .u64 (rd_T57 xs i).f3.f1) ∧ w.cell? ⟨(ad.add (i.toNat * 9)).block, (ad.add (i.toNat * 9)).off + 5, none⟩ = some (.int .u64 (rd_T57 xs i).f3.f2) ∧ w.cell? ⟨(ad.add (i.toNat * 9)).block, (ad.add (i.toNat * 9)).off + 6, none⟩ = some (.int .i64 (rd_T57 xs i).f4.f0) ∧ w.cell? ⟨(ad.add (i.toNat * 9)).block, (ad.add (i.toNat * 9)).off + 7, none⟩ = some (.int .u64 (rd_T57 xs i).f4.f1) ∧ w.cell? ⟨(ad.add (i.toNat * 9)).block, (ad.add (i.toNat * 9)).off + 8, none⟩ = some (.int .u64 (rd_T57 xs i).f4.f2) := by
 obtain ⟨ad, c, e, _, hK, hc0⟩ := Kd.C_get h z57 i h0 h1
 have hc : ∀ j u, c[j]? = some u → w.cell? (ad.add (i.toNat * 9 + j)) = some u := hc0
 obtain rfl := k57_open hK
 exact ⟨ad, e, hc 0 _ rfl, by rw [← add_field _ _ 1 (by omega)]; exact hc 1 _ rfl, by rw [← add_field _ _ 2 (by omega)]; exact hc 2 _ rfl, by rw [← add_field _ _ 3 (by omega)]; exact hc 3 _ rfl, by rw [← add_field _ _ 4 (by omega)]; exact hc 4 _ rfl, by rw [← add_field _ _ 5 (by omega)]; exact hc 5 _ rfl, by rw [← add_field _ _ 6 (by omega)]; exact hc 6 _ rfl, by rw [← add_field _ _ 7 (by omega)]; exact hc 7 _ rfl, by rw [← add_field _ _ 8 (by omega)]; exact hc 8 _ rfl⟩
/-- The rule of an operation. -/
def opX (y : S57) : S59 := ⟨y.f3, y.f4, y.f1, y.f2⟩
/-- The reference's list behind some operations. -/
def runL (W m : Int) (ops : List S57) : List S78 := ops.foldl (fun x y => stepL W m x y.f0 (opX y)) []
theorem runL_take (W m : Int) (ops : List S57) (i : Nat) (hi : i < ops.length) : runL W m (ops.take (i + 1)) = stepL W m (runL W m (ops.take i)) (ops[i]).f0 (opX ops[i]) := by
 unfold runL
 rw [List.take_succ_eq_append_getElem hi, List.foldl_append]; rfl
theorem runL_ok (W m : Int) (hm : 0 ≤ m) (ops : List S57) (hok : ∀ y ∈ ops, okI (opX y)) : ∀ i, i ≤ ops.length → SI (runL W m (ops.take i)) m ∧ (runL W m (ops.take i)).length ≤ i
 | 0, _ => ⟨⟨List.Pairwise.nil, fun y hy => by simp [runL] at hy, by simpa [runL] using hm⟩, by simp [runL]⟩
 | i + 1, h => by
  obtain ⟨h1, h2⟩ := runL_ok W m hm ops hok i (by omega)
  rw [runL_take W m ops i (by omega)]
  refine ⟨h1.step W _ _ (hok _ (List.getElem_mem _)), ?_⟩
  have := stepL_length W m (runL W m (ops.take i)) (ops[i]).f0 (opX ops[i])
  omega
theorem eqA78 (d : Nat) (w : World) (x y : S78) : (Op.equalIn (d + 3) 78 (.agg #[.int .i64 x.f0.f0, .int .u64 x.f0.f1, .int .u64 x.f0.f2, .int .i64 x.f1.f0, .int .u64 x.f1.f1, .int .u64 x.f1.f2, .int .i64 x.f2, .int .i64 x.f3]) (.agg #[.int .i64 y.f0.f0, .int .u64 y.f0.f1, .int .u64 y.f0.f2, .int .i64 y.f1.f0, .int .u64 y.f1.f1, .int .u64 y.f1.f2, .int .i64 y.f2, .int .i64 y.f3])).run Try.prog w = .ok ((x.f0.f0 == y.f0.f0 && (x.f0.f1 == y.f0.f1 && (x.f0.f2 == y.f0.f2))) && ((x.f1.f0 == y.f1.f0 && (x.f1.f1 == y.f1.f1 && (x.f1.f2 == y.f1.f2))) && (x.f2 == y.f2 && (x.f3 == y.f3)))) w := by
 refine eqA_of Try.underlying78 (by kernel_rfl) ?_
 refine eqf_cons (by rfl) (by first | (go_simp; done) | (go_simp; rfl)) (by first | (go_simp; done) | (go_simp; rfl)) (eqA32 d w _ _ _ _ _ _) ?_
 refine eqf_cons (by rfl) (by first | (go_simp; done) | (go_simp; rfl)) (by first | (go_simp; done) | (go_simp; rfl)) (eqA32 d w _ _ _ _ _ _) ?_
 refine eqf_cons (by rfl) (by first | (go_simp; done) | (go_simp; rfl)) (by first | (go_simp; done) | (go_simp; rfl)) (by go_simp) ?_
 exact eqf_last (by rfl) (by first | (go_simp; done) | (go_simp; rfl)) (by first | (go_simp; done) | (go_simp; rfl)) (by go_simp)
theorem neq78 (w : World) (a b c d e f g h : Int) : (binOp .neq 78 (.agg #[.int .i64 a, .int .u64 b, .int .u64 c, .int .i64 d, .int .u64 e, .int .u64 f, .int .i64 g, .int .i64 h]) (.agg #[.int .i64 a, .int .u64 b, .int .u64 c, .int .i64 d, .int .u64 e, .int .u64 f, .int .i64 g, .int .i64 h])).run Try.prog w = .ok (.bool false) w := by
 have h0 := eqA78 9997 w ⟨⟨a, b, c⟩, ⟨d, e, f⟩, g, h⟩ ⟨⟨a, b, c⟩, ⟨d, e, f⟩, g, h⟩
 simp only [binOp]
 simp only [Op.equal, Op.maxDepth]
 dsimp only at h0
 simp [h0]
set_option maxHeartbeats 1000000 in
set_option maxRecDepth 100000 in
theorem TernPlays_bad (W m : Int) (A : Option Addr) (c : Nat) (ops : List S57) (w : World) (h : W < 1 ∨ 128 < W ∨ m < 1 ∨ 256 < m) :
 Calls Try.prog 10 #[.agg #[.int .i64 W, .int .i64 m], .slice A ops.length c] w fun e_ w' => e_ = .returned (.bool true) ∧ Below w.heap.size w w' := by
 have HN := Aside0.mk (fun w => New_no W m w h)
 have hc : (W < 1) ∨ (¬ W < 1 ∧ 128 < W) ∨ (¬ W < 1 ∧ ¬ 128 < W ∧ m < 1) ∨ (¬ W < 1 ∧ ¬ 128 < W ∧ ¬ m < 1 ∧ 256 < m) := by omega
 clear h
 have n0 := blk_cell (blk_new w (.cells #[.int .i64 W, .int .i64 m] 22 (0, 0))) 0
 have n1 := blk_cell (blk_new w (.cells #[.int .i64 W, .int .i64 m] 22 (0, 0))) 1
 simp only [List.getElem?_toArray, List.getElem?_cons_succ, List.getElem?_cons_zero] at n0 n1
 rcases hc with h1 | ⟨h1, h2⟩ | ⟨h1, h2, h3⟩ | ⟨h1, h2, h3, h4⟩
 ·have g1 : decide (W < 1) = true := decide_eq_true h1
  clear h1
  go_enter Try.func10, Try.ntmps10
  go_wp2_with (first | (go_at_call 39; with_reducible refine (HN.out _).mono ?_; rintro e_ w1 ⟨rfl, rfl⟩) | (go_at_call 35; with_reducible refine (lives_calls _).mono ?_; rintro e_ w1 ⟨rfl, hb⟩; have HZ := Aside0.mk (below_step (below_alloc (Below.refl _ _) (.cells #[.int .i64 W, .int .i64 m] 22 (0, 0))) hb); clear hb))
  go_ret
  exact ⟨rfl, HZ.out⟩
 ·have g1 : decide (W < 1) = false := decide_eq_false h1
  have g2 : decide (128 < W) = true := decide_eq_true h2
  clear h1 h2
  go_enter Try.func10, Try.ntmps10
  go_wp2_with (first | (go_at_call 39; with_reducible refine (HN.out _).mono ?_; rintro e_ w1 ⟨rfl, rfl⟩) | (go_at_call 35; with_reducible refine (lives_calls _).mono ?_; rintro e_ w1 ⟨rfl, hb⟩; have HZ := Aside0.mk (below_step (below_alloc (Below.refl _ _) (.cells #[.int .i64 W, .int .i64 m] 22 (0, 0))) hb); clear hb))
  go_ret
  exact ⟨rfl, HZ.out⟩
 ·have g1 : decide (W < 1) = false := decide_eq_false h1
  have g2 : decide (128 < W) = false := decide_eq_false h2
  have g3 : decide (m < 1) = true := decide_eq_true h3
  clear h1 h2 h3
  go_enter Try.func10, Try.ntmps10
  go_wp2_with (first | (go_at_call 39; with_reducible refine (HN.out _).mono ?_; rintro e_ w1 ⟨rfl, rfl⟩) | (go_at_call 35; with_reducible refine (lives_calls _).mono ?_; rintro e_ w1 ⟨rfl, hb⟩; have HZ := Aside0.mk (below_step (below_alloc (Below.refl _ _) (.cells #[.int .i64 W, .int .i64 m] 22 (0, 0))) hb); clear hb))
  go_ret
  exact ⟨rfl, HZ.out⟩
 ·have g1 : decide (W < 1) = false := decide_eq_false h1
  have g2 : decide (128 < W) = false := decide_eq_false h2
  have g3 : decide (m < 1) = false := decide_eq_false h3
  have g4 : decide (256 < m) = true := decide_eq_true h4
  clear h1 h2 h3 h4
  go_enter Try.func10, Try.ntmps10
  go_wp2_with (first | (go_at_call 39; with_reducible refine (HN.out _).mono ?_; rintro e_ w1 ⟨rfl, rfl⟩) | (go_at_call 35; with_reducible refine (lives_calls _).mono ?_; rintro e_ w1 ⟨rfl, hb⟩; have HZ := Aside0.mk (below_step (below_alloc (Below.refl _ _) (.cells #[.int .i64 W, .int .i64 m] 22 (0, 0))) hb); clear hb))
  go_ret
  exact ⟨rfl, HZ.out⟩
set_option maxHeartbeats 1000000 in
set_option maxRecDepth 100000 in
theorem TernPlays_many (W m : Int) (A : Option Addr) (c : Nat) (ops : List S57) (w : World) (h : 1 ≤ W ∧ W ≤ 128 ∧ 1 ≤ m ∧ m ≤ 256) (hl : 100 < ops.length) :
 Calls Try.prog 10 #[.agg #[.int .i64 W, .int .i64 m], .slice A ops.length c] w fun e_ w' => e_ = .returned (.bool true) ∧ Below w.heap.size w w' := by
 have HN := Aside0.mk (fun w => New_ok W m w h.1 h.2.1 h.2.2.1 h.2.2.2)
 have g1 : decide (W < 1) = false := decide_eq_false (by omega)
 have g2 : decide (128 < W) = false := decide_eq_false (by omega)
 have g3 : decide (m < 1) = false := decide_eq_false (by omega)
 have g4 : decide (256 < m) = false := decide_eq_false (by omega)
 have g5 : decide ((100 : Int) < (ops.length : Int)) = true := decide_eq_true (by omega)
 clear h hl
 have n0 := blk_cell (blk_new w (.cells #[.int .i64 W, .int .i64 m] 22 (0, 0))) 0
 have n1 := blk_cell (blk_new w (.cells #[.int .i64 W, .int .i64 m] 22 (0, 0))) 1
 simp only [List.getElem?_toArray, List.getElem?_cons_succ, List.getElem?_cons_zero] at n0 n1
 go_enter Try.func10, Try.ntmps10
 go_wp2_with (first | (go_at_call 39; with_reducible refine (HN.out _).mono ?_; rintro e_ w1 ⟨rfl, rfl⟩; have n0 := blk_cell (blk_alloc (blk_new w (.cells #[.int .i64 W, .int .i64 m] 22 (0, 0))) (.cells #[.slice none 0 0, .int .i64 W, .int .i64 m] 147 (0, 0))) 0; have n1 := blk_cell (blk_alloc (blk_new w (.cells #[.int .i64 W, .int .i64 m] 22 (0, 0))) (.cells #[.slice none 0 0, .int .i64 W, .int .i64 m] 147 (0, 0))) 1; simp only [List.getElem?_toArray, List.getElem?_cons_succ, List.getElem?_cons_zero] at n0 n1) | (go_at_call 35; with_reducible refine (lives_calls _).mono ?_; rintro e_ w1 ⟨rfl, hb⟩; have HZ := Aside0.mk (below_step (below_alloc (below_alloc (Below.refl _ _) (.cells #[.int .i64 W, .int .i64 m] 22 (0, 0))) (.cells #[.slice none 0 0, .int .i64 W, .int .i64 m] 147 (0, 0))) hb); clear hb))
 go_ret
 exact ⟨rfl, HZ.out⟩
set_option maxHeartbeats 1000000 in
set_option maxRecDepth 100000 in
theorem TernPlays_plays (W m : Int) (A : Option Addr) (c : Nat) (ops : List S57) (w : World) (h : 1 ≤ W ∧ W ≤ 128 ∧ 1 ≤ m ∧ m ≤ 256) (hl : ops.length ≤ 100) (hC : Kd.C k57 w A ops.length ops) (hok : ∀ y ∈ ops, okI (opX y)) :
 Calls Try.prog 10 #[.agg #[.int .i64 W, .int .i64 m], .slice A ops.length c] w fun e_ w' => e_ = .returned (.bool true) ∧ Below w.heap.size w w' := by
 have HN := Aside0.mk (fun w => New_ok W m w h.1 h.2.1 h.2.2.1 h.2.2.2)
 have HRUN := Aside0.mk (runL_ok W m (by omega) ops hok)
 have g1 : decide (W < 1) = false := decide_eq_false (by omega)
 have g2 : decide (128 < W) = false := decide_eq_false (by omega)
 have g3 : decide (m < 1) = false := decide_eq_false (by omega)
 have g4 : decide (256 < m) = false := decide_eq_false (by omega)
 have g5 : decide ((100 : Int) < (ops.length : Int)) = false := decide_eq_false (by omega)
 obtain ⟨wb, hwb⟩ : ∃ wb, wb = w.alloc (.cells #[.int .i64 W, .int .i64 m] 22 (0, 0)) := ⟨_, rfl⟩
 have HC := Aside0.mk (show Kd.C k57 wb A ops.length ops from by rw [hwb]; exact Kd.C_below hC (below_alloc (Below.refl _ _) _))
 have HBX := Aside0.mk (show wb.heap[w.heap.size]? = some (.cells #[.int .i64 W, .int .i64 m] 22 (0, 0)) from by rw [hwb]; exact blk_new w _)
 have HWB := Aside0.mk (show Below w.heap.size w wb from by rw [hwb]; exact below_alloc (Below.refl _ _) (.cells #[.int .i64 W, .int .i64 m] 22 (0, 0)))
 have hgs : wb.heap.size = w.heap.size + 1 := by rw [hwb]; simp
 have HLN := Aside0.mk hl
 have HOKS := Aside0.mk hok
 clear h hl hC hok
 have n0 := blk_cell (blk_new w (.cells #[.int .i64 W, .int .i64 m] 22 (0, 0))) 0
 have n1 := blk_cell (blk_new w (.cells #[.int .i64 W, .int .i64 m] 22 (0, 0))) 1
 simp only [List.getElem?_toArray, List.getElem?_cons_succ, List.getElem?_cons_zero] at n0 n1
 go_enter Try.func10, Try.ntmps10
 skip
 go_wp2_with (first | (go_at_call 39; with_reducible refine (HN.out _).mono ?_; rintro e_ w1 ⟨rfl, rfl⟩; rw [← hwb]; have HST := Aside0.mk (ST_new wb W m); rw [hgs] at HST; clear n0 n1; have n0 := blk_cell (blk_alloc HBX.out (.cells #[.slice none 0 0, .int .i64 W, .int .i64 m] 147 (0, 0))) 0; have n1 := blk_cell (blk_alloc HBX.out (.cells #[.slice none 0 0, .int .i64 W, .int .i64 m] 147 (0, 0))) 1; simp only [List.getElem?_toArray, List.getElem?_cons_succ, List.getElem?_cons_zero] at n0 n1; generalize wb.alloc (.cells #[.slice none 0 0, .int .i64 W, .int .i64 m] 147 (0, 0)) = w2 at HST n0 n1 ⊢))
 have HS0 := Aside0.mk (show ST wb w2 (w.heap.size + 1) (.slice none 0 0) (.slice none 0 0) (isoT (runL W m (ops.take 0))) (runL W m (ops.take 0)) W m from by rw [show runL W m (ops.take 0) = [] from by rw [List.take_zero]; rfl]; exact HST.out)
 go_loopw [6, 7, 8] (fun u6 u7 u8 w' => ∃ (i : Nat) (v : Value), i ≤ ops.length ∧ u7 = .int .i64 i ∧ Aside0 (ST wb w' (w.heap.size + 1) v u6 (isoT (runL W m (ops.take i))) (runL W m (ops.take i)) W m)) (fun _ u7 _ _ => ops.length - (intOf u7).toNat)
 case atStart => exact ⟨0, _, Nat.zero_le _, rfl, HS0⟩
 case round =>
  obtain ⟨i, v, hi, rfl, HT⟩ := hrel
  clear n0 n1 HST HS0
  by_cases hlt : i < ops.length
  ·have hl100 := HLN.out
   have hi0 : 0 ≤ (i : Int) := by omega
   have hil : (i : Int) < (ops.length : Int) := by omega
   obtain ⟨ad, hA, _⟩ := at_T57 HC.out (i : Int) hi0 hil
   subst hA
   have hy : rd_T57 ops (i : Int) = ops[i] := by simp [rd_T57, List.getD_eq_getElem?_getD, hlt]
   have HR1 := Aside0.mk (HRUN.out i hi)
   have HRS := Aside0.mk (runL_take W m ops i hlt)
   obtain ⟨y, hyy⟩ : ∃ y, y = ops[i] := ⟨_, rfl⟩
   rw [← hyy] at hy HRS
   have HOK := Aside0.mk (show okI (⟨⟨y.f3.f0, y.f3.f1, y.f3.f2⟩, ⟨y.f4.f0, y.f4.f1, y.f4.f2⟩, y.f1, y.f2⟩ : S59) from (show okI (opX y) from by rw [hyy]; exact HOKS.out _ (List.getElem_mem hlt)))
   have HCY := Aside0.mk (show ∀ w', Below wb.heap.size wb w' → w'.cell? (ad.add (i * 9)) = some (.int .i64 y.f0) ∧ w'.cell? ⟨(ad.add (i * 9)).block, (ad.add (i * 9)).off + 1, none⟩ = some (.int .i64 y.f1) ∧ w'.cell? ⟨(ad.add (i * 9)).block, (ad.add (i * 9)).off + 2, none⟩ = some (.int .i64 y.f2) ∧ w'.cell? ⟨(ad.add (i * 9)).block, (ad.add (i * 9)).off + 3, none⟩ = some (.int .i64 y.f3.f0) ∧ w'.cell? ⟨(ad.add (i * 9)).block, (ad.add (i * 9)).off + 4, none⟩ = some (.int .u64 y.f3.f1) ∧ w'.cell? ⟨(ad.add (i * 9)).block, (ad.add (i * 9)).off + 5, none⟩ = some (.int .u64 y.f3.f2) ∧ w'.cell? ⟨(ad.add (i * 9)).block, (ad.add (i * 9)).off + 6, none⟩ = some (.int .i64 y.f4.f0) ∧ w'.cell? ⟨(ad.add (i * 9)).block, (ad.add (i * 9)).off + 7, none⟩ = some (.int .u64 y.f4.f1) ∧ w'.cell? ⟨(ad.add (i * 9)).block, (ad.add (i * 9)).off + 8, none⟩ = some (.int .u64 y.f4.f2) from fun w' hb => by
    obtain ⟨ad2, e2, h2⟩ := at_T57 (Kd.C_below HC.out hb) (i : Int) hi0 hil
    injection e2 with e2
    subst e2
    rw [Int.toNat_natCast, hy] at h2
    exact h2)
   clear hyy hy
   go_wp2
   refine start_ (n := 13) (S := fun w' => Below wb.heap.size wb w') (ds := []) #[false, false, false, false, false, false, false, false, false, false, false, false, false] (by kernel_rfl) rfl rfl (below_drew1 HT.out.tk.below) (fun hHeld => ?_)
   have HT2 := Aside0.mk (HT.out.step (below_drew1 (Below.refl _ _)))
   clear HT
   generalize World.drew _ = w5 at HT2 hHeld ⊢
   refine pl_ [0, 1, 3, 4, 5] ?_
   iterate 5 refine pP rfl rfl (by kernel_rfl) (fun _ _ _ h => h) (by rfl) (by intro w'; go_simp; with_reducible rfl) (by simp only [Act.put, z1, z2, z3, i64_w, i32_w]; rfl) ?_
   refine pl0 ?_
   refine take_ (i := 2) (N := some 61) (v := ?_) (a' := ?_) #[true, true, true, true, true, true, false, false, false, false, false, false, false] rfl rfl (by kernel_rfl) (fun _ _ _ h => h) (Or.inl ⟨by rfl, ?_⟩) hHeld ?_ ?_
   rotate_left
   ·intro w' hs
    have m0 := blk_cell (blk_below HBX.out hs) 0
    have m1 := blk_cell (blk_below HBX.out hs) 1
    simp only [List.getElem?_toArray, List.getElem?_cons_succ, List.getElem?_cons_zero] at m0 m1
    go_simp
    with_reducible rfl
   rotate_left
   ·simp only [Act.put, List.setIfInBounds_toArray, List.set_cons_zero, List.set_cons_succ, i64_w, i32_w]
    rfl
   refine take_ (i := 6) (N := some 65) (v := ?_) (a' := ?_) #[true, true, true, true, true, true, true, false, false, false, false, false, false] rfl rfl (by kernel_rfl) (fun _ _ _ h => h) (Or.inl ⟨by rfl, ?_⟩) hHeld ?_ ?_
   rotate_left
   ·intro w' hs
    obtain ⟨s0, s1, s2, s3, s4, s5, s6, s7, s8⟩ := HCY.out w' hs
    go_simp
    with_reducible rfl
   rotate_left
   ·simp only [Act.put, List.setIfInBounds_toArray, List.set_cons_zero, List.set_cons_succ, i64_w, i32_w]
    rfl
   refine one_ (i := 7) (N := some 66) #[true, true, true, true, true, true, true, true, false, false, false, false, false] rfl rfl (by kernel_rfl) (by decide) (fun K hK => ?_)
   refine goes_ Try.func40 (by kernel_rfl) rfl #[.pointer (some ⟨w.heap.size + 1, 0, none⟩), u6, .agg #[.int .i64 W, .int .i64 m], .agg #[.int .i64 y.f0, .int .i64 y.f1, .int .i64 y.f2, .int .i64 y.f3.f0, .int .u64 y.f3.f1, .int .u64 y.f3.f2, .int .i64 y.f4.f0, .int .u64 y.f4.f1, .int .u64 y.f4.f2]] (by rfl) rfl rfl (by simp only [List.map_toArray, List.map_cons, List.map_nil]; rfl) ?_
   with_reducible refine (step_any wb _ (w.heap.size + 1) v u6 (runL W m (ops.take i)) W m y.f0 y.f1 y.f2 y.f3.f0 y.f3.f1 y.f3.f2 y.f4.f0 y.f4.f1 y.f4.f2 HT2.out HR1.out.1 (by have := HR1.out.2; have := HLN.out; omega) HOK.out).mono ?_
   rintro e_ w1 ⟨v1, vx1, rfl, hst⟩
   refine ⟨_, rfl, ?_⟩
   rw [show stepL W m (runL W m (ops.take i)) y.f0 ⟨⟨y.f3.f0, y.f3.f1, y.f3.f2⟩, ⟨y.f4.f0, y.f4.f1, y.f4.f2⟩, y.f1, y.f2⟩ = runL W m (ops.take (i + 1)) from HRS.out.symm] at hst
   obtain ⟨Ax, cx, rfl⟩ := Kd.R_slice hst.rx
   have HT := Aside0.mk hst
   clear hst HT2
   refine hK.out _ _ HT.out.tk.below (fun hHeld => ?_)
   clear hK K
   refine norm_ (a' := ?_) ?_ ?_
   rotate_left
   ·show Act.put _ (some 66) _ = _
    simp only [Act.put, List.setIfInBounds_toArray, List.set_cons_zero, List.set_cons_succ, i64_w, i32_w]
    rfl
   refine pl_ [8, 9, 10, 11, 12] ?_
   iterate 5 refine pP rfl rfl (by kernel_rfl) (fun _ _ _ h => h) (by rfl) (by intro w'; go_simp; with_reducible rfl) (by simp only [Act.put, z1, z2, z3, i64_w, i32_w]; rfl) ?_
   refine pl0 ?_
   refine done_ (by kernel_rfl) ?_
   have HLE := Aside0.mk (fun w1 (h1 : TK wb w1 (w.heap.size + 1) v1 (isoT (runL W m (ops.take (i + 1)))) W m) => (show Calls Try.prog 43 #[.pointer (some ⟨w.heap.size + 1, 0, none⟩)] w1 (fun e_ w' => e_ = .returned (.int .i64 (runL W m (ops.take (i + 1))).length) ∧ w' = w1) from by have := Len_calls wb w1 (w.heap.size + 1) v1 _ W m h1; rw [isoT_length] at this; exact this))
   go_wp2_with (first | (go_at_call 43; with_reducible refine (HLE.out _ HT.out.tk).mono ?_; rintro e_ w6 ⟨rfl, rfl⟩))
   go_roundw
   case measure => first | (simp [intOf]; done) | (simp [intOf]; omega)
   case rel => exact ⟨i + 1, v1, hlt, by go_num, HT⟩
  ·have hie : i = ops.length := by omega
   have hl100 := HLN.out
   obtain ⟨Ax, cx, rfl⟩ := Kd.R_slice HT.out.rx
   have HR1 := HRUN.out i hi
   obtain ⟨x, hx⟩ : ∃ x, x = runL W m (ops.take i) := ⟨_, rfl⟩
   rw [← hx] at HT HR1 ⊢
   clear hx
   have hxl : x.length ≤ 100 := by have := HR1.2; omega
   have HAP := Aside0.mk HR1.1.ap
   clear HR1
   have HSO := Aside0.mk (ref21_Sorted_eq 20000 x (by omega) HAP.out (by have := Nat.mul_le_mul (show x.length + 1 ≤ 101 by omega) (show x.length + 3 ≤ 103 by omega); omega))
   have hn1 : (isoT x).length ≤ 1000 := by rw [isoT_length]; omega
   go_wp2_with (first | (go_at_call 42; with_reducible refine (List_calls wb _ (w.heap.size + 1) v (isoT x) W m HT.out.tk hn1).mono ?_; rintro e_ w5 ⟨v5, rfl, hr, hb⟩; obtain ⟨Ag, cg, e0⟩ := Kd.R_slice hr; rw [isoT_length] at e0; subst e0; have HG := Aside0.mk hr; have HT2 := Aside0.mk (HT.out.step hb); clear hr hb) | (go_at_call 44; with_reducible refine (shunterref21_Sorted.calls 20000 Ax cx x _ _ (Kd.R_reads' HT2.out.rx).2.2 (Kd.R_reads' HT2.out.rx).2.1 HSO.out).mono ?_; rintro e_ w6 ⟨v6, rfl, hr, hb⟩; obtain ⟨Aw, cw, e0⟩ := Kd.R_slice hr; rw [List.length_map, isoT_length] at e0; subst e0; have HW2 := Aside0.mk hr; have HG2 := Aside0.mk (Kd.R_below HG.out hb); have HB6 := Aside0.mk (HT2.out.step hb).tk.below; clear hr hb HG HT2))
   go_loopw [11] (fun u11 w' => ∃ j : Nat, j ≤ x.length ∧ u11 = .int .i64 j ∧ Aside0 (Below w6.heap.size w6 w')) (fun u11 _ => x.length - (intOf u11).toNat)
   case atStart => exact ⟨0, Nat.zero_le _, rfl, ⟨Below.refl _ _⟩⟩
   case round =>
    obtain ⟨j, hj, rfl, HB7⟩ := hrel
    by_cases hjt : j < x.length
    ·have hj0 : 0 ≤ (j : Int) := by omega
     have hjl : (j : Int) < (x.length : Int) := by omega
     have hji : j < (isoT x).length := by rw [isoT_length]; exact hjt
     obtain ⟨d1, hA1, _⟩ := at_T59 (Kd.R_reads' HG2.out).2.2 (j : Int) hj0 (by rw [isoT_length]; exact hjl)
     subst hA1
     obtain ⟨d2, hA2, _⟩ := at_T78 (Kd.R_reads' HW2.out).2.2 (j : Int) hj0 (by rw [List.length_map, isoT_length]; exact hjl)
     subst hA2
     obtain ⟨y, hy⟩ : ∃ y, y = (isoT x)[j] := ⟨_, rfl⟩
     have HC1 := Aside0.mk (show ∀ w', Below w6.heap.size w6 w' → w'.cell? (d1.add (j * 8)) = some (.int .i64 y.f0.f0) ∧ w'.cell? ⟨(d1.add (j * 8)).block, (d1.add (j * 8)).off + 1, none⟩ = some (.int .u64 y.f0.f1) ∧ w'.cell? ⟨(d1.add (j * 8)).block, (d1.add (j * 8)).off + 2, none⟩ = some (.int .u64 y.f0.f2) ∧ w'.cell? ⟨(d1.add (j * 8)).block, (d1.add (j * 8)).off + 3, none⟩ = some (.int .i64 y.f1.f0) ∧ w'.cell? ⟨(d1.add (j * 8)).block, (d1.add (j * 8)).off + 4, none⟩ = some (.int .u64 y.f1.f1) ∧ w'.cell? ⟨(d1.add (j * 8)).block, (d1.add (j * 8)).off + 5, none⟩ = some (.int .u64 y.f1.f2) ∧ w'.cell? ⟨(d1.add (j * 8)).block, (d1.add (j * 8)).off + 6, none⟩ = some (.int .i64 y.f2) ∧ w'.cell? ⟨(d1.add (j * 8)).block, (d1.add (j * 8)).off + 7, none⟩ = some (.int .i64 y.f3) from fun w' hb => by
      obtain ⟨ad2, e2, h2⟩ := at_T59 (Kd.C_below (Kd.R_reads' HG2.out).2.2 hb) (j : Int) hj0 (by rw [isoT_length]; exact hjl)
      injection e2 with e2
      subst e2
      rw [Int.toNat_natCast, show rd_T59 (isoT x) (j : Int) = y by rw [hy]; simp [rd_T59, List.getD_eq_getElem?_getD, hji]] at h2
      exact h2)
     have HC2 := Aside0.mk (show ∀ w', Below w6.heap.size w6 w' → w'.cell? (d2.add (j * 8)) = some (.int .i64 y.f0.f0) ∧ w'.cell? ⟨(d2.add (j * 8)).block, (d2.add (j * 8)).off + 1, none⟩ = some (.int .u64 y.f0.f1) ∧ w'.cell? ⟨(d2.add (j * 8)).block, (d2.add (j * 8)).off + 2, none⟩ = some (.int .u64 y.f0.f2) ∧ w'.cell? ⟨(d2.add (j * 8)).block, (d2.add (j * 8)).off + 3, none⟩ = some (.int .i64 y.f1.f0) ∧ w'.cell? ⟨(d2.add (j * 8)).block, (d2.add (j * 8)).off + 4, none⟩ = some (.int .u64 y.f1.f1) ∧ w'.cell? ⟨(d2.add (j * 8)).block, (d2.add (j * 8)).off + 5, none⟩ = some (.int .u64 y.f1.f2) ∧ w'.cell? ⟨(d2.add (j * 8)).block, (d2.add (j * 8)).off + 6, none⟩ = some (.int .i64 y.f2) ∧ w'.cell? ⟨(d2.add (j * 8)).block, (d2.add (j * 8)).off + 7, none⟩ = some (.int .i64 y.f3) from fun w' hb => by
      obtain ⟨ad2, e2, h2⟩ := at_T78 (Kd.C_below (Kd.R_reads' HW2.out).2.2 hb) (j : Int) hj0 (by rw [List.length_map, isoT_length]; exact hjl)
      injection e2 with e2
      subst e2
      rw [Int.toNat_natCast, show rd_T78 ((isoT x).map vc) (j : Int) = vc y by rw [hy]; simp [rd_T78, List.getD_eq_getElem?_getD, hji]] at h2
      exact h2)
     clear hy
     go_wp2
     refine start_ (n := 10) (S := fun w' => Below w6.heap.size w6 w') (ds := []) #[false, false, false, false, false, false, false, false, false, false] (by kernel_rfl) rfl rfl (below_drew1 HB7.out) (fun hHeld => ?_)
     clear HB7
     generalize World.drew _ = w7 at hHeld ⊢
     refine pl_ [0, 1, 2, 5, 6, 7] ?_
     iterate 6 refine pP rfl rfl (by kernel_rfl) (fun _ _ _ h => h) (by rfl) (by intro w'; go_simp; with_reducible rfl) (by simp only [Act.put, z1, z2, z3, i64_w, i32_w]; rfl) ?_
     refine pl0 ?_
     refine take_ (i := 3) (N := some 96) (v := ?_) (a' := ?_) #[true, true, true, true, false, true, true, true, false, false] rfl rfl (by kernel_rfl) (fun _ _ _ h => h) (Or.inl ⟨by rfl, ?_⟩) hHeld ?_ ?_
     rotate_left
     ·intro w' hs
      obtain ⟨s0, s1, s2, s3, s4, s5, s6, s7⟩ := HC1.out w' hs
      go_simp
      with_reducible rfl
     rotate_left
     ·simp only [Act.put, List.setIfInBounds_toArray, List.set_cons_zero, List.set_cons_succ, i64_w, i32_w]
      rfl
     refine take_ (i := 8) (N := some 101) (v := ?_) (a' := ?_) #[true, true, true, true, false, true, true, true, true, false] rfl rfl (by kernel_rfl) (fun _ _ _ h => h) (Or.inl ⟨by rfl, ?_⟩) hHeld ?_ ?_
     rotate_left
     ·intro w' hs
      obtain ⟨s0, s1, s2, s3, s4, s5, s6, s7⟩ := HC2.out w' hs
      go_simp
      with_reducible rfl
     rotate_left
     ·simp only [Act.put, List.setIfInBounds_toArray, List.set_cons_zero, List.set_cons_succ, i64_w, i32_w]
      rfl
     have HH := Aside0.mk hHeld
     clear hHeld
     refine one_ (i := 4) (N := some 97) #[true, true, true, true, true, true, true, true, true, false] rfl rfl (by kernel_rfl) (by decide) (fun K hK => ?_)
     refine goes_ Try.func45 (by kernel_rfl) rfl #[.agg #[.int .i64 y.f0.f0, .int .u64 y.f0.f1, .int .u64 y.f0.f2, .int .i64 y.f1.f0, .int .u64 y.f1.f1, .int .u64 y.f1.f2, .int .i64 y.f2, .int .i64 y.f3]] (by rfl) rfl rfl (by simp only [List.map_toArray, List.map_cons, List.map_nil]; rfl) ?_
     with_reducible refine (shunterlaw21_theirs.calls y.f0.f0 y.f0.f1 y.f0.f2 y.f1.f0 y.f1.f1 y.f1.f2 y.f2 y.f3 y.f0.f0 y.f0.f1 y.f0.f2 y.f1.f0 y.f1.f1 y.f1.f2 y.f2 y.f3 _ rfl).mono ?_
     rintro e_ w1 ⟨rfl, hb⟩
     refine ⟨_, rfl, ?_⟩
     have HB8 := Aside0.mk (below_step HH.out hb)
     clear hb HH
     refine hK.out _ _ HB8.out (fun hHeld => ?_)
     clear hK K
     refine norm_ (a' := ?_) ?_ ?_
     rotate_left
     ·show Act.put _ (some 97) _ = _
      simp only [Act.put, List.setIfInBounds_toArray, List.set_cons_zero, List.set_cons_succ, i64_w, i32_w]
      rfl
     refine pure_ (i := 9) (N := some 102) (v := ?_) (a' := ?_) #[true, true, true, true, true, true, true, true, true, true] rfl rfl (by kernel_rfl) (fun _ _ _ h => h) (Or.inl ⟨by rfl, ?_⟩) ?_ ?_
     rotate_left
     ·intro w'
      have := neq78 w' y.f0.f0 y.f0.f1 y.f0.f2 y.f1.f0 y.f1.f1 y.f1.f2 y.f2 y.f3
      go_simp
      with_reducible rfl
     rotate_left
     ·simp only [Act.put, List.setIfInBounds_toArray, List.set_cons_zero, List.set_cons_succ, i64_w, i32_w]
      rfl
     refine done_ (by kernel_rfl) ?_
     go_wp2
     go_roundw
     case measure => first | (simp [intOf]; done) | (simp [intOf]; omega)
     case rel => exact ⟨j + 1, hjt, by go_num, HB8⟩
    ·have hje : j = x.length := by omega
     subst hje
     go_wp2_with (first | (go_at_call 35; with_reducible refine (lives_calls _).mono ?_; rintro e_ w8 ⟨rfl, hb⟩; have HZ := Aside0.mk (below_step HB7.out hb); clear hb))
     go_ret
     exact ⟨rfl, below_step HWB.out (below_step HB6.out HZ.out)⟩
theorem TernPlays_true (W m : Int) (A : Option Addr) (c : Nat) (ops : List S57) (w : World) (hC : Kd.C k57 w A ops.length ops) (hok : ∀ y ∈ ops, okI (opX y)) :
 Calls Try.prog 10 #[.agg #[.int .i64 W, .int .i64 m], .slice A ops.length c] w fun e_ w' => e_ = .returned (.bool true) ∧ Below w.heap.size w w' := by
 by_cases h : W < 1 ∨ 128 < W ∨ m < 1 ∨ 256 < m
 ·exact TernPlays_bad W m A c ops w h
 ·by_cases hl : 100 < ops.length
  ·exact TernPlays_many W m A c ops w (by omega) hl
  ·exact TernPlays_plays W m A c ops w (by omega) (by omega) hC hok
end Go.Proofs.Ytfdbcnbakchcgaa.XT
