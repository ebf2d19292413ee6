import Derived.Test.YtfdbcnbakchcgaaSr
import Derived.Test.YtfdbcnbakchcgaaRk
namespace Go.Proofs.Ytfdbcnbakchcgaa.XR
open Go.RowKit Go.Proofs.YtfdbcnbakchcgaaW.PrintWords Go.Proofs.YtfdbcnbakchcgaaW.PrintLast Go.Proofs.YtfdbcnbakchcgaaW.PrintMore
attribute [local go_sem] max2_int min2_int max_two min_two max_three min_three max_four min_four   -- for this text's walks alone
set_option linter.unusedVariables false
set_option linter.unusedSimpArgs false
structure S34 where
 f0 : Int
 f1 : Int
 f2 : Int
 f3 : S32
def z34 : S34 := ⟨0, 0, 0, z32⟩
def k34 : Kd S34 := Kd.iso (Kd.pair (Kd.int .i64) (Kd.pair (Kd.int .i64) (Kd.pair (Kd.int .i64) k32))) (fun x : S34 => (x.f0, x.f1, x.f2, x.f3))
theorem k34_open {w : World} {x : S34} {cs : List Value} (h : k34.K w x cs) : cs = [.int .i64 x.f0, .int .i64 x.f1, .int .i64 x.f2, .int .i64 x.f3.f0, .int .u64 x.f3.f1, .int .u64 x.f3.f2] := by
 obtain ⟨_, _, rfl, rfl, ⟨_, _, rfl, rfl, ⟨_, _, rfl, rfl, s0⟩⟩⟩ := h
 obtain rfl := k32_open s0
 exact rfl
theorem k34_mk (w : World) (x : S34) : k34.K w x [.int .i64 x.f0, .int .i64 x.f1, .int .i64 x.f2, .int .i64 x.f3.f0, .int .u64 x.f3.f1, .int .u64 x.f3.f2] :=
 ⟨[.int .i64 x.f0], _, rfl, rfl, ⟨[.int .i64 x.f1], _, rfl, rfl, ⟨[.int .i64 x.f2], _, rfl, rfl, k32_mk w x.f3⟩⟩⟩
def rd_T34 (xs : List S34) (i : Int) : S34 := xs.getD i.toNat z34
theorem at_T34 {w : World} {A : Option Addr} {n : Nat} {xs : List S34} (h : Kd.C k34 w A n xs) (i : Int) (h0 : 0 ≤ i) (h1 : i < n) : ∃ ad , A = some ad ∧ w.cell? (ad.add (i.toNat * 6)) = some (.int .i64 (rd_T34 xs i).f0) ∧ w.cell? ⟨(ad.add (i.toNat * 6)).block, (ad.add (i.toNat * 6)).off + 1, none⟩ = some (.int .i64 (rd_T34 xs i).f1) ∧ w.cell? ⟨(ad.add (i.toNat * 6)).block, (ad.add (i.toNat * 6)).off + 2, none⟩ = some (.int .i64 (rd_T34 xs i).f2) ∧ w.cell? ⟨(ad.add (i.toNat * 6)).block, (ad.add (i.toNat * 6)).off + 3, none⟩ = some (.int .i64 (rd_T34 xs i).f3.f0) ∧ w.cell? ⟨(ad.add (i.toNat * 6)).block, (ad.add (i.toNat * 6)).off + 4, none⟩ = some (.int .u64 (rd_T34 xs i).f3.f1) ∧ w.cell? ⟨(ad.add (i.toNat * 6)).block, (ad.add (i.toNat * 6)).off + 5, none⟩ = some (.int .u64 (rd_T34 xs i).f3.f2) := by
 obtain ⟨ad, c, e, _, hK, hc0⟩ := Kd.C_get h z34 i h0 h1
 have hc : ∀ j u, c[j]? = some u → w.cell? (ad.add (i.toNat * 6 + j)) = some u := hc0
 obtain rfl := k34_open hK
 exact ⟨ad, e, hc 0 _ rfl, by rw [← add_field _ _ 1 (by omega)]; exact hc 1 _ rfl, by rw [← add_field _ _ 2 (by omega)]; exact hc 2 _ rfl, by rw [← add_field _ _ 3 (by omega)]; exact hc 3 _ rfl, by rw [← add_field _ _ 4 (by omega)]; exact hc 4 _ rfl, by rw [← add_field _ _ 5 (by omega)]; exact hc 5 _ rfl⟩
/-- The prefix of an operation. -/
def opQ (y : S34) : S45 := ⟨y.f3, y.f1, y.f2⟩
/-- The prefixes behind some operations. -/
def runQ (W : Nat) (m : Int) (x : List S45) (ops : List S34) : List S45 := ops.foldl (fun x y => stepQ W m x y.f0 (opQ y)) x
theorem runQ_take (W : Nat) (m : Int) (x : List S45) (ops : List S34) (i : Nat) (hi : i < ops.length) : runQ W m x (ops.take (i + 1)) = stepQ W m (runQ W m x (ops.take i)) (ops[i]).f0 (opQ ops[i]) := by
 unfold runQ
 rw [List.take_succ_eq_append_getElem hi, List.foldl_append]; rfl
theorem runQ_ok (W : Nat) (m : Int) (x : List S45) (hx : SIt W x m) (ops : List S34) (hok : ∀ y ∈ ops, okV y.f3) : ∀ i, i ≤ ops.length → SIt W (runQ W m x (ops.take i)) m
 | 0, _ => by simpa [runQ] using hx
 | i + 1, h => by
  have h1 := runQ_ok W m x hx ops hok i (by omega)
  rw [runQ_take W m x ops i (by omega)]
  exact h1.step _ _ (hok _ (List.getElem_mem _))
theorem SIt_nil (W : Nat) (m : Int) (h : 0 ≤ m) : SIt W [] m := ⟨List.Pairwise.nil, fun y hy => by simp at hy, by simpa using h⟩
theorem tNew_kt (W m : Int) (w : World) (h1 : 1 ≤ W) (h2 : W ≤ 128) (h3 : 1 ≤ m) (h4 : m ≤ 256) :
 Calls Try.prog 16 #[.int .i64 W, .int .i64 m] w fun e w' => e = .returned (.pointer (some ⟨w.heap.size + 1, 0, none⟩)) ∧ KT w w' (w.heap.size + 1) (newM w.heap.size) W m 0 := by
 refine (tNew_ok W m w h1 h2 h3 h4).mono ?_
 rintro e w' ⟨rfl, rfl⟩
 exact ⟨rfl, KT_new w W m⟩
theorem STt_new {w w1 : World} {g b : Nat} {W : Nat} {m : Int} (h : KT w w1 g (newM b) (W : Int) m 0) : STt w w1 g (newM b) (.slice none 0 0) [] [] W m := ⟨h, SH_new b, Kd.R_nil _ _ _ _ _⟩
set_option maxHeartbeats 1000000 in
set_option maxRecDepth 100000 in
theorem TriePlays_bad (W m : Int) (A : Option Addr) (c : Nat) (ops : List S34) (w : World) (h : W < 1 ∨ 128 < W ∨ m < 1 ∨ 256 < m) :
 Calls Try.prog 3 #[.agg #[.int .i64 W, .int .i64 m], .slice A ops.length c] w fun e_ w' => e_ = .returned (.bool true) ∧ Below w.heap.size w w' := by
 have HN := Aside0.mk (fun w => tNew_no W m w h)
 have hc : (W < 1) ∨ (¬ W < 1 ∧ 128 < W) ∨ (¬ W < 1 ∧ ¬ 128 < W ∧ m < 1) ∨ (¬ W < 1 ∧ ¬ 128 < W ∧ ¬ m < 1 ∧ 256 < m) := by omega
 clear h
 have n0 := blk_cell (blk_new w (.cells #[.int .i64 W, .int .i64 m] 22 (0, 0))) 0
 have n1 := blk_cell (blk_new w (.cells #[.int .i64 W, .int .i64 m] 22 (0, 0))) 1
 simp only [List.getElem?_toArray, List.getElem?_cons_succ, List.getElem?_cons_zero] at n0 n1
 rcases hc with h1 | ⟨h1, h2⟩ | ⟨h1, h2, h3⟩ | ⟨h1, h2, h3, h4⟩
 ·have g1 : decide (W < 1) = true := decide_eq_true h1
  clear h1
  go_enter Try.func3, Try.ntmps3
  go_wp2_with (first | (go_at_call 16; with_reducible refine (HN.out _).mono ?_; rintro e_ w1 ⟨rfl, rfl⟩) | (go_at_call 17; with_reducible refine (tlives_calls _).mono ?_; rintro e_ w1 ⟨rfl, hb⟩; have HZ := Aside0.mk (below_step (below_alloc (Below.refl _ _) (.cells #[.int .i64 W, .int .i64 m] 22 (0, 0))) hb); clear hb))
  go_ret
  exact ⟨rfl, HZ.out⟩
 ·have g1 : decide (W < 1) = false := decide_eq_false h1
  have g2 : decide (128 < W) = true := decide_eq_true h2
  clear h1 h2
  go_enter Try.func3, Try.ntmps3
  go_wp2_with (first | (go_at_call 16; with_reducible refine (HN.out _).mono ?_; rintro e_ w1 ⟨rfl, rfl⟩) | (go_at_call 17; with_reducible refine (tlives_calls _).mono ?_; rintro e_ w1 ⟨rfl, hb⟩; have HZ := Aside0.mk (below_step (below_alloc (Below.refl _ _) (.cells #[.int .i64 W, .int .i64 m] 22 (0, 0))) hb); clear hb))
  go_ret
  exact ⟨rfl, HZ.out⟩
 ·have g1 : decide (W < 1) = false := decide_eq_false h1
  have g2 : decide (128 < W) = false := decide_eq_false h2
  have g3 : decide (m < 1) = true := decide_eq_true h3
  clear h1 h2 h3
  go_enter Try.func3, Try.ntmps3
  go_wp2_with (first | (go_at_call 16; with_reducible refine (HN.out _).mono ?_; rintro e_ w1 ⟨rfl, rfl⟩) | (go_at_call 17; with_reducible refine (tlives_calls _).mono ?_; rintro e_ w1 ⟨rfl, hb⟩; have HZ := Aside0.mk (below_step (below_alloc (Below.refl _ _) (.cells #[.int .i64 W, .int .i64 m] 22 (0, 0))) hb); clear hb))
  go_ret
  exact ⟨rfl, HZ.out⟩
 ·have g1 : decide (W < 1) = false := decide_eq_false h1
  have g2 : decide (128 < W) = false := decide_eq_false h2
  have g3 : decide (m < 1) = false := decide_eq_false h3
  have g4 : decide (256 < m) = true := decide_eq_true h4
  clear h1 h2 h3 h4
  go_enter Try.func3, Try.ntmps3
  go_wp2_with (first | (go_at_call 16; with_reducible refine (HN.out _).mono ?_; rintro e_ w1 ⟨rfl, rfl⟩) | (go_at_call 17; with_reducible refine (tlives_calls _).mono ?_; rintro e_ w1 ⟨rfl, hb⟩; have HZ := Aside0.mk (below_step (below_alloc (Below.refl _ _) (.cells #[.int .i64 W, .int .i64 m] 22 (0, 0))) hb); clear hb))
  go_ret
  exact ⟨rfl, HZ.out⟩
set_option maxHeartbeats 1000000 in
set_option maxRecDepth 100000 in
theorem TriePlays_many (W m : Int) (A : Option Addr) (c : Nat) (ops : List S34) (w : World) (h : 1 ≤ W ∧ W ≤ 128 ∧ 1 ≤ m ∧ m ≤ 256) (hl : 300 < ops.length) :
 Calls Try.prog 3 #[.agg #[.int .i64 W, .int .i64 m], .slice A ops.length c] w fun e_ w' => e_ = .returned (.bool true) ∧ Below w.heap.size w w' := by
 have HN := Aside0.mk (fun w => tNew_kt W m w h.1 h.2.1 h.2.2.1 h.2.2.2)
 have g1 : decide (W < 1) = false := decide_eq_false (by omega)
 have g2 : decide (128 < W) = false := decide_eq_false (by omega)
 have g3 : decide (m < 1) = false := decide_eq_false (by omega)
 have g4 : decide (256 < m) = false := decide_eq_false (by omega)
 have g5 : decide ((300 : Int) < (ops.length : Int)) = true := decide_eq_true (by omega)
 clear h hl
 have n0 := blk_cell (blk_new w (.cells #[.int .i64 W, .int .i64 m] 22 (0, 0))) 0
 have n1 := blk_cell (blk_new w (.cells #[.int .i64 W, .int .i64 m] 22 (0, 0))) 1
 simp only [List.getElem?_toArray, List.getElem?_cons_succ, List.getElem?_cons_zero] at n0 n1
 go_enter Try.func3, Try.ntmps3
 go_wp2_with (first | (go_at_call 16; with_reducible refine (HN.out _).mono ?_; rintro e_ w2 ⟨rfl, hk⟩; have HB2 := Aside0.mk (below_step (below_alloc (Below.refl _ _) (.cells #[.int .i64 W, .int .i64 m] 22 (0, 0))) hk.below); clear n0 n1; have n0 := blk_cell (blk_below (blk_new w (.cells #[.int .i64 W, .int .i64 m] 22 (0, 0))) hk.below) 0; have n1 := blk_cell (blk_below (blk_new w (.cells #[.int .i64 W, .int .i64 m] 22 (0, 0))) hk.below) 1; simp only [List.getElem?_toArray, List.getElem?_cons_succ, List.getElem?_cons_zero] at n0 n1; clear hk) | (go_at_call 17; with_reducible refine (tlives_calls _).mono ?_; rintro e_ w1 ⟨rfl, hb⟩; have HZ := Aside0.mk (below_step (HB2.out) hb); clear hb))
 go_ret
 exact ⟨rfl, HZ.out⟩
set_option maxHeartbeats 1000000 in
set_option maxRecDepth 100000 in
theorem TriePlays_plays (W m : Int) (A : Option Addr) (c : Nat) (ops : List S34) (w : World) (Wn : Nat) (hWn : W = (Wn : Int)) (h : 1 ≤ W ∧ W ≤ 128 ∧ 1 ≤ m ∧ m ≤ 256) (hl : ops.length ≤ 300) (hC : Kd.C k34 w A ops.length ops) (hok : ∀ y ∈ ops, okV y.f3) :
 Calls Try.prog 3 #[.agg #[.int .i64 W, .int .i64 m], .slice A ops.length c] w fun e_ w' => e_ = .returned (.bool true) ∧ Below w.heap.size w w' := by
 have HN := Aside0.mk (fun w => tNew_kt W m w h.1 h.2.1 h.2.2.1 h.2.2.2)
 have HRUN := Aside0.mk (runQ_ok Wn m [] (SIt_nil Wn m (by omega)) ops hok)
 have HW1 := Aside0.mk (show 1 ≤ Wn from by omega)
 have HW2 := Aside0.mk (show Wn ≤ 128 from by omega)
 have HM := Aside0.mk h.2.2.2
 have g1 : decide (W < 1) = false := decide_eq_false (by omega)
 have g2 : decide (128 < W) = false := decide_eq_false (by omega)
 have g3 : decide (m < 1) = false := decide_eq_false (by omega)
 have g4 : decide (256 < m) = false := decide_eq_false (by omega)
 have g5 : decide ((300 : Int) < (ops.length : Int)) = false := decide_eq_false (by omega)
 have HWN := Aside0.mk hWn
 obtain ⟨wb, hwb⟩ : ∃ wb, wb = w.alloc (.cells #[.int .i64 W, .int .i64 m] 22 (0, 0)) := ⟨_, rfl⟩
 have HC := Aside0.mk (show Kd.C k34 wb A ops.length ops from by rw [hwb]; exact Kd.C_below hC (below_alloc (Below.refl _ _) _))
 have HBX := Aside0.mk (show wb.heap[w.heap.size]? = some (.cells #[.int .i64 W, .int .i64 m] 22 (0, 0)) from by rw [hwb]; exact blk_new w _)
 have HWB := Aside0.mk (show Below w.heap.size w wb from by rw [hwb]; exact below_alloc (Below.refl _ _) (.cells #[.int .i64 W, .int .i64 m] 22 (0, 0)))
 have hgs : wb.heap.size = w.heap.size + 1 := by rw [hwb]; simp
 have HLN := Aside0.mk hl
 have HOKS := Aside0.mk hok
 clear h hl hC hok hWn
 have n0 := blk_cell (blk_new w (.cells #[.int .i64 W, .int .i64 m] 22 (0, 0))) 0
 have n1 := blk_cell (blk_new w (.cells #[.int .i64 W, .int .i64 m] 22 (0, 0))) 1
 simp only [List.getElem?_toArray, List.getElem?_cons_succ, List.getElem?_cons_zero] at n0 n1
 go_enter Try.func3, Try.ntmps3
 go_wp2_with (first | (go_at_call 16; with_reducible refine (HN.out _).mono ?_; rintro e_ w2 ⟨rfl, hk⟩; rw [← hwb] at hk; rw [hgs] at hk; have HK := Aside0.mk hk; clear hk n0 n1; have n0 := blk_cell (blk_below HBX.out HK.out.below) 0; have n1 := blk_cell (blk_below HBX.out HK.out.below) 1; simp only [List.getElem?_toArray, List.getElem?_cons_succ, List.getElem?_cons_zero] at n0 n1))
 have HS0 := Aside0.mk (show STt wb w2 (w.heap.size + 1 + 1) (newM (w.heap.size + 1)) (.slice none 0 0) (runQ Wn m [] (ops.take 0)) (runQ Wn m [] (ops.take 0)) Wn m from by rw [show runQ Wn m [] (ops.take 0) = [] from by rw [List.take_zero]; rfl]; have hk := HK.out; rw [HWN.out] at hk; exact STt_new hk)
 go_loopw [6, 7, 8] (fun u6 u7 u8 w' => ∃ (i : Nat) (M : NM), i ≤ ops.length ∧ u7 = .int .i64 i ∧ Aside0 (STt wb w' (w.heap.size + 1 + 1) M u6 (runQ Wn m [] (ops.take i)) (runQ Wn m [] (ops.take i)) Wn m)) (fun _ u7 _ _ => ops.length - (intOf u7).toNat)
 case atStart => exact ⟨0, _, Nat.zero_le _, rfl, HS0⟩
 case round =>
  obtain ⟨i, M, hi, rfl, HT⟩ := hrel
  clear n0 n1 HK HS0
  by_cases hlt : i < ops.length
  ·have hl100 := HLN.out
   have hi0 : 0 ≤ (i : Int) := by omega
   have hil : (i : Int) < (ops.length : Int) := by omega
   obtain ⟨ad, hA, _⟩ := at_T34 HC.out (i : Int) hi0 hil
   subst hA
   have hy : rd_T34 ops (i : Int) = ops[i] := by simp [rd_T34, List.getD_eq_getElem?_getD, hlt]
   have HR1 := Aside0.mk (HRUN.out i hi)
   have HRS := Aside0.mk (runQ_take Wn m [] ops i hlt)
   obtain ⟨y, hyy⟩ : ∃ y, y = ops[i] := ⟨_, rfl⟩
   rw [← hyy] at hy HRS
   have HOK := Aside0.mk (show okV y.f3 from by rw [hyy]; exact HOKS.out _ (List.getElem_mem hlt))
   have HCY := Aside0.mk (show ∀ w', Below wb.heap.size wb w' → w'.cell? (ad.add (i * 6)) = some (.int .i64 y.f0) ∧ w'.cell? ⟨(ad.add (i * 6)).block, (ad.add (i * 6)).off + 1, none⟩ = some (.int .i64 y.f1) ∧ w'.cell? ⟨(ad.add (i * 6)).block, (ad.add (i * 6)).off + 2, none⟩ = some (.int .i64 y.f2) ∧ w'.cell? ⟨(ad.add (i * 6)).block, (ad.add (i * 6)).off + 3, none⟩ = some (.int .i64 y.f3.f0) ∧ w'.cell? ⟨(ad.add (i * 6)).block, (ad.add (i * 6)).off + 4, none⟩ = some (.int .u64 y.f3.f1) ∧ w'.cell? ⟨(ad.add (i * 6)).block, (ad.add (i * 6)).off + 5, none⟩ = some (.int .u64 y.f3.f2) from fun w' hb => by
    obtain ⟨ad2, e2, h2⟩ := at_T34 (Kd.C_below HC.out hb) (i : Int) hi0 hil
    injection e2 with e2
    subst e2
    rw [Int.toNat_natCast, hy] at h2
    exact h2)
   clear hyy hy
   have HST7 := Aside0.mk (fun w5 (ht : STt wb w5 (w.heap.size + 1 + 1) M u6 (runQ Wn m [] (ops.take i)) (runQ Wn m [] (ops.take i)) Wn m) => (show Calls Try.prog 18 #[.pointer (some ⟨w.heap.size + 1 + 1, 0, none⟩), u6, .agg #[.int .i64 W, .int .i64 m], .agg #[.int .i64 y.f0, .int .i64 y.f1, .int .i64 y.f2, .int .i64 y.f3.f0, .int .u64 y.f3.f1, .int .u64 y.f3.f2]] w5 (fun e_ w' => ∃ M1 vx1, e_ = .returned (.tuple #[vx1, .bool true]) ∧ STt wb w' (w.heap.size + 1 + 1) M1 vx1 (stepQ Wn m (runQ Wn m [] (ops.take i)) y.f0 ⟨y.f3, y.f1, y.f2⟩) (stepQ Wn m (runQ Wn m [] (ops.take i)) y.f0 ⟨y.f3, y.f1, y.f2⟩) Wn m) from by
    rw [HWN.out]
    refine (tstep_two wb w5 (w.heap.size + 1 + 1) M u6 (runQ Wn m [] (ops.take i)) (runQ Wn m [] (ops.take i)) Wn m y.f0 y.f1 y.f2 y.f3 ht HR1.out HR1.out HW1.out HW2.out HM.out HOK.out).mono ?_
    rintro e_ w' ⟨M1, vx1, bb, rfl, hbb, ht, _⟩
    obtain rfl := hbb rfl
    exact ⟨M1, vx1, rfl, ht⟩))
   go_wp2
   refine start_ (n := 13) (S := fun w' => Below wb.heap.size wb w') (ds := []) #[false, false, false, false, false, false, false, false, false, false, false, false, false] (by kernel_rfl) rfl rfl (below_drew1 HT.out.kt.below) (fun hHeld => ?_)
   have HT2 := Aside0.mk (HT.out.step (below_drew1 (Below.refl _ _)))
   clear HT
   generalize World.drew _ = w5 at HT2 hHeld ⊢
   refine pl_ [0, 1, 3, 4, 5] ?_
   iterate 5 refine pP rfl rfl (by kernel_rfl) (fun _ _ _ h => h) (by rfl) (by intro w'; go_simp; with_reducible rfl) (by simp only [Act.put, z1, z2, z3, i64_w, i32_w]; rfl) ?_
   refine pl0 ?_
   refine take_ (i := 2) (N := some 58) (v := ?_) (a' := ?_) #[true, true, true, true, true, true, false, false, false, false, false, false, false] rfl rfl (by kernel_rfl) (fun _ _ _ h => h) (Or.inl ⟨by rfl, ?_⟩) hHeld ?_ ?_
   rotate_left
   ·intro w' hs
    have m0 := blk_cell (blk_below HBX.out hs) 0
    have m1 := blk_cell (blk_below HBX.out hs) 1
    simp only [List.getElem?_toArray, List.getElem?_cons_succ, List.getElem?_cons_zero] at m0 m1
    go_simp
    with_reducible rfl
   rotate_left
   ·simp only [Act.put, List.setIfInBounds_toArray, List.set_cons_zero, List.set_cons_succ, i64_w, i32_w]
    rfl
   refine take_ (i := 6) (N := some 62) (v := ?_) (a' := ?_) #[true, true, true, true, true, true, true, false, false, false, false, false, false] rfl rfl (by kernel_rfl) (fun _ _ _ h => h) (Or.inl ⟨by rfl, ?_⟩) hHeld ?_ ?_
   rotate_left
   ·intro w' hs
    obtain ⟨s0, s1, s2, s3, s4, s5⟩ := HCY.out w' hs
    go_simp
    with_reducible rfl
   rotate_left
   ·simp only [Act.put, List.setIfInBounds_toArray, List.set_cons_zero, List.set_cons_succ, i64_w, i32_w]
    rfl
   refine one_ (i := 7) (N := some 63) #[true, true, true, true, true, true, true, true, false, false, false, false, false] rfl rfl (by kernel_rfl) (by decide) (fun K hK => ?_)
   refine goes_ Try.func18 (by kernel_rfl) rfl #[.pointer (some ⟨w.heap.size + 1 + 1, 0, none⟩), u6, .agg #[.int .i64 W, .int .i64 m], .agg #[.int .i64 y.f0, .int .i64 y.f1, .int .i64 y.f2, .int .i64 y.f3.f0, .int .u64 y.f3.f1, .int .u64 y.f3.f2]] (by rfl) rfl rfl (by simp only [List.map_toArray, List.map_cons, List.map_nil]; rfl) ?_
   with_reducible refine ((HST7.out _ HT2.out)).mono ?_
   rintro e_ w1 ⟨M1, vx1, rfl, hst⟩
   refine ⟨_, rfl, ?_⟩
   rw [show stepQ Wn m (runQ Wn m [] (ops.take i)) y.f0 ⟨y.f3, y.f1, y.f2⟩ = runQ Wn m [] (ops.take (i + 1)) from HRS.out.symm] at hst
   obtain ⟨Ax, cx, rfl⟩ := Kd.R_slice hst.rx
   have HT := Aside0.mk hst
   clear hst HT2
   refine hK.out _ _ HT.out.kt.below (fun hHeld => ?_)
   clear hK K
   refine norm_ (a' := ?_) ?_ ?_
   rotate_left
   ·show Act.put _ (some 63) _ = _
    simp only [Act.put, List.setIfInBounds_toArray, List.set_cons_zero, List.set_cons_succ, i64_w, i32_w]
    rfl
   refine pl_ [8, 9, 10, 11, 12] ?_
   iterate 5 refine pP rfl rfl (by kernel_rfl) (fun _ _ _ h => h) (by rfl) (by intro w'; go_simp; with_reducible rfl) (by simp only [Act.put, z1, z2, z3, i64_w, i32_w]; rfl) ?_
   refine pl0 ?_
   refine done_ (by kernel_rfl) ?_
   have HLE := Aside0.mk (fun w1 (h1 : KT wb w1 (w.heap.size + 1 + 1) M1 (Wn : Int) m ((runQ Wn m [] (ops.take (i + 1))).length : Int)) => tLen_calls wb w1 (w.heap.size + 1 + 1) M1 (Wn : Int) m _ h1)
   go_wp2_with (first | (go_at_call 19; with_reducible refine (HLE.out _ HT.out.kt).mono ?_; rintro e_ w6 ⟨rfl, h_⟩; rw [h_]; clear h_ w6))
   go_roundw
   case measure => first | (simp [intOf]; done) | (simp [intOf]; omega)
   case rel => exact ⟨i + 1, M1, hlt, by go_num, HT⟩
  ·have hie : i = ops.length := by omega
   go_wp2_with (first | (go_at_call 17; with_reducible refine (tlives_calls _).mono ?_; rintro e_ w8 ⟨rfl, hb⟩; have HZ := Aside0.mk (below_step HT.out.kt.below hb); clear hb))
   go_ret
   exact ⟨rfl, below_step HWB.out HZ.out⟩
theorem TriePlays_true (W m : Int) (A : Option Addr) (c : Nat) (ops : List S34) (w : World) (hC : Kd.C k34 w A ops.length ops) (hok : ∀ y ∈ ops, okV y.f3) :
 Calls Try.prog 3 #[.agg #[.int .i64 W, .int .i64 m], .slice A ops.length c] w fun e_ w' => e_ = .returned (.bool true) ∧ Below w.heap.size w w' := by
 by_cases h : W < 1 ∨ 128 < W ∨ m < 1 ∨ 256 < m
 ·exact TriePlays_bad W m A c ops w h
 ·by_cases hl : 300 < ops.length
  ·exact TriePlays_many W m A c ops w (by omega) hl
  ·exact TriePlays_plays W m A c ops w W.toNat (by omega) (by omega) (by omega) hC hok
end Go.Proofs.Ytfdbcnbakchcgaa.XR
