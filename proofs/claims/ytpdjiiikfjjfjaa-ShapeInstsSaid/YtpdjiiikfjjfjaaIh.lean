/- The program's Header. -/
import Derived.Test.YtpdjiiikfjjfjaaIs
namespace Go.Proofs.Ytpdjiiikfjjfjaa.XI
open Go.RowKit Go.Proofs.YtpdjiiikfjjfjaaW.PrintWords Go.Proofs.YtpdjiiikfjjfjaaW.PrintLast Go.Proofs.YtpdjiiikfjjfjaaW.PrintMore
attribute [local go_sem] max2_int min2_int max_two min_two max_three min_three max_four min_four   -- for this text's walks alone
set_option linter.unusedVariables false
set_option linter.unusedSimpArgs false
set_option maxHeartbeats 400000 in
set_option maxRecDepth 100000 in
theorem Header_none (A0 : Option Addr) (c0 : Nat) (hs : List S24) (A1 : Option Addr) (c1 : Nat) (l : List S42) (slot a d : Int) (w : World) (hr1 : Kd.C k42 w A1 l.length l) (hc1 : l.length ≤ c1) (hof : shape_Of.f 4000 l slot = some (a, d, false)) :
    Calls Try.prog 28 #[.slice A0 hs.length c0, .slice A1 l.length c1, .int .i64 slot] w fun e w' => e = .returned (.tuple #[.agg #[.string ⟨#[]⟩, .slice none 0 0, .int .i64 0, .int .i64 0, .int .i64 0, .int .i64 0], .bool false]) ∧ Below w.heap.size w w' := by
  have HR1 := Aside0.mk hr1
  have HOF := Aside0.mk hof
  clear hr1 hof
  go_enter Try.func28, Try.ntmps28
  go_wp2_with (go_at_call 23; with_reducible refine (shape_Of.calls 4000 A1 c1 l slot a d false _ (Kd.C_below HR1.out (below_alloc (Below.refl _ _) _)) hc1 HOF.out).mono ?_; rintro e w1 ⟨rfl, hb⟩; have HB := Aside0.mk hb; have N1 := Aside0.mk (blk_below (blk_new w _) hb); have ns := blk_lt N1.out; have n0 := blk_cell N1.out 0; have n1 := blk_cell N1.out 1; have n2 := blk_cell N1.out 2; have n3 := blk_cell N1.out 3; have n4 := blk_cell N1.out 4; have n5 := blk_cell N1.out 5; have nf := blk_frozen N1.out; simp only [List.getElem?_toArray, List.getElem?_cons_succ, List.getElem?_cons_zero] at n0 n1 n2 n3 n4 n5; clear hb)
  refine bodyPost_ret (results_ct rfl _ _ w.heap.size 24 _ (0, 0) _ rfl (blk_set (blk_set (blk_set (blk_set (blk_set (blk_set N1.out 0 _) 1 _) 2 _) 3 _) 4 _) 5 _) Try.underlying24 rfl (by kernel_rfl)) rfl ⟨rfl, ?_⟩
  exact below_set (below_set (below_set (below_set (below_set (below_set (below_step (below_alloc (Below.refl _ _) _) HB.out) (Nat.le_refl _)) (Nat.le_refl _)) (Nat.le_refl _)) (Nat.le_refl _)) (Nat.le_refl _)) (Nat.le_refl _)
set_option maxHeartbeats 400000 in
set_option maxRecDepth 100000 in
theorem Header_out (A0 : Option Addr) (c0 : Nat) (hs : List S24) (A1 : Option Addr) (c1 : Nat) (l : List S42) (slot : Int) (a : Nat) (d : Int) (w : World) (hr1 : Kd.C k42 w A1 l.length l) (hc1 : l.length ≤ c1) (hof : shape_Of.f 4000 l slot = some ((a : Int), d, true)) (ha : a < l.length) (hl : hs.length ≤ 1000) (hn : ¬ (0 ≤ (rd_T42 l (a : Int)).f1 ∧ (rd_T42 l (a : Int)).f1 < (hs.length : Int))) :
    Calls Try.prog 28 #[.slice A0 hs.length c0, .slice A1 l.length c1, .int .i64 slot] w fun e w' => e = .returned (.tuple #[.agg #[.string ⟨#[]⟩, .slice none 0 0, .int .i64 0, .int .i64 0, .int .i64 0, .int .i64 0], .bool false]) ∧ Below w.heap.size w w' := by
  obtain ⟨ad, hA, p0, p1, p2⟩ := at_T42 hr1 (a : Int) (by omega) (by omega)
  subst hA
  rw [Int.toNat_natCast] at p0 p1 p2
  have HR1 := Aside0.mk hr1
  have HOF := Aside0.mk hof
  generalize rd_T42 l (a : Int) = x at *
  have HW : Aside0 (shape_within.f x.f1 0 ((hs.length : Int) - 1) = some false) := ⟨by rw [within_eq]; congr 1; exact decide_eq_false (by omega)⟩
  have ew : IntKind.i64.wrap ((hs.length : Int) - 1) = (hs.length : Int) - 1 := IntWalk.i64_in _ (by omega)
  clear hr1 hof hn
  go_enter Try.func28, Try.ntmps28
  go_wp2_with (first | (go_at_call 23; with_reducible refine (shape_Of.calls 4000 (some ad) c1 l slot a d true _ (Kd.C_below HR1.out (below_alloc (Below.refl _ _) _)) hc1 HOF.out).mono ?_; rintro e w1 ⟨rfl, hb⟩; have HB := Aside0.mk hb; have N1 := Aside0.mk (blk_below (blk_new w _) hb); have ns := blk_lt N1.out; have n0 := blk_cell N1.out 0; have n1 := blk_cell N1.out 1; have n2 := blk_cell N1.out 2; have n3 := blk_cell N1.out 3; have n4 := blk_cell N1.out 4; have n5 := blk_cell N1.out 5; have nf := blk_frozen N1.out; simp only [List.getElem?_toArray, List.getElem?_cons_succ, List.getElem?_cons_zero] at n0 n1 n2 n3 n4 n5; have q1 := ((below_step (below_alloc (Below.refl _ _) _) hb).cell (World.block_lt_of_cell? w _ p1)).trans p1; clear hb) | (go_at_call 33; with_reducible refine (shape_within.calls _ _ _ _ _ HW.out).mono ?_; rintro e w2 ⟨rfl, ⟨n2', rfl⟩⟩))
  refine bodyPost_ret (results_ct rfl _ _ w.heap.size 24 _ (0, 0) _ rfl (blk_set (blk_set (blk_set (blk_set (blk_set (blk_set (blk_drewN N1.out _) 0 _) 1 _) 2 _) 3 _) 4 _) 5 _) Try.underlying24 rfl (by kernel_rfl)) rfl ⟨rfl, ?_⟩
  exact below_set (below_set (below_set (below_set (below_set (below_set (pw_below_drewN (below_step (below_alloc (Below.refl _ _) _) HB.out) _) (Nat.le_refl _)) (Nat.le_refl _)) (Nat.le_refl _)) (Nat.le_refl _)) (Nat.le_refl _)) (Nat.le_refl _)
set_option maxHeartbeats 400000 in
set_option maxRecDepth 100000 in
theorem Header_in (A0 : Option Addr) (c0 : Nat) (hs : List S24) (A1 : Option Addr) (c1 : Nat) (l : List S42) (slot : Int) (a : Nat) (d : Int) (w : World) (hr1 : Kd.C k42 w A1 l.length l) (hc1 : l.length ≤ c1) (hof : shape_Of.f 4000 l slot = some ((a : Int), d, true)) (ha : a < l.length) (hl : hs.length ≤ 1000) (h : Nat) (hh : (rd_T42 l (a : Int)).f1 = (h : Int)) (hn : h < hs.length) (hr0 : Kd.C k24 w A0 hs.length hs) :
    Calls Try.prog 28 #[.slice A0 hs.length c0, .slice A1 l.length c1, .int .i64 slot] w fun e w' => (∃ (A5 : Option Addr) (c5 : Nat), e = .returned (.tuple #[.agg #[.string (rd_T24 hs (h : Int)).f0, .slice A5 (rd_T24 hs (h : Int)).f1.length c5, .int .i64 (rd_T24 hs (h : Int)).f2, .int .i64 (rd_T24 hs (h : Int)).f3, .int .i64 (rd_T24 hs (h : Int)).f4, .int .i64 (rd_T24 hs (h : Int)).f5], .bool true])) ∧ Below w.heap.size w w' := by
  obtain ⟨ad, hA, p0, p1, p2⟩ := at_T42 hr1 (a : Int) (by omega) (by omega)
  subst hA
  rw [Int.toNat_natCast] at p0 p1 p2
  obtain ⟨ah, A5, c5, hA0, g0, g1, g2, g3, g4, g5, _⟩ := at_T24 hr0 (h : Int) (by omega) (by omega)
  subst hA0
  rw [Int.toNat_natCast] at g0 g1 g2 g3 g4 g5
  have HR1 := Aside0.mk hr1
  have HOF := Aside0.mk hof
  generalize rd_T42 l (a : Int) = x at *
  generalize rd_T24 hs (h : Int) = y at *
  rw [hh] at p1
  have HW : Aside0 (shape_within.f (h : Int) 0 ((hs.length : Int) - 1) = some true) := ⟨by rw [within_eq]; congr 1; exact decide_eq_true (by omega)⟩
  have ew : IntKind.i64.wrap ((hs.length : Int) - 1) = (hs.length : Int) - 1 := IntWalk.i64_in _ (by omega)
  clear hr1 hof hr0
  go_enter Try.func28, Try.ntmps28
  go_wp2_with (first | (go_at_call 23; with_reducible refine (shape_Of.calls 4000 (some ad) c1 l slot a d true _ (Kd.C_below HR1.out (below_alloc (Below.refl _ _) _)) hc1 HOF.out).mono ?_; rintro e w1 ⟨rfl, hb⟩; have HB := Aside0.mk hb; have N1 := Aside0.mk (blk_below (blk_new w _) hb); have ns := blk_lt N1.out; have n0 := blk_cell N1.out 0; have n1 := blk_cell N1.out 1; have n2 := blk_cell N1.out 2; have n3 := blk_cell N1.out 3; have n4 := blk_cell N1.out 4; have n5 := blk_cell N1.out 5; have nf := blk_frozen N1.out; simp only [List.getElem?_toArray, List.getElem?_cons_succ, List.getElem?_cons_zero] at n0 n1 n2 n3 n4 n5; have hbb := below_step (below_alloc (Below.refl _ _) (.cells #[.string ⟨#[]⟩, .slice none 0 0, .int .i64 0, .int .i64 0, .int .i64 0, .int .i64 0] 24 (0, 0))) hb; have v0 := (hbb.cell (World.block_lt_of_cell? w _ g0)).trans g0; have v1 := (hbb.cell (World.block_lt_of_cell? w _ g1)).trans g1; have v2 := (hbb.cell (World.block_lt_of_cell? w _ g2)).trans g2; have v3 := (hbb.cell (World.block_lt_of_cell? w _ g3)).trans g3; have v4 := (hbb.cell (World.block_lt_of_cell? w _ g4)).trans g4; have v5 := (hbb.cell (World.block_lt_of_cell? w _ g5)).trans g5; clear hbb; have q1 := ((below_step (below_alloc (Below.refl _ _) _) hb).cell (World.block_lt_of_cell? w _ p1)).trans p1; clear hb) | (go_at_call 33; with_reducible refine (shape_within.calls _ _ _ _ _ HW.out).mono ?_; rintro e w2 ⟨rfl, ⟨n2', rfl⟩⟩))
  refine bodyPost_ret (results_ct rfl _ _ w.heap.size 24 _ (0, 0) _ rfl (blk_set (blk_set (blk_set (blk_set (blk_set (blk_set (blk_drewN N1.out _) 0 _) 1 _) 2 _) 3 _) 4 _) 5 _) Try.underlying24 rfl (by kernel_rfl)) rfl ⟨⟨_, _, rfl⟩, ?_⟩
  exact below_set (below_set (below_set (below_set (below_set (below_set (pw_below_drewN (below_step (below_alloc (Below.refl _ _) _) HB.out) _) (Nat.le_refl _)) (Nat.le_refl _)) (Nat.le_refl _)) (Nat.le_refl _)) (Nat.le_refl _)) (Nat.le_refl _)

end Go.Proofs.Ytpdjiiikfjjfjaa.XI
