import Derived.Test.YtfdbcnbakchcgaaSr
import Derived.Test.YtfdbcnbakchcgaaXRx0
import Derived.Test.YtfdbcnbakchcgaaXRx2
import Derived.Test.YtfdbcnbakchcgaaXRx3
namespace Go.Proofs.Ytfdbcnbakchcgaa.XR
open Go.RowKit Go.Proofs.YtfdbcnbakchcgaaW.PrintWords Go.Proofs.YtfdbcnbakchcgaaW.PrintLast Go.Proofs.YtfdbcnbakchcgaaW.PrintMore
attribute [local go_sem] max2_int min2_int max_two min_two max_three min_three max_four min_four   -- for this text's walks alone
set_option linter.unusedVariables false
set_option linter.unusedSimpArgs false
def word_Ones.f (k : Nat) (a0 : Int) : Option (Int × Int) := if a0 ≤ 0 then (some (0, 0)) else (if a0 ≥ 128 then ((word_Not.f 0 0).bind fun bt129 => (some (bt129.1, bt129.2))) else ((word_Shl.f k 0 1 a0).bind fun bt131 => ((word_Sub.f bt131.1 bt131.2 0 1).bind fun bt133 => (some (bt133.1, bt133.2.1)))))
theorem word_Ones.mono : ∀ a0 k, LeO (word_Ones.f k a0) (word_Ones.f (k + 1) a0) := by
 intro a0 k
 unfold word_Ones.f
 repeat' first
  | (with_reducible exact word_Shl.mono _ _ _ _)
  | (with_reducible exact LeO.refl _)
  | (with_reducible exact LeO.none _)
  | (with_reducible refine LeO.ite ?_ ?_)
  | (with_reducible refine LeO.bind ?_ (fun _ => ?_))
  | exact word_Shl.mono _ _ _ _
  | exact LeO.none _
  | refine LeO.ite ?_ ?_
  | refine LeO.bind ?_ (fun _ => ?_)
set_option maxHeartbeats 8000000 in
set_option maxRecDepth 100000 in
theorem word_Ones.calls (k : Nat) (a0 : Int) (r1 : Int) (r2 : Int) (w : World) (h : word_Ones.f k a0 = some (r1, r2)) :
 Calls Try.prog 128 #[.int .i64 a0] w fun e w' => e = .returned (.agg #[.int .u64 r1, .int .u64 r2]) ∧ Below w.heap.size w w' := by
 have hu130 := Try.underlying130
 have HB := Aside0.mk (Below.refl w.heap.size w)
 have H : (if a0 ≤ 0 then (some (0, 0)) else (if a0 ≥ 128 then ((word_Not.f 0 0).bind fun bt129 => (some (bt129.1, bt129.2))) else ((word_Shl.f k 0 1 a0).bind fun bt131 => ((word_Sub.f bt131.1 bt131.2 0 1).bind fun bt133 => (some (bt133.1, bt133.2.1)))))) = some (r1, r2) := h
 clear h
 by_cases c2 : a0 ≤ 0
 ·rw [if_pos c2] at H
  have c2b0 : decide (a0 ≤ 0) = true := decide_eq_true c2
  clear c2
  simp only [Option.some.injEq, Prod.mk.injEq] at H
  obtain ⟨rfl, rfl⟩ := H
  go_enter Try.func128, Try.ntmps128
  go_wp2_with (first | ((with_reducible refine gate_dst (N := 2) rfl ?_); refine box_event ?hg (N := 2) ?hd (cs := #[.int .u64 0, .int .u64 0]) (t := 130) ?hr ?_; (case hd => rfl); (case hg => rfl); (case hr => first | (go_simp; done) | (go_simp; rfl)); intro gb128 hg w3 hbox hb; have BK128 := Aside0.mk (hbox); have GW128 := Aside0.mk ((by rw [hg]; exact (below_size (by repeat (first | (with_reducible first | exact HB.out | apply below_alloc | apply pw_below_drewN | apply below_drew1) | exact HB.out))) : w.heap.size ≤ gb128)); have GE128 := Aside0.mk ((by rw [hg]; exact (below_size (by repeat (first | (with_reducible first | exact HB.out | apply below_alloc | apply pw_below_drewN | apply below_drew1) | exact HB.out))) : w.heap.size ≤ gb128)); replace HB := Aside0.mk (below_step (by repeat (first | (with_reducible first | exact HB.out | apply below_alloc | apply pw_below_drewN | apply below_drew1) | exact HB.out)) hb); clear hb hbox hg; obtain ⟨hcz4_0, hcz4_1, hfz4_0, hfz4_1⟩ := cl2 BK128.out))
  refine bodyPost_ret (results_cell_row rfl _ _ gb128 130 #[.int .u64 0, .int .u64 0] (0, 0) _ rfl (by (with_reducible repeat (first | refine blk_drewN ?_ _ | refine blk_drew ?_ | refine blk_alloc ?_ _)); refine blk_put (cs := #[.int .u64 0, .int .u64 0]) ?_ 1 _ rfl; (with_reducible repeat (first | refine blk_drewN ?_ _ | refine blk_drew ?_ | refine blk_alloc ?_ _)); refine blk_put (cs := #[.int .u64 0, .int .u64 0]) ?_ 0 _ rfl; (with_reducible repeat (first | refine blk_drewN ?_ _ | refine blk_drew ?_ | refine blk_alloc ?_ _)); exact BK128.out) Try.underlying130 rfl (by kernel_rfl)) rfl ?_
  exact ⟨by first | rfl | (simp [errW_none, errW_some] <;> rfl) | (simp [*, errW_none, errW_some] <;> rfl), by repeat (first | (with_reducible first | exact HB.out | apply below_alloc | apply pw_below_drewN | apply below_drew1 | refine below_set ?_ GE128.out) | exact HB.out)⟩
 ·rw [if_neg c2] at H
  have c2b0 : decide (a0 ≤ 0) = false := decide_eq_false c2
  clear c2
  by_cases c5 : a0 ≥ 128
  ·rw [if_pos c5] at H
   have c5b0 : decide (128 ≤ a0) = true := decide_eq_true c5
   clear c5
   replace H := Option.bind_eq_some_iff.mp H
   obtain ⟨⟨t129, t130⟩, A60, H⟩ := H
   replace H : (some (t129, t130)) = some (r1, r2) := H
   have A6 := Aside0.mk A60
   clear A60
   simp only [Option.some.injEq, Prod.mk.injEq] at H
   obtain ⟨rfl, rfl⟩ := H
   go_enter Try.func128, Try.ntmps128
   go_wp2_with (first | ((with_reducible refine gate_dst (N := 2) rfl ?_); refine box_event ?hg (N := 2) ?hd (cs := #[.int .u64 0, .int .u64 0]) (t := 130) ?hr ?_; (case hd => rfl); (case hg => rfl); (case hr => first | (go_simp; done) | (go_simp; rfl)); intro gb128 hg w7 hbox hb; have BK128 := Aside0.mk (hbox); have GW128 := Aside0.mk ((by rw [hg]; exact (below_size (by repeat (first | (with_reducible first | exact HB.out | apply below_alloc | apply pw_below_drewN | apply below_drew1) | exact HB.out))) : w.heap.size ≤ gb128)); have GE128 := Aside0.mk ((by rw [hg]; exact (below_size (by repeat (first | (with_reducible first | exact HB.out | apply below_alloc | apply pw_below_drewN | apply below_drew1) | exact HB.out))) : w.heap.size ≤ gb128)); replace HB := Aside0.mk (below_step (by repeat (first | (with_reducible first | exact HB.out | apply below_alloc | apply pw_below_drewN | apply below_drew1) | exact HB.out)) hb); clear hb hbox hg) | ((with_reducible refine gate_callee (f := 146) rfl ?_); refine goesL_ (some 13) rfl rfl Try.func146 (by kernel_rfl) rfl #[.agg #[.int .u64 0, .int .u64 0]] rfl (by (try simp only [List.map_toArray, List.map_cons, List.map_nil]); first | done | rfl | (simp only [List.length_drop, List.length_take]; rfl)) ?_; (with_reducible refine (word_Not.calls 0 0 t129 t130 _ A6.out).mono ?_); rintro e w8 ⟨rfl, hb⟩; refine ⟨_, rfl, ?_⟩; replace BK128 := bk1 (by (with_reducible repeat (first | refine blk_drewN ?_ _ | refine blk_drew ?_ | refine blk_alloc ?_ _)); exact BK128.out) hb; replace HB := Aside0.mk (below_step (by repeat (first | (with_reducible first | exact HB.out | apply below_alloc | apply pw_below_drewN | apply below_drew1 | refine below_set ?_ GE128.out) | exact HB.out)) hb); (try clear hb); (try clear hb2); (try clear hk); (try clear hi); obtain ⟨hcz9_0, hcz9_1, hfz9_0, hfz9_1⟩ := cl2 BK128.out))
   refine bodyPost_ret (results_cell_row rfl _ _ gb128 130 #[.int .u64 t129, .int .u64 t130] (0, 0) _ rfl (by (with_reducible repeat (first | refine blk_drewN ?_ _ | refine blk_drew ?_ | refine blk_alloc ?_ _)); refine blk_put (cs := #[.int .u64 t129, .int .u64 0]) ?_ 1 _ rfl; (with_reducible repeat (first | refine blk_drewN ?_ _ | refine blk_drew ?_ | refine blk_alloc ?_ _)); refine blk_put (cs := #[.int .u64 0, .int .u64 0]) ?_ 0 _ rfl; (with_reducible repeat (first | refine blk_drewN ?_ _ | refine blk_drew ?_ | refine blk_alloc ?_ _)); exact BK128.out) Try.underlying130 rfl (by kernel_rfl)) rfl ?_
   exact ⟨by first | rfl | (simp [errW_none, errW_some] <;> rfl) | (simp [*, errW_none, errW_some] <;> rfl), by repeat (first | (with_reducible first | exact HB.out | apply below_alloc | apply pw_below_drewN | apply below_drew1 | refine below_set ?_ GE128.out) | exact HB.out)⟩
  ·rw [if_neg c5] at H
   have c5b0 : decide (128 ≤ a0) = false := decide_eq_false c5
   clear c5
   replace H := Option.bind_eq_some_iff.mp H
   obtain ⟨⟨t131, t132⟩, A100, H⟩ := H
   replace H : ((word_Sub.f t131 t132 0 1).bind fun bt133 => (some (bt133.1, bt133.2.1))) = some (r1, r2) := H
   have A10 := Aside0.mk A100
   clear A100
   replace H := Option.bind_eq_some_iff.mp H
   obtain ⟨⟨t133, t134, t135⟩, A110, H⟩ := H
   replace H : (some (t133, t134)) = some (r1, r2) := H
   have A11 := Aside0.mk A110
   clear A110
   simp only [Option.some.injEq, Prod.mk.injEq] at H
   obtain ⟨rfl, rfl⟩ := H
   go_enter Try.func128, Try.ntmps128
   go_wp2_with (first | ((with_reducible refine gate_dst (N := 2) rfl ?_); refine box_event ?hg (N := 2) ?hd (cs := #[.int .u64 0, .int .u64 0]) (t := 130) ?hr ?_; (case hd => rfl); (case hg => rfl); (case hr => first | (go_simp; done) | (go_simp; rfl)); intro gb128 hg w12 hbox hb; have BK128 := Aside0.mk (hbox); have GW128 := Aside0.mk ((by rw [hg]; exact (below_size (by repeat (first | (with_reducible first | exact HB.out | apply below_alloc | apply pw_below_drewN | apply below_drew1) | exact HB.out))) : w.heap.size ≤ gb128)); have GE128 := Aside0.mk ((by rw [hg]; exact (below_size (by repeat (first | (with_reducible first | exact HB.out | apply below_alloc | apply pw_below_drewN | apply below_drew1) | exact HB.out))) : w.heap.size ≤ gb128)); replace HB := Aside0.mk (below_step (by repeat (first | (with_reducible first | exact HB.out | apply below_alloc | apply pw_below_drewN | apply below_drew1) | exact HB.out)) hb); clear hb hbox hg) | ((with_reducible refine gate_callee (f := 78) rfl ?_); refine goesL_ (some 17) rfl rfl Try.func78 (by kernel_rfl) rfl #[.agg #[.int .u64 0, .int .u64 1], .int .i64 a0] rfl (by (try simp only [List.map_toArray, List.map_cons, List.map_nil]); first | done | rfl | (simp only [List.length_drop, List.length_take]; rfl)) ?_; (with_reducible refine (word_Shl.calls k 0 1 a0 t131 t132 _ A10.out).mono ?_); rintro e w13 ⟨rfl, hb⟩; refine ⟨_, rfl, ?_⟩; replace BK128 := bk1 (by (with_reducible repeat (first | refine blk_drewN ?_ _ | refine blk_drew ?_ | refine blk_alloc ?_ _)); exact BK128.out) hb; replace HB := Aside0.mk (below_step (by repeat (first | (with_reducible first | exact HB.out | apply below_alloc | apply pw_below_drewN | apply below_drew1 | refine below_set ?_ GE128.out) | exact HB.out)) hb); (try clear hb); (try clear hb2); (try clear hk); (try clear hi)) | ((with_reducible refine gate_callee (f := 147) rfl ?_); refine goesL_ (some 19) rfl rfl Try.func147 (by kernel_rfl) rfl #[.agg #[.int .u64 t131, .int .u64 t132], .agg #[.int .u64 0, .int .u64 1]] rfl (by (try simp only [List.map_toArray, List.map_cons, List.map_nil]); first | done | rfl | (simp only [List.length_drop, List.length_take]; rfl)) ?_; (with_reducible refine (word_Sub.calls t131 t132 0 1 t133 t134 t135 _ A11.out).mono ?_); rintro e w14 ⟨rfl, hb⟩; refine ⟨_, rfl, ?_⟩; replace BK128 := bk1 (by (with_reducible repeat (first | refine blk_drewN ?_ _ | refine blk_drew ?_ | refine blk_alloc ?_ _)); exact BK128.out) hb; replace HB := Aside0.mk (below_step (by repeat (first | (with_reducible first | exact HB.out | apply below_alloc | apply pw_below_drewN | apply below_drew1 | refine below_set ?_ GE128.out) | exact HB.out)) hb); (try clear hb); (try clear hb2); (try clear hk); (try clear hi)) | ((with_reducible refine gate_dst (N := 3) rfl ?_); refine box_event ?hg (N := 3) ?hd (cs := #[.int .u64 0, .int .u64 0]) (t := 130) ?hr ?_; (case hd => rfl); (case hg => rfl); (case hr => first | (go_simp; done) | (go_simp; rfl)); intro gb136 hg w15 hbox hb; have BK136 := Aside0.mk (hbox); have GW136 := Aside0.mk ((by rw [hg]; exact (below_size (by repeat (first | (with_reducible first | exact HB.out | apply below_alloc | apply pw_below_drewN | apply below_drew1 | refine below_set ?_ GE128.out) | exact HB.out))) : w.heap.size ≤ gb136)); have GE136 := Aside0.mk ((by rw [hg]; exact (below_size (by repeat (first | (with_reducible first | exact HB.out | apply below_alloc | apply pw_below_drewN | apply below_drew1 | refine below_set ?_ GE128.out) | exact HB.out))) : w.heap.size ≤ gb136)); have NB128_136 := Aside0.mk ((by rw [hg]; exact Nat.ne_of_lt (blk_lt (g := gb128) (o := .cells #[.int .u64 0, .int .u64 0] 130 (0, 0)) (by (with_reducible repeat (first | refine blk_drewN ?_ _ | refine blk_drew ?_ | refine blk_alloc ?_ _)); exact BK128.out)) : gb128 ≠ gb136)); have NB136_128 := Aside0.mk ((by rw [hg]; exact Nat.ne_of_gt (blk_lt (g := gb128) (o := .cells #[.int .u64 0, .int .u64 0] 130 (0, 0)) (by (with_reducible repeat (first | refine blk_drewN ?_ _ | refine blk_drew ?_ | refine blk_alloc ?_ _)); exact BK128.out)) : gb136 ≠ gb128)); replace BK128 := bk1 (by (with_reducible repeat (first | refine blk_drewN ?_ _ | refine blk_drew ?_ | refine blk_alloc ?_ _)); exact BK128.out) hb; replace HB := Aside0.mk (below_step (by repeat (first | (with_reducible first | exact HB.out | apply below_alloc | apply pw_below_drewN | apply below_drew1 | refine below_set ?_ GE128.out) | exact HB.out)) hb); clear hb hbox hg; have hnb16 := NB136_128.out; have hnc16 := NB128_136.out; obtain ⟨hcz17_0, hcz17_1, hfz17_0, hfz17_1⟩ := cl2 BK136.out; obtain ⟨hcz18_0, hcz18_1, hfz18_0, hfz18_1⟩ := cl2 BK128.out))
   refine bodyPost_ret (results_cell_row rfl _ _ gb128 130 #[.int .u64 t133, .int .u64 t134] (0, 0) _ rfl (by (with_reducible repeat (first | refine blk_drewN ?_ _ | refine blk_drew ?_ | refine blk_alloc ?_ _)); refine blk_put (cs := #[.int .u64 t133, .int .u64 0]) ?_ 1 _ rfl; (with_reducible repeat (first | refine blk_drewN ?_ _ | refine blk_drew ?_ | refine blk_alloc ?_ _)); refine blk_put (cs := #[.int .u64 0, .int .u64 0]) ?_ 0 _ rfl; (with_reducible repeat (first | refine blk_drewN ?_ _ | refine blk_drew ?_ | refine blk_alloc ?_ _)); refine blk_far ?_ NB128_136.out _; (with_reducible repeat (first | refine blk_drewN ?_ _ | refine blk_drew ?_ | refine blk_alloc ?_ _)); refine blk_far ?_ NB128_136.out _; (with_reducible repeat (first | refine blk_drewN ?_ _ | refine blk_drew ?_ | refine blk_alloc ?_ _)); exact BK128.out) Try.underlying130 rfl (by kernel_rfl)) rfl ?_
   exact ⟨by first | rfl | (simp [errW_none, errW_some] <;> rfl) | (simp [*, errW_none, errW_some] <;> rfl), by repeat (first | (with_reducible first | exact HB.out | apply below_alloc | apply pw_below_drewN | apply below_drew1 | refine below_set ?_ GE128.out | refine below_set ?_ GE136.out) | exact HB.out)⟩
def vec_Cut.f (k : Nat) (a0 : Int) (a1_0 : Int) (a1_1 : Int) : Option (Int × Int × Int × Int) := (vec_width.f a0).bind fun t139 => (if t139 = true then ((word_Ones.f k a0).bind fun bt140 => ((word_And.f a1_0 a1_1 bt140.1 bt140.2).bind fun bt142 => ((vec_row.f a0 bt142.1 bt142.2).bind fun bt144 => (some (bt144.1, bt144.2.1, bt144.2.2, 0))))) else (some (0, 0, 0, 9)))
theorem vec_Cut.mono : ∀ a0 a1 a2 k, LeO (vec_Cut.f k a0 a1 a2) (vec_Cut.f (k + 1) a0 a1 a2) := by
 intro a0 a1 a2 k
 unfold vec_Cut.f
 repeat' first
  | (with_reducible exact word_Ones.mono _ _)
  | (with_reducible exact LeO.refl _)
  | (with_reducible exact LeO.none _)
  | (with_reducible refine LeO.ite ?_ ?_)
  | (with_reducible refine LeO.bind ?_ (fun _ => ?_))
  | exact word_Ones.mono _ _
  | exact LeO.none _
  | refine LeO.ite ?_ ?_
  | refine LeO.bind ?_ (fun _ => ?_)
def vec_Cut.T3 : Bool × List (List Nat × List Nat) := (true, [([], []), ([], []), ([], []), ([2], [2]), ([1, 3, 3], [1, 3]), ([0, 4, 4], [0, 4]), ([5, 5, 0, 1, 2, 3, 4, 5], [5]), ([6, 0, 1, 2, 3, 4, 5, 6], [])])
def vec_Cut.B3 : List Nat := [0, 0, 0, 4, 14, 31, 63, 127]
theorem vec_Cut.tab3 : rtab .any (opsOf Try.f76 3) = vec_Cut.T3 := by kernel_rfl
theorem vec_Cut.bits3 : waitsOk vec_Cut.T3.2 vec_Cut.B3 = true := by kernel_rfl
set_option maxHeartbeats 8000000 in
set_option maxRecDepth 100000 in
theorem vec_Cut.calls (k : Nat) (a0 : Int) (a1_0 : Int) (a1_1 : Int) (r1 : Int) (r2 : Int) (r3 : Int) (r4 : Int) (w : World) (h : vec_Cut.f k a0 a1_0 a1_1 = some (r1, r2, r3, r4)) :
 Calls Try.prog 76 #[.int .i64 a0, .agg #[.int .u64 a1_0, .int .u64 a1_1]] w fun e w' => e = .returned (.tuple #[.agg #[.int .i64 r1, .int .u64 r2, .int .u64 r3], .int .i64 r4]) ∧ Below w.heap.size w w' := by
 have hu130 := Try.underlying130
 have hu32 := Try.underlying32
 have HB := Aside0.mk (Below.refl w.heap.size w)
 have H : ((vec_width.f a0).bind fun t139 => (if t139 = true then ((word_Ones.f k a0).bind fun bt140 => ((word_And.f a1_0 a1_1 bt140.1 bt140.2).bind fun bt142 => ((vec_row.f a0 bt142.1 bt142.2).bind fun bt144 => (some (bt144.1, bt144.2.1, bt144.2.2, 0))))) else (some (0, 0, 0, 9)))) = some (r1, r2, r3, r4) := h
 clear h
 replace H := Option.bind_eq_some_iff.mp H
 obtain ⟨t139, A30, H⟩ := H
 replace H : (if t139 = true then ((word_Ones.f k a0).bind fun bt140 => ((word_And.f a1_0 a1_1 bt140.1 bt140.2).bind fun bt142 => ((vec_row.f a0 bt142.1 bt142.2).bind fun bt144 => (some (bt144.1, bt144.2.1, bt144.2.2, 0))))) else (some (0, 0, 0, 9))) = some (r1, r2, r3, r4) := H
 have A3 := Aside0.mk A30
 clear A30
 by_cases c4 : t139 = true
 ·subst c4
  have H1 : ((word_Ones.f k a0).bind fun bt140 => ((word_And.f a1_0 a1_1 bt140.1 bt140.2).bind fun bt142 => ((vec_row.f a0 bt142.1 bt142.2).bind fun bt144 => (some (bt144.1, bt144.2.1, bt144.2.2, 0))))) = some (r1, r2, r3, r4) := by rw [if_pos rfl] at H; exact H
  clear H
  have H := H1
  clear H1
  replace H := Option.bind_eq_some_iff.mp H
  obtain ⟨⟨t140, t141⟩, A50, H⟩ := H
  replace H : ((word_And.f a1_0 a1_1 t140 t141).bind fun bt142 => ((vec_row.f a0 bt142.1 bt142.2).bind fun bt144 => (some (bt144.1, bt144.2.1, bt144.2.2, 0)))) = some (r1, r2, r3, r4) := H
  have A5 := Aside0.mk A50
  clear A50
  replace H := Option.bind_eq_some_iff.mp H
  obtain ⟨⟨t142, t143⟩, A60, H⟩ := H
  replace H : ((vec_row.f a0 t142 t143).bind fun bt144 => (some (bt144.1, bt144.2.1, bt144.2.2, 0))) = some (r1, r2, r3, r4) := H
  have A6 := Aside0.mk A60
  clear A60
  replace H := Option.bind_eq_some_iff.mp H
  obtain ⟨⟨t144, t145, t146⟩, A70, H⟩ := H
  replace H : (some (t144, t145, t146, 0)) = some (r1, r2, r3, r4) := H
  have A7 := Aside0.mk A70
  clear A70
  simp only [Option.some.injEq, Prod.mk.injEq] at H
  obtain ⟨rfl, rfl, rfl, rfl⟩ := H
  go_enter Try.func76, Try.ntmps76
  try go_wp2_with (first | ((with_reducible refine gate_dst (N := 3) rfl ?_); refine box_event ?hg (N := 3) ?hd (cs := #[.int .u64 a1_0, .int .u64 a1_1]) (t := 130) ?hr ?_; (case hd => rfl); (case hg => rfl); (case hr => first | (go_simp; done) | (go_simp; rfl)); intro gb137 hg w8 hbox hb; have BK137 := Aside0.mk (hbox); have GW137 := Aside0.mk ((by rw [hg]; exact (below_size (by repeat (first | (with_reducible first | exact HB.out | apply below_alloc | apply pw_below_drewN | apply below_drew1) | exact HB.out))) : w.heap.size ≤ gb137)); have GE137 := Aside0.mk ((by rw [hg]; exact (below_size (by repeat (first | (with_reducible first | exact HB.out | apply below_alloc | apply pw_below_drewN | apply below_drew1) | exact HB.out))) : w.heap.size ≤ gb137)); replace HB := Aside0.mk (below_step (by repeat (first | (with_reducible first | exact HB.out | apply below_alloc | apply pw_below_drewN | apply below_drew1) | exact HB.out)) hb); clear hb hbox hg) | ((with_reducible refine gate_dst (N := 4) rfl ?_); refine box_event ?hg (N := 4) ?hd (cs := #[.int .i64 0, .int .u64 0, .int .u64 0]) (t := 32) ?hr ?_; (case hd => rfl); (case hg => rfl); (case hr => first | (go_simp; done) | (go_simp; rfl)); intro gb138 hg w9 hbox hb; have BK138 := Aside0.mk (hbox); have GW138 := Aside0.mk ((by rw [hg]; exact (below_size (by repeat (first | (with_reducible first | exact HB.out | apply below_alloc | apply pw_below_drewN | apply below_drew1 | refine below_set ?_ GE137.out) | exact HB.out))) : w.heap.size ≤ gb138)); have GE138 := Aside0.mk ((by rw [hg]; exact (below_size (by repeat (first | (with_reducible first | exact HB.out | apply below_alloc | apply pw_below_drewN | apply below_drew1 | refine below_set ?_ GE137.out) | exact HB.out))) : w.heap.size ≤ gb138)); have NB137_138 := Aside0.mk ((by rw [hg]; exact Nat.ne_of_lt (blk_lt (g := gb137) (o := .cells #[.int .u64 a1_0, .int .u64 a1_1] 130 (0, 0)) (by (with_reducible repeat (first | refine blk_drewN ?_ _ | refine blk_drew ?_ | refine blk_alloc ?_ _)); exact BK137.out)) : gb137 ≠ gb138)); have NB138_137 := Aside0.mk ((by rw [hg]; exact Nat.ne_of_gt (blk_lt (g := gb137) (o := .cells #[.int .u64 a1_0, .int .u64 a1_1] 130 (0, 0)) (by (with_reducible repeat (first | refine blk_drewN ?_ _ | refine blk_drew ?_ | refine blk_alloc ?_ _)); exact BK137.out)) : gb138 ≠ gb137)); replace BK137 := bk1 (by (with_reducible repeat (first | refine blk_drewN ?_ _ | refine blk_drew ?_ | refine blk_alloc ?_ _)); exact BK137.out) hb; replace HB := Aside0.mk (below_step (by repeat (first | (with_reducible first | exact HB.out | apply below_alloc | apply pw_below_drewN | apply below_drew1 | refine below_set ?_ GE137.out) | exact HB.out)) hb); clear hb hbox hg) | ((with_reducible refine gate_callee (f := 122) rfl ?_); refine goesL_ (some 7) rfl rfl Try.func122 (by kernel_rfl) rfl #[.int .i64 a0] rfl (by (try simp only [List.map_toArray, List.map_cons, List.map_nil]); first | done | rfl | (simp only [List.length_drop, List.length_take]; rfl)) ?_; (with_reducible refine (vec_width.calls a0 true _ A3.out).mono ?_); rintro e w' ⟨rfl, ⟨nd, rfl⟩⟩; refine ⟨_, rfl, ?_⟩; (try (rw [drewN_self w9]; generalize hq_ : World.drewN w9 _ = w9; have n0_ : Aside0 (w9.heap[gb137]? = some (.cells #[.int .u64 a1_0, .int .u64 a1_1] 130 (0, 0))) := ⟨by rw [← hq_]; exact (by (with_reducible repeat (first | refine blk_drewN ?_ _ | refine blk_drew ?_ | refine blk_alloc ?_ _)); exact BK137.out)⟩; have n1_ : Aside0 (w9.heap[gb138]? = some (.cells #[.int .i64 0, .int .u64 0, .int .u64 0] 32 (0, 0))) := ⟨by rw [← hq_]; exact (by (with_reducible repeat (first | refine blk_drewN ?_ _ | refine blk_drew ?_ | refine blk_alloc ?_ _)); exact BK138.out)⟩; have n2_ : Aside0 (Below w.heap.size w w9) := ⟨by rw [← hq_]; exact (by repeat (first | (with_reducible first | exact HB.out | apply below_alloc | apply pw_below_drewN | apply below_drew1 | refine below_set ?_ GE137.out | refine below_set ?_ GE138.out) | exact HB.out))⟩; clear BK137 BK138 HB hq_; have BK137 := n0_; have BK138 := n1_; have HB := n2_; clear n0_ n1_ n2_))))
  replace BK137 := Aside0.mk (blk_drew BK137.out)
  replace BK138 := Aside0.mk (blk_drew BK138.out)
  replace HB := Aside0.mk (below_drew1 HB.out)
  refine start_ (n := 8) (S := fun w' => w'.cell? ⟨gb137, 0, none⟩ = some (.int .u64 a1_0) ∧ w'.cell? ⟨gb137, 1, none⟩ = some (.int .u64 a1_1)) (ds := []) #[false, false, false, false, false, false, false, false] (by kernel_rfl) rfl rfl ⟨(blk_cell BK137.out 0).trans rfl, (blk_cell BK137.out 1).trans rfl⟩ (fun hHeld => ?_); refine with_tabW vec_Cut.tab3 vec_Cut.bits3 (fun HT_ HW_ => ?_)
  generalize w9.drew = w10 at BK137 BK138 HB hHeld ⊢
  refine pl_ [0, 2, 1] ?_
  iterate 2 refine pP rfl rfl (any_of HT_.out (by kernel_rfl)) (fun _ _ _ h => h) (by rfl) (by intro w'; go_simp; with_reducible rfl) (by simp only [Act.put, z1, z2, z3, i64_w, i32_w]; rfl) ?_
  refine pT hHeld rfl rfl (take_ofW HT_.out HW_.out (by kernel_rfl)) (fun _ _ _ h => h) (by rfl) (by rintro w' ⟨s0, s1⟩; go_simp; with_reducible rfl) (by simp only [Act.put, z1, z2, z3, i64_w, i32_w]; rfl) ?_
  refine pl0 ?_
  refine one_ (i := 3) (N := some 13) #[true, true, true, true, false, false, false, false] rfl rfl (one_of HT_.out (by kernel_rfl)) (by decide) (fun K hK => ?_)
  refine goes_ Try.func128 (by kernel_rfl) rfl #[.int .i64 a0] (by rfl) rfl rfl (by (try simp only [List.map_toArray, List.map_cons, List.map_nil]); first | done | rfl | (simp only [List.length_drop, List.length_take]; rfl)) ?_
  with_reducible refine (word_Ones.calls k a0 t140 t141 _ A5.out).mono ?_
  rintro e w11 ⟨rfl, hb⟩
  refine ⟨_, rfl, ?_⟩
  replace BK137 := bk1 (by (with_reducible repeat (first | refine blk_drewN ?_ _ | refine blk_drew ?_ | refine blk_alloc ?_ _)); exact BK137.out) hb
  replace BK138 := bk1 (by (with_reducible repeat (first | refine blk_drewN ?_ _ | refine blk_drew ?_ | refine blk_alloc ?_ _)); exact BK138.out) hb
  replace HB := Aside0.mk (below_step (by repeat (first | (with_reducible first | exact HB.out | apply below_alloc | apply pw_below_drewN | apply below_drew1 | refine below_set ?_ GE137.out | refine below_set ?_ GE138.out) | exact HB.out)) hb)
  (try clear hb)
  (try clear hb2)
  (try clear hk)
  (try clear hi)
  refine hK.out _ _ ⟨(blk_cell BK137.out 0).trans rfl, (blk_cell BK137.out 1).trans rfl⟩ (fun hHeld => ?_)
  clear hK K
  refine norm_ (a' := ?_) ?_ ?_
  rotate_left
  ·show Act.put _ (some 13) _ = _
   simp only [Act.put, List.setIfInBounds_toArray, List.set_cons_zero, List.set_cons_succ, i64_w, i32_w]
   rfl
  refine one_ (i := 4) (N := some 14) #[true, true, true, true, true, false, false, false] rfl rfl (one_of HT_.out (by kernel_rfl)) (by decide) (fun K hK => ?_)
  refine goes_ Try.func127 (by kernel_rfl) rfl #[.agg #[.int .u64 a1_0, .int .u64 a1_1], .agg #[.int .u64 t140, .int .u64 t141]] (by rfl) rfl rfl (by (try simp only [List.map_toArray, List.map_cons, List.map_nil]); first | done | rfl | (simp only [List.length_drop, List.length_take]; rfl)) ?_
  with_reducible refine (word_And.calls a1_0 a1_1 t140 t141 t142 t143 _ A6.out).mono ?_
  rintro e w12 ⟨rfl, hb⟩
  refine ⟨_, rfl, ?_⟩
  replace BK137 := bk1 (by (with_reducible repeat (first | refine blk_drewN ?_ _ | refine blk_drew ?_ | refine blk_alloc ?_ _)); exact BK137.out) hb
  replace BK138 := bk1 (by (with_reducible repeat (first | refine blk_drewN ?_ _ | refine blk_drew ?_ | refine blk_alloc ?_ _)); exact BK138.out) hb
  replace HB := Aside0.mk (below_step (by repeat (first | (with_reducible first | exact HB.out | apply below_alloc | apply pw_below_drewN | apply below_drew1 | refine below_set ?_ GE137.out | refine below_set ?_ GE138.out) | exact HB.out)) hb)
  (try clear hb)
  (try clear hb2)
  (try clear hk)
  (try clear hi)
  refine hK.out _ _ ⟨(blk_cell BK137.out 0).trans rfl, (blk_cell BK137.out 1).trans rfl⟩ (fun hHeld => ?_)
  clear hK K
  refine norm_ (a' := ?_) ?_ ?_
  rotate_left
  ·show Act.put _ (some 14) _ = _
   simp only [Act.put, List.setIfInBounds_toArray, List.set_cons_zero, List.set_cons_succ, i64_w, i32_w]
   rfl
  refine one_ (i := 5) (N := some 15) #[true, true, true, true, true, true, false, false] rfl rfl (one_of HT_.out (by kernel_rfl)) (by decide) (fun K hK => ?_)
  refine goes_ Try.func126 (by kernel_rfl) rfl #[.int .i64 a0, .agg #[.int .u64 t142, .int .u64 t143]] (by rfl) rfl rfl (by (try simp only [List.map_toArray, List.map_cons, List.map_nil]); first | done | rfl | (simp only [List.length_drop, List.length_take]; rfl)) ?_
  with_reducible refine (vec_row.calls a0 t142 t143 t144 t145 t146 _ A7.out).mono ?_
  rintro e w13 ⟨rfl, hb⟩
  refine ⟨_, rfl, ?_⟩
  replace BK137 := bk1 (by (with_reducible repeat (first | refine blk_drewN ?_ _ | refine blk_drew ?_ | refine blk_alloc ?_ _)); exact BK137.out) hb
  replace BK138 := bk1 (by (with_reducible repeat (first | refine blk_drewN ?_ _ | refine blk_drew ?_ | refine blk_alloc ?_ _)); exact BK138.out) hb
  replace HB := Aside0.mk (below_step (by repeat (first | (with_reducible first | exact HB.out | apply below_alloc | apply pw_below_drewN | apply below_drew1 | refine below_set ?_ GE137.out | refine below_set ?_ GE138.out) | exact HB.out)) hb)
  (try clear hb)
  (try clear hb2)
  (try clear hk)
  (try clear hi)
  refine hK.out _ _ ⟨(blk_cell BK137.out 0).trans rfl, (blk_cell BK137.out 1).trans rfl⟩ (fun hHeld => ?_)
  clear hK K
  refine norm_ (a' := ?_) ?_ ?_
  rotate_left
  ·show Act.put _ (some 15) _ = _
   simp only [Act.put, List.setIfInBounds_toArray, List.set_cons_zero, List.set_cons_succ, i64_w, i32_w]
   rfl
  refine one_ (i := 6) (N := none) #[true, true, true, true, true, true, true, false] rfl rfl (one_of HT_.out (by kernel_rfl)) (by decide) (fun K hK => ?_)
  have hs14 : w13.cell? ⟨gb138, 0, none⟩ = some (.int .i64 0) := (blk_cell BK138.out 0).trans rfl
  have hfs14 := blk_frozen BK138.out 0
  have hns14_0 := NB137_138.out
  have hms14_0 := NB138_137.out
  have hs15 : w13.cell? ⟨gb138, 1, none⟩ = some (.int .u64 0) := (blk_cell BK138.out 1).trans rfl
  have hfs15 := blk_frozen BK138.out 1
  have hns15_0 := NB137_138.out
  have hms15_0 := NB138_137.out
  have hs16 : w13.cell? ⟨gb138, 2, none⟩ = some (.int .u64 0) := (blk_cell BK138.out 2).trans rfl
  have hfs16 := blk_frozen BK138.out 2
  have hns16_0 := NB137_138.out
  have hms16_0 := NB138_137.out
  refine skip_ (w1 := ?_) (by rfl) rfl ?_ ?_
  rotate_left
  ·go_simp
   rfl
  refine hK.out _ _ ⟨((cell_far (p := ⟨gb138, _, none⟩) NB137_138.out _).trans (((cell_far (p := ⟨gb138, _, none⟩) NB137_138.out _).trans (((cell_far (p := ⟨gb138, _, none⟩) NB137_138.out _).trans (hHeld.1)))))), ((cell_far (p := ⟨gb138, _, none⟩) NB137_138.out _).trans (((cell_far (p := ⟨gb138, _, none⟩) NB137_138.out _).trans (((cell_far (p := ⟨gb138, _, none⟩) NB137_138.out _).trans (hHeld.2))))))⟩ (fun hHeld => ?_)
  clear hK K
  refine pl_ [7] ?_
  refine pP rfl rfl (any_of HT_.out (by kernel_rfl)) (fun _ _ _ h => h) (by rfl) (by intro w'; go_simp; with_reducible rfl) (by simp only [Act.put, z1, z2, z3, i64_w, i32_w]; rfl) ?_
  refine pl0 ?_
  refine done_ (done_of HT_.out (by kernel_rfl)) ?_
  try go_wp2
  refine bodyPost_ret (results_ct rfl _ _ gb138 32 #[.int .i64 t144, .int .u64 t145, .int .u64 t146] (0, 0) _ rfl (by (with_reducible repeat (first | refine blk_drewN ?_ _ | refine blk_drew ?_ | refine blk_alloc ?_ _)); refine blk_put (cs := #[.int .i64 t144, .int .u64 t145, .int .u64 0]) ?_ 2 _ rfl; (with_reducible repeat (first | refine blk_drewN ?_ _ | refine blk_drew ?_ | refine blk_alloc ?_ _)); refine blk_put (cs := #[.int .i64 t144, .int .u64 0, .int .u64 0]) ?_ 1 _ rfl; (with_reducible repeat (first | refine blk_drewN ?_ _ | refine blk_drew ?_ | refine blk_alloc ?_ _)); refine blk_put (cs := #[.int .i64 0, .int .u64 0, .int .u64 0]) ?_ 0 _ rfl; (with_reducible repeat (first | refine blk_drewN ?_ _ | refine blk_drew ?_ | refine blk_alloc ?_ _)); exact BK138.out) Try.underlying32 rfl (by kernel_rfl)) rfl ?_
  exact ⟨by first | rfl | (simp [errW_none, errW_some] <;> rfl) | (simp [*, errW_none, errW_some] <;> rfl), by repeat (first | (with_reducible first | exact HB.out | apply below_alloc | apply pw_below_drewN | apply below_drew1 | refine below_set ?_ GE137.out | refine below_set ?_ GE138.out) | exact HB.out)⟩
 ·replace c4 := Bool.eq_false_iff.mpr c4
  subst c4
  have H1 : (some (0, 0, 0, 9)) = some (r1, r2, r3, r4) := by rw [if_neg (show ¬ (false = true) by decide)] at H; exact H
  clear H
  have H := H1
  clear H1
  simp only [Option.some.injEq, Prod.mk.injEq] at H
  obtain ⟨rfl, rfl, rfl, rfl⟩ := H
  go_enter Try.func76, Try.ntmps76
  go_wp2_with (first | ((with_reducible refine gate_dst (N := 3) rfl ?_); refine box_event ?hg (N := 3) ?hd (cs := #[.int .u64 a1_0, .int .u64 a1_1]) (t := 130) ?hr ?_; (case hd => rfl); (case hg => rfl); (case hr => first | (go_simp; done) | (go_simp; rfl)); intro gb137 hg w17 hbox hb; have BK137 := Aside0.mk (hbox); have GW137 := Aside0.mk ((by rw [hg]; exact (below_size (by repeat (first | (with_reducible first | exact HB.out | apply below_alloc | apply pw_below_drewN | apply below_drew1) | exact HB.out))) : w.heap.size ≤ gb137)); have GE137 := Aside0.mk ((by rw [hg]; exact (below_size (by repeat (first | (with_reducible first | exact HB.out | apply below_alloc | apply pw_below_drewN | apply below_drew1) | exact HB.out))) : w.heap.size ≤ gb137)); replace HB := Aside0.mk (below_step (by repeat (first | (with_reducible first | exact HB.out | apply below_alloc | apply pw_below_drewN | apply below_drew1) | exact HB.out)) hb); clear hb hbox hg) | ((with_reducible refine gate_dst (N := 4) rfl ?_); refine box_event ?hg (N := 4) ?hd (cs := #[.int .i64 0, .int .u64 0, .int .u64 0]) (t := 32) ?hr ?_; (case hd => rfl); (case hg => rfl); (case hr => first | (go_simp; done) | (go_simp; rfl)); intro gb138 hg w18 hbox hb; have BK138 := Aside0.mk (hbox); have GW138 := Aside0.mk ((by rw [hg]; exact (below_size (by repeat (first | (with_reducible first | exact HB.out | apply below_alloc | apply pw_below_drewN | apply below_drew1 | refine below_set ?_ GE137.out) | exact HB.out))) : w.heap.size ≤ gb138)); have GE138 := Aside0.mk ((by rw [hg]; exact (below_size (by repeat (first | (with_reducible first | exact HB.out | apply below_alloc | apply pw_below_drewN | apply below_drew1 | refine below_set ?_ GE137.out) | exact HB.out))) : w.heap.size ≤ gb138)); have NB137_138 := Aside0.mk ((by rw [hg]; exact Nat.ne_of_lt (blk_lt (g := gb137) (o := .cells #[.int .u64 a1_0, .int .u64 a1_1] 130 (0, 0)) (by (with_reducible repeat (first | refine blk_drewN ?_ _ | refine blk_drew ?_ | refine blk_alloc ?_ _)); exact BK137.out)) : gb137 ≠ gb138)); have NB138_137 := Aside0.mk ((by rw [hg]; exact Nat.ne_of_gt (blk_lt (g := gb137) (o := .cells #[.int .u64 a1_0, .int .u64 a1_1] 130 (0, 0)) (by (with_reducible repeat (first | refine blk_drewN ?_ _ | refine blk_drew ?_ | refine blk_alloc ?_ _)); exact BK137.out)) : gb138 ≠ gb137)); replace BK137 := bk1 (by (with_reducible repeat (first | refine blk_drewN ?_ _ | refine blk_drew ?_ | refine blk_alloc ?_ _)); exact BK137.out) hb; replace HB := Aside0.mk (below_step (by repeat (first | (with_reducible first | exact HB.out | apply below_alloc | apply pw_below_drewN | apply below_drew1 | refine below_set ?_ GE137.out) | exact HB.out)) hb); clear hb hbox hg) | ((with_reducible refine gate_callee (f := 122) rfl ?_); refine goesL_ (some 7) rfl rfl Try.func122 (by kernel_rfl) rfl #[.int .i64 a0] rfl (by (try simp only [List.map_toArray, List.map_cons, List.map_nil]); first | done | rfl | (simp only [List.length_drop, List.length_take]; rfl)) ?_; (with_reducible refine (vec_width.calls a0 false _ A3.out).mono ?_); rintro e w' ⟨rfl, ⟨nd, rfl⟩⟩; refine ⟨_, rfl, ?_⟩; (try (rw [drewN_self w18]; generalize hq_ : World.drewN w18 _ = w18; have n0_ : Aside0 (w18.heap[gb137]? = some (.cells #[.int .u64 a1_0, .int .u64 a1_1] 130 (0, 0))) := ⟨by rw [← hq_]; exact (by (with_reducible repeat (first | refine blk_drewN ?_ _ | refine blk_drew ?_ | refine blk_alloc ?_ _)); exact BK137.out)⟩; have n1_ : Aside0 (w18.heap[gb138]? = some (.cells #[.int .i64 0, .int .u64 0, .int .u64 0] 32 (0, 0))) := ⟨by rw [← hq_]; exact (by (with_reducible repeat (first | refine blk_drewN ?_ _ | refine blk_drew ?_ | refine blk_alloc ?_ _)); exact BK138.out)⟩; have n2_ : Aside0 (Below w.heap.size w w18) := ⟨by rw [← hq_]; exact (by repeat (first | (with_reducible first | exact HB.out | apply below_alloc | apply pw_below_drewN | apply below_drew1 | refine below_set ?_ GE137.out | refine below_set ?_ GE138.out) | exact HB.out))⟩; clear BK137 BK138 HB hq_; have BK137 := n0_; have BK138 := n1_; have HB := n2_; clear n0_ n1_ n2_)); have hnb19 := NB138_137.out; have hnc19 := NB137_138.out; obtain ⟨hcz20_0, hcz20_1, hcz20_2, hfz20_0, hfz20_1, hfz20_2⟩ := cl3 BK138.out))
  refine bodyPost_ret (results_ct rfl _ _ gb138 32 #[.int .i64 0, .int .u64 0, .int .u64 0] (0, 0) _ rfl (by (with_reducible repeat (first | refine blk_drewN ?_ _ | refine blk_drew ?_ | refine blk_alloc ?_ _)); refine blk_put (cs := #[.int .i64 0, .int .u64 0, .int .u64 0]) ?_ 2 _ rfl; (with_reducible repeat (first | refine blk_drewN ?_ _ | refine blk_drew ?_ | refine blk_alloc ?_ _)); refine blk_put (cs := #[.int .i64 0, .int .u64 0, .int .u64 0]) ?_ 1 _ rfl; (with_reducible repeat (first | refine blk_drewN ?_ _ | refine blk_drew ?_ | refine blk_alloc ?_ _)); refine blk_put (cs := #[.int .i64 0, .int .u64 0, .int .u64 0]) ?_ 0 _ rfl; (with_reducible repeat (first | refine blk_drewN ?_ _ | refine blk_drew ?_ | refine blk_alloc ?_ _)); exact BK138.out) Try.underlying32 rfl (by kernel_rfl)) rfl ?_
  exact ⟨by first | rfl | (simp [errW_none, errW_some] <;> rfl) | (simp [*, errW_none, errW_some] <;> rfl), by repeat (first | (with_reducible first | exact HB.out | apply below_alloc | apply pw_below_drewN | apply below_drew1 | refine below_set ?_ GE137.out | refine below_set ?_ GE138.out) | exact HB.out)⟩
-- AFTER shunter/vec.Cut
/-- The halves of a number. -/
def hiW (X : Nat) : Int := ((X / 2 ^ 64 % 2 ^ 64 : Nat) : Int)
def loW (X : Nat) : Int := ((X % 2 ^ 64 : Nat) : Int)
theorem hiW_nn (X : Nat) : 0 ≤ hiW X ∧ hiW X < 2 ^ 64 := by unfold hiW; omega
theorem loW_nn (X : Nat) : 0 ≤ loW X ∧ loW X < 2 ^ 64 := by unfold loW; omega
/-- Two halves as a number. -/
def valW (h l : Int) : Nat := h.toNat * 2 ^ 64 + l.toNat
theorem hiW_valW {h l : Int} (hh : 0 ≤ h) (hh2 : h < 2 ^ 64) (hl : 0 ≤ l) (hl2 : l < 2 ^ 64) : hiW (valW h l) = h := by unfold hiW valW; omega
theorem loW_valW {h l : Int} (hl : 0 ≤ l) (hl2 : l < 2 ^ 64) : loW (valW h l) = l := by unfold loW valW; omega
theorem valW_lt {h l : Int} (hh : 0 ≤ h) (hh2 : h < 2 ^ 64) (hl : 0 ≤ l) (hl2 : l < 2 ^ 64) : valW h l < 2 ^ 128 := by unfold valW; omega
theorem hiW_bits {X : Nat} {n : Nat} (h : ∀ i, i < 64 → X.testBit (64 + i) = n.testBit i) (hn : n < 2 ^ 64) : hiW X = (n : Int) := by
 unfold hiW
 congr 1
 apply Nat.eq_of_testBit_eq
 intro i
 rw [Nat.testBit_mod_two_pow, Nat.testBit_div_two_pow]
 by_cases hi : i < 64
 ·simp [hi, Nat.add_comm i, h i hi]
 ·simp [hi]
  exact Nat.testBit_lt_two_pow (Nat.lt_of_lt_of_le hn (Nat.pow_le_pow_right (by decide) (show 64 ≤ i by omega)))
theorem loW_bits {X : Nat} {n : Nat} (h : ∀ i, i < 64 → X.testBit i = n.testBit i) (hn : n < 2 ^ 64) : loW X = (n : Int) := by
 unfold loW
 congr 1
 apply Nat.eq_of_testBit_eq
 intro i
 rw [Nat.testBit_mod_two_pow]
 by_cases hi : i < 64
 ·simp [hi, h i hi]
 ·simp [hi]
  exact Nat.testBit_lt_two_pow (Nat.lt_of_lt_of_le hn (Nat.pow_le_pow_right (by decide) (show 64 ≤ i by omega)))
theorem hiW_tb (X i : Nat) : (X / 2 ^ 64 % 2 ^ 64).testBit i = (decide (i < 64) && X.testBit (i + 64)) := by
 rw [Nat.testBit_mod_two_pow, Nat.testBit_div_two_pow]
theorem loW_tb (X i : Nat) : (X % 2 ^ 64).testBit i = (decide (i < 64) && X.testBit i) := by
 rw [Nat.testBit_mod_two_pow]
theorem word_And_eq (X Y : Nat) : word_And.f (hiW X) (loW X) (hiW Y) (loW Y) = some (hiW (X &&& Y), loW (X &&& Y)) := by
 unfold word_And.f hiW loW
 rw [u64_and_nat _ _ (Nat.mod_lt _ (by decide)) (Nat.mod_lt _ (by decide)), u64_and_nat _ _ (Nat.mod_lt _ (by decide)) (Nat.mod_lt _ (by decide))]
 congr 4
 ·apply Nat.eq_of_testBit_eq; intro i
  rw [Nat.testBit_and, hiW_tb, hiW_tb, hiW_tb, Nat.testBit_and]
  cases decide (i < 64) <;> simp
 ·apply Nat.eq_of_testBit_eq; intro i
  rw [Nat.testBit_and, loW_tb, loW_tb, loW_tb, Nat.testBit_and]
  cases decide (i < 64) <;> simp
theorem shl_nat (x n : Nat) (hn : n ≤ 64) : shl .u64 (x : Int) (n : Int) = ((x * 2 ^ n % 2 ^ 64 : Nat) : Int) := by
 unfold shl
 rw [show IntKind.u64.bits = 64 from rfl, IntKind.wrap_u64, show min (n : Int).toNat 64 = n by omega]
 rw [Int.natCast_emod, Int.natCast_mul, Int.natCast_pow]
 rfl
theorem shr_nat (x n : Nat) (hn : n ≤ 64) : shr .u64 (x : Int) (n : Int) = ((x / 2 ^ n : Nat) : Int) := by
 unfold shr
 rw [show IntKind.u64.bits = 64 from rfl, show min (n : Int).toNat 64 = n by omega, Int.natCast_ediv, Int.natCast_pow]
 rfl
theorem tb_shl (x n i : Nat) : (x * 2 ^ n).testBit i = (decide (n ≤ i) && x.testBit (i - n)) := by
 rw [← Nat.shiftLeft_eq, Nat.testBit_shiftLeft]
theorem tb_shr (x n i : Nat) : (x / 2 ^ n).testBit i = x.testBit (i + n) := Nat.testBit_div_two_pow ..
theorem wrap64_id (n : Int) (h : -9223372036854775808 ≤ n) (h2 : n ≤ 9223372036854775807) : wrap64 n = n := by unfold wrap64; omega
theorem tb_hi {X : Nat} (h : X < 2 ^ 128) (i : Nat) (hi : 128 ≤ i) : X.testBit i = false :=
 Nat.testBit_lt_two_pow (Nat.lt_of_lt_of_le h (Nat.pow_le_pow_right (by decide) hi))
/-- A word moved up by less than its width. -/
theorem word_Shl_pos (k : Nat) (X n : Nat) (hn : n < 128) : word_Shl.f (k + 1) (hiW X) (loW X) (n : Int) = some (hiW (X * 2 ^ n), loW (X * 2 ^ n)) := by
 unfold word_Shl.f
 rw [if_neg (by omega), decide_eq_false (by omega)]
 simp only [word_Shl.j0]
 rw [if_neg (by simp), if_neg (by omega)]
 by_cases h0 : n = 0
 ·subst h0; simp
 rw [if_neg (by omega)]
 by_cases h1 : 64 ≤ n
 ·rw [if_pos (by omega), wrap64_id _ (by omega) (by omega), if_pos (by omega)]
  congr 2
  ·rw [show (n : Int) - 64 = ((n - 64 : Nat) : Int) by omega]
   unfold loW
   rw [shl_nat _ _ (by omega)]
   refine (hiW_bits (fun i hi => ?_) (Nat.mod_lt _ (by decide))).symm
   rw [Nat.testBit_mod_two_pow, tb_shl, tb_shl, Nat.testBit_mod_two_pow]
   rw [show 64 + i - n = i - (n - 64) by omega]
   by_cases h : n - 64 ≤ i
   ·simp [hi, h, show n ≤ 64 + i by omega, show i - (n - 64) < 64 by omega]
   ·simp [h, show ¬ n ≤ 64 + i by omega]
  ·refine (loW_bits (n := 0) (fun i hi => ?_) (by decide)).symm
   rw [tb_shl]
   simp; omega
 ·rw [if_neg (by omega), if_pos (by omega), wrap64_id _ (by omega) (by omega), if_pos (by omega)]
  rw [show (64 : Int) - n = ((64 - n : Nat) : Int) by omega]
  congr 2
  ·unfold hiW loW
   rw [shl_nat _ _ (by omega), shr_nat _ _ (by omega), u64_or_nat _ _ (Nat.mod_lt _ (by decide)) (Nat.lt_of_le_of_lt (Nat.div_le_self _ _) (Nat.mod_lt _ (by decide)))]
   congr 1
   simp only [show (18446744073709551616 : Nat) = 2 ^ 64 from rfl]
   apply Nat.eq_of_testBit_eq; intro i
   rw [Nat.testBit_or, Nat.testBit_mod_two_pow, tb_shl, tb_shr, hiW_tb, loW_tb, hiW_tb, tb_shl]
   by_cases hi : i < 64
   ·by_cases h : n ≤ i
    ·simp [hi, h, show n ≤ i + 64 by omega, show i - n < 64 by omega, show ¬ (i + (64 - n) < 64) by omega, show i + 64 - n = i - n + 64 by omega]
    ·simp [hi, h, show n ≤ i + 64 by omega, show (i + (64 - n) < 64) by omega, show i + 64 - n = i + (64 - n) by omega]
   ·simp [hi]; omega
  ·unfold loW
   rw [shl_nat _ _ (by omega)]
   congr 1
   apply Nat.eq_of_testBit_eq; intro i
   rw [Nat.testBit_mod_two_pow, tb_shl, loW_tb, loW_tb, tb_shl]
   by_cases hi : i < 64
   ·simp [hi, show i - n < 64 by omega]
   ·simp [hi]
/-- A word moved down by less than its width. -/
theorem word_Shr_pos (k : Nat) (X n : Nat) (hX : X < 2 ^ 128) (hn : n < 128) : word_Shr.f (k + 1) (hiW X) (loW X) (n : Int) = some (hiW (X / 2 ^ n), loW (X / 2 ^ n)) := by
 unfold word_Shr.f
 rw [if_neg (by omega), decide_eq_false (by omega)]
 simp only [word_Shr.j0]
 rw [if_neg (by simp), if_neg (by omega)]
 by_cases h0 : n = 0
 ·subst h0; simp
 rw [if_neg (by omega)]
 by_cases h1 : 64 ≤ n
 ·rw [if_pos (by omega), wrap64_id _ (by omega) (by omega), if_pos (by omega)]
  congr 2
  ·refine (hiW_bits (n := 0) (fun i hi => ?_) (by decide)).symm
   rw [tb_shr, tb_hi hX _ (by omega)]; simp
  ·rw [show (n : Int) - 64 = ((n - 64 : Nat) : Int) by omega]
   unfold hiW
   rw [shr_nat _ _ (by omega)]
   refine (loW_bits (fun i hi => ?_) (Nat.lt_of_le_of_lt (Nat.div_le_self _ _) (Nat.mod_lt _ (by decide)))).symm
   rw [tb_shr, tb_shr, hiW_tb]
   by_cases h : i + (n - 64) < 64
   ·simp [h, show i + (n - 64) + 64 = i + n by omega]
   ·simp [h]; exact tb_hi hX _ (by omega)
 ·rw [if_neg (by omega), if_pos (by omega), wrap64_id _ (by omega) (by omega), if_pos (by omega)]
  rw [show (64 : Int) - n = ((64 - n : Nat) : Int) by omega]
  congr 2
  ·unfold hiW
   rw [shr_nat _ _ (by omega)]
   refine (hiW_bits (fun i hi => ?_) (Nat.lt_of_le_of_lt (Nat.div_le_self _ _) (Nat.mod_lt _ (by decide)))).symm
   rw [tb_shr, tb_shr, hiW_tb]
   by_cases h : i + n < 64
   ·simp [h, show i + n + 64 = 64 + i + n by omega]
   ·simp [h]; exact tb_hi hX _ (by omega)
  ·unfold hiW loW
   rw [shl_nat _ _ (by omega), shr_nat _ _ (by omega), u64_or_nat _ _ (Nat.lt_of_le_of_lt (Nat.div_le_self _ _) (Nat.mod_lt _ (by decide))) (Nat.mod_lt _ (by decide))]
   congr 1
   simp only [show (18446744073709551616 : Nat) = 2 ^ 64 from rfl]
   apply Nat.eq_of_testBit_eq; intro i
   rw [Nat.testBit_or, Nat.testBit_mod_two_pow, tb_shl, tb_shr, hiW_tb, loW_tb, loW_tb, tb_shr]
   by_cases hi : i < 64
   ·by_cases h : i + n < 64
    ·simp [hi, h, show ¬ (64 - n ≤ i) by omega]
    ·simp [hi, h, show (64 - n ≤ i) by omega, show i - (64 - n) < 64 by omega, show i - (64 - n) + 64 = i + n by omega]
   ·simp [hi]; omega
theorem hiW_one : hiW 1 = 0 := rfl
theorem loW_one : loW 1 = 1 := rfl
theorem sub_one_hl (n : Nat) (h0 : 0 < n) (hn : n < 128) : word_Sub.f (hiW (2 ^ n)) (loW (2 ^ n)) 0 1 = some (hiW (2 ^ n - 1), loW (2 ^ n - 1), false) := by
 unfold word_Sub.f sbD sbB hiW loW
 have hp : 1 < 2 ^ n := Nat.one_lt_two_pow (by omega)
 have hp2 : 2 ^ n < 2 ^ 128 := Nat.pow_lt_pow_right (by decide) hn
 generalize 2 ^ n = p at *
 have e1 : ((0 : Int).toNat) = 0 := rfl
 have e2 : ((1 : Int).toNat) = 1 := rfl
 simp only [Int.toNat_natCast, e1, e2, Nat.add_zero]
 refine congrArg some ?_
 by_cases h : p % 2 ^ 64 < 1
 ·rw [if_pos h]
  have g : ¬ (p / 2 ^ 64 % 2 ^ 64 < 0 + 1) := by omega
  rw [if_neg g]
  refine Prod.ext (congrArg Nat.cast ?_) (Prod.ext (congrArg Nat.cast ?_) rfl)
  ·omega
  ·omega
 ·rw [if_neg h]
  have g : ¬ (p / 2 ^ 64 % 2 ^ 64 < 0 + 0) := by omega
  rw [if_neg g]
  refine Prod.ext (congrArg Nat.cast ?_) (Prod.ext (congrArg Nat.cast ?_) rfl)
  ·omega
  ·omega
theorem word_Not_zero : word_Not.f 0 0 = some (hiW (2 ^ 128 - 1), loW (2 ^ 128 - 1)) := by decide
/-- The mask of n bits. -/
theorem word_Ones_eq (k n : Nat) : word_Ones.f (k + 1) (n : Int) = some (hiW (2 ^ min n 128 - 1), loW (2 ^ min n 128 - 1)) := by
 unfold word_Ones.f
 by_cases h0 : n = 0
 ·subst h0; rw [if_pos (by omega)]; rfl
 rw [if_neg (by omega)]
 by_cases h1 : 128 ≤ n
 ·rw [if_pos (by omega), word_Not_zero, show min n 128 = 128 by omega]; rfl
 ·rw [if_neg (by omega)]
  have := word_Shl_pos k 1 n (by omega)
  rw [hiW_one, loW_one, Nat.one_mul] at this
  rw [this, Option.bind_some, sub_one_hl n (by omega) (by omega), show min n 128 = n by omega]; rfl
/-- The lowest bits of a word. -/
theorem vec_Cut_eq (k : Nat) (w : Int) (X : Nat) : vec_Cut.f (k + 1) w (hiW X) (loW X) = if 1 ≤ w ∧ w ≤ 128 then some (w, hiW (X % 2 ^ w.toNat), loW (X % 2 ^ w.toNat), 0) else some (0, 0, 0, 9) := by
 unfold vec_Cut.f vec_width.f
 by_cases h1 : 1 ≤ w
 ·rw [if_pos (by omega), Option.bind_some]
  by_cases h2 : w ≤ 128
  ·obtain ⟨n, rfl⟩ : ∃ n : Nat, w = n := ⟨w.toNat, by omega⟩
   rw [if_pos (by simpa using h2), if_pos ⟨h1, h2⟩, word_Ones_eq, Option.bind_some, word_And_eq, Option.bind_some]
   unfold vec_row.f
   rw [Option.bind_some]
   rw [show min n 128 = n by omega, show X &&& (2 ^ n - 1) = X % 2 ^ n from Nat.and_two_pow_sub_one_eq_mod ..]
   rfl
  ·rw [if_neg (by simpa using h2), if_neg (by omega)]
 ·rw [if_neg (by omega), Option.bind_some, if_neg (by simp), if_neg (by omega)]
-- EXT shunter/shunterref01.Of ROUNDS=0 MAKING=1
-- EXT shunter/shunterref01.Halves ROUNDS=0 MAKING=1
-- EXT shunter/shunterref01.Len ROUNDS=0 MAKING=1
-- EXT shunter/shunterref02.Of ROUNDS=0 MAKING=1
-- EXT shunter/shunterref02.Bits ROUNDS=0 MAKING=1
/-- The cells of a row of 128 bools. -/
def brow (f : Nat → Bool) : Array Value := Array.ofFn (n := 128) fun j => .bool (f j.val)
theorem brow_get (f : Nat → Bool) (j : Nat) (h : j < 128) : (brow f)[j]? = some (.bool (f j)) := by unfold brow; simp [h]
theorem brow_size (f : Nat → Bool) : (brow f).size = 128 := by simp [brow]
theorem brow_congr {f g : Nat → Bool} (h : ∀ j, j < 128 → f j = g j) : brow f = brow g := by
 unfold brow
 congr 1
 funext j
 rw [h j.val j.isLt]
theorem brow_set (f : Nat → Bool) (i : Nat) (b : Bool) : (brow f).setIfInBounds i (.bool b) = brow (fun j => if j = i then b else f j) := by
 apply Array.ext
 ·simp [brow_size]
 ·intro j h1 h2
  rw [brow_size] at h2
  rw [← Option.some_inj, ← Array.getElem?_eq_getElem, ← Array.getElem?_eq_getElem, brow_get _ _ h2, Array.getElem?_setIfInBounds, brow_get _ _ h2]
  simp only [brow_size]
  by_cases h3 : i = j
  ·subst h3; rw [if_pos rfl, if_pos h2, if_pos rfl]
  ·rw [if_neg h3, if_neg (fun h => h3 h.symm)]
theorem brow_zero : brow (fun _ => false) = Try.zeroCells125 := by kernel_rfl
theorem info125 : (Try.prog.info? 125).map (·.size) = some 128 := by kernel_rfl
theorem brow_info (f : Nat → Bool) : (Try.prog.info? 125).map (·.size) = some (brow f).size := by rw [brow_size]; exact info125
theorem brow_one (f : Nat → Bool) : (brow f).all (·.oneCell') = true := by
 rw [Array.all_eq_true]
 intro j hj
 have := brow_get f j (by rw [brow_size] at hj; exact hj)
 rw [Array.getElem?_eq_getElem hj] at this
 rw [Option.some.inj this]
 rfl
def hvD (f : Nat → Bool) : Nat → Int
 | 0 => 0
 | d + 1 => 2 * hvD f d + if f (63 - d) then 1 else 0
theorem hvD_nonneg (f : Nat → Bool) : ∀ d, 0 ≤ hvD f d
 | 0 => by simp [hvD]
 | d + 1 => by have := hvD_nonneg f d; simp only [hvD]; split <;> omega
theorem hvD_lt (f : Nat → Bool) : ∀ d, hvD f d < 2 ^ d
 | 0 => by simp [hvD]
 | d + 1 => by have := hvD_lt f d; simp only [hvD, Int.pow_succ]; split <;> omega
theorem hvD_dbl (f : Nat → Bool) (d : Nat) (h : d < 64) : IntKind.u64.wrap (2 * hvD f d) = 2 * hvD f d := by
 have h1 := hvD_nonneg f d
 have h2 := hvD_lt f d
 have h3 : (2 : Int) ^ d ≤ 2 ^ 63 := by exact_mod_cast Nat.pow_le_pow_right (by decide) (by omega)
 rw [IntKind.wrap_u64]
 omega
theorem hvD_inc (f : Nat → Bool) (d : Nat) (h : d < 64) (hf : f (63 - d) = true) : IntKind.u64.wrap (2 * hvD f d + 1) = hvD f (d + 1) := by
 have h1 := hvD_nonneg f d
 have h2 := hvD_lt f d
 have h3 : (2 : Int) ^ d ≤ 2 ^ 63 := by exact_mod_cast Nat.pow_le_pow_right (by decide) (by omega)
 rw [IntKind.wrap_u64]
 simp only [hvD, hf, if_true]
 omega
theorem hvD_same (f : Nat → Bool) (d : Nat) (hf : f (63 - d) = false) : 2 * hvD f d = hvD f (d + 1) := by simp [hvD, hf]
set_option maxHeartbeats 8000000 in
set_option maxRecDepth 100000 in
theorem shunterref01_Halves.calls0 (f : Nat → Bool) (w : World) :
 Calls Try.prog 90 #[.agg (brow f)] w fun e w' => e = .returned (.tuple #[.int .u64 (hvD (fun j => f (j + 64)) 64), .int .u64 (hvD f 64)]) ∧ Below w.heap.size w w' := by
 go_enter Try.func90, Try.ntmps90
 go_wp2
 go_loop [4, 5, 6] (fun v4 v5 v6 => ∃ d : Nat, d ≤ 64 ∧ v6 = .int .i64 (63 - d) ∧ v4 = .int .u64 (hvD (fun j => f (j + 64)) d) ∧ v5 = .int .u64 (hvD f d)) (fun _ _ v6 => (intOf v6 + 1).toNat)
 case atStart => exact ⟨0, by omega, rfl, rfl, rfl⟩
 case round =>
  obtain ⟨d, hd, rfl, rfl, rfl⟩ := hrel
  by_cases hlt : d < 64
  ·obtain ⟨i, hi⟩ : ∃ i : Nat, (63 - (d : Int)) = i := ⟨63 - d, by omega⟩
   rw [hi]
   have hid : i = 63 - d := by omega
   have hi64 : i < 64 := by omega
   have hb : (w.alloc (Obj.cells (brow f) 125)).heap[w.heap.size]? = some (.cells (brow f) 125 (0, 0)) := blk_new w _
   have hc1 : (w.alloc (Obj.cells (brow f) 125)).cell? ⟨w.heap.size, i, none⟩ = some (.bool (f i)) := (blk_cell hb i).trans (brow_get _ _ (by omega))
   have hc2 : (w.alloc (Obj.cells (brow f) 125)).cell? ⟨w.heap.size, i + 64, none⟩ = some (.bool (f (i + 64))) := (blk_cell hb (i + 64)).trans (brow_get _ _ (by omega))
   have H1 := Aside0.mk (hvD_dbl (fun j => f (j + 64)) d hlt)
   have H2 := Aside0.mk (hvD_dbl f d hlt)
   have H3 := Aside0.mk hid
   clear hb hid hi
   cases h1 : f (i + 64) <;> cases h2 : f i <;> rw [h1] at hc2 <;> rw [h2] at hc1 <;> replace h1 := Aside0.mk h1 <;> replace h2 := Aside0.mk h2 <;> go_wp2
   all_goals
    go_round
    case measure => simp [intOf] <;> omega
    case rel =>
     have e3 := H3.out
     have g1 : i + 64 = 63 - d + 64 := by omega
     refine ⟨d + 1, by omega, ?_, ?_, ?_⟩
     ·congr 1; push_cast; omega
     ·have h1' := h1.out
      rw [H3.out] at h1'
      first | rw [H1.out, hvD_same (fun j => f (j + 64)) d h1'] | rw [H1.out, hvD_inc (fun j => f (j + 64)) d hlt h1']
     ·have h2' := h2.out
      rw [H3.out] at h2'
      first | rw [H2.out, hvD_same f d h2'] | rw [H2.out, hvD_inc f d hlt h2']
  ·obtain rfl : d = 64 := by omega
   go_wp2
   go_ret2
   exact ⟨rfl, below_alloc (Below.refl _ _) _⟩
def shunterref01_Halves.f (f : Nat → Bool) : Option (Int × Int) := some (hvD (fun j => f (j + 64)) 64, hvD f 64)
theorem shunterref01_Halves.calls (f : Nat → Bool) (r1 r2 : Int) (w : World) (h : shunterref01_Halves.f f = some (r1, r2)) :
 Calls Try.prog 90 #[.agg (brow f)] w fun e w' => e = .returned (.tuple #[.int .u64 r1, .int .u64 r2]) ∧ Below w.heap.size w w' := by
 unfold shunterref01_Halves.f at h
 simp only [Option.some.injEq, Prod.mk.injEq] at h
 obtain ⟨rfl, rfl⟩ := h
 exact shunterref01_Halves.calls0 f w
def topLen (f : Nat → Bool) : Nat → Nat
 | 0 => 0
 | n + 1 => if f n then n + 1 else topLen f n
set_option maxHeartbeats 8000000 in
set_option maxRecDepth 100000 in
theorem shunterref01_Len.calls0 (f : Nat → Bool) (w : World) :
 Calls Try.prog 71 #[.agg (brow f)] w fun e w' => e = .returned (.int .i64 (topLen f 128)) ∧ Below w.heap.size w w' := by
 go_enter Try.func71, Try.ntmps71
 go_wp2
 go_loop [3] (fun v3 => ∃ d : Nat, d ≤ 128 ∧ v3 = .int .i64 ((d : Int) - 1) ∧ Aside0 (topLen f 128 = topLen f d)) (fun v3 => (intOf v3 + 1).toNat)
 case atStart => exact ⟨128, by omega, rfl, ⟨rfl⟩⟩
 case round =>
  obtain ⟨d, hd, rfl, HT⟩ := hrel
  cases d with
  | zero =>
   go_wp2
   go_ret
   exact ⟨by rw [HT.out]; rfl, below_alloc (Below.refl _ _) _⟩
  | succ d =>
   have e : (((d + 1 : Nat) : Int) - 1) = (d : Int) := by omega
   rw [e]
   clear e
   have hb : (w.alloc (Obj.cells (brow f) 125)).heap[w.heap.size]? = some (.cells (brow f) 125 (0, 0)) := blk_new w _
   have hc1 : (w.alloc (Obj.cells (brow f) 125)).cell? ⟨w.heap.size, d, none⟩ = some (.bool (f d)) := (blk_cell hb d).trans (brow_get _ _ (by omega))
   clear hb
   cases h1 : f d <;> rw [h1] at hc1 <;> replace h1 := Aside0.mk h1 <;> go_wp2
   ·go_round
    case measure => simp [intOf] <;> omega
    case rel => exact ⟨d, by omega, rfl, ⟨by rw [HT.out]; simp [topLen, h1.out]⟩⟩
   ·go_ret
    exact ⟨by rw [HT.out]; simp [topLen, h1.out], below_alloc (Below.refl _ _) _⟩
def shunterref01_Len.f (f : Nat → Bool) : Option Int := some (topLen f 128)
theorem shunterref01_Len.calls (f : Nat → Bool) (r : Int) (w : World) (h : shunterref01_Len.f f = some r) :
 Calls Try.prog 71 #[.agg (brow f)] w fun e w' => e = .returned (.int .i64 r) ∧ Below w.heap.size w w' := by
 unfold shunterref01_Len.f at h
 obtain rfl := Option.some.inj h
 exact shunterref01_Len.calls0 f w
def bitAt (hi lo : Int) (j : Nat) : Bool := if j < 64 then (lo / 2 ^ j % 2 == 1) else (hi / 2 ^ (j - 64) % 2 == 1)
theorem ofRow_succ (hi lo : Int) (i : Nat) (h : i < 64) : ((brow fun j => decide (j % 64 < i) && bitAt hi lo j).setIfInBounds i (.bool (lo / 2 ^ i % 2 == 1))).setIfInBounds (i + 64) (.bool (hi / 2 ^ i % 2 == 1)) = brow fun j => decide (j % 64 < i + 1) && bitAt hi lo j := by
 rw [brow_set, brow_set]
 refine brow_congr fun j hj => ?_
 by_cases h3 : j = i + 64
 ·subst h3
  rw [if_pos rfl, show (i + 64) % 64 = i by omega, decide_eq_true (by omega)]
  simp [bitAt, show ¬ (i + 64 < 64) by omega]
 ·rw [if_neg h3]
  by_cases h4 : j = i
  ·subst h4
   rw [if_pos rfl, show j % 64 = j by omega, decide_eq_true (by omega)]
   simp [bitAt, h]
  ·rw [if_neg h4]
   congr 1
   rw [Bool.eq_iff_iff]
   simp
   omega
theorem div_pow_succ (a : Int) (i : Nat) : a / 2 ^ i / 2 = a / 2 ^ (i + 1) := by
 rw [Int.pow_succ, Int.ediv_ediv_of_nonneg (Int.le_of_lt (Int.pow_pos (by decide)))]
theorem half_u64 {a : Int} (i : Nat) (h0 : 0 ≤ a) (h1 : a < 2 ^ 64) : IntKind.u64.wrap ((a / 2 ^ i).tdiv 2) = a / 2 ^ (i + 1) := by
 have hp : (0 : Int) < 2 ^ i := Int.pow_pos (by decide)
 have h2 : 0 ≤ a / 2 ^ i := Int.ediv_nonneg h0 (Int.le_of_lt hp)
 rw [Int.tdiv_eq_ediv_of_nonneg h2, div_pow_succ]
 have h3 : 0 ≤ a / 2 ^ (i + 1) := Int.ediv_nonneg h0 (Int.le_of_lt (Int.pow_pos (by decide)))
 have h4 : a / 2 ^ (i + 1) ≤ a := Int.ediv_le_self _ h0
 generalize a / 2 ^ (i + 1) = b at *
 rw [IntKind.wrap_u64 b]
 omega
def u64s (a b : Int) : Prop := 0 ≤ a ∧ a < 2 ^ 64 ∧ 0 ≤ b ∧ b < 2 ^ 64
instance (a b : Int) : Decidable (u64s a b) := by unfold u64s; infer_instance
def shunterref01_Of.f (hi lo : Int) : Option (Nat → Bool) := if u64s hi lo then some (bitAt hi lo) else none
set_option maxHeartbeats 8000000 in
set_option maxRecDepth 100000 in
theorem shunterref01_Of.calls (hi lo : Int) (r : Nat → Bool) (w : World) (h : shunterref01_Of.f hi lo = some r) :
 Calls Try.prog 72 #[.int .u64 hi, .int .u64 lo] w fun e w' => e = .returned (.agg (brow r)) ∧ Below w.heap.size w w' := by
 unfold shunterref01_Of.f at h
 split at h
 case isFalse => cases h
 rename_i hu
 obtain ⟨hh, hh2, hl, hl2⟩ := hu
 obtain rfl := Option.some.inj h
 clear h
 have hh2 := Aside0.mk hh2
 have hl2 := Aside0.mk hl2
 go_enter Try.func72, Try.ntmps72
 go_wp2
 go_loopw [0, 1, 6] (fun v0 v1 v6 w' => ∃ i : Nat, i ≤ 64 ∧ v6 = .int .i64 i ∧ v1 = .int .u64 (lo / 2 ^ i) ∧ v0 = .int .u64 (hi / 2 ^ i) ∧ Aside0 (w'.heap[w.heap.size + 1]? = some (.cells (brow fun j => decide (j % 64 < i) && bitAt hi lo j) 125 (0, 0))) ∧ Aside0 (w'.heap[w.heap.size]? = some (.cells Try.zeroCells125 125 (0, 0))) ∧ Aside0 (Below w.heap.size w w')) (fun _ _ v6 _ => (64 - intOf v6).toNat)
 case atStart =>
  refine ⟨0, by omega, rfl, by simp, by simp, ⟨?_⟩, ⟨?_⟩, ⟨?_⟩⟩
  ·rw [show (fun j => decide (j % 64 < 0) && bitAt hi lo j) = fun _ => false from funext fun j => by simp, brow_zero]; simpa using blk_new (w.alloc _) _
  ·exact blk_alloc (blk_new w _) _
  ·exact below_alloc (below_alloc (Below.refl _ _) _) _
 case round =>
  obtain ⟨i, hi64, rfl, rfl, rfl, H5, H4, HB⟩ := hrel
  by_cases hlt : i < 64
  ·have hc1 : wr.cell? ⟨w.heap.size + 1, i, none⟩ = some (.bool (decide (i % 64 < i) && bitAt hi lo i)) := (blk_cell H5.out i).trans (brow_get _ _ (by omega))
   have hc2 : wr.cell? ⟨w.heap.size + 1, i + 64, none⟩ = some (.bool (decide ((i + 64) % 64 < i) && bitAt hi lo (i + 64))) := (blk_cell H5.out (i + 64)).trans (brow_get _ _ (by omega))
   have hf : ∀ j, wr.frozen? ⟨w.heap.size + 1, j, none⟩ = false := blk_frozen H5.out
   have hp1 : 0 ≤ lo / 2 ^ i := Int.ediv_nonneg hl (Int.le_of_lt (Int.pow_pos (by decide)))
   have hp2 : 0 ≤ hi / 2 ^ i := Int.ediv_nonneg hh (Int.le_of_lt (Int.pow_pos (by decide)))
   go_wp2
   go_roundw
   case measure => simp [intOf]; omega
   case rel =>
    refine ⟨i + 1, by omega, by go_num, by rw [half_u64 i hl hl2.out], by rw [half_u64 i hh hh2.out], ⟨?_⟩, ⟨?_⟩, ⟨?_⟩⟩
    ·exact blk_put (blk_set H5.out i _) (i + 64) _ (ofRow_succ hi lo i hlt)
    ·exact blk_far (blk_far H4.out (by simp) _) (by simp) _
    ·exact below_set (below_set HB.out (by omega)) (by omega)
  ·obtain rfl : i = 64 := by omega
   have e : brow (fun j => decide (j % 64 < 64) && bitAt hi lo j) = brow (bitAt hi lo) := brow_congr fun j _ => by simp [Nat.mod_lt]
   replace H5 := Aside0.mk (e ▸ H5.out)
   clear e
   go_wp2_with (first | (refine wpList_load_row rfl 125 (.tmp 5) rfl (w.heap.size + 1) rfl 125 _ (0, 0) _ H5.out Try.underlying125 rfl (brow_info _) ?_) | (refine wpList_store_row rfl 125 (.tmp 4) (.tmp 26) rfl w.heap.size _ rfl rfl 125 _ H4.out (brow_info _) (by rw [brow_size]; kernel_rfl) (brow_one _) ?_))
   refine bodyPost_ret (results_cell_row rfl _ _ w.heap.size 125 _ (0, 0) _ rfl (setRow_heap _ _ _ _ _ _ H4.out) Try.underlying125 rfl (brow_info _)) rfl ⟨rfl, ?_⟩
   exact below_setRow HB.out (Nat.le_refl _) _
def shunterref02_Of.f (l0 : List Bool) : Option (Int × Int × Int) :=
 if l0.length < 4611686018427387904 then some (l0.length, hvD (fun j => l0[j + 64]?.getD false) 64, hvD (fun j => l0[j]?.getD false) 64) else none
def upTo (l : List Bool) (i j : Nat) : Bool := decide (j < i) && l[j]?.getD false
theorem upTo_all (l : List Bool) (i j : Nat) (h : l.length ≤ i ∨ j < i) : upTo l i j = l[j]?.getD false := by
 unfold upTo
 rcases h with h | h
 ·by_cases hj : j < i
  ·simp [hj]
  ·simp [hj]; rw [List.getElem?_eq_none (by omega)]; rfl
 ·simp [h]
theorem upTo_succ (l : List Bool) (i : Nat) : brow (fun j => if j = i then l[i]?.getD false else upTo l i j) = brow (upTo l (i + 1)) := by
 congr 1; funext j
 unfold upTo
 by_cases h : j = i
 ·subst h; simp
 ·rw [if_neg h]
  congr 1
  rw [Bool.eq_iff_iff]; simp; omega
set_option maxHeartbeats 8000000 in
set_option maxRecDepth 100000 in
theorem shunterref02_Of.calls (A0 : Option Addr) (c0 : Nat) (l0 : List Bool) (r1 r2 r3 : Int) (w : World) (hr0 : Kd.C Kd.bool w A0 l0.length l0) (hc0 : l0.length ≤ c0) (h : shunterref02_Of.f l0 = some (r1, r2, r3)) :
 Calls Try.prog 37 #[.slice A0 l0.length c0] w fun e w' => e = .returned (.agg #[.int .i64 r1, .int .u64 r2, .int .u64 r3]) ∧ Below w.heap.size w w' := by
 unfold shunterref02_Of.f at h
 split at h
 case isFalse => cases h
 rename_i hlen
 simp only [Option.some.injEq, Prod.mk.injEq] at h
 obtain ⟨rfl, rfl, rfl⟩ := h
 have HR0 := Aside0.mk hr0
 have HC0 := Aside0.mk hc0
 have HL := Aside0.mk hlen
 clear hr0 hc0 hlen
 go_enter Try.func37, Try.ntmps37
 go_wp2
 go_loopw [4] (fun v4 w' => ∃ i : Nat, i ≤ l0.length ∧ i ≤ 128 ∧ v4 = .int .i64 i ∧ Aside0 (w'.heap[w.heap.size + 1]? = some (.cells (brow (upTo l0 i)) 125 (0, 0))) ∧ Aside0 (w'.heap[w.heap.size]? = some (.cells #[.int .i64 0, .int .u64 0, .int .u64 0] 32 (0, 0))) ∧ Aside0 (Below w.heap.size w w')) (fun v4 _ => (128 - intOf v4).toNat)
 case atStart =>
  refine ⟨0, by omega, by omega, rfl, ⟨?_⟩, ⟨?_⟩, ⟨?_⟩⟩
  ·rw [show upTo l0 0 = fun _ => false from funext fun j => by simp [upTo], brow_zero]; simpa using blk_new (w.alloc _) _
  ·exact blk_alloc (blk_new w _) _
  ·exact below_alloc (below_alloc (Below.refl _ _) _) _
 case round =>
  obtain ⟨i, hil, hi128, rfl, H3, H2, HB⟩ := hrel
  by_cases hlt : i < l0.length ∧ i < 128
  ·obtain ⟨h1, h2⟩ := hlt
   have p1 : 0 ≤ (i : Int) := by omega
   have q1 : (i : Int) < (l0.length : Int) := by omega
   obtain ⟨ad, ead, hx⟩ := Kd.at_bool HR0.out i p1 q1
   cases ead
   replace hx := (HB.out.cell (World.block_lt_of_cell? w _ hx)).trans hx
   rw [Int.toNat_natCast] at hx
   have hc1 : wr.cell? ⟨w.heap.size + 1, i, none⟩ = some (.bool (upTo l0 i i)) := (blk_cell H3.out i).trans (brow_get _ _ (by omega))
   have hf : wr.frozen? ⟨w.heap.size + 1, i, none⟩ = false := blk_frozen H3.out i
   have hd : decide ((i : Int) < (l0.length : Int)) = true := decide_eq_true q1
   go_wp2
   go_roundw
   case measure => simp [intOf] <;> omega
   case rel =>
    refine ⟨i + 1, by omega, by omega, by go_num, ⟨?_⟩, ⟨?_⟩, ⟨?_⟩⟩
    ·refine blk_put H3.out i _ ?_
     rw [← upTo_succ, ← brow_set]
     simp [rdOf]
    ·exact blk_far H2.out (by simp) _
    ·exact below_set HB.out (by omega)
  ·have HU : Aside0 (brow (upTo l0 i) = brow (fun j => l0[j]?.getD false)) := ⟨brow_congr fun j hj => upTo_all l0 i j (by omega)⟩
   have HF : Aside0 (l0.length = i ∨ i = 128 ∧ 128 ≤ l0.length) := ⟨by omega⟩
   have H3' := Aside0.mk (show wr.heap[w.heap.size + 1]? = some (.cells (brow (fun j => l0[j]?.getD false)) 125 (0, 0)) from HU.out ▸ H3.out)
   clear H3 hlt
   have HB' := Aside0.mk HB.out
   by_cases hd : (i : Int) < (l0.length : Int)
   ·obtain rfl : i = 128 := by have := HF.out; omega
    replace hd : decide ((128 : Int) < (l0.length : Int)) = true := decide_eq_true (by omega)
    go_wp2_with (first | (refine wpList_load_row rfl 125 (.tmp 3) rfl (w.heap.size + 1) rfl 125 _ (0, 0) _ H3'.out Try.underlying125 rfl (brow_info _) ?_) | (go_at_call 90; refine (shunterref01_Halves.calls0 _ _).mono ?_; rintro e w1 ⟨rfl, hb1⟩; have HB1 := Aside0.mk (below_step HB.out hb1); have H2' := Aside0.mk (blk_below H2.out hb1); have k0 : w1.cell? ⟨w.heap.size, 0, none⟩ = some (.int .i64 0) := blk_cell H2'.out 0; have k1 : w1.cell? ⟨w.heap.size, 1, none⟩ = some (.int .u64 0) := blk_cell H2'.out 1; have k2 : w1.cell? ⟨w.heap.size, 2, none⟩ = some (.int .u64 0) := blk_cell H2'.out 2; have kf : ∀ j, w1.frozen? ⟨w.heap.size, j, none⟩ = false := blk_frozen H2'.out; clear hb1))
    refine bodyPost_ret (results_cell_row rfl _ _ w.heap.size 32 _ (0, 0) _ rfl (blk_set (blk_set (blk_set H2'.out 0 _) 1 _) 2 _) Try.underlying32 rfl (by kernel_rfl)) rfl ⟨rfl, ?_⟩
    exact below_set (below_set (below_set HB1.out (Nat.le_refl _)) (Nat.le_refl _)) (Nat.le_refl _)
   ·replace hd : decide (i < l0.length) = false := decide_eq_false (by omega)
    go_wp2_with (first | (refine wpList_load_row rfl 125 (.tmp 3) rfl (w.heap.size + 1) rfl 125 _ (0, 0) _ H3'.out Try.underlying125 rfl (brow_info _) ?_) | (go_at_call 90; refine (shunterref01_Halves.calls0 _ _).mono ?_; rintro e w1 ⟨rfl, hb1⟩; have HB1 := Aside0.mk (below_step HB.out hb1); have H2' := Aside0.mk (blk_below H2.out hb1); have k0 : w1.cell? ⟨w.heap.size, 0, none⟩ = some (.int .i64 0) := blk_cell H2'.out 0; have k1 : w1.cell? ⟨w.heap.size, 1, none⟩ = some (.int .u64 0) := blk_cell H2'.out 1; have k2 : w1.cell? ⟨w.heap.size, 2, none⟩ = some (.int .u64 0) := blk_cell H2'.out 2; have kf : ∀ j, w1.frozen? ⟨w.heap.size, j, none⟩ = false := blk_frozen H2'.out; clear hb1))
    refine bodyPost_ret (results_cell_row rfl _ _ w.heap.size 32 _ (0, 0) _ rfl (blk_set (blk_set (blk_set H2'.out 0 _) 1 _) 2 _) Try.underlying32 rfl (by kernel_rfl)) rfl ⟨rfl, ?_⟩
    exact below_set (below_set (below_set HB1.out (Nat.le_refl _)) (Nat.le_refl _)) (Nat.le_refl _)
def shunterref02_Bits.f (a0_0 a0_1 a0_2 : Int) : Option (List Bool) :=
 if u64s a0_1 a0_2 then some ((List.range (min a0_0.toNat 128)).map (bitAt a0_1 a0_2)) else none
theorem info4x : (Try.prog.info? 4).map (fun i => (i.zero, i.size, i.bytes)) = some (some (.bool false), 1, 1) := by kernel_rfl
set_option maxHeartbeats 400000 in
set_option maxRecDepth 100000 in
theorem shunterref02_Bits.calls (a0_0 a0_1 a0_2 : Int) (r : List Bool) (w : World) (h : shunterref02_Bits.f a0_0 a0_1 a0_2 = some r) :
 Calls Try.prog 36 #[.agg #[.int .i64 a0_0, .int .u64 a0_1, .int .u64 a0_2]] w fun e w' => ∃ v0_ : Value, e = .returned (v0_) ∧ Kd.R Kd.bool 4 w' w.heap.size (fun _ => True) v0_ r ∧ Below w.heap.size w w' := by
 unfold shunterref02_Bits.f at h
 split at h
 case isFalse => cases h
 rename_i hu
 obtain rfl := Option.some.inj h
 clear h
 have HO := Aside0.mk (show shunterref01_Of.f a0_1 a0_2 = some (bitAt a0_1 a0_2) from if_pos hu)
 clear hu
 go_enter Try.func36, Try.ntmps36
 go_wp2_with (first | ((with_reducible refine gate_dst (N := 3) rfl ?_); refine box_event ?hg (N := 3) ?hd (cs := Try.zeroCells125) (t := 125) ?hr ?_; (case hd => rfl); (case hg => rfl); (case hr => first | (go_simp; done) | (go_simp; rfl)); intro g hg w3 hbox hb; have HB3 := Aside0.mk (below_step HB1.out hb); have H3 := Aside0.mk (blk_below H1.out hb); have HG := Aside0.mk (show w.heap.size + 1 ≤ g by rw [hg]; exact Nat.le_of_lt_succ (by have := blk_lt H1.out; omega)); have HX := Aside0.mk hbox; clear hb hg hbox HB1 H1) | ((with_reducible refine gate_store (t := 125) (p := 3) (v := .tmp 10) rfl ?_); refine wpList_store_row rfl 125 (.tmp 3) (.tmp 10) rfl g (brow _) rfl rfl 125 _ HX.out (brow_info _) (by rw [brow_size]; kernel_rfl) (brow_one _) ?_) | (go_at_call 72; refine (shunterref01_Of.calls _ _ _ _ HO.out).mono ?_; rintro e w1 ⟨rfl, hb1⟩; have HB1 := Aside0.mk (below_step (below_alloc (Below.refl _ _) _) hb1); have H1 := Aside0.mk (blk_below (blk_new w _) hb1); clear hb1))
 have HBB := Aside0.mk (below_setRow HB3.out (show w.heap.size ≤ g by have := HG.out; omega) (brow (bitAt a0_1 a0_2)))
 have HXX := Aside0.mk (setRow_heap w3 g _ (brow (bitAt a0_1 a0_2)) 125 (0, 0) HX.out)
 have HPP := Aside0.mk ((setRow_other w3 g w.heap.size (brow (bitAt a0_1 a0_2)) (by have := HG.out; omega)).trans H3.out)
 go_loopw [4, 5] (fun v4 v5 w' => ∃ i : Nat, i ≤ min a0_0.toNat 128 ∧ v5 = .int .i64 i ∧ Aside0 (w'.heap[g]? = some (.cells (brow (bitAt a0_1 a0_2)) 125 (0, 0))) ∧ Aside0 (w'.heap[w.heap.size]? = some (.cells #[.int .i64 a0_0, .int .u64 a0_1, .int .u64 a0_2] 32 (0, 0))) ∧ Aside0 (Kd.R Kd.bool 4 w' w.heap.size (fun k => k ≠ g ∧ k ≠ w.heap.size) v4 ((List.range i).map (bitAt a0_1 a0_2))) ∧ Aside0 (Below w.heap.size w w')) (fun _ v5 _ => (128 - intOf v5).toNat)
 case atStart => exact ⟨0, by omega, rfl, HXX, HPP, ⟨Kd.R_nil _ _ _ _ _⟩, HBB⟩
 case round =>
  clear HBB HXX HPP HX H3 HB3
  obtain ⟨i, hi, rfl, HX, HP, HR, HB⟩ := hrel
  have c0 : wr.cell? ⟨w.heap.size, 0, none⟩ = some (.int .i64 a0_0) := blk_cell HP.out 0
  by_cases hlt : i < min a0_0.toNat 128
  ·have h1 : (i : Int) < a0_0 := by omega
   have h2 : i < 128 := by omega
   have cg : wr.cell? ⟨g, i, none⟩ = some (.bool (bitAt a0_1 a0_2 i)) := (blk_cell HX.out i).trans (brow_get _ _ h2)
   go_wp2_with (first | ((with_reducible refine gate_builtin (b := .append) (xs := #[.tmp 21, .tmp 25]) rfl ?_); at_builtin; refine Kd.R_append Kd.bool (w0 := w) w.heap.size rfl (.tmp 21) (.tmp 25) 63 4 (.bool false) 1 rfl Try.underlying63 info4x rfl (by decide) (by omega) u4 ((List.range i).map (bitAt a0_1 a0_2)) (bitAt a0_1 a0_2 i) [.bool (bitAt a0_1 a0_2 i)] (fun k => k ≠ g ∧ k ≠ w.heap.size) (fun _ => False) rfl rfl ?aP (fun _ hk => hk.elim) ?aF ?aO ?aB ?aS ?aL ?_; (case aP => exact rfl); (case aB => exact HB.out); (case aF => exact fun k hk => ⟨by have := blk_lt HX.out; omega, by have := blk_lt HP.out; omega⟩); (case aO => exact HR.out); (case aS => exact below_size HB.out); (case aL => simp; omega); intro v7 w7 ho hb hg hat; have HR7 := Aside0.mk ho; have HB7 := Aside0.mk hb; have HX7 := Aside0.mk (blk_grown HX.out hg (fun he => (HR.out.1 g he.symm).1 rfl)); have HP7 := Aside0.mk (blk_grown HP.out hg (fun he => (HR.out.1 w.heap.size he.symm).2 rfl)); clear ho hb hg hat))
   go_roundw
   case measure => simp [intOf] <;> omega
   case rel => exact ⟨i + 1, by omega, by go_num, HX7, HP7, ⟨by rw [List.range_succ, List.map_append]; exact HR7.out⟩, HB7⟩
  ·have HE := Aside0.mk (show i = min a0_0.toNat 128 by omega)
   clear hi hlt
   by_cases h1 : (i : Int) < a0_0
   ·obtain rfl : i = 128 := by have := HE.out; omega
    replace h1 : decide ((128 : Int) < a0_0) = true := decide_eq_true (by omega)
    go_wp2
    go_ret
    exact ⟨_, rfl, HE.out ▸ Kd.R_mono HR.out (fun _ _ => trivial), HB.out⟩
   ·replace h1 : decide ((i : Int) < a0_0) = false := decide_eq_false h1
    go_wp2
    go_ret
    exact ⟨_, rfl, HE.out ▸ Kd.R_mono HR.out (fun _ _ => trivial), HB.out⟩
-- EXT shunter/word.Bit ROUNDS=0 MAKING=1 DEPS=shunter/word.Shr;shunter/vec.Cut;shunter/shunterref02.Bits
def word_Bit.f (a0_0 a0_1 a1 : Int) : Option Bool :=
 if u64s a0_0 a0_1 then some (decide (0 ≤ a1 ∧ a1 < 128) && (valW a0_0 a0_1).testBit a1.toNat) else none
theorem and_one (X n : Nat) : (Go.bits .and .u64 (loW (X / 2 ^ n)) 1 == 1) = X.testBit n := by
 have h := u64_and_nat (X / 2 ^ n % 2 ^ 64) 1 (Nat.mod_lt _ (by decide)) (by decide)
 unfold loW
 rw [show (1 : Int) = ((1 : Nat) : Int) from rfl, h]
 rw [Nat.and_one_is_mod, Nat.mod_mod_of_dvd _ (by decide), Nat.testBit_eq_decide_div_mod_eq]
 rw [Bool.eq_iff_iff]
 simp only [beq_iff_eq, decide_eq_true_eq]
 omega
set_option maxHeartbeats 400000 in
set_option maxRecDepth 100000 in
theorem word_Bit.inside (X n : Nat) (hX : X < 2 ^ 128) (hn : n < 128) (w : World) :
 Calls Try.prog 125 #[.agg #[.int .u64 (hiW X), .int .u64 (loW X)], .int .i64 n] w fun e w' => e = .returned (.bool (X.testBit n)) ∧ Below w.heap.size w w' := by
 have HS := Aside0.mk (word_Shr_pos 0 X n hX hn)
 have HE := Aside0.mk (and_one X n)
 have hfd : ∀ (a b : Int) (w : World), (Instr.field 130 (.agg #[.int .u64 a, .int .u64 b]) 1).run Try.prog w = .ok (.int .u64 b) w := fun _ _ _ => by kernel_rfl
 go_enter Try.func125, Try.ntmps125
 go_wp2_with (go_at_call 129; refine (word_Shr.calls 1 _ _ _ _ _ _ HS.out).mono ?_; rintro e w1 ⟨rfl, hb⟩; have HB := Aside0.mk (below_step (below_alloc (Below.refl _ _) _) hb); clear hb)
 go_ret
 exact ⟨by rw [← HE.out]; simp, HB.out⟩
set_option maxHeartbeats 400000 in
set_option maxRecDepth 100000 in
theorem word_Bit.outside (a0_0 a0_1 a1 : Int) (h : a1 < 0 ∨ 128 ≤ a1) (w : World) :
 Calls Try.prog 125 #[.agg #[.int .u64 a0_0, .int .u64 a0_1], .int .i64 a1] w fun e w' => e = .returned (.bool false) ∧ Below w.heap.size w w' := by
 rcases h with h | h
 ·go_enter Try.func125, Try.ntmps125
  go_wp2
  go_ret
  exact ⟨rfl, below_alloc (Below.refl _ _) _⟩
 ·go_enter Try.func125, Try.ntmps125
  go_wp2
  go_ret
  exact ⟨rfl, below_alloc (Below.refl _ _) _⟩
theorem word_Bit.calls (a0_0 a0_1 a1 : Int) (r : Bool) (w : World) (h : word_Bit.f a0_0 a0_1 a1 = some r) :
 Calls Try.prog 125 #[.agg #[.int .u64 a0_0, .int .u64 a0_1], .int .i64 a1] w fun e w' => e = .returned (.bool r) ∧ Below w.heap.size w w' := by
 unfold word_Bit.f at h
 split at h
 case isFalse => cases h
 rename_i hu
 obtain rfl := Option.some.inj h
 by_cases hi : 0 ≤ a1 ∧ a1 < 128
 ·obtain ⟨n, rfl⟩ : ∃ n : Nat, a1 = n := ⟨a1.toNat, by omega⟩
  have := word_Bit.inside (valW a0_0 a0_1) n (valW_lt hu.1 hu.2.1 hu.2.2.1 hu.2.2.2) (by omega) w
  rw [hiW_valW hu.1 hu.2.1 hu.2.2.1 hu.2.2.2, loW_valW hu.2.2.1 hu.2.2.2] at this
  rw [decide_eq_true hi, Bool.true_and]
  exact this
 ·rw [decide_eq_false hi, Bool.false_and]
  exact word_Bit.outside a0_0 a0_1 a1 (by omega) w
end Go.Proofs.Ytfdbcnbakchcgaa.XR
