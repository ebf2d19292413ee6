import Derived.Test.YtfdbcnbakchcgaaSq
import Derived.Test.YtfdbcnbakchcgaaXTx0
import Derived.Test.YtfdbcnbakchcgaaXTx1
import Derived.Test.YtfdbcnbakchcgaaXTx4
namespace Go.Proofs.Ytfdbcnbakchcgaa.XT
open Go.RowKit Go.Proofs.YtfdbcnbakchcgaaW.PrintWords Go.Proofs.YtfdbcnbakchcgaaW.PrintLast Go.Proofs.YtfdbcnbakchcgaaW.PrintMore
attribute [local go_sem] max2_int min2_int max_two min_two max_three min_three max_four min_four   -- for this text's walks alone
set_option linter.unusedVariables false
set_option linter.unusedSimpArgs false
attribute [local go_sem high] eqA32
def tern_Shadowed.j0 : Nat → Bool → Int → Int → Int → Int → Int → Int → Int → Int → Int → Int → Int → Int → Int → Int → Int → Int → Option (Bool)
 | 0, _, _, _, _, _, _, _, _, _, _, _, _, _, _, _, _, _ => none
 | k + 1, x20, x170000, x170001, x170002, x170003, x170004, x170005, x170006, x170007, x171000, x171001, x171002, x171003, x171004, x171005, x171006, x171007 => if x20 = true then (some false) else ((vec_And.f x170003 x170004 x170005 x171003 x171004 x171005).bind fun bt173 => (if bt173.2.2.2 = 0 then (if (bt173.1 == x170003 && (bt173.2.1 == x170004 && (bt173.2.2.1 == x170005))) = true then ((vec_Meets.f x171000 x171001 x171002 x170000 x170001 x170002 x170003 x170004 x170005).bind fun t178 => (some t178)) else (some false)) else (some false)))
def tern_Shadowed.f (k : Nat) (a0_0 : Int) (a0_1 : Int) (a0_2 : Int) (a0_3 : Int) (a0_4 : Int) (a0_5 : Int) (a0_6 : Int) (a0_7 : Int) (a1_0 : Int) (a1_1 : Int) (a1_2 : Int) (a1_3 : Int) (a1_4 : Int) (a1_5 : Int) (a1_6 : Int) (a1_7 : Int) : Option (Bool) := (tern_inside.f a0_0 a0_1 a0_2 a0_3 a0_4 a0_5).bind fun t171 => (if t171 = true then ((tern_inside.f a1_0 a1_1 a1_2 a1_3 a1_4 a1_5).bind fun t172 => (tern_Shadowed.j0 k (!t172) a0_0 a0_1 a0_2 a0_3 a0_4 a0_5 a0_6 a0_7 a1_0 a1_1 a1_2 a1_3 a1_4 a1_5 a1_6 a1_7)) else (tern_Shadowed.j0 k true a0_0 a0_1 a0_2 a0_3 a0_4 a0_5 a0_6 a0_7 a1_0 a1_1 a1_2 a1_3 a1_4 a1_5 a1_6 a1_7))
theorem tern_Shadowed.mono_l : ∀ k, (∀ y0 y1 y2 y3 y4 y5 y6 y7 y8 y9 y10 y11 y12 y13 y14 y15 y16, LeO (tern_Shadowed.j0 k y0 y1 y2 y3 y4 y5 y6 y7 y8 y9 y10 y11 y12 y13 y14 y15 y16) (tern_Shadowed.j0 (k + 1) y0 y1 y2 y3 y4 y5 y6 y7 y8 y9 y10 y11 y12 y13 y14 y15 y16))
 | 0 => fun _ _ _ _ _ _ _ _ _ _ _ _ _ _ _ _ _ r h => by simp [tern_Shadowed.j0] at h
 | k + 1 => by
  have ih0 := tern_Shadowed.mono_l k
  ·intro y0 y1 y2 y3 y4 y5 y6 y7 y8 y9 y10 y11 y12 y13 y14 y15 y16
   unfold tern_Shadowed.j0
   repeat' first
   | (with_reducible exact ih0 _ _ _ _ _ _ _ _ _ _ _ _ _ _ _ _ _)
   | (with_reducible exact LeO.refl _)
   | (with_reducible exact LeO.none _)
   | (with_reducible refine LeO.ite ?_ ?_)
   | (with_reducible refine LeO.bind ?_ (fun _ => ?_))
   | exact ih0 _ _ _ _ _ _ _ _ _ _ _ _ _ _ _ _ _
   | exact LeO.none _
   | refine LeO.ite ?_ ?_
   | refine LeO.bind ?_ (fun _ => ?_)
theorem tern_Shadowed.mono : ∀ a0 a1 a2 a3 a4 a5 a6 a7 a8 a9 a10 a11 a12 a13 a14 a15 k, LeO (tern_Shadowed.f k a0 a1 a2 a3 a4 a5 a6 a7 a8 a9 a10 a11 a12 a13 a14 a15) (tern_Shadowed.f (k + 1) a0 a1 a2 a3 a4 a5 a6 a7 a8 a9 a10 a11 a12 a13 a14 a15) := by
 intro a0 a1 a2 a3 a4 a5 a6 a7 a8 a9 a10 a11 a12 a13 a14 a15 k
 have ih0 := tern_Shadowed.mono_l k
 unfold tern_Shadowed.f
 repeat' first
  | (with_reducible exact ih0 _ _ _ _ _ _ _ _ _ _ _ _ _ _ _ _ _)
  | (with_reducible exact LeO.refl _)
  | (with_reducible exact LeO.none _)
  | (with_reducible refine LeO.ite ?_ ?_)
  | (with_reducible refine LeO.bind ?_ (fun _ => ?_))
  | exact ih0 _ _ _ _ _ _ _ _ _ _ _ _ _ _ _ _ _
  | exact LeO.none _
  | refine LeO.ite ?_ ?_
  | refine LeO.bind ?_ (fun _ => ?_)
set_option maxHeartbeats 8000000 in
set_option maxRecDepth 100000 in
theorem tern_Shadowed.calls (k : Nat) (a0_0 : Int) (a0_1 : Int) (a0_2 : Int) (a0_3 : Int) (a0_4 : Int) (a0_5 : Int) (a0_6 : Int) (a0_7 : Int) (a1_0 : Int) (a1_1 : Int) (a1_2 : Int) (a1_3 : Int) (a1_4 : Int) (a1_5 : Int) (a1_6 : Int) (a1_7 : Int) (r : Bool) (w : World) (h : tern_Shadowed.f k a0_0 a0_1 a0_2 a0_3 a0_4 a0_5 a0_6 a0_7 a1_0 a1_1 a1_2 a1_3 a1_4 a1_5 a1_6 a1_7 = some r) :
 Calls Try.prog 33 #[.agg #[.int .i64 a0_0, .int .u64 a0_1, .int .u64 a0_2, .int .i64 a0_3, .int .u64 a0_4, .int .u64 a0_5, .int .i64 a0_6, .int .i64 a0_7], .agg #[.int .i64 a1_0, .int .u64 a1_1, .int .u64 a1_2, .int .i64 a1_3, .int .u64 a1_4, .int .u64 a1_5, .int .i64 a1_6, .int .i64 a1_7]] w fun e w' => e = .returned (.bool r) ∧ Below w.heap.size w w' := by
 have hu59 := Try.underlying59
 have hu32 := Try.underlying32
 have HB := Aside0.mk (Below.refl w.heap.size w)
 have H : ((tern_inside.f a0_0 a0_1 a0_2 a0_3 a0_4 a0_5).bind fun t171 => (if t171 = true then ((tern_inside.f a1_0 a1_1 a1_2 a1_3 a1_4 a1_5).bind fun t172 => (tern_Shadowed.j0 k (!t172) a0_0 a0_1 a0_2 a0_3 a0_4 a0_5 a0_6 a0_7 a1_0 a1_1 a1_2 a1_3 a1_4 a1_5 a1_6 a1_7)) else (tern_Shadowed.j0 k true a0_0 a0_1 a0_2 a0_3 a0_4 a0_5 a0_6 a0_7 a1_0 a1_1 a1_2 a1_3 a1_4 a1_5 a1_6 a1_7))) = some r := h
 clear h
 have HC3 := Aside0.mk H
 clear H
 go_enter Try.func33, Try.ntmps33
 go_upto_region 1 with (first | ((with_reducible refine gate_dst (N := 2) rfl ?_); refine box_event ?hg (N := 2) ?hd (cs := #[.int .i64 a0_0, .int .u64 a0_1, .int .u64 a0_2, .int .i64 a0_3, .int .u64 a0_4, .int .u64 a0_5, .int .i64 a0_6, .int .i64 a0_7]) (t := 59) ?hr ?_; (case hd => rfl); (case hg => rfl); (case hr => first | (go_simp; done) | (go_simp; rfl)); intro gb169 hg w4 hbox hb; have BK169 := Aside0.mk (hbox); have GW169 := Aside0.mk ((by rw [hg]; exact (below_size (by repeat (first | (with_reducible first | exact HB.out | apply below_alloc | apply pw_below_drewN | apply below_drew1) | exact HB.out))) : w.heap.size ≤ gb169)); have GE169 := Aside0.mk ((by rw [hg]; exact (below_size (by repeat (first | (with_reducible first | exact HB.out | apply below_alloc | apply pw_below_drewN | apply below_drew1) | exact HB.out))) : w.heap.size ≤ gb169)); replace HB := Aside0.mk (below_step (by repeat (first | (with_reducible first | exact HB.out | apply below_alloc | apply pw_below_drewN | apply below_drew1) | exact HB.out)) hb); clear hb hbox hg) | ((with_reducible refine gate_dst (N := 3) rfl ?_); refine box_event ?hg (N := 3) ?hd (cs := #[.int .i64 a1_0, .int .u64 a1_1, .int .u64 a1_2, .int .i64 a1_3, .int .u64 a1_4, .int .u64 a1_5, .int .i64 a1_6, .int .i64 a1_7]) (t := 59) ?hr ?_; (case hd => rfl); (case hg => rfl); (case hr => first | (go_simp; done) | (go_simp; rfl)); intro gb170 hg w5 hbox hb; have BK170 := Aside0.mk (hbox); have GW170 := Aside0.mk ((by rw [hg]; exact (below_size (by repeat (first | (with_reducible first | exact HB.out | apply below_alloc | apply pw_below_drewN | apply below_drew1 | refine below_set ?_ GE169.out) | exact HB.out))) : w.heap.size ≤ gb170)); have GE170 := Aside0.mk ((by rw [hg]; exact (below_size (by repeat (first | (with_reducible first | exact HB.out | apply below_alloc | apply pw_below_drewN | apply below_drew1 | refine below_set ?_ GE169.out) | exact HB.out))) : w.heap.size ≤ gb170)); have NB169_170 := Aside0.mk ((by rw [hg]; exact Nat.ne_of_lt (blk_lt (g := gb169) (o := .cells #[.int .i64 a0_0, .int .u64 a0_1, .int .u64 a0_2, .int .i64 a0_3, .int .u64 a0_4, .int .u64 a0_5, .int .i64 a0_6, .int .i64 a0_7] 59 (0, 0)) (by (with_reducible repeat (first | refine blk_drewN ?_ _ | refine blk_drew ?_ | refine blk_alloc ?_ _)); exact BK169.out)) : gb169 ≠ gb170)); have NB170_169 := Aside0.mk ((by rw [hg]; exact Nat.ne_of_gt (blk_lt (g := gb169) (o := .cells #[.int .i64 a0_0, .int .u64 a0_1, .int .u64 a0_2, .int .i64 a0_3, .int .u64 a0_4, .int .u64 a0_5, .int .i64 a0_6, .int .i64 a0_7] 59 (0, 0)) (by (with_reducible repeat (first | refine blk_drewN ?_ _ | refine blk_drew ?_ | refine blk_alloc ?_ _)); exact BK169.out)) : gb170 ≠ gb169)); replace BK169 := bk1 (by (with_reducible repeat (first | refine blk_drewN ?_ _ | refine blk_drew ?_ | refine blk_alloc ?_ _)); exact BK169.out) hb; replace HB := Aside0.mk (below_step (by repeat (first | (with_reducible first | exact HB.out | apply below_alloc | apply pw_below_drewN | apply below_drew1 | refine below_set ?_ GE169.out) | exact HB.out)) hb); clear hb hbox hg))
 (try simp only [Act.put, List.setIfInBounds_toArray, List.set_cons_zero, List.set_cons_succ])
 go_cut [20] (fun v20 wc => ∃ (kq : Nat) (x20_2 : Bool), v20 = .bool x20_2 ∧ Aside0 (tern_Shadowed.j0 kq x20_2 a0_0 a0_1 a0_2 a0_3 a0_4 a0_5 a0_6 a0_7 a1_0 a1_1 a1_2 a1_3 a1_4 a1_5 a1_6 a1_7 = some r) ∧ Aside0 (kq ≤ k) ∧ Aside0 (wc.heap[gb169]? = some (.cells #[.int .i64 a0_0, .int .u64 a0_1, .int .u64 a0_2, .int .i64 a0_3, .int .u64 a0_4, .int .u64 a0_5, .int .i64 a0_6, .int .i64 a0_7] 59 (0, 0))) ∧ Aside0 (wc.heap[gb170]? = some (.cells #[.int .i64 a1_0, .int .u64 a1_1, .int .u64 a1_2, .int .i64 a1_3, .int .u64 a1_4, .int .u64 a1_5, .int .i64 a1_6, .int .i64 a1_7] 59 (0, 0))) ∧ Aside0 (Below w.heap.size w wc))
 case first =>
  have H := HC3.out
  clear HC3
  replace H := Option.bind_eq_some_iff.mp H
  obtain ⟨t171, A60, H⟩ := H
  replace H : (if t171 = true then ((tern_inside.f a1_0 a1_1 a1_2 a1_3 a1_4 a1_5).bind fun t172 => (tern_Shadowed.j0 k (!t172) a0_0 a0_1 a0_2 a0_3 a0_4 a0_5 a0_6 a0_7 a1_0 a1_1 a1_2 a1_3 a1_4 a1_5 a1_6 a1_7)) else (tern_Shadowed.j0 k true a0_0 a0_1 a0_2 a0_3 a0_4 a0_5 a0_6 a0_7 a1_0 a1_1 a1_2 a1_3 a1_4 a1_5 a1_6 a1_7)) = some r := H
  have A6 := Aside0.mk A60
  clear A60
  by_cases c7 : t171 = true
  ·subst c7
   have H1 : ((tern_inside.f a1_0 a1_1 a1_2 a1_3 a1_4 a1_5).bind fun t172 => (tern_Shadowed.j0 k (!t172) a0_0 a0_1 a0_2 a0_3 a0_4 a0_5 a0_6 a0_7 a1_0 a1_1 a1_2 a1_3 a1_4 a1_5 a1_6 a1_7)) = some r := by rw [if_pos rfl] at H; exact H
   clear H
   have H := H1
   clear H1
   replace H := Option.bind_eq_some_iff.mp H
   obtain ⟨t172, A80, H⟩ := H
   replace H : (tern_Shadowed.j0 k (!t172) a0_0 a0_1 a0_2 a0_3 a0_4 a0_5 a0_6 a0_7 a1_0 a1_1 a1_2 a1_3 a1_4 a1_5 a1_6 a1_7) = some r := H
   have A8 := Aside0.mk A80
   clear A80
   have H' := Aside0.mk H
   clear H
   have hnb9 := NB169_170.out
   have hnc9 := NB170_169.out
   obtain ⟨hcz10_0, hcz10_1, hcz10_2, hcz10_3, hcz10_4, hcz10_5, hcz10_6, hcz10_7, hfz10_0, hfz10_1, hfz10_2, hfz10_3, hfz10_4, hfz10_5, hfz10_6, hfz10_7⟩ := cl8 BK169.out
   go_wp2_with (first | ((with_reducible refine gate_callee (f := 86) rfl ?_); refine goesL_ (some 11) rfl rfl Try.func86 (by kernel_rfl) rfl #[.agg #[.int .i64 a0_0, .int .u64 a0_1, .int .u64 a0_2], .agg #[.int .i64 a0_3, .int .u64 a0_4, .int .u64 a0_5]] rfl (by (try simp only [List.map_toArray, List.map_cons, List.map_nil]); first | done | rfl | (simp only [List.length_drop, List.length_take]; rfl)) ?_; (with_reducible refine (tern_inside.calls a0_0 a0_1 a0_2 a0_3 a0_4 a0_5 true _ A6.out).mono ?_); rintro e w11 ⟨rfl, hb⟩; refine ⟨_, rfl, ?_⟩; replace BK169 := bk1 (by (with_reducible repeat (first | refine blk_drewN ?_ _ | refine blk_drew ?_ | refine blk_alloc ?_ _)); exact BK169.out) hb; replace BK170 := bk1 (by (with_reducible repeat (first | refine blk_drewN ?_ _ | refine blk_drew ?_ | refine blk_alloc ?_ _)); exact BK170.out) hb; replace HB := Aside0.mk (below_step (by repeat (first | (with_reducible first | exact HB.out | apply below_alloc | apply pw_below_drewN | apply below_drew1 | refine below_set ?_ GE169.out | refine below_set ?_ GE170.out) | exact HB.out)) hb); (try clear hb); (try clear hb2); (try clear hk); (try clear hi); obtain ⟨hcz12_0, hcz12_1, hcz12_2, hcz12_3, hcz12_4, hcz12_5, hcz12_6, hcz12_7, hfz12_0, hfz12_1, hfz12_2, hfz12_3, hfz12_4, hfz12_5, hfz12_6, hfz12_7⟩ := cl8 BK170.out) | (go_at_call 86; (with_reducible refine (tern_inside.calls a1_0 a1_1 a1_2 a1_3 a1_4 a1_5 t172 _ A8.out).mono ?_); rintro e w13 ⟨rfl, hb⟩; replace BK169 := bk1 (by (with_reducible repeat (first | refine blk_drewN ?_ _ | refine blk_drew ?_ | refine blk_alloc ?_ _)); exact BK169.out) hb; replace BK170 := bk1 (by (with_reducible repeat (first | refine blk_drewN ?_ _ | refine blk_drew ?_ | refine blk_alloc ?_ _)); exact BK170.out) hb; replace HB := Aside0.mk (below_step (by repeat (first | (with_reducible first | exact HB.out | apply below_alloc | apply pw_below_drewN | apply below_drew1 | refine below_set ?_ GE169.out | refine below_set ?_ GE170.out) | exact HB.out)) hb); (try clear hb); (try clear hb2); (try clear hk); (try clear hi)))
   go_meet
   case rel => exact ⟨_, (!t172), (by first | rfl | (simp; done) | (simp [*]; done)), H', ⟨by first | omega | exact Nat.le_refl _⟩, ⟨by (with_reducible repeat (first | refine blk_drewN ?_ _ | refine blk_drew ?_ | refine blk_alloc ?_ _)); exact BK169.out⟩, ⟨by (with_reducible repeat (first | refine blk_drewN ?_ _ | refine blk_drew ?_ | refine blk_alloc ?_ _)); exact BK170.out⟩, ⟨by repeat (first | (with_reducible first | exact HB.out | apply below_alloc | apply pw_below_drewN | apply below_drew1 | refine below_set ?_ GE169.out | refine below_set ?_ GE170.out) | exact HB.out)⟩⟩
  ·replace c7 := Bool.eq_false_iff.mpr c7
   subst c7
   have H1 : (tern_Shadowed.j0 k true a0_0 a0_1 a0_2 a0_3 a0_4 a0_5 a0_6 a0_7 a1_0 a1_1 a1_2 a1_3 a1_4 a1_5 a1_6 a1_7) = some r := by rw [if_neg (show ¬ (false = true) by decide)] at H; exact H
   clear H
   have H := H1
   clear H1
   have H' := Aside0.mk H
   clear H
   have hnb14 := NB169_170.out
   have hnc14 := NB170_169.out
   obtain ⟨hcz15_0, hcz15_1, hcz15_2, hcz15_3, hcz15_4, hcz15_5, hcz15_6, hcz15_7, hfz15_0, hfz15_1, hfz15_2, hfz15_3, hfz15_4, hfz15_5, hfz15_6, hfz15_7⟩ := cl8 BK169.out
   go_wp2_with (first | ((with_reducible refine gate_callee (f := 86) rfl ?_); refine goesL_ (some 11) rfl rfl Try.func86 (by kernel_rfl) rfl #[.agg #[.int .i64 a0_0, .int .u64 a0_1, .int .u64 a0_2], .agg #[.int .i64 a0_3, .int .u64 a0_4, .int .u64 a0_5]] rfl (by (try simp only [List.map_toArray, List.map_cons, List.map_nil]); first | done | rfl | (simp only [List.length_drop, List.length_take]; rfl)) ?_; (with_reducible refine (tern_inside.calls a0_0 a0_1 a0_2 a0_3 a0_4 a0_5 false _ A6.out).mono ?_); rintro e w16 ⟨rfl, hb⟩; refine ⟨_, rfl, ?_⟩; replace BK169 := bk1 (by (with_reducible repeat (first | refine blk_drewN ?_ _ | refine blk_drew ?_ | refine blk_alloc ?_ _)); exact BK169.out) hb; replace BK170 := bk1 (by (with_reducible repeat (first | refine blk_drewN ?_ _ | refine blk_drew ?_ | refine blk_alloc ?_ _)); exact BK170.out) hb; replace HB := Aside0.mk (below_step (by repeat (first | (with_reducible first | exact HB.out | apply below_alloc | apply pw_below_drewN | apply below_drew1 | refine below_set ?_ GE169.out | refine below_set ?_ GE170.out) | exact HB.out)) hb); (try clear hb); (try clear hb2); (try clear hk); (try clear hi)))
   go_meet
   case rel => exact ⟨_, (true), (by first | rfl | (simp; done) | (simp [*]; done)), H', ⟨by first | omega | exact Nat.le_refl _⟩, ⟨by (with_reducible repeat (first | refine blk_drewN ?_ _ | refine blk_drew ?_ | refine blk_alloc ?_ _)); exact BK169.out⟩, ⟨by (with_reducible repeat (first | refine blk_drewN ?_ _ | refine blk_drew ?_ | refine blk_alloc ?_ _)); exact BK170.out⟩, ⟨by repeat (first | (with_reducible first | exact HB.out | apply below_alloc | apply pw_below_drewN | apply below_drew1 | refine below_set ?_ GE169.out | refine below_set ?_ GE170.out) | exact HB.out)⟩⟩
 case rest =>
  clear HC3
  try clear c1
  try clear p2
  try clear c3
  try clear c7
  try clear c8
  try clear c9
  try clear c14
  try clear hcz10_0
  try clear hcz10_1
  try clear hcz10_2
  try clear hcz10_3
  try clear hcz10_4
  try clear hcz10_5
  try clear hcz10_6
  try clear hcz10_7
  try clear hcz12_0
  try clear hcz12_1
  try clear hcz12_2
  try clear hcz12_3
  try clear hcz12_4
  try clear hcz12_5
  try clear hcz12_6
  try clear hcz12_7
  try clear hcz15_0
  try clear hcz15_1
  try clear hcz15_2
  try clear hcz15_3
  try clear hcz15_4
  try clear hcz15_5
  try clear hcz15_6
  try clear hcz15_7
  try clear hfz10_0
  try clear hfz10_1
  try clear hfz10_2
  try clear hfz10_3
  try clear hfz10_4
  try clear hfz10_5
  try clear hfz10_6
  try clear hfz10_7
  try clear hfz12_0
  try clear hfz12_1
  try clear hfz12_2
  try clear hfz12_3
  try clear hfz12_4
  try clear hfz12_5
  try clear hfz12_6
  try clear hfz12_7
  try clear hfz15_0
  try clear hfz15_1
  try clear hfz15_2
  try clear hfz15_3
  try clear hfz15_4
  try clear hfz15_5
  try clear hfz15_6
  try clear hfz15_7
  obtain ⟨kq, x20_2, rfl, HA, HJ2, BK169, BK170, HB⟩ := hcut
  cases kq with
  | zero => exact absurd HA.out (by simp [tern_Shadowed.j0])
  | succ kj2 =>
   have H := HA.out
   clear HA
   simp only [tern_Shadowed.j0] at H
   by_cases c17 : x20_2 = true
   ·subst c17
    have H1 : (some false) = some r := by rw [if_pos rfl] at H; exact H
    clear H
    have H := H1
    clear H1
    obtain rfl := Option.some.inj H
    go_wp2
    go_ret
    exact ⟨by first | rfl | (simp [errW_none, errW_some] <;> rfl) | (simp [*, errW_none, errW_some] <;> rfl), by repeat (first | (with_reducible first | exact HB.out | apply below_alloc | apply pw_below_drewN | apply below_drew1 | refine below_set ?_ GE169.out | refine below_set ?_ GE170.out) | exact HB.out)⟩
   ·replace c17 := Bool.eq_false_iff.mpr c17
    subst c17
    have H1 : ((vec_And.f a0_3 a0_4 a0_5 a1_3 a1_4 a1_5).bind fun bt173 => (if bt173.2.2.2 = 0 then (if (bt173.1 == a0_3 && (bt173.2.1 == a0_4 && (bt173.2.2.1 == a0_5))) = true then ((vec_Meets.f a1_0 a1_1 a1_2 a0_0 a0_1 a0_2 a0_3 a0_4 a0_5).bind fun t178 => (some t178)) else (some false)) else (some false))) = some r := by rw [if_neg (show ¬ (false = true) by decide)] at H; exact H
    clear H
    have H := H1
    clear H1
    replace H := Option.bind_eq_some_iff.mp H
    obtain ⟨⟨t173, t174, t175, t176⟩, A180, H⟩ := H
    replace H : (if t176 = 0 then (if (t173 == a0_3 && (t174 == a0_4 && (t175 == a0_5))) = true then ((vec_Meets.f a1_0 a1_1 a1_2 a0_0 a0_1 a0_2 a0_3 a0_4 a0_5).bind fun t178 => (some t178)) else (some false)) else (some false)) = some r := H
    have A18 := Aside0.mk A180
    clear A180
    by_cases c19 : t176 = 0
    ·rw [if_pos c19] at H
     have c19b0 : (t176 == 0) = true := beq_iff_eq.mpr c19
     have c19b1 : (t176 != 0) = false := bne_eq_false_iff_eq.mpr c19
     clear c19
     by_cases c20 : (t173 == a0_3 && (t174 == a0_4 && (t175 == a0_5))) = true
     ·rw [if_pos c20] at H
      have c20b0 : (t173 == a0_3 && (t174 == a0_4 && (t175 == a0_5))) = true := c20
      (try (have c20b1 : decide (t173 = a0_3 && (t174 == a0_4 && (t175 == a0_5))) = true := by simpa using c20))
      (try (have c20b2 : (t173 == a0_3 && (t174 == a0_4 && (t175 == a0_5))) = true := by simpa using c20))
      clear c20
      replace H := Option.bind_eq_some_iff.mp H
      obtain ⟨t178, A210, H⟩ := H
      replace H : (some t178) = some r := H
      have A21 := Aside0.mk A210
      clear A210
      obtain rfl := Option.some.inj H
      have hnb22 := NB169_170.out
      have hnc22 := NB170_169.out
      obtain ⟨hcz23_0, hcz23_1, hcz23_2, hcz23_3, hcz23_4, hcz23_5, hcz23_6, hcz23_7, hfz23_0, hfz23_1, hfz23_2, hfz23_3, hfz23_4, hfz23_5, hfz23_6, hfz23_7⟩ := cl8 BK169.out
      obtain ⟨hcz24_0, hcz24_1, hcz24_2, hcz24_3, hcz24_4, hcz24_5, hcz24_6, hcz24_7, hfz24_0, hfz24_1, hfz24_2, hfz24_3, hfz24_4, hfz24_5, hfz24_6, hfz24_7⟩ := cl8 BK170.out
      go_wp2_with (first | ((with_reducible refine gate_callee (f := 87) rfl ?_); refine goesL_ (some 26) rfl rfl Try.func87 (by kernel_rfl) rfl #[.agg #[.int .i64 a0_3, .int .u64 a0_4, .int .u64 a0_5], .agg #[.int .i64 a1_3, .int .u64 a1_4, .int .u64 a1_5]] rfl (by (try simp only [List.map_toArray, List.map_cons, List.map_nil]); first | done | rfl | (simp only [List.length_drop, List.length_take]; rfl)) ?_; (with_reducible refine (vec_And.calls a0_3 a0_4 a0_5 a1_3 a1_4 a1_5 t173 t174 t175 t176 _ A18.out).mono ?_); rintro e w25 ⟨rfl, hb⟩; refine ⟨_, rfl, ?_⟩; replace BK169 := bk1 (by (with_reducible repeat (first | refine blk_drewN ?_ _ | refine blk_drew ?_ | refine blk_alloc ?_ _)); exact BK169.out) hb; replace BK170 := bk1 (by (with_reducible repeat (first | refine blk_drewN ?_ _ | refine blk_drew ?_ | refine blk_alloc ?_ _)); exact BK170.out) hb; replace HB := Aside0.mk (below_step (by repeat (first | (with_reducible first | exact HB.out | apply below_alloc | apply pw_below_drewN | apply below_drew1 | refine below_set ?_ GE169.out | refine below_set ?_ GE170.out) | exact HB.out)) hb); (try clear hb); (try clear hb2); (try clear hk); (try clear hi)) | ((with_reducible refine gate_dst (N := 5) rfl ?_); refine box_event ?hg (N := 5) ?hd (cs := #[.int .i64 0, .int .u64 0, .int .u64 0]) (t := 32) ?hr ?_; (case hd => rfl); (case hg => rfl); (case hr => first | (go_simp; done) | (go_simp; rfl)); intro gb177 hg w26 hbox hb; have BK177 := Aside0.mk (hbox); have GW177 := Aside0.mk ((by rw [hg]; exact (below_size (by repeat (first | (with_reducible first | exact HB.out | apply below_alloc | apply pw_below_drewN | apply below_drew1 | refine below_set ?_ GE169.out | refine below_set ?_ GE170.out) | exact HB.out))) : w.heap.size ≤ gb177)); have GE177 := Aside0.mk ((by rw [hg]; exact (below_size (by repeat (first | (with_reducible first | exact HB.out | apply below_alloc | apply pw_below_drewN | apply below_drew1 | refine below_set ?_ GE169.out | refine below_set ?_ GE170.out) | exact HB.out))) : w.heap.size ≤ gb177)); have NB169_177 := Aside0.mk ((by rw [hg]; exact Nat.ne_of_lt (blk_lt (g := gb169) (o := .cells #[.int .i64 a0_0, .int .u64 a0_1, .int .u64 a0_2, .int .i64 a0_3, .int .u64 a0_4, .int .u64 a0_5, .int .i64 a0_6, .int .i64 a0_7] 59 (0, 0)) (by (with_reducible repeat (first | refine blk_drewN ?_ _ | refine blk_drew ?_ | refine blk_alloc ?_ _)); exact BK169.out)) : gb169 ≠ gb177)); have NB177_169 := Aside0.mk ((by rw [hg]; exact Nat.ne_of_gt (blk_lt (g := gb169) (o := .cells #[.int .i64 a0_0, .int .u64 a0_1, .int .u64 a0_2, .int .i64 a0_3, .int .u64 a0_4, .int .u64 a0_5, .int .i64 a0_6, .int .i64 a0_7] 59 (0, 0)) (by (with_reducible repeat (first | refine blk_drewN ?_ _ | refine blk_drew ?_ | refine blk_alloc ?_ _)); exact BK169.out)) : gb177 ≠ gb169)); have NB170_177 := Aside0.mk ((by rw [hg]; exact Nat.ne_of_lt (blk_lt (g := gb170) (o := .cells #[.int .i64 a1_0, .int .u64 a1_1, .int .u64 a1_2, .int .i64 a1_3, .int .u64 a1_4, .int .u64 a1_5, .int .i64 a1_6, .int .i64 a1_7] 59 (0, 0)) (by (with_reducible repeat (first | refine blk_drewN ?_ _ | refine blk_drew ?_ | refine blk_alloc ?_ _)); exact BK170.out)) : gb170 ≠ gb177)); have NB177_170 := Aside0.mk ((by rw [hg]; exact Nat.ne_of_gt (blk_lt (g := gb170) (o := .cells #[.int .i64 a1_0, .int .u64 a1_1, .int .u64 a1_2, .int .i64 a1_3, .int .u64 a1_4, .int .u64 a1_5, .int .i64 a1_6, .int .i64 a1_7] 59 (0, 0)) (by (with_reducible repeat (first | refine blk_drewN ?_ _ | refine blk_drew ?_ | refine blk_alloc ?_ _)); exact BK170.out)) : gb177 ≠ gb170)); replace BK169 := bk1 (by (with_reducible repeat (first | refine blk_drewN ?_ _ | refine blk_drew ?_ | refine blk_alloc ?_ _)); exact BK169.out) hb; replace BK170 := bk1 (by (with_reducible repeat (first | refine blk_drewN ?_ _ | refine blk_drew ?_ | refine blk_alloc ?_ _)); exact BK170.out) hb; replace HB := Aside0.mk (below_step (by repeat (first | (with_reducible first | exact HB.out | apply below_alloc | apply pw_below_drewN | apply below_drew1 | refine below_set ?_ GE169.out | refine below_set ?_ GE170.out) | exact HB.out)) hb); clear hb hbox hg; have hnb27 := NB177_169.out; have hnc27 := NB169_177.out; have hnb28 := NB177_170.out; have hnc28 := NB170_177.out; obtain ⟨hcz29_0, hcz29_1, hcz29_2, hfz29_0, hfz29_1, hfz29_2⟩ := cl3 BK177.out; obtain ⟨hcz30_0, hcz30_1, hcz30_2, hcz30_3, hcz30_4, hcz30_5, hcz30_6, hcz30_7, hfz30_0, hfz30_1, hfz30_2, hfz30_3, hfz30_4, hfz30_5, hfz30_6, hfz30_7⟩ := cl8 BK169.out; obtain ⟨hcz31_0, hcz31_1, hcz31_2, hcz31_3, hcz31_4, hcz31_5, hcz31_6, hcz31_7, hfz31_0, hfz31_1, hfz31_2, hfz31_3, hfz31_4, hfz31_5, hfz31_6, hfz31_7⟩ := cl8 BK170.out) | (go_at_call 88; (with_reducible refine (vec_Meets.calls a1_0 a1_1 a1_2 a0_0 a0_1 a0_2 a0_3 a0_4 a0_5 t178 _ A21.out).mono ?_); rintro e w32 ⟨rfl, hb⟩; replace BK169 := bk1 (g := gb169) (o := .cells #[.int .i64 a0_0, .int .u64 a0_1, .int .u64 a0_2, .int .i64 a0_3, .int .u64 a0_4, .int .u64 a0_5, .int .i64 a0_6, .int .i64 a0_7] 59 (0, 0)) (by (with_reducible repeat (first | refine blk_drewN ?_ _ | refine blk_drew ?_ | refine blk_alloc ?_ _)); refine blk_far ?_ NB169_177.out _; (with_reducible repeat (first | refine blk_drewN ?_ _ | refine blk_drew ?_ | refine blk_alloc ?_ _)); refine blk_far ?_ NB169_177.out _; (with_reducible repeat (first | refine blk_drewN ?_ _ | refine blk_drew ?_ | refine blk_alloc ?_ _)); refine blk_far ?_ NB169_177.out _; (with_reducible repeat (first | refine blk_drewN ?_ _ | refine blk_drew ?_ | refine blk_alloc ?_ _)); exact BK169.out) hb; replace BK170 := bk1 (g := gb170) (o := .cells #[.int .i64 a1_0, .int .u64 a1_1, .int .u64 a1_2, .int .i64 a1_3, .int .u64 a1_4, .int .u64 a1_5, .int .i64 a1_6, .int .i64 a1_7] 59 (0, 0)) (by (with_reducible repeat (first | refine blk_drewN ?_ _ | refine blk_drew ?_ | refine blk_alloc ?_ _)); refine blk_far ?_ NB170_177.out _; (with_reducible repeat (first | refine blk_drewN ?_ _ | refine blk_drew ?_ | refine blk_alloc ?_ _)); refine blk_far ?_ NB170_177.out _; (with_reducible repeat (first | refine blk_drewN ?_ _ | refine blk_drew ?_ | refine blk_alloc ?_ _)); refine blk_far ?_ NB170_177.out _; (with_reducible repeat (first | refine blk_drewN ?_ _ | refine blk_drew ?_ | refine blk_alloc ?_ _)); exact BK170.out) hb; replace BK177 := bk1 (g := gb177) (o := .cells #[.int .i64 t173, .int .u64 t174, .int .u64 t175] 32 (0, 0)) (by (with_reducible repeat (first | refine blk_drewN ?_ _ | refine blk_drew ?_ | refine blk_alloc ?_ _)); refine blk_put (cs := #[.int .i64 t173, .int .u64 t174, .int .u64 0]) ?_ 2 _ rfl; (with_reducible repeat (first | refine blk_drewN ?_ _ | refine blk_drew ?_ | refine blk_alloc ?_ _)); refine blk_put (cs := #[.int .i64 t173, .int .u64 0, .int .u64 0]) ?_ 1 _ rfl; (with_reducible repeat (first | refine blk_drewN ?_ _ | refine blk_drew ?_ | refine blk_alloc ?_ _)); refine blk_put (cs := #[.int .i64 0, .int .u64 0, .int .u64 0]) ?_ 0 _ rfl; (with_reducible repeat (first | refine blk_drewN ?_ _ | refine blk_drew ?_ | refine blk_alloc ?_ _)); exact BK177.out) hb; replace HB := Aside0.mk (below_step (by repeat (first | (with_reducible first | exact HB.out | apply below_alloc | apply pw_below_drewN | apply below_drew1 | refine below_set ?_ GE169.out | refine below_set ?_ GE170.out | refine below_set ?_ GE177.out) | exact HB.out)) hb); (try clear hb); (try clear hb2); (try clear hk); (try clear hi)))
      go_ret
      exact ⟨by first | rfl | (simp [errW_none, errW_some] <;> rfl) | (simp [*, errW_none, errW_some] <;> rfl), by repeat (first | (with_reducible first | exact HB.out | apply below_alloc | apply pw_below_drewN | apply below_drew1 | refine below_set ?_ GE169.out | refine below_set ?_ GE170.out | refine below_set ?_ GE177.out) | exact HB.out)⟩
     ·rw [if_neg c20] at H
      have c20b0 : (t173 == a0_3 && (t174 == a0_4 && (t175 == a0_5))) = false := by simpa using c20
      (try (have c20b1 : decide (t173 = a0_3 && (t174 == a0_4 && (t175 == a0_5))) = false := by simpa using c20))
      (try (have c20b2 : (t173 == a0_3 && (t174 == a0_4 && (t175 == a0_5))) = false := by simpa using c20))
      (try (have c20b3 : ¬ (t173 = a0_3 && (t174 == a0_4 && (t175 == a0_5))) := by simpa using c20))
      clear c20
      obtain rfl := Option.some.inj H
      have hnb33 := NB169_170.out
      have hnc33 := NB170_169.out
      obtain ⟨hcz34_0, hcz34_1, hcz34_2, hcz34_3, hcz34_4, hcz34_5, hcz34_6, hcz34_7, hfz34_0, hfz34_1, hfz34_2, hfz34_3, hfz34_4, hfz34_5, hfz34_6, hfz34_7⟩ := cl8 BK169.out
      obtain ⟨hcz35_0, hcz35_1, hcz35_2, hcz35_3, hcz35_4, hcz35_5, hcz35_6, hcz35_7, hfz35_0, hfz35_1, hfz35_2, hfz35_3, hfz35_4, hfz35_5, hfz35_6, hfz35_7⟩ := cl8 BK170.out
      go_wp2_with (first | ((with_reducible refine gate_callee (f := 87) rfl ?_); refine goesL_ (some 26) rfl rfl Try.func87 (by kernel_rfl) rfl #[.agg #[.int .i64 a0_3, .int .u64 a0_4, .int .u64 a0_5], .agg #[.int .i64 a1_3, .int .u64 a1_4, .int .u64 a1_5]] rfl (by (try simp only [List.map_toArray, List.map_cons, List.map_nil]); first | done | rfl | (simp only [List.length_drop, List.length_take]; rfl)) ?_; (with_reducible refine (vec_And.calls a0_3 a0_4 a0_5 a1_3 a1_4 a1_5 t173 t174 t175 t176 _ A18.out).mono ?_); rintro e w36 ⟨rfl, hb⟩; refine ⟨_, rfl, ?_⟩; replace BK169 := bk1 (by (with_reducible repeat (first | refine blk_drewN ?_ _ | refine blk_drew ?_ | refine blk_alloc ?_ _)); exact BK169.out) hb; replace BK170 := bk1 (by (with_reducible repeat (first | refine blk_drewN ?_ _ | refine blk_drew ?_ | refine blk_alloc ?_ _)); exact BK170.out) hb; replace HB := Aside0.mk (below_step (by repeat (first | (with_reducible first | exact HB.out | apply below_alloc | apply pw_below_drewN | apply below_drew1 | refine below_set ?_ GE169.out | refine below_set ?_ GE170.out) | exact HB.out)) hb); (try clear hb); (try clear hb2); (try clear hk); (try clear hi)) | ((with_reducible refine gate_dst (N := 5) rfl ?_); refine box_event ?hg (N := 5) ?hd (cs := #[.int .i64 0, .int .u64 0, .int .u64 0]) (t := 32) ?hr ?_; (case hd => rfl); (case hg => rfl); (case hr => first | (go_simp; done) | (go_simp; rfl)); intro gb177 hg w37 hbox hb; have BK177 := Aside0.mk (hbox); have GW177 := Aside0.mk ((by rw [hg]; exact (below_size (by repeat (first | (with_reducible first | exact HB.out | apply below_alloc | apply pw_below_drewN | apply below_drew1 | refine below_set ?_ GE169.out | refine below_set ?_ GE170.out) | exact HB.out))) : w.heap.size ≤ gb177)); have GE177 := Aside0.mk ((by rw [hg]; exact (below_size (by repeat (first | (with_reducible first | exact HB.out | apply below_alloc | apply pw_below_drewN | apply below_drew1 | refine below_set ?_ GE169.out | refine below_set ?_ GE170.out) | exact HB.out))) : w.heap.size ≤ gb177)); have NB169_177 := Aside0.mk ((by rw [hg]; exact Nat.ne_of_lt (blk_lt (g := gb169) (o := .cells #[.int .i64 a0_0, .int .u64 a0_1, .int .u64 a0_2, .int .i64 a0_3, .int .u64 a0_4, .int .u64 a0_5, .int .i64 a0_6, .int .i64 a0_7] 59 (0, 0)) (by (with_reducible repeat (first | refine blk_drewN ?_ _ | refine blk_drew ?_ | refine blk_alloc ?_ _)); exact BK169.out)) : gb169 ≠ gb177)); have NB177_169 := Aside0.mk ((by rw [hg]; exact Nat.ne_of_gt (blk_lt (g := gb169) (o := .cells #[.int .i64 a0_0, .int .u64 a0_1, .int .u64 a0_2, .int .i64 a0_3, .int .u64 a0_4, .int .u64 a0_5, .int .i64 a0_6, .int .i64 a0_7] 59 (0, 0)) (by (with_reducible repeat (first | refine blk_drewN ?_ _ | refine blk_drew ?_ | refine blk_alloc ?_ _)); exact BK169.out)) : gb177 ≠ gb169)); have NB170_177 := Aside0.mk ((by rw [hg]; exact Nat.ne_of_lt (blk_lt (g := gb170) (o := .cells #[.int .i64 a1_0, .int .u64 a1_1, .int .u64 a1_2, .int .i64 a1_3, .int .u64 a1_4, .int .u64 a1_5, .int .i64 a1_6, .int .i64 a1_7] 59 (0, 0)) (by (with_reducible repeat (first | refine blk_drewN ?_ _ | refine blk_drew ?_ | refine blk_alloc ?_ _)); exact BK170.out)) : gb170 ≠ gb177)); have NB177_170 := Aside0.mk ((by rw [hg]; exact Nat.ne_of_gt (blk_lt (g := gb170) (o := .cells #[.int .i64 a1_0, .int .u64 a1_1, .int .u64 a1_2, .int .i64 a1_3, .int .u64 a1_4, .int .u64 a1_5, .int .i64 a1_6, .int .i64 a1_7] 59 (0, 0)) (by (with_reducible repeat (first | refine blk_drewN ?_ _ | refine blk_drew ?_ | refine blk_alloc ?_ _)); exact BK170.out)) : gb177 ≠ gb170)); replace BK169 := bk1 (by (with_reducible repeat (first | refine blk_drewN ?_ _ | refine blk_drew ?_ | refine blk_alloc ?_ _)); exact BK169.out) hb; replace BK170 := bk1 (by (with_reducible repeat (first | refine blk_drewN ?_ _ | refine blk_drew ?_ | refine blk_alloc ?_ _)); exact BK170.out) hb; replace HB := Aside0.mk (below_step (by repeat (first | (with_reducible first | exact HB.out | apply below_alloc | apply pw_below_drewN | apply below_drew1 | refine below_set ?_ GE169.out | refine below_set ?_ GE170.out) | exact HB.out)) hb); clear hb hbox hg; have hnb38 := NB177_169.out; have hnc38 := NB169_177.out; have hnb39 := NB177_170.out; have hnc39 := NB170_177.out; obtain ⟨hcz40_0, hcz40_1, hcz40_2, hfz40_0, hfz40_1, hfz40_2⟩ := cl3 BK177.out; obtain ⟨hcz41_0, hcz41_1, hcz41_2, hcz41_3, hcz41_4, hcz41_5, hcz41_6, hcz41_7, hfz41_0, hfz41_1, hfz41_2, hfz41_3, hfz41_4, hfz41_5, hfz41_6, hfz41_7⟩ := cl8 BK169.out))
      go_ret
      exact ⟨by first | rfl | (simp [errW_none, errW_some] <;> rfl) | (simp [*, errW_none, errW_some] <;> rfl), by repeat (first | (with_reducible first | exact HB.out | apply below_alloc | apply pw_below_drewN | apply below_drew1 | refine below_set ?_ GE169.out | refine below_set ?_ GE170.out | refine below_set ?_ GE177.out) | exact HB.out)⟩
    ·rw [if_neg c19] at H
     have c19b0 : (t176 == 0) = false := beq_eq_false_iff_ne.mpr c19
     have c19b1 : (t176 != 0) = true := bne_iff_ne.mpr c19
     obtain rfl := Option.some.inj H
     have hnb42 := NB169_170.out
     have hnc42 := NB170_169.out
     obtain ⟨hcz43_0, hcz43_1, hcz43_2, hcz43_3, hcz43_4, hcz43_5, hcz43_6, hcz43_7, hfz43_0, hfz43_1, hfz43_2, hfz43_3, hfz43_4, hfz43_5, hfz43_6, hfz43_7⟩ := cl8 BK169.out
     obtain ⟨hcz44_0, hcz44_1, hcz44_2, hcz44_3, hcz44_4, hcz44_5, hcz44_6, hcz44_7, hfz44_0, hfz44_1, hfz44_2, hfz44_3, hfz44_4, hfz44_5, hfz44_6, hfz44_7⟩ := cl8 BK170.out
     go_wp2_with (first | ((with_reducible refine gate_callee (f := 87) rfl ?_); refine goesL_ (some 26) rfl rfl Try.func87 (by kernel_rfl) rfl #[.agg #[.int .i64 a0_3, .int .u64 a0_4, .int .u64 a0_5], .agg #[.int .i64 a1_3, .int .u64 a1_4, .int .u64 a1_5]] rfl (by (try simp only [List.map_toArray, List.map_cons, List.map_nil]); first | done | rfl | (simp only [List.length_drop, List.length_take]; rfl)) ?_; (with_reducible refine (vec_And.calls a0_3 a0_4 a0_5 a1_3 a1_4 a1_5 t173 t174 t175 t176 _ A18.out).mono ?_); rintro e w45 ⟨rfl, hb⟩; refine ⟨_, rfl, ?_⟩; replace BK169 := bk1 (by (with_reducible repeat (first | refine blk_drewN ?_ _ | refine blk_drew ?_ | refine blk_alloc ?_ _)); exact BK169.out) hb; replace BK170 := bk1 (by (with_reducible repeat (first | refine blk_drewN ?_ _ | refine blk_drew ?_ | refine blk_alloc ?_ _)); exact BK170.out) hb; replace HB := Aside0.mk (below_step (by repeat (first | (with_reducible first | exact HB.out | apply below_alloc | apply pw_below_drewN | apply below_drew1 | refine below_set ?_ GE169.out | refine below_set ?_ GE170.out) | exact HB.out)) hb); (try clear hb); (try clear hb2); (try clear hk); (try clear hi)) | ((with_reducible refine gate_dst (N := 5) rfl ?_); refine box_event ?hg (N := 5) ?hd (cs := #[.int .i64 0, .int .u64 0, .int .u64 0]) (t := 32) ?hr ?_; (case hd => rfl); (case hg => rfl); (case hr => first | (go_simp; done) | (go_simp; rfl)); intro gb177 hg w46 hbox hb; have BK177 := Aside0.mk (hbox); have GW177 := Aside0.mk ((by rw [hg]; exact (below_size (by repeat (first | (with_reducible first | exact HB.out | apply below_alloc | apply pw_below_drewN | apply below_drew1 | refine below_set ?_ GE169.out | refine below_set ?_ GE170.out) | exact HB.out))) : w.heap.size ≤ gb177)); have GE177 := Aside0.mk ((by rw [hg]; exact (below_size (by repeat (first | (with_reducible first | exact HB.out | apply below_alloc | apply pw_below_drewN | apply below_drew1 | refine below_set ?_ GE169.out | refine below_set ?_ GE170.out) | exact HB.out))) : w.heap.size ≤ gb177)); have NB169_177 := Aside0.mk ((by rw [hg]; exact Nat.ne_of_lt (blk_lt (g := gb169) (o := .cells #[.int .i64 a0_0, .int .u64 a0_1, .int .u64 a0_2, .int .i64 a0_3, .int .u64 a0_4, .int .u64 a0_5, .int .i64 a0_6, .int .i64 a0_7] 59 (0, 0)) (by (with_reducible repeat (first | refine blk_drewN ?_ _ | refine blk_drew ?_ | refine blk_alloc ?_ _)); exact BK169.out)) : gb169 ≠ gb177)); have NB177_169 := Aside0.mk ((by rw [hg]; exact Nat.ne_of_gt (blk_lt (g := gb169) (o := .cells #[.int .i64 a0_0, .int .u64 a0_1, .int .u64 a0_2, .int .i64 a0_3, .int .u64 a0_4, .int .u64 a0_5, .int .i64 a0_6, .int .i64 a0_7] 59 (0, 0)) (by (with_reducible repeat (first | refine blk_drewN ?_ _ | refine blk_drew ?_ | refine blk_alloc ?_ _)); exact BK169.out)) : gb177 ≠ gb169)); have NB170_177 := Aside0.mk ((by rw [hg]; exact Nat.ne_of_lt (blk_lt (g := gb170) (o := .cells #[.int .i64 a1_0, .int .u64 a1_1, .int .u64 a1_2, .int .i64 a1_3, .int .u64 a1_4, .int .u64 a1_5, .int .i64 a1_6, .int .i64 a1_7] 59 (0, 0)) (by (with_reducible repeat (first | refine blk_drewN ?_ _ | refine blk_drew ?_ | refine blk_alloc ?_ _)); exact BK170.out)) : gb170 ≠ gb177)); have NB177_170 := Aside0.mk ((by rw [hg]; exact Nat.ne_of_gt (blk_lt (g := gb170) (o := .cells #[.int .i64 a1_0, .int .u64 a1_1, .int .u64 a1_2, .int .i64 a1_3, .int .u64 a1_4, .int .u64 a1_5, .int .i64 a1_6, .int .i64 a1_7] 59 (0, 0)) (by (with_reducible repeat (first | refine blk_drewN ?_ _ | refine blk_drew ?_ | refine blk_alloc ?_ _)); exact BK170.out)) : gb177 ≠ gb170)); replace BK169 := bk1 (by (with_reducible repeat (first | refine blk_drewN ?_ _ | refine blk_drew ?_ | refine blk_alloc ?_ _)); exact BK169.out) hb; replace BK170 := bk1 (by (with_reducible repeat (first | refine blk_drewN ?_ _ | refine blk_drew ?_ | refine blk_alloc ?_ _)); exact BK170.out) hb; replace HB := Aside0.mk (below_step (by repeat (first | (with_reducible first | exact HB.out | apply below_alloc | apply pw_below_drewN | apply below_drew1 | refine below_set ?_ GE169.out | refine below_set ?_ GE170.out) | exact HB.out)) hb); clear hb hbox hg; have hnb47 := NB177_169.out; have hnc47 := NB169_177.out; have hnb48 := NB177_170.out; have hnc48 := NB170_177.out; obtain ⟨hcz49_0, hcz49_1, hcz49_2, hfz49_0, hfz49_1, hfz49_2⟩ := cl3 BK177.out))
     go_ret
     exact ⟨by first | rfl | (simp [errW_none, errW_some] <;> rfl) | (simp [*, errW_none, errW_some] <;> rfl), by repeat (first | (with_reducible first | exact HB.out | apply below_alloc | apply pw_below_drewN | apply below_drew1 | refine below_set ?_ GE169.out | refine below_set ?_ GE170.out | refine below_set ?_ GE177.out) | exact HB.out)⟩
-- EXT shunter/shunterref01.Of ROUNDS=0 MAKING=1
-- EXT shunter/shunterref01.Halves ROUNDS=0 MAKING=1
-- EXT shunter/shunterref01.Len ROUNDS=0 MAKING=1
-- EXT shunter/shunterref02.Of ROUNDS=0 MAKING=1
-- EXT shunter/shunterref02.Bits ROUNDS=0 MAKING=1
/-- The cells of a row of 128 bools. -/
def brow (f : Nat → Bool) : Array Value := Array.ofFn (n := 128) fun j => .bool (f j.val)
theorem brow_get (f : Nat → Bool) (j : Nat) (h : j < 128) : (brow f)[j]? = some (.bool (f j)) := by unfold brow; simp [h]
theorem brow_size (f : Nat → Bool) : (brow f).size = 128 := by simp [brow]
theorem brow_congr {f g : Nat → Bool} (h : ∀ j, j < 128 → f j = g j) : brow f = brow g := by
 unfold brow
 congr 1
 funext j
 rw [h j.val j.isLt]
theorem brow_set (f : Nat → Bool) (i : Nat) (b : Bool) : (brow f).setIfInBounds i (.bool b) = brow (fun j => if j = i then b else f j) := by
 apply Array.ext
 ·simp [brow_size]
 ·intro j h1 h2
  rw [brow_size] at h2
  rw [← Option.some_inj, ← Array.getElem?_eq_getElem, ← Array.getElem?_eq_getElem, brow_get _ _ h2, Array.getElem?_setIfInBounds, brow_get _ _ h2]
  simp only [brow_size]
  by_cases h3 : i = j
  ·subst h3; rw [if_pos rfl, if_pos h2, if_pos rfl]
  ·rw [if_neg h3, if_neg (fun h => h3 h.symm)]
theorem brow_zero : brow (fun _ => false) = Try.zeroCells125 := by kernel_rfl
theorem info125 : (Try.prog.info? 125).map (·.size) = some 128 := by kernel_rfl
theorem brow_info (f : Nat → Bool) : (Try.prog.info? 125).map (·.size) = some (brow f).size := by rw [brow_size]; exact info125
theorem brow_one (f : Nat → Bool) : (brow f).all (·.oneCell') = true := by
 rw [Array.all_eq_true]
 intro j hj
 have := brow_get f j (by rw [brow_size] at hj; exact hj)
 rw [Array.getElem?_eq_getElem hj] at this
 rw [Option.some.inj this]
 rfl
def hvD (f : Nat → Bool) : Nat → Int
 | 0 => 0
 | d + 1 => 2 * hvD f d + if f (63 - d) then 1 else 0
theorem hvD_nonneg (f : Nat → Bool) : ∀ d, 0 ≤ hvD f d
 | 0 => by simp [hvD]
 | d + 1 => by have := hvD_nonneg f d; simp only [hvD]; split <;> omega
theorem hvD_lt (f : Nat → Bool) : ∀ d, hvD f d < 2 ^ d
 | 0 => by simp [hvD]
 | d + 1 => by have := hvD_lt f d; simp only [hvD, Int.pow_succ]; split <;> omega
theorem hvD_dbl (f : Nat → Bool) (d : Nat) (h : d < 64) : IntKind.u64.wrap (2 * hvD f d) = 2 * hvD f d := by
 have h1 := hvD_nonneg f d
 have h2 := hvD_lt f d
 have h3 : (2 : Int) ^ d ≤ 2 ^ 63 := by exact_mod_cast Nat.pow_le_pow_right (by decide) (by omega)
 rw [IntKind.wrap_u64]
 omega
theorem hvD_inc (f : Nat → Bool) (d : Nat) (h : d < 64) (hf : f (63 - d) = true) : IntKind.u64.wrap (2 * hvD f d + 1) = hvD f (d + 1) := by
 have h1 := hvD_nonneg f d
 have h2 := hvD_lt f d
 have h3 : (2 : Int) ^ d ≤ 2 ^ 63 := by exact_mod_cast Nat.pow_le_pow_right (by decide) (by omega)
 rw [IntKind.wrap_u64]
 simp only [hvD, hf, if_true]
 omega
theorem hvD_same (f : Nat → Bool) (d : Nat) (hf : f (63 - d) = false) : 2 * hvD f d = hvD f (d + 1) := by simp [hvD, hf]
set_option maxHeartbeats 8000000 in
set_option maxRecDepth 100000 in
theorem shunterref01_Halves.calls0 (f : Nat → Bool) (w : World) :
 Calls Try.prog 90 #[.agg (brow f)] w fun e w' => e = .returned (.tuple #[.int .u64 (hvD (fun j => f (j + 64)) 64), .int .u64 (hvD f 64)]) ∧ Below w.heap.size w w' := by
 go_enter Try.func90, Try.ntmps90
 go_wp2
 go_loop [4, 5, 6] (fun v4 v5 v6 => ∃ d : Nat, d ≤ 64 ∧ v6 = .int .i64 (63 - d) ∧ v4 = .int .u64 (hvD (fun j => f (j + 64)) d) ∧ v5 = .int .u64 (hvD f d)) (fun _ _ v6 => (intOf v6 + 1).toNat)
 case atStart => exact ⟨0, by omega, rfl, rfl, rfl⟩
 case round =>
  obtain ⟨d, hd, rfl, rfl, rfl⟩ := hrel
  by_cases hlt : d < 64
  ·obtain ⟨i, hi⟩ : ∃ i : Nat, (63 - (d : Int)) = i := ⟨63 - d, by omega⟩
   rw [hi]
   have hid : i = 63 - d := by omega
   have hi64 : i < 64 := by omega
   have hb : (w.alloc (Obj.cells (brow f) 125)).heap[w.heap.size]? = some (.cells (brow f) 125 (0, 0)) := blk_new w _
   have hc1 : (w.alloc (Obj.cells (brow f) 125)).cell? ⟨w.heap.size, i, none⟩ = some (.bool (f i)) := (blk_cell hb i).trans (brow_get _ _ (by omega))
   have hc2 : (w.alloc (Obj.cells (brow f) 125)).cell? ⟨w.heap.size, i + 64, none⟩ = some (.bool (f (i + 64))) := (blk_cell hb (i + 64)).trans (brow_get _ _ (by omega))
   have H1 := Aside0.mk (hvD_dbl (fun j => f (j + 64)) d hlt)
   have H2 := Aside0.mk (hvD_dbl f d hlt)
   have H3 := Aside0.mk hid
   clear hb hid hi
   cases h1 : f (i + 64) <;> cases h2 : f i <;> rw [h1] at hc2 <;> rw [h2] at hc1 <;> replace h1 := Aside0.mk h1 <;> replace h2 := Aside0.mk h2 <;> go_wp2
   all_goals
    go_round
    case measure => simp [intOf] <;> omega
    case rel =>
     have e3 := H3.out
     have g1 : i + 64 = 63 - d + 64 := by omega
     refine ⟨d + 1, by omega, ?_, ?_, ?_⟩
     ·congr 1; push_cast; omega
     ·have h1' := h1.out
      rw [H3.out] at h1'
      first | rw [H1.out, hvD_same (fun j => f (j + 64)) d h1'] | rw [H1.out, hvD_inc (fun j => f (j + 64)) d hlt h1']
     ·have h2' := h2.out
      rw [H3.out] at h2'
      first | rw [H2.out, hvD_same f d h2'] | rw [H2.out, hvD_inc f d hlt h2']
  ·obtain rfl : d = 64 := by omega
   go_wp2
   go_ret2
   exact ⟨rfl, below_alloc (Below.refl _ _) _⟩
def shunterref01_Halves.f (f : Nat → Bool) : Option (Int × Int) := some (hvD (fun j => f (j + 64)) 64, hvD f 64)
theorem shunterref01_Halves.calls (f : Nat → Bool) (r1 r2 : Int) (w : World) (h : shunterref01_Halves.f f = some (r1, r2)) :
 Calls Try.prog 90 #[.agg (brow f)] w fun e w' => e = .returned (.tuple #[.int .u64 r1, .int .u64 r2]) ∧ Below w.heap.size w w' := by
 unfold shunterref01_Halves.f at h
 simp only [Option.some.injEq, Prod.mk.injEq] at h
 obtain ⟨rfl, rfl⟩ := h
 exact shunterref01_Halves.calls0 f w
def topLen (f : Nat → Bool) : Nat → Nat
 | 0 => 0
 | n + 1 => if f n then n + 1 else topLen f n
set_option maxHeartbeats 8000000 in
set_option maxRecDepth 100000 in
theorem shunterref01_Len.calls0 (f : Nat → Bool) (w : World) :
 Calls Try.prog 71 #[.agg (brow f)] w fun e w' => e = .returned (.int .i64 (topLen f 128)) ∧ Below w.heap.size w w' := by
 go_enter Try.func71, Try.ntmps71
 go_wp2
 go_loop [3] (fun v3 => ∃ d : Nat, d ≤ 128 ∧ v3 = .int .i64 ((d : Int) - 1) ∧ Aside0 (topLen f 128 = topLen f d)) (fun v3 => (intOf v3 + 1).toNat)
 case atStart => exact ⟨128, by omega, rfl, ⟨rfl⟩⟩
 case round =>
  obtain ⟨d, hd, rfl, HT⟩ := hrel
  cases d with
  | zero =>
   go_wp2
   go_ret
   exact ⟨by rw [HT.out]; rfl, below_alloc (Below.refl _ _) _⟩
  | succ d =>
   have e : (((d + 1 : Nat) : Int) - 1) = (d : Int) := by omega
   rw [e]
   clear e
   have hb : (w.alloc (Obj.cells (brow f) 125)).heap[w.heap.size]? = some (.cells (brow f) 125 (0, 0)) := blk_new w _
   have hc1 : (w.alloc (Obj.cells (brow f) 125)).cell? ⟨w.heap.size, d, none⟩ = some (.bool (f d)) := (blk_cell hb d).trans (brow_get _ _ (by omega))
   clear hb
   cases h1 : f d <;> rw [h1] at hc1 <;> replace h1 := Aside0.mk h1 <;> go_wp2
   ·go_round
    case measure => simp [intOf] <;> omega
    case rel => exact ⟨d, by omega, rfl, ⟨by rw [HT.out]; simp [topLen, h1.out]⟩⟩
   ·go_ret
    exact ⟨by rw [HT.out]; simp [topLen, h1.out], below_alloc (Below.refl _ _) _⟩
def shunterref01_Len.f (f : Nat → Bool) : Option Int := some (topLen f 128)
theorem shunterref01_Len.calls (f : Nat → Bool) (r : Int) (w : World) (h : shunterref01_Len.f f = some r) :
 Calls Try.prog 71 #[.agg (brow f)] w fun e w' => e = .returned (.int .i64 r) ∧ Below w.heap.size w w' := by
 unfold shunterref01_Len.f at h
 obtain rfl := Option.some.inj h
 exact shunterref01_Len.calls0 f w
def bitAt (hi lo : Int) (j : Nat) : Bool := if j < 64 then (lo / 2 ^ j % 2 == 1) else (hi / 2 ^ (j - 64) % 2 == 1)
theorem ofRow_succ (hi lo : Int) (i : Nat) (h : i < 64) : ((brow fun j => decide (j % 64 < i) && bitAt hi lo j).setIfInBounds i (.bool (lo / 2 ^ i % 2 == 1))).setIfInBounds (i + 64) (.bool (hi / 2 ^ i % 2 == 1)) = brow fun j => decide (j % 64 < i + 1) && bitAt hi lo j := by
 rw [brow_set, brow_set]
 refine brow_congr fun j hj => ?_
 by_cases h3 : j = i + 64
 ·subst h3
  rw [if_pos rfl, show (i + 64) % 64 = i by omega, decide_eq_true (by omega)]
  simp [bitAt, show ¬ (i + 64 < 64) by omega]
 ·rw [if_neg h3]
  by_cases h4 : j = i
  ·subst h4
   rw [if_pos rfl, show j % 64 = j by omega, decide_eq_true (by omega)]
   simp [bitAt, h]
  ·rw [if_neg h4]
   congr 1
   rw [Bool.eq_iff_iff]
   simp
   omega
theorem div_pow_succ (a : Int) (i : Nat) : a / 2 ^ i / 2 = a / 2 ^ (i + 1) := by
 rw [Int.pow_succ, Int.ediv_ediv_of_nonneg (Int.le_of_lt (Int.pow_pos (by decide)))]
theorem half_u64 {a : Int} (i : Nat) (h0 : 0 ≤ a) (h1 : a < 2 ^ 64) : IntKind.u64.wrap ((a / 2 ^ i).tdiv 2) = a / 2 ^ (i + 1) := by
 have hp : (0 : Int) < 2 ^ i := Int.pow_pos (by decide)
 have h2 : 0 ≤ a / 2 ^ i := Int.ediv_nonneg h0 (Int.le_of_lt hp)
 rw [Int.tdiv_eq_ediv_of_nonneg h2, div_pow_succ]
 have h3 : 0 ≤ a / 2 ^ (i + 1) := Int.ediv_nonneg h0 (Int.le_of_lt (Int.pow_pos (by decide)))
 have h4 : a / 2 ^ (i + 1) ≤ a := Int.ediv_le_self _ h0
 generalize a / 2 ^ (i + 1) = b at *
 rw [IntKind.wrap_u64 b]
 omega
def u64s (a b : Int) : Prop := 0 ≤ a ∧ a < 2 ^ 64 ∧ 0 ≤ b ∧ b < 2 ^ 64
instance (a b : Int) : Decidable (u64s a b) := by unfold u64s; infer_instance
def shunterref01_Of.f (hi lo : Int) : Option (Nat → Bool) := if u64s hi lo then some (bitAt hi lo) else none
set_option maxHeartbeats 8000000 in
set_option maxRecDepth 100000 in
theorem shunterref01_Of.calls (hi lo : Int) (r : Nat → Bool) (w : World) (h : shunterref01_Of.f hi lo = some r) :
 Calls Try.prog 72 #[.int .u64 hi, .int .u64 lo] w fun e w' => e = .returned (.agg (brow r)) ∧ Below w.heap.size w w' := by
 unfold shunterref01_Of.f at h
 split at h
 case isFalse => cases h
 rename_i hu
 obtain ⟨hh, hh2, hl, hl2⟩ := hu
 obtain rfl := Option.some.inj h
 clear h
 have hh2 := Aside0.mk hh2
 have hl2 := Aside0.mk hl2
 go_enter Try.func72, Try.ntmps72
 go_wp2
 go_loopw [0, 1, 6] (fun v0 v1 v6 w' => ∃ i : Nat, i ≤ 64 ∧ v6 = .int .i64 i ∧ v1 = .int .u64 (lo / 2 ^ i) ∧ v0 = .int .u64 (hi / 2 ^ i) ∧ Aside0 (w'.heap[w.heap.size + 1]? = some (.cells (brow fun j => decide (j % 64 < i) && bitAt hi lo j) 125 (0, 0))) ∧ Aside0 (w'.heap[w.heap.size]? = some (.cells Try.zeroCells125 125 (0, 0))) ∧ Aside0 (Below w.heap.size w w')) (fun _ _ v6 _ => (64 - intOf v6).toNat)
 case atStart =>
  refine ⟨0, by omega, rfl, by simp, by simp, ⟨?_⟩, ⟨?_⟩, ⟨?_⟩⟩
  ·rw [show (fun j => decide (j % 64 < 0) && bitAt hi lo j) = fun _ => false from funext fun j => by simp, brow_zero]; simpa using blk_new (w.alloc _) _
  ·exact blk_alloc (blk_new w _) _
  ·exact below_alloc (below_alloc (Below.refl _ _) _) _
 case round =>
  obtain ⟨i, hi64, rfl, rfl, rfl, H5, H4, HB⟩ := hrel
  by_cases hlt : i < 64
  ·have hc1 : wr.cell? ⟨w.heap.size + 1, i, none⟩ = some (.bool (decide (i % 64 < i) && bitAt hi lo i)) := (blk_cell H5.out i).trans (brow_get _ _ (by omega))
   have hc2 : wr.cell? ⟨w.heap.size + 1, i + 64, none⟩ = some (.bool (decide ((i + 64) % 64 < i) && bitAt hi lo (i + 64))) := (blk_cell H5.out (i + 64)).trans (brow_get _ _ (by omega))
   have hf : ∀ j, wr.frozen? ⟨w.heap.size + 1, j, none⟩ = false := blk_frozen H5.out
   have hp1 : 0 ≤ lo / 2 ^ i := Int.ediv_nonneg hl (Int.le_of_lt (Int.pow_pos (by decide)))
   have hp2 : 0 ≤ hi / 2 ^ i := Int.ediv_nonneg hh (Int.le_of_lt (Int.pow_pos (by decide)))
   go_wp2
   go_roundw
   case measure => simp [intOf]; omega
   case rel =>
    refine ⟨i + 1, by omega, by go_num, by rw [half_u64 i hl hl2.out], by rw [half_u64 i hh hh2.out], ⟨?_⟩, ⟨?_⟩, ⟨?_⟩⟩
    ·exact blk_put (blk_set H5.out i _) (i + 64) _ (ofRow_succ hi lo i hlt)
    ·exact blk_far (blk_far H4.out (by simp) _) (by simp) _
    ·exact below_set (below_set HB.out (by omega)) (by omega)
  ·obtain rfl : i = 64 := by omega
   have e : brow (fun j => decide (j % 64 < 64) && bitAt hi lo j) = brow (bitAt hi lo) := brow_congr fun j _ => by simp [Nat.mod_lt]
   replace H5 := Aside0.mk (e ▸ H5.out)
   clear e
   go_wp2_with (first | (refine wpList_load_row rfl 125 (.tmp 5) rfl (w.heap.size + 1) rfl 125 _ (0, 0) _ H5.out Try.underlying125 rfl (brow_info _) ?_) | (refine wpList_store_row rfl 125 (.tmp 4) (.tmp 26) rfl w.heap.size _ rfl rfl 125 _ H4.out (brow_info _) (by rw [brow_size]; kernel_rfl) (brow_one _) ?_))
   refine bodyPost_ret (results_cell_row rfl _ _ w.heap.size 125 _ (0, 0) _ rfl (setRow_heap _ _ _ _ _ _ H4.out) Try.underlying125 rfl (brow_info _)) rfl ⟨rfl, ?_⟩
   exact below_setRow HB.out (Nat.le_refl _) _
def shunterref02_Of.f (l0 : List Bool) : Option (Int × Int × Int) :=
 if l0.length < 4611686018427387904 then some (l0.length, hvD (fun j => l0[j + 64]?.getD false) 64, hvD (fun j => l0[j]?.getD false) 64) else none
def upTo (l : List Bool) (i j : Nat) : Bool := decide (j < i) && l[j]?.getD false
theorem upTo_all (l : List Bool) (i j : Nat) (h : l.length ≤ i ∨ j < i) : upTo l i j = l[j]?.getD false := by
 unfold upTo
 rcases h with h | h
 ·by_cases hj : j < i
  ·simp [hj]
  ·simp [hj]; rw [List.getElem?_eq_none (by omega)]; rfl
 ·simp [h]
theorem upTo_succ (l : List Bool) (i : Nat) : brow (fun j => if j = i then l[i]?.getD false else upTo l i j) = brow (upTo l (i + 1)) := by
 congr 1; funext j
 unfold upTo
 by_cases h : j = i
 ·subst h; simp
 ·rw [if_neg h]
  congr 1
  rw [Bool.eq_iff_iff]; simp; omega
set_option maxHeartbeats 8000000 in
set_option maxRecDepth 100000 in
theorem shunterref02_Of.calls (A0 : Option Addr) (c0 : Nat) (l0 : List Bool) (r1 r2 r3 : Int) (w : World) (hr0 : Kd.C Kd.bool w A0 l0.length l0) (hc0 : l0.length ≤ c0) (h : shunterref02_Of.f l0 = some (r1, r2, r3)) :
 Calls Try.prog 37 #[.slice A0 l0.length c0] w fun e w' => e = .returned (.agg #[.int .i64 r1, .int .u64 r2, .int .u64 r3]) ∧ Below w.heap.size w w' := by
 unfold shunterref02_Of.f at h
 split at h
 case isFalse => cases h
 rename_i hlen
 simp only [Option.some.injEq, Prod.mk.injEq] at h
 obtain ⟨rfl, rfl, rfl⟩ := h
 have HR0 := Aside0.mk hr0
 have HC0 := Aside0.mk hc0
 have HL := Aside0.mk hlen
 clear hr0 hc0 hlen
 go_enter Try.func37, Try.ntmps37
 go_wp2
 go_loopw [4] (fun v4 w' => ∃ i : Nat, i ≤ l0.length ∧ i ≤ 128 ∧ v4 = .int .i64 i ∧ Aside0 (w'.heap[w.heap.size + 1]? = some (.cells (brow (upTo l0 i)) 125 (0, 0))) ∧ Aside0 (w'.heap[w.heap.size]? = some (.cells #[.int .i64 0, .int .u64 0, .int .u64 0] 32 (0, 0))) ∧ Aside0 (Below w.heap.size w w')) (fun v4 _ => (128 - intOf v4).toNat)
 case atStart =>
  refine ⟨0, by omega, by omega, rfl, ⟨?_⟩, ⟨?_⟩, ⟨?_⟩⟩
  ·rw [show upTo l0 0 = fun _ => false from funext fun j => by simp [upTo], brow_zero]; simpa using blk_new (w.alloc _) _
  ·exact blk_alloc (blk_new w _) _
  ·exact below_alloc (below_alloc (Below.refl _ _) _) _
 case round =>
  obtain ⟨i, hil, hi128, rfl, H3, H2, HB⟩ := hrel
  by_cases hlt : i < l0.length ∧ i < 128
  ·obtain ⟨h1, h2⟩ := hlt
   have p1 : 0 ≤ (i : Int) := by omega
   have q1 : (i : Int) < (l0.length : Int) := by omega
   obtain ⟨ad, ead, hx⟩ := Kd.at_bool HR0.out i p1 q1
   cases ead
   replace hx := (HB.out.cell (World.block_lt_of_cell? w _ hx)).trans hx
   rw [Int.toNat_natCast] at hx
   have hc1 : wr.cell? ⟨w.heap.size + 1, i, none⟩ = some (.bool (upTo l0 i i)) := (blk_cell H3.out i).trans (brow_get _ _ (by omega))
   have hf : wr.frozen? ⟨w.heap.size + 1, i, none⟩ = false := blk_frozen H3.out i
   have hd : decide ((i : Int) < (l0.length : Int)) = true := decide_eq_true q1
   go_wp2
   go_roundw
   case measure => simp [intOf] <;> omega
   case rel =>
    refine ⟨i + 1, by omega, by omega, by go_num, ⟨?_⟩, ⟨?_⟩, ⟨?_⟩⟩
    ·refine blk_put H3.out i _ ?_
     rw [← upTo_succ, ← brow_set]
     simp [rdOf]
    ·exact blk_far H2.out (by simp) _
    ·exact below_set HB.out (by omega)
  ·have HU : Aside0 (brow (upTo l0 i) = brow (fun j => l0[j]?.getD false)) := ⟨brow_congr fun j hj => upTo_all l0 i j (by omega)⟩
   have HF : Aside0 (l0.length = i ∨ i = 128 ∧ 128 ≤ l0.length) := ⟨by omega⟩
   have H3' := Aside0.mk (show wr.heap[w.heap.size + 1]? = some (.cells (brow (fun j => l0[j]?.getD false)) 125 (0, 0)) from HU.out ▸ H3.out)
   clear H3 hlt
   have HB' := Aside0.mk HB.out
   by_cases hd : (i : Int) < (l0.length : Int)
   ·obtain rfl : i = 128 := by have := HF.out; omega
    replace hd : decide ((128 : Int) < (l0.length : Int)) = true := decide_eq_true (by omega)
    go_wp2_with (first | (refine wpList_load_row rfl 125 (.tmp 3) rfl (w.heap.size + 1) rfl 125 _ (0, 0) _ H3'.out Try.underlying125 rfl (brow_info _) ?_) | (go_at_call 90; refine (shunterref01_Halves.calls0 _ _).mono ?_; rintro e w1 ⟨rfl, hb1⟩; have HB1 := Aside0.mk (below_step HB.out hb1); have H2' := Aside0.mk (blk_below H2.out hb1); have k0 : w1.cell? ⟨w.heap.size, 0, none⟩ = some (.int .i64 0) := blk_cell H2'.out 0; have k1 : w1.cell? ⟨w.heap.size, 1, none⟩ = some (.int .u64 0) := blk_cell H2'.out 1; have k2 : w1.cell? ⟨w.heap.size, 2, none⟩ = some (.int .u64 0) := blk_cell H2'.out 2; have kf : ∀ j, w1.frozen? ⟨w.heap.size, j, none⟩ = false := blk_frozen H2'.out; clear hb1))
    refine bodyPost_ret (results_cell_row rfl _ _ w.heap.size 32 _ (0, 0) _ rfl (blk_set (blk_set (blk_set H2'.out 0 _) 1 _) 2 _) Try.underlying32 rfl (by kernel_rfl)) rfl ⟨rfl, ?_⟩
    exact below_set (below_set (below_set HB1.out (Nat.le_refl _)) (Nat.le_refl _)) (Nat.le_refl _)
   ·replace hd : decide (i < l0.length) = false := decide_eq_false (by omega)
    go_wp2_with (first | (refine wpList_load_row rfl 125 (.tmp 3) rfl (w.heap.size + 1) rfl 125 _ (0, 0) _ H3'.out Try.underlying125 rfl (brow_info _) ?_) | (go_at_call 90; refine (shunterref01_Halves.calls0 _ _).mono ?_; rintro e w1 ⟨rfl, hb1⟩; have HB1 := Aside0.mk (below_step HB.out hb1); have H2' := Aside0.mk (blk_below H2.out hb1); have k0 : w1.cell? ⟨w.heap.size, 0, none⟩ = some (.int .i64 0) := blk_cell H2'.out 0; have k1 : w1.cell? ⟨w.heap.size, 1, none⟩ = some (.int .u64 0) := blk_cell H2'.out 1; have k2 : w1.cell? ⟨w.heap.size, 2, none⟩ = some (.int .u64 0) := blk_cell H2'.out 2; have kf : ∀ j, w1.frozen? ⟨w.heap.size, j, none⟩ = false := blk_frozen H2'.out; clear hb1))
    refine bodyPost_ret (results_cell_row rfl _ _ w.heap.size 32 _ (0, 0) _ rfl (blk_set (blk_set (blk_set H2'.out 0 _) 1 _) 2 _) Try.underlying32 rfl (by kernel_rfl)) rfl ⟨rfl, ?_⟩
    exact below_set (below_set (below_set HB1.out (Nat.le_refl _)) (Nat.le_refl _)) (Nat.le_refl _)
def shunterref02_Bits.f (a0_0 a0_1 a0_2 : Int) : Option (List Bool) :=
 if u64s a0_1 a0_2 then some ((List.range (min a0_0.toNat 128)).map (bitAt a0_1 a0_2)) else none
theorem info4x : (Try.prog.info? 4).map (fun i => (i.zero, i.size, i.bytes)) = some (some (.bool false), 1, 1) := by kernel_rfl
set_option maxHeartbeats 400000 in
set_option maxRecDepth 100000 in
theorem shunterref02_Bits.calls (a0_0 a0_1 a0_2 : Int) (r : List Bool) (w : World) (h : shunterref02_Bits.f a0_0 a0_1 a0_2 = some r) :
 Calls Try.prog 36 #[.agg #[.int .i64 a0_0, .int .u64 a0_1, .int .u64 a0_2]] w fun e w' => ∃ v0_ : Value, e = .returned (v0_) ∧ Kd.R Kd.bool 4 w' w.heap.size (fun _ => True) v0_ r ∧ Below w.heap.size w w' := by
 unfold shunterref02_Bits.f at h
 split at h
 case isFalse => cases h
 rename_i hu
 obtain rfl := Option.some.inj h
 clear h
 have HO := Aside0.mk (show shunterref01_Of.f a0_1 a0_2 = some (bitAt a0_1 a0_2) from if_pos hu)
 clear hu
 go_enter Try.func36, Try.ntmps36
 go_wp2_with (first | ((with_reducible refine gate_dst (N := 3) rfl ?_); refine box_event ?hg (N := 3) ?hd (cs := Try.zeroCells125) (t := 125) ?hr ?_; (case hd => rfl); (case hg => rfl); (case hr => first | (go_simp; done) | (go_simp; rfl)); intro g hg w3 hbox hb; have HB3 := Aside0.mk (below_step HB1.out hb); have H3 := Aside0.mk (blk_below H1.out hb); have HG := Aside0.mk (show w.heap.size + 1 ≤ g by rw [hg]; exact Nat.le_of_lt_succ (by have := blk_lt H1.out; omega)); have HX := Aside0.mk hbox; clear hb hg hbox HB1 H1) | ((with_reducible refine gate_store (t := 125) (p := 3) (v := .tmp 10) rfl ?_); refine wpList_store_row rfl 125 (.tmp 3) (.tmp 10) rfl g (brow _) rfl rfl 125 _ HX.out (brow_info _) (by rw [brow_size]; kernel_rfl) (brow_one _) ?_) | (go_at_call 72; refine (shunterref01_Of.calls _ _ _ _ HO.out).mono ?_; rintro e w1 ⟨rfl, hb1⟩; have HB1 := Aside0.mk (below_step (below_alloc (Below.refl _ _) _) hb1); have H1 := Aside0.mk (blk_below (blk_new w _) hb1); clear hb1))
 have HBB := Aside0.mk (below_setRow HB3.out (show w.heap.size ≤ g by have := HG.out; omega) (brow (bitAt a0_1 a0_2)))
 have HXX := Aside0.mk (setRow_heap w3 g _ (brow (bitAt a0_1 a0_2)) 125 (0, 0) HX.out)
 have HPP := Aside0.mk ((setRow_other w3 g w.heap.size (brow (bitAt a0_1 a0_2)) (by have := HG.out; omega)).trans H3.out)
 go_loopw [4, 5] (fun v4 v5 w' => ∃ i : Nat, i ≤ min a0_0.toNat 128 ∧ v5 = .int .i64 i ∧ Aside0 (w'.heap[g]? = some (.cells (brow (bitAt a0_1 a0_2)) 125 (0, 0))) ∧ Aside0 (w'.heap[w.heap.size]? = some (.cells #[.int .i64 a0_0, .int .u64 a0_1, .int .u64 a0_2] 32 (0, 0))) ∧ Aside0 (Kd.R Kd.bool 4 w' w.heap.size (fun k => k ≠ g ∧ k ≠ w.heap.size) v4 ((List.range i).map (bitAt a0_1 a0_2))) ∧ Aside0 (Below w.heap.size w w')) (fun _ v5 _ => (128 - intOf v5).toNat)
 case atStart => exact ⟨0, by omega, rfl, HXX, HPP, ⟨Kd.R_nil _ _ _ _ _⟩, HBB⟩
 case round =>
  clear HBB HXX HPP HX H3 HB3
  obtain ⟨i, hi, rfl, HX, HP, HR, HB⟩ := hrel
  have c0 : wr.cell? ⟨w.heap.size, 0, none⟩ = some (.int .i64 a0_0) := blk_cell HP.out 0
  by_cases hlt : i < min a0_0.toNat 128
  ·have h1 : (i : Int) < a0_0 := by omega
   have h2 : i < 128 := by omega
   have cg : wr.cell? ⟨g, i, none⟩ = some (.bool (bitAt a0_1 a0_2 i)) := (blk_cell HX.out i).trans (brow_get _ _ h2)
   go_wp2_with (first | ((with_reducible refine gate_builtin (b := .append) (xs := #[.tmp 21, .tmp 25]) rfl ?_); at_builtin; refine Kd.R_append Kd.bool (w0 := w) w.heap.size rfl (.tmp 21) (.tmp 25) 63 4 (.bool false) 1 rfl Try.underlying63 info4x rfl (by decide) (by omega) u4 ((List.range i).map (bitAt a0_1 a0_2)) (bitAt a0_1 a0_2 i) [.bool (bitAt a0_1 a0_2 i)] (fun k => k ≠ g ∧ k ≠ w.heap.size) (fun _ => False) rfl rfl ?aP (fun _ hk => hk.elim) ?aF ?aO ?aB ?aS ?aL ?_; (case aP => exact rfl); (case aB => exact HB.out); (case aF => exact fun k hk => ⟨by have := blk_lt HX.out; omega, by have := blk_lt HP.out; omega⟩); (case aO => exact HR.out); (case aS => exact below_size HB.out); (case aL => simp; omega); intro v7 w7 ho hb hg hat; have HR7 := Aside0.mk ho; have HB7 := Aside0.mk hb; have HX7 := Aside0.mk (blk_grown HX.out hg (fun he => (HR.out.1 g he.symm).1 rfl)); have HP7 := Aside0.mk (blk_grown HP.out hg (fun he => (HR.out.1 w.heap.size he.symm).2 rfl)); clear ho hb hg hat))
   go_roundw
   case measure => simp [intOf] <;> omega
   case rel => exact ⟨i + 1, by omega, by go_num, HX7, HP7, ⟨by rw [List.range_succ, List.map_append]; exact HR7.out⟩, HB7⟩
  ·have HE := Aside0.mk (show i = min a0_0.toNat 128 by omega)
   clear hi hlt
   by_cases h1 : (i : Int) < a0_0
   ·obtain rfl : i = 128 := by have := HE.out; omega
    replace h1 : decide ((128 : Int) < a0_0) = true := decide_eq_true (by omega)
    go_wp2
    go_ret
    exact ⟨_, rfl, HE.out ▸ Kd.R_mono HR.out (fun _ _ => trivial), HB.out⟩
   ·replace h1 : decide ((i : Int) < a0_0) = false := decide_eq_false h1
    go_wp2
    go_ret
    exact ⟨_, rfl, HE.out ▸ Kd.R_mono HR.out (fun _ _ => trivial), HB.out⟩
end Go.Proofs.Ytfdbcnbakchcgaa.XT
