import Derived.Test.YtfdbcnbakchcgaaSq
import Derived.Test.YtfdbcnbakchcgaaTb
import Derived.Test.YtfdbcnbakchcgaaSlT
namespace Go.Proofs.Ytfdbcnbakchcgaa.XT
open Go.RowKit Go.Proofs.YtfdbcnbakchcgaaW.PrintWords Go.Proofs.YtfdbcnbakchcgaaW.PrintLast Go.Proofs.YtfdbcnbakchcgaaW.PrintMore
attribute [local go_sem] max2_int min2_int max_two min_two max_three min_three max_four min_four   -- for this text's walks alone
set_option linter.unusedVariables false
set_option linter.unusedSimpArgs false
theorem reps59 (w : World) (base : Nat) (ok : Nat → Prop) (x : S59) : k59.M w base ok x [.int .i64 x.f0.f0, .int .u64 x.f0.f1, .int .u64 x.f0.f2, .int .i64 x.f1.f0, .int .u64 x.f1.f1, .int .u64 x.f1.f2, .int .i64 x.f2, .int .i64 x.f3] := k59_mkM w base ok x
theorem one8 (x : S59) : ∀ u ∈ ([.int .i64 x.f0.f0, .int .u64 x.f0.f1, .int .u64 x.f0.f2, .int .i64 x.f1.f0, .int .u64 x.f1.f1, .int .u64 x.f1.f2, .int .i64 x.f2, .int .i64 x.f3] : List Value), u.oneCell' = true := by
 intro u hu
 simp only [List.mem_cons, List.not_mem_nil, or_false] at hu
 rcases hu with rfl | rfl | rfl | rfl | rfl | rfl | rfl | rfl <;> rfl
theorem one_row {w : World} {base : Nat} {ok : Nat → Prop} {v : Value} {xs : List S59} {inner : List Value} (h : Reps (k59.M w base ok) 8 xs inner) : ∀ u ∈ inner, u.oneCell' = true :=
 Kd.reps_one (R := k59.M w base ok) h (by omega) (fun p c hp => k59.K_one (k59.K_of_M hp))
theorem ins_calls (w : World) (base : Nat) (ok : Nat → Prop) (v : Value) (xs : List S59) (i : Nat) (x : S59) (vb : Nat) (hR : Kd.R k59 59 w base ok v xs) (hi : i ≤ xs.length) (hvb : w.heap[vb]? = some (.cells #[.int .i64 x.f0.f0, .int .u64 x.f0.f1, .int .u64 x.f0.f2, .int .i64 x.f1.f0, .int .u64 x.f1.f1, .int .u64 x.f1.f2, .int .i64 x.f2, .int .i64 x.f3] 59 (0, 0))) (hne : some vb ≠ v.ownBlock) (hn : xs.length ≤ 1000) (hbase : base ≤ w.heap.size) (hfresh : ∀ k, w.heap.size ≤ k → ok k) :
 Calls Try.prog 101 #[v, .int .i64 i, .slice (some ⟨vb, 0, none⟩) 1 1] w fun e w' => ∃ v', e = .returned v' ∧ Kd.R k59 59 w' base ok v' (xs.take i ++ x :: xs.drop i) ∧ w.grownBy w' v.ownBlock ∧ (v'.ownBlock = v.ownBlock ∨ ∃ b, v'.ownBlock = some b ∧ w.heap.size ≤ b) := by
 obtain ⟨h0, inner, hown, hr⟩ := hR
 have h1 := one8 x
 have hc1 := one_row (v := v) hr
 have hil : inner.length = xs.length * 8 := hr.1
 have fin : ∀ (v' : Value) (w' : World), w'.ownsRow base 59 8 v' (xs.length + 1) (insC (i * 8) [.int .i64 x.f0.f0, .int .u64 x.f0.f1, .int .u64 x.f0.f2, .int .i64 x.f1.f0, .int .u64 x.f1.f1, .int .u64 x.f1.f2, .int .i64 x.f2, .int .i64 x.f3] inner) → w.grownBy w' v.ownBlock → (v'.ownBlock = v.ownBlock ∨ ∃ b, v'.ownBlock = some b ∧ w.heap.size ≤ b) → Kd.R k59 59 w' base ok v' (xs.take i ++ x :: xs.drop i) := fun v' w' ho hg hat =>
  R_inserted (d := k59) (okp := fun _ => False) h0 hr (reps59 w base (fun _ => False) x) (fun k hk => hk.elim) hfresh hi ho hg hat
 rcases hown.2 with ⟨rfl, hn0⟩ | ⟨g, cap, cur, rfl, hb, hh, hnc, hcm, hcs, ht⟩
 ·have hx0 : xs = [] := List.eq_nil_of_length_eq_zero hn0
  subst hx0
  obtain rfl : i = 0 := by simpa using hi
  have hin : inner = [] := List.eq_nil_of_length_eq_zero (by simpa using hil)
  subst hin
  refine (tnins_nil w base vb [.int .i64 x.f0.f0, .int .u64 x.f0.f1, .int .u64 x.f0.f2, .int .i64 x.f1.f0, .int .u64 x.f1.f1, .int .u64 x.f1.f2, .int .i64 x.f2, .int .i64 x.f3] rfl h1 hvb hbase).mono ?_
  rintro e w' ⟨v', rfl, ho, hg, hat⟩
  exact ⟨v', rfl, fin v' w' ho hg hat, hg, hat⟩
 ·have hvg : vb ≠ g := fun e => hne (by rw [e]; rfl)
  rcases Nat.lt_or_ge i xs.length with hlt | hge
  ·rcases Nat.lt_or_ge cap (xs.length + 1) with hroom | hroom
   ·refine (tnins_grow w base g cap xs.length i vb inner [.int .i64 x.f0.f0, .int .u64 x.f0.f1, .int .u64 x.f0.f2, .int .i64 x.f1.f0, .int .u64 x.f1.f1, .int .u64 x.f1.f2, .int .i64 x.f2, .int .i64 x.f3] hown rfl h1 hc1 hvb hvg hn hlt hroom hbase).mono ?_
    rintro e w' ⟨v', rfl, ho, hg, hat⟩
    exact ⟨v', rfl, fin v' w' ho hg hat, hg, hat⟩
   ·refine (tnins_shift w base g cap xs.length i vb inner [.int .i64 x.f0.f0, .int .u64 x.f0.f1, .int .u64 x.f0.f2, .int .i64 x.f1.f0, .int .u64 x.f1.f1, .int .u64 x.f1.f2, .int .i64 x.f2, .int .i64 x.f3] hown rfl h1 hc1 hvb hvg hn hlt hroom).mono ?_
    rintro e w' ⟨v', rfl, ho, hg, hat⟩
    exact ⟨v', rfl, fin v' w' ho hg hat, hg, hat⟩
  ·obtain rfl : i = xs.length := by omega
   refine (tnins_end w base g cap xs.length 0 vb inner [.int .i64 x.f0.f0, .int .u64 x.f0.f1, .int .u64 x.f0.f2, .int .i64 x.f1.f0, .int .u64 x.f1.f1, .int .u64 x.f1.f2, .int .i64 x.f2, .int .i64 x.f3] hown rfl h1 hc1 hvb hvg hn hbase).mono ?_
   rintro e w' ⟨v', rfl, ho, hg, hat⟩
   exact ⟨v', rfl, fin v' w' ho hg hat, hg, hat⟩
set_option maxHeartbeats 400000 in
set_option maxRecDepth 100000 in
theorem Put_e (w0 w : World) (g : Nat) (v : Value) (xs : List S59) (W m : Int) (x : S59) (h : TK w0 w g v xs W m) (c1 : Int) (hm : mayT W x = some c1) (hc : (c1 != 0) = true) (hn : xs.length ≤ 1000) :
 Calls Try.prog 46 #[.pointer (some ⟨g, 0, none⟩), .agg #[.int .i64 x.f0.f0, .int .u64 x.f0.f1, .int .u64 x.f0.f2, .int .i64 x.f1.f0, .int .u64 x.f1.f1, .int .u64 x.f1.f2, .int .i64 x.f2, .int .i64 x.f3]] w fun e w' => e = .returned (.int .i64 c1) ∧ Below w.heap.size w w' := by
 have HM := Aside0.mk hm
 clear hm
 obtain ⟨A, c, rfl⟩ := Kd.R_slice h.row
 have H0 := Aside0.mk (h.step (below_alloc (Below.refl _ _) (.cells #[.int .i64 x.f0.f0, .int .u64 x.f0.f1, .int .u64 x.f0.f2, .int .i64 x.f1.f0, .int .u64 x.f1.f1, .int .u64 x.f1.f2, .int .i64 x.f2, .int .i64 x.f3] 59 (0, 0))))
 have HG0 := Aside0.mk (BG.start (.cells #[.int .i64 x.f0.f0, .int .u64 x.f0.f1, .int .u64 x.f0.f2, .int .i64 x.f1.f0, .int .u64 x.f1.f1, .int .u64 x.f1.f2, .int .i64 x.f2, .int .i64 x.f3] 59 (0, 0)) h.blk)
 clear h
 have b0 := blk_cell HG0.out.bx 0
 have b1 := blk_cell HG0.out.bx 1
 have b2 := blk_cell HG0.out.bx 2
 have b3 := blk_cell HG0.out.bx 3
 have b4 := blk_cell HG0.out.bx 4
 have b5 := blk_cell HG0.out.bx 5
 have b6 := blk_cell HG0.out.bx 6
 have b7 := blk_cell HG0.out.bx 7
 have l0 := blk_cell HG0.out.bg 0
 have l1 := blk_cell HG0.out.bg 1
 have l2 := blk_cell HG0.out.bg 2
 simp only [List.getElem?_toArray, List.getElem?_cons_succ, List.getElem?_cons_zero] at b0 b1 b2 b3 b4 b5 b6 b7 l0 l1 l2
 go_enter Try.func46, Try.ntmps46
 go_wp2_with (go_at_call 97; with_reducible refine (may_calls w0 _ g _ xs W m x c1 H0.out HM.out).mono ?_; rintro e w1 ⟨rfl, hb⟩; have HT1 := Aside0.mk (H0.out.step hb); have HG1 := Aside0.mk (HG0.out.step hb); clear hb; (try clear b0 b1 b2 b3 b4 b5 b6 b7 l0 l1 l2); have b0 := blk_cell HG1.out.bx 0; have b1 := blk_cell HG1.out.bx 1; have b2 := blk_cell HG1.out.bx 2; have b3 := blk_cell HG1.out.bx 3; have b4 := blk_cell HG1.out.bx 4; have b5 := blk_cell HG1.out.bx 5; have b6 := blk_cell HG1.out.bx 6; have b7 := blk_cell HG1.out.bx 7; have l0 := blk_cell HG1.out.bg 0; have l1 := blk_cell HG1.out.bg 1; have l2 := blk_cell HG1.out.bg 2; simp only [List.getElem?_toArray, List.getElem?_cons_succ, List.getElem?_cons_zero] at b0 b1 b2 b3 b4 b5 b6 b7 l0 l1 l2)
 go_ret
 exact ⟨rfl, HG1.out.below⟩
set_option maxHeartbeats 400000 in
set_option maxRecDepth 100000 in
theorem Put_nil (x : S59) (w : World) : Calls Try.prog 46 #[.pointer none, .agg #[.int .i64 x.f0.f0, .int .u64 x.f0.f1, .int .u64 x.f0.f2, .int .i64 x.f1.f0, .int .u64 x.f1.f1, .int .u64 x.f1.f2, .int .i64 x.f2, .int .i64 x.f3]] w fun e w' => e = .returned (.int .i64 1) ∧ Below w.heap.size w w' := by
 go_enter Try.func46, Try.ntmps46
 go_wp2_with (go_at_call 97; refine (may_nil x _).mono ?_; rintro e w1 ⟨rfl, hb⟩; have HB := Aside0.mk (below_step (below_alloc (Below.refl _ _) _) hb); clear hb)
 go_ret
 exact ⟨rfl, HB.out⟩
set_option maxHeartbeats 400000 in
set_option maxRecDepth 100000 in
theorem Set_e (w0 w : World) (g : Nat) (v : Value) (xs : List S59) (W m : Int) (x : S59) (h : TK w0 w g v xs W m) (c1 : Int) (hm : mayT W x = some c1) (hc : (c1 != 0) = true) (hn : xs.length ≤ 1000) :
 Calls Try.prog 47 #[.pointer (some ⟨g, 0, none⟩), .agg #[.int .i64 x.f0.f0, .int .u64 x.f0.f1, .int .u64 x.f0.f2, .int .i64 x.f1.f0, .int .u64 x.f1.f1, .int .u64 x.f1.f2, .int .i64 x.f2, .int .i64 x.f3]] w fun e w' => e = .returned (.int .i64 c1) ∧ Below w.heap.size w w' := by
 have HM := Aside0.mk hm
 clear hm
 obtain ⟨A, c, rfl⟩ := Kd.R_slice h.row
 have H0 := Aside0.mk (h.step (below_alloc (Below.refl _ _) (.cells #[.int .i64 x.f0.f0, .int .u64 x.f0.f1, .int .u64 x.f0.f2, .int .i64 x.f1.f0, .int .u64 x.f1.f1, .int .u64 x.f1.f2, .int .i64 x.f2, .int .i64 x.f3] 59 (0, 0))))
 have HG0 := Aside0.mk (BG.start (.cells #[.int .i64 x.f0.f0, .int .u64 x.f0.f1, .int .u64 x.f0.f2, .int .i64 x.f1.f0, .int .u64 x.f1.f1, .int .u64 x.f1.f2, .int .i64 x.f2, .int .i64 x.f3] 59 (0, 0)) h.blk)
 clear h
 have b0 := blk_cell HG0.out.bx 0
 have b1 := blk_cell HG0.out.bx 1
 have b2 := blk_cell HG0.out.bx 2
 have b3 := blk_cell HG0.out.bx 3
 have b4 := blk_cell HG0.out.bx 4
 have b5 := blk_cell HG0.out.bx 5
 have b6 := blk_cell HG0.out.bx 6
 have b7 := blk_cell HG0.out.bx 7
 have l0 := blk_cell HG0.out.bg 0
 have l1 := blk_cell HG0.out.bg 1
 have l2 := blk_cell HG0.out.bg 2
 simp only [List.getElem?_toArray, List.getElem?_cons_succ, List.getElem?_cons_zero] at b0 b1 b2 b3 b4 b5 b6 b7 l0 l1 l2
 go_enter Try.func47, Try.ntmps47
 go_wp2_with (go_at_call 97; with_reducible refine (may_calls w0 _ g _ xs W m x c1 H0.out HM.out).mono ?_; rintro e w1 ⟨rfl, hb⟩; have HT1 := Aside0.mk (H0.out.step hb); have HG1 := Aside0.mk (HG0.out.step hb); clear hb; (try clear b0 b1 b2 b3 b4 b5 b6 b7 l0 l1 l2); have b0 := blk_cell HG1.out.bx 0; have b1 := blk_cell HG1.out.bx 1; have b2 := blk_cell HG1.out.bx 2; have b3 := blk_cell HG1.out.bx 3; have b4 := blk_cell HG1.out.bx 4; have b5 := blk_cell HG1.out.bx 5; have b6 := blk_cell HG1.out.bx 6; have b7 := blk_cell HG1.out.bx 7; have l0 := blk_cell HG1.out.bg 0; have l1 := blk_cell HG1.out.bg 1; have l2 := blk_cell HG1.out.bg 2; simp only [List.getElem?_toArray, List.getElem?_cons_succ, List.getElem?_cons_zero] at b0 b1 b2 b3 b4 b5 b6 b7 l0 l1 l2)
 go_ret
 exact ⟨rfl, HG1.out.below⟩
set_option maxHeartbeats 400000 in
set_option maxRecDepth 100000 in
theorem Set_nil (x : S59) (w : World) : Calls Try.prog 47 #[.pointer none, .agg #[.int .i64 x.f0.f0, .int .u64 x.f0.f1, .int .u64 x.f0.f2, .int .i64 x.f1.f0, .int .u64 x.f1.f1, .int .u64 x.f1.f2, .int .i64 x.f2, .int .i64 x.f3]] w fun e w' => e = .returned (.int .i64 1) ∧ Below w.heap.size w w' := by
 go_enter Try.func47, Try.ntmps47
 go_wp2_with (go_at_call 97; refine (may_nil x _).mono ?_; rintro e w1 ⟨rfl, hb⟩; have HB := Aside0.mk (below_step (below_alloc (Below.refl _ _) _) hb); clear hb)
 go_ret
 exact ⟨rfl, HB.out⟩
set_option maxHeartbeats 400000 in
set_option maxRecDepth 100000 in
theorem Drop_e (w0 w : World) (g : Nat) (v : Value) (xs : List S59) (W m : Int) (x : S59) (h : TK w0 w g v xs W m) (c1 : Int) (hm : mayT W x = some c1) (hc : (c1 != 0) = true) (hn : xs.length ≤ 1000) :
 Calls Try.prog 48 #[.pointer (some ⟨g, 0, none⟩), .agg #[.int .i64 x.f0.f0, .int .u64 x.f0.f1, .int .u64 x.f0.f2, .int .i64 x.f1.f0, .int .u64 x.f1.f1, .int .u64 x.f1.f2, .int .i64 x.f2, .int .i64 x.f3]] w fun e w' => e = .returned (.int .i64 c1) ∧ Below w.heap.size w w' := by
 have HM := Aside0.mk hm
 clear hm
 obtain ⟨A, c, rfl⟩ := Kd.R_slice h.row
 have H0 := Aside0.mk (h.step (below_alloc (Below.refl _ _) (.cells #[.int .i64 x.f0.f0, .int .u64 x.f0.f1, .int .u64 x.f0.f2, .int .i64 x.f1.f0, .int .u64 x.f1.f1, .int .u64 x.f1.f2, .int .i64 x.f2, .int .i64 x.f3] 59 (0, 0))))
 have HG0 := Aside0.mk (BG.start (.cells #[.int .i64 x.f0.f0, .int .u64 x.f0.f1, .int .u64 x.f0.f2, .int .i64 x.f1.f0, .int .u64 x.f1.f1, .int .u64 x.f1.f2, .int .i64 x.f2, .int .i64 x.f3] 59 (0, 0)) h.blk)
 clear h
 have b0 := blk_cell HG0.out.bx 0
 have b1 := blk_cell HG0.out.bx 1
 have b2 := blk_cell HG0.out.bx 2
 have b3 := blk_cell HG0.out.bx 3
 have b4 := blk_cell HG0.out.bx 4
 have b5 := blk_cell HG0.out.bx 5
 have b6 := blk_cell HG0.out.bx 6
 have b7 := blk_cell HG0.out.bx 7
 have l0 := blk_cell HG0.out.bg 0
 have l1 := blk_cell HG0.out.bg 1
 have l2 := blk_cell HG0.out.bg 2
 simp only [List.getElem?_toArray, List.getElem?_cons_succ, List.getElem?_cons_zero] at b0 b1 b2 b3 b4 b5 b6 b7 l0 l1 l2
 go_enter Try.func48, Try.ntmps48
 go_wp2_with (go_at_call 97; with_reducible refine (may_calls w0 _ g _ xs W m x c1 H0.out HM.out).mono ?_; rintro e w1 ⟨rfl, hb⟩; have HT1 := Aside0.mk (H0.out.step hb); have HG1 := Aside0.mk (HG0.out.step hb); clear hb; (try clear b0 b1 b2 b3 b4 b5 b6 b7 l0 l1 l2); have b0 := blk_cell HG1.out.bx 0; have b1 := blk_cell HG1.out.bx 1; have b2 := blk_cell HG1.out.bx 2; have b3 := blk_cell HG1.out.bx 3; have b4 := blk_cell HG1.out.bx 4; have b5 := blk_cell HG1.out.bx 5; have b6 := blk_cell HG1.out.bx 6; have b7 := blk_cell HG1.out.bx 7; have l0 := blk_cell HG1.out.bg 0; have l1 := blk_cell HG1.out.bg 1; have l2 := blk_cell HG1.out.bg 2; simp only [List.getElem?_toArray, List.getElem?_cons_succ, List.getElem?_cons_zero] at b0 b1 b2 b3 b4 b5 b6 b7 l0 l1 l2)
 go_ret
 exact ⟨rfl, HG1.out.below⟩
set_option maxHeartbeats 400000 in
set_option maxRecDepth 100000 in
theorem Drop_nil (x : S59) (w : World) : Calls Try.prog 48 #[.pointer none, .agg #[.int .i64 x.f0.f0, .int .u64 x.f0.f1, .int .u64 x.f0.f2, .int .i64 x.f1.f0, .int .u64 x.f1.f1, .int .u64 x.f1.f2, .int .i64 x.f2, .int .i64 x.f3]] w fun e w' => e = .returned (.int .i64 1) ∧ Below w.heap.size w w' := by
 go_enter Try.func48, Try.ntmps48
 go_wp2_with (go_at_call 97; refine (may_nil x _).mono ?_; rintro e w1 ⟨rfl, hb⟩; have HB := Aside0.mk (below_step (below_alloc (Below.refl _ _) _) hb); clear hb)
 go_ret
 exact ⟨rfl, HB.out⟩
set_option maxHeartbeats 400000 in
set_option maxRecDepth 100000 in
theorem Put_twice (w0 w : World) (g : Nat) (v : Value) (xs : List S59) (W m : Int) (x : S59) (h : TK w0 w g v xs W m) (hm : mayT W x = some 0) (F : Int) (hf : idxT (fun y => sameT y x) xs 0 = F) (hF : decide (0 ≤ F) = true) (hn : xs.length ≤ 1000) :
 Calls Try.prog 46 #[.pointer (some ⟨g, 0, none⟩), .agg #[.int .i64 x.f0.f0, .int .u64 x.f0.f1, .int .u64 x.f0.f2, .int .i64 x.f1.f0, .int .u64 x.f1.f1, .int .u64 x.f1.f2, .int .i64 x.f2, .int .i64 x.f3]] w fun e w' => e = .returned (.int .i64 6) ∧ Below w.heap.size w w' := by
 have HM := Aside0.mk hm
 have HF := Aside0.mk hf
 clear hm hf
 obtain ⟨A, c, rfl⟩ := Kd.R_slice h.row
 have H0 := Aside0.mk (h.step (below_alloc (Below.refl _ _) (.cells #[.int .i64 x.f0.f0, .int .u64 x.f0.f1, .int .u64 x.f0.f2, .int .i64 x.f1.f0, .int .u64 x.f1.f1, .int .u64 x.f1.f2, .int .i64 x.f2, .int .i64 x.f3] 59 (0, 0))))
 have HG0 := Aside0.mk (BG.start (.cells #[.int .i64 x.f0.f0, .int .u64 x.f0.f1, .int .u64 x.f0.f2, .int .i64 x.f1.f0, .int .u64 x.f1.f1, .int .u64 x.f1.f2, .int .i64 x.f2, .int .i64 x.f3] 59 (0, 0)) h.blk)
 clear h
 have b0 := blk_cell HG0.out.bx 0
 have b1 := blk_cell HG0.out.bx 1
 have b2 := blk_cell HG0.out.bx 2
 have b3 := blk_cell HG0.out.bx 3
 have b4 := blk_cell HG0.out.bx 4
 have b5 := blk_cell HG0.out.bx 5
 have b6 := blk_cell HG0.out.bx 6
 have b7 := blk_cell HG0.out.bx 7
 have l0 := blk_cell HG0.out.bg 0
 have l1 := blk_cell HG0.out.bg 1
 have l2 := blk_cell HG0.out.bg 2
 simp only [List.getElem?_toArray, List.getElem?_cons_succ, List.getElem?_cons_zero] at b0 b1 b2 b3 b4 b5 b6 b7 l0 l1 l2
 go_enter Try.func46, Try.ntmps46
 go_wp2_with (first | (go_at_call 97; with_reducible refine (may_calls w0 _ g _ xs W m x 0 H0.out HM.out).mono ?_; rintro e w1 ⟨rfl, hb⟩; have HT1 := Aside0.mk (H0.out.step hb); have HG1 := Aside0.mk (HG0.out.step hb); clear hb; (try clear b0 b1 b2 b3 b4 b5 b6 b7 l0 l1 l2); have b0 := blk_cell HG1.out.bx 0; have b1 := blk_cell HG1.out.bx 1; have b2 := blk_cell HG1.out.bx 2; have b3 := blk_cell HG1.out.bx 3; have b4 := blk_cell HG1.out.bx 4; have b5 := blk_cell HG1.out.bx 5; have b6 := blk_cell HG1.out.bx 6; have b7 := blk_cell HG1.out.bx 7; have l0 := blk_cell HG1.out.bg 0; have l1 := blk_cell HG1.out.bg 1; have l2 := blk_cell HG1.out.bg 2; simp only [List.getElem?_toArray, List.getElem?_cons_succ, List.getElem?_cons_zero] at b0 b1 b2 b3 b4 b5 b6 b7 l0 l1 l2) | (go_at_call 98; with_reducible refine (find_calls w0 _ g _ xs W m x HT1.out hn).mono ?_; rintro e w2 ⟨rfl, hb⟩; rw [HF.out]; have HT2 := Aside0.mk (HT1.out.step hb); have HG2 := Aside0.mk (HG1.out.step hb); clear hb; (try clear b0 b1 b2 b3 b4 b5 b6 b7 l0 l1 l2); have b0 := blk_cell HG2.out.bx 0; have b1 := blk_cell HG2.out.bx 1; have b2 := blk_cell HG2.out.bx 2; have b3 := blk_cell HG2.out.bx 3; have b4 := blk_cell HG2.out.bx 4; have b5 := blk_cell HG2.out.bx 5; have b6 := blk_cell HG2.out.bx 6; have b7 := blk_cell HG2.out.bx 7; have l0 := blk_cell HG2.out.bg 0; have l1 := blk_cell HG2.out.bg 1; have l2 := blk_cell HG2.out.bg 2; simp only [List.getElem?_toArray, List.getElem?_cons_succ, List.getElem?_cons_zero] at b0 b1 b2 b3 b4 b5 b6 b7 l0 l1 l2))
 go_ret
 exact ⟨rfl, HG2.out.below⟩
set_option maxHeartbeats 400000 in
set_option maxRecDepth 100000 in
theorem Set_none (w0 w : World) (g : Nat) (v : Value) (xs : List S59) (W m : Int) (x : S59) (h : TK w0 w g v xs W m) (hm : mayT W x = some 0) (F : Int) (hf : idxT (fun y => sameT y x) xs 0 = F) (hF : decide (F < 0) = true) (hn : xs.length ≤ 1000) :
 Calls Try.prog 47 #[.pointer (some ⟨g, 0, none⟩), .agg #[.int .i64 x.f0.f0, .int .u64 x.f0.f1, .int .u64 x.f0.f2, .int .i64 x.f1.f0, .int .u64 x.f1.f1, .int .u64 x.f1.f2, .int .i64 x.f2, .int .i64 x.f3]] w fun e w' => e = .returned (.int .i64 5) ∧ Below w.heap.size w w' := by
 have HM := Aside0.mk hm
 have HF := Aside0.mk hf
 clear hm hf
 obtain ⟨A, c, rfl⟩ := Kd.R_slice h.row
 have H0 := Aside0.mk (h.step (below_alloc (Below.refl _ _) (.cells #[.int .i64 x.f0.f0, .int .u64 x.f0.f1, .int .u64 x.f0.f2, .int .i64 x.f1.f0, .int .u64 x.f1.f1, .int .u64 x.f1.f2, .int .i64 x.f2, .int .i64 x.f3] 59 (0, 0))))
 have HG0 := Aside0.mk (BG.start (.cells #[.int .i64 x.f0.f0, .int .u64 x.f0.f1, .int .u64 x.f0.f2, .int .i64 x.f1.f0, .int .u64 x.f1.f1, .int .u64 x.f1.f2, .int .i64 x.f2, .int .i64 x.f3] 59 (0, 0)) h.blk)
 clear h
 have b0 := blk_cell HG0.out.bx 0
 have b1 := blk_cell HG0.out.bx 1
 have b2 := blk_cell HG0.out.bx 2
 have b3 := blk_cell HG0.out.bx 3
 have b4 := blk_cell HG0.out.bx 4
 have b5 := blk_cell HG0.out.bx 5
 have b6 := blk_cell HG0.out.bx 6
 have b7 := blk_cell HG0.out.bx 7
 have l0 := blk_cell HG0.out.bg 0
 have l1 := blk_cell HG0.out.bg 1
 have l2 := blk_cell HG0.out.bg 2
 simp only [List.getElem?_toArray, List.getElem?_cons_succ, List.getElem?_cons_zero] at b0 b1 b2 b3 b4 b5 b6 b7 l0 l1 l2
 go_enter Try.func47, Try.ntmps47
 go_wp2_with (first | (go_at_call 97; with_reducible refine (may_calls w0 _ g _ xs W m x 0 H0.out HM.out).mono ?_; rintro e w1 ⟨rfl, hb⟩; have HT1 := Aside0.mk (H0.out.step hb); have HG1 := Aside0.mk (HG0.out.step hb); clear hb; (try clear b0 b1 b2 b3 b4 b5 b6 b7 l0 l1 l2); have b0 := blk_cell HG1.out.bx 0; have b1 := blk_cell HG1.out.bx 1; have b2 := blk_cell HG1.out.bx 2; have b3 := blk_cell HG1.out.bx 3; have b4 := blk_cell HG1.out.bx 4; have b5 := blk_cell HG1.out.bx 5; have b6 := blk_cell HG1.out.bx 6; have b7 := blk_cell HG1.out.bx 7; have l0 := blk_cell HG1.out.bg 0; have l1 := blk_cell HG1.out.bg 1; have l2 := blk_cell HG1.out.bg 2; simp only [List.getElem?_toArray, List.getElem?_cons_succ, List.getElem?_cons_zero] at b0 b1 b2 b3 b4 b5 b6 b7 l0 l1 l2) | (go_at_call 98; with_reducible refine (find_calls w0 _ g _ xs W m x HT1.out hn).mono ?_; rintro e w2 ⟨rfl, hb⟩; rw [HF.out]; have HT2 := Aside0.mk (HT1.out.step hb); have HG2 := Aside0.mk (HG1.out.step hb); clear hb; (try clear b0 b1 b2 b3 b4 b5 b6 b7 l0 l1 l2); have b0 := blk_cell HG2.out.bx 0; have b1 := blk_cell HG2.out.bx 1; have b2 := blk_cell HG2.out.bx 2; have b3 := blk_cell HG2.out.bx 3; have b4 := blk_cell HG2.out.bx 4; have b5 := blk_cell HG2.out.bx 5; have b6 := blk_cell HG2.out.bx 6; have b7 := blk_cell HG2.out.bx 7; have l0 := blk_cell HG2.out.bg 0; have l1 := blk_cell HG2.out.bg 1; have l2 := blk_cell HG2.out.bg 2; simp only [List.getElem?_toArray, List.getElem?_cons_succ, List.getElem?_cons_zero] at b0 b1 b2 b3 b4 b5 b6 b7 l0 l1 l2))
 go_ret
 exact ⟨rfl, HG2.out.below⟩
set_option maxHeartbeats 400000 in
set_option maxRecDepth 100000 in
theorem Drop_none (w0 w : World) (g : Nat) (v : Value) (xs : List S59) (W m : Int) (x : S59) (h : TK w0 w g v xs W m) (hm : mayT W x = some 0) (F : Int) (hf : idxT (fun y => sameT y x) xs 0 = F) (hF : decide (F < 0) = true) (hn : xs.length ≤ 1000) :
 Calls Try.prog 48 #[.pointer (some ⟨g, 0, none⟩), .agg #[.int .i64 x.f0.f0, .int .u64 x.f0.f1, .int .u64 x.f0.f2, .int .i64 x.f1.f0, .int .u64 x.f1.f1, .int .u64 x.f1.f2, .int .i64 x.f2, .int .i64 x.f3]] w fun e w' => e = .returned (.int .i64 5) ∧ Below w.heap.size w w' := by
 have HM := Aside0.mk hm
 have HF := Aside0.mk hf
 clear hm hf
 obtain ⟨A, c, rfl⟩ := Kd.R_slice h.row
 have H0 := Aside0.mk (h.step (below_alloc (Below.refl _ _) (.cells #[.int .i64 x.f0.f0, .int .u64 x.f0.f1, .int .u64 x.f0.f2, .int .i64 x.f1.f0, .int .u64 x.f1.f1, .int .u64 x.f1.f2, .int .i64 x.f2, .int .i64 x.f3] 59 (0, 0))))
 have HG0 := Aside0.mk (BG.start (.cells #[.int .i64 x.f0.f0, .int .u64 x.f0.f1, .int .u64 x.f0.f2, .int .i64 x.f1.f0, .int .u64 x.f1.f1, .int .u64 x.f1.f2, .int .i64 x.f2, .int .i64 x.f3] 59 (0, 0)) h.blk)
 clear h
 have b0 := blk_cell HG0.out.bx 0
 have b1 := blk_cell HG0.out.bx 1
 have b2 := blk_cell HG0.out.bx 2
 have b3 := blk_cell HG0.out.bx 3
 have b4 := blk_cell HG0.out.bx 4
 have b5 := blk_cell HG0.out.bx 5
 have b6 := blk_cell HG0.out.bx 6
 have b7 := blk_cell HG0.out.bx 7
 have l0 := blk_cell HG0.out.bg 0
 have l1 := blk_cell HG0.out.bg 1
 have l2 := blk_cell HG0.out.bg 2
 simp only [List.getElem?_toArray, List.getElem?_cons_succ, List.getElem?_cons_zero] at b0 b1 b2 b3 b4 b5 b6 b7 l0 l1 l2
 go_enter Try.func48, Try.ntmps48
 go_wp2_with (first | (go_at_call 97; with_reducible refine (may_calls w0 _ g _ xs W m x 0 H0.out HM.out).mono ?_; rintro e w1 ⟨rfl, hb⟩; have HT1 := Aside0.mk (H0.out.step hb); have HG1 := Aside0.mk (HG0.out.step hb); clear hb; (try clear b0 b1 b2 b3 b4 b5 b6 b7 l0 l1 l2); have b0 := blk_cell HG1.out.bx 0; have b1 := blk_cell HG1.out.bx 1; have b2 := blk_cell HG1.out.bx 2; have b3 := blk_cell HG1.out.bx 3; have b4 := blk_cell HG1.out.bx 4; have b5 := blk_cell HG1.out.bx 5; have b6 := blk_cell HG1.out.bx 6; have b7 := blk_cell HG1.out.bx 7; have l0 := blk_cell HG1.out.bg 0; have l1 := blk_cell HG1.out.bg 1; have l2 := blk_cell HG1.out.bg 2; simp only [List.getElem?_toArray, List.getElem?_cons_succ, List.getElem?_cons_zero] at b0 b1 b2 b3 b4 b5 b6 b7 l0 l1 l2) | (go_at_call 98; with_reducible refine (find_calls w0 _ g _ xs W m x HT1.out hn).mono ?_; rintro e w2 ⟨rfl, hb⟩; rw [HF.out]; have HT2 := Aside0.mk (HT1.out.step hb); have HG2 := Aside0.mk (HG1.out.step hb); clear hb; (try clear b0 b1 b2 b3 b4 b5 b6 b7 l0 l1 l2); have b0 := blk_cell HG2.out.bx 0; have b1 := blk_cell HG2.out.bx 1; have b2 := blk_cell HG2.out.bx 2; have b3 := blk_cell HG2.out.bx 3; have b4 := blk_cell HG2.out.bx 4; have b5 := blk_cell HG2.out.bx 5; have b6 := blk_cell HG2.out.bx 6; have b7 := blk_cell HG2.out.bx 7; have l0 := blk_cell HG2.out.bg 0; have l1 := blk_cell HG2.out.bg 1; have l2 := blk_cell HG2.out.bg 2; simp only [List.getElem?_toArray, List.getElem?_cons_succ, List.getElem?_cons_zero] at b0 b1 b2 b3 b4 b5 b6 b7 l0 l1 l2))
 go_ret
 exact ⟨rfl, HG2.out.below⟩
set_option maxHeartbeats 400000 in
set_option maxRecDepth 100000 in
theorem Put_full (w0 w : World) (g : Nat) (v : Value) (xs : List S59) (W m : Int) (x : S59) (h : TK w0 w g v xs W m) (hm : mayT W x = some 0) (F : Int) (hf : idxT (fun y => sameT y x) xs 0 = F) (hF : decide (0 ≤ F) = false) (hfull : ((xs.length : Int) == m) = true) (hn : xs.length ≤ 1000) :
 Calls Try.prog 46 #[.pointer (some ⟨g, 0, none⟩), .agg #[.int .i64 x.f0.f0, .int .u64 x.f0.f1, .int .u64 x.f0.f2, .int .i64 x.f1.f0, .int .u64 x.f1.f1, .int .u64 x.f1.f2, .int .i64 x.f2, .int .i64 x.f3]] w fun e w' => e = .returned (.int .i64 8) ∧ Below w.heap.size w w' := by
 have HM := Aside0.mk hm
 have HF := Aside0.mk hf
 clear hm hf
 obtain ⟨A, c, rfl⟩ := Kd.R_slice h.row
 have H0 := Aside0.mk (h.step (below_alloc (Below.refl _ _) (.cells #[.int .i64 x.f0.f0, .int .u64 x.f0.f1, .int .u64 x.f0.f2, .int .i64 x.f1.f0, .int .u64 x.f1.f1, .int .u64 x.f1.f2, .int .i64 x.f2, .int .i64 x.f3] 59 (0, 0))))
 have HG0 := Aside0.mk (BG.start (.cells #[.int .i64 x.f0.f0, .int .u64 x.f0.f1, .int .u64 x.f0.f2, .int .i64 x.f1.f0, .int .u64 x.f1.f1, .int .u64 x.f1.f2, .int .i64 x.f2, .int .i64 x.f3] 59 (0, 0)) h.blk)
 clear h
 have b0 := blk_cell HG0.out.bx 0
 have b1 := blk_cell HG0.out.bx 1
 have b2 := blk_cell HG0.out.bx 2
 have b3 := blk_cell HG0.out.bx 3
 have b4 := blk_cell HG0.out.bx 4
 have b5 := blk_cell HG0.out.bx 5
 have b6 := blk_cell HG0.out.bx 6
 have b7 := blk_cell HG0.out.bx 7
 have l0 := blk_cell HG0.out.bg 0
 have l1 := blk_cell HG0.out.bg 1
 have l2 := blk_cell HG0.out.bg 2
 simp only [List.getElem?_toArray, List.getElem?_cons_succ, List.getElem?_cons_zero] at b0 b1 b2 b3 b4 b5 b6 b7 l0 l1 l2
 go_enter Try.func46, Try.ntmps46
 go_wp2_with (first | (go_at_call 97; with_reducible refine (may_calls w0 _ g _ xs W m x 0 H0.out HM.out).mono ?_; rintro e w1 ⟨rfl, hb⟩; have HT1 := Aside0.mk (H0.out.step hb); have HG1 := Aside0.mk (HG0.out.step hb); clear hb; (try clear b0 b1 b2 b3 b4 b5 b6 b7 l0 l1 l2); have b0 := blk_cell HG1.out.bx 0; have b1 := blk_cell HG1.out.bx 1; have b2 := blk_cell HG1.out.bx 2; have b3 := blk_cell HG1.out.bx 3; have b4 := blk_cell HG1.out.bx 4; have b5 := blk_cell HG1.out.bx 5; have b6 := blk_cell HG1.out.bx 6; have b7 := blk_cell HG1.out.bx 7; have l0 := blk_cell HG1.out.bg 0; have l1 := blk_cell HG1.out.bg 1; have l2 := blk_cell HG1.out.bg 2; simp only [List.getElem?_toArray, List.getElem?_cons_succ, List.getElem?_cons_zero] at b0 b1 b2 b3 b4 b5 b6 b7 l0 l1 l2) | (go_at_call 98; with_reducible refine (find_calls w0 _ g _ xs W m x HT1.out hn).mono ?_; rintro e w2 ⟨rfl, hb⟩; rw [HF.out]; have HT2 := Aside0.mk (HT1.out.step hb); have HG2 := Aside0.mk (HG1.out.step hb); clear hb; (try clear b0 b1 b2 b3 b4 b5 b6 b7 l0 l1 l2); have b0 := blk_cell HG2.out.bx 0; have b1 := blk_cell HG2.out.bx 1; have b2 := blk_cell HG2.out.bx 2; have b3 := blk_cell HG2.out.bx 3; have b4 := blk_cell HG2.out.bx 4; have b5 := blk_cell HG2.out.bx 5; have b6 := blk_cell HG2.out.bx 6; have b7 := blk_cell HG2.out.bx 7; have l0 := blk_cell HG2.out.bg 0; have l1 := blk_cell HG2.out.bg 1; have l2 := blk_cell HG2.out.bg 2; simp only [List.getElem?_toArray, List.getElem?_cons_succ, List.getElem?_cons_zero] at b0 b1 b2 b3 b4 b5 b6 b7 l0 l1 l2))
 have HT3 := Aside0.mk (HT2.out.step (below_drew1 (Below.refl _ _)))
 have HG3 := Aside0.mk (HG2.out.step (below_drew1 (Below.refl _ _)))
 refine start_ (n := 11) (S := fun w' => w'.cell? ⟨g, 0, none⟩ = some (.slice A xs.length c) ∧ w'.cell? ⟨g, 2, none⟩ = some (.int .i64 m)) (ds := []) #[false, false, false, false, false, false, false, false, false, false, false] (by kernel_rfl) rfl rfl ⟨l0, l2⟩ (fun hHeld => ?_)
 generalize w2.drew = w3 at HT3 HG3 hHeld ⊢
 refine pl_ [0, 1, 2, 5, 6, 7, 3, 4, 8, 9, 10] ?_
 iterate 6 refine pP rfl rfl (by kernel_rfl) (fun _ _ _ h => h) (by rfl) (by intro w'; go_simp; with_reducible rfl) (by simp only [Act.put, z1, z2, z3, i64_w, i32_w]; rfl) ?_
 refine pT hHeld rfl rfl (by kernel_rfl) (fun _ _ _ h => h) (by rfl) (by rintro w' ⟨s0, s1⟩; go_simp; with_reducible rfl) (by simp only [Act.put, z1, z2, z3, i64_w, i32_w]; rfl) ?_
 refine pP rfl rfl (by kernel_rfl) (fun _ _ _ h => h) (by rfl) (by intro w'; go_simp; with_reducible rfl) (by simp only [Act.put, z1, z2, z3, i64_w, i32_w]; rfl) ?_
 refine pT hHeld rfl rfl (by kernel_rfl) (fun _ _ _ h => h) (by rfl) (by rintro w' ⟨s0, s1⟩; go_simp; with_reducible rfl) (by simp only [Act.put, z1, z2, z3, i64_w, i32_w]; rfl) ?_
 iterate 2 refine pP rfl rfl (by kernel_rfl) (fun _ _ _ h => h) (by rfl) (by intro w'; go_simp; with_reducible rfl) (by simp only [Act.put, z1, z2, z3, i64_w, i32_w]; rfl) ?_
 refine pl0 ?_
 refine done_ (by kernel_rfl) ?_
 go_wp2
 go_ret
 exact ⟨rfl, HG3.out.below⟩
theorem del_at {α : Type} (d : Kd α) (hds : d.sz = 8) (w : World) (base : Nat) (ok : Nat → Prop) (g c n k : Nat) (xs : List α) (hR : d.R 59 w base ok (.slice (some ⟨g, 0, none⟩) n c) xs) (hk : k < n) (hm : n ≤ 1000) :
 Calls Try.prog 102 #[.slice (some ⟨g, 0, none⟩) n c, .int .i64 k, .int .i64 ((k : Int) + 1)] w fun e w' => e = .returned (.slice (some ⟨g, 0, none⟩) (n - 1) c) ∧ d.R 59 w' base ok (.slice (some ⟨g, 0, none⟩) (n - 1) c) (xs.eraseIdx k) ∧ w.grownBy w' (some g) := by
 obtain ⟨m, rfl⟩ : ∃ m, n = m + 1 := ⟨n - 1, by omega⟩
 exact tndel d hds w base ok g c m k xs hR (by omega) (by omega)
set_option maxHeartbeats 1000000 in
set_option maxRecDepth 100000 in
theorem Put_mid (w0 w : World) (g : Nat) (v : Value) (xs : List S59) (W m : Int) (x : S59) (h : TK w0 w g v xs W m) (hm : mayT W x = some 0) (F : Int) (hf : idxT (fun y => sameT y x) xs 0 = F) (hF : decide (0 ≤ F) = false) (hfull : ((xs.length : Int) == m) = false) (i : Nat) (hi : i ≤ xs.length) (hI : idxT (fun y => decide (x.f2 < y.f2)) xs 0 = (i : Int)) (hn : xs.length ≤ 1000) :
 Calls Try.prog 46 #[.pointer (some ⟨g, 0, none⟩), .agg #[.int .i64 x.f0.f0, .int .u64 x.f0.f1, .int .u64 x.f0.f2, .int .i64 x.f1.f0, .int .u64 x.f1.f1, .int .u64 x.f1.f2, .int .i64 x.f2, .int .i64 x.f3]] w fun e w' => e = .returned (.int .i64 0) ∧ ∃ v1, TP w0 w w' g v v1 (xs.take i ++ x :: xs.drop i) W m := by
 have HM := Aside0.mk hm
 have HF := Aside0.mk hf
 clear hm hf
 have HI := Aside0.mk hI
 clear hI
 obtain ⟨A, c, rfl⟩ := Kd.R_slice h.row
 have H0 := Aside0.mk (h.step (below_alloc (Below.refl _ _) (.cells #[.int .i64 x.f0.f0, .int .u64 x.f0.f1, .int .u64 x.f0.f2, .int .i64 x.f1.f0, .int .u64 x.f1.f1, .int .u64 x.f1.f2, .int .i64 x.f2, .int .i64 x.f3] 59 (0, 0))))
 have HG0 := Aside0.mk (BG.start (.cells #[.int .i64 x.f0.f0, .int .u64 x.f0.f1, .int .u64 x.f0.f2, .int .i64 x.f1.f0, .int .u64 x.f1.f1, .int .u64 x.f1.f2, .int .i64 x.f2, .int .i64 x.f3] 59 (0, 0)) h.blk)
 have HNX := Aside0.mk (show some w.heap.size ≠ (Value.slice A xs.length c).ownBlock from fun e => Nat.lt_irrefl _ (Kd.R_lt h.row _ e.symm))
 have HW0 := Aside0.mk h
 clear h
 have b0 := blk_cell HG0.out.bx 0
 have b1 := blk_cell HG0.out.bx 1
 have b2 := blk_cell HG0.out.bx 2
 have b3 := blk_cell HG0.out.bx 3
 have b4 := blk_cell HG0.out.bx 4
 have b5 := blk_cell HG0.out.bx 5
 have b6 := blk_cell HG0.out.bx 6
 have b7 := blk_cell HG0.out.bx 7
 have l0 := blk_cell HG0.out.bg 0
 have l1 := blk_cell HG0.out.bg 1
 have l2 := blk_cell HG0.out.bg 2
 simp only [List.getElem?_toArray, List.getElem?_cons_succ, List.getElem?_cons_zero] at b0 b1 b2 b3 b4 b5 b6 b7 l0 l1 l2
 go_enter Try.func46, Try.ntmps46
 go_wp2_with (first | (go_at_call 97; with_reducible refine (may_calls w0 _ g _ xs W m x 0 H0.out HM.out).mono ?_; rintro e w1 ⟨rfl, hb⟩; have HT1 := Aside0.mk (H0.out.step hb); have HG1 := Aside0.mk (HG0.out.step hb); clear hb; (try clear b0 b1 b2 b3 b4 b5 b6 b7 l0 l1 l2); have b0 := blk_cell HG1.out.bx 0; have b1 := blk_cell HG1.out.bx 1; have b2 := blk_cell HG1.out.bx 2; have b3 := blk_cell HG1.out.bx 3; have b4 := blk_cell HG1.out.bx 4; have b5 := blk_cell HG1.out.bx 5; have b6 := blk_cell HG1.out.bx 6; have b7 := blk_cell HG1.out.bx 7; have l0 := blk_cell HG1.out.bg 0; have l1 := blk_cell HG1.out.bg 1; have l2 := blk_cell HG1.out.bg 2; simp only [List.getElem?_toArray, List.getElem?_cons_succ, List.getElem?_cons_zero] at b0 b1 b2 b3 b4 b5 b6 b7 l0 l1 l2) | (go_at_call 98; with_reducible refine (find_calls w0 _ g _ xs W m x HT1.out hn).mono ?_; rintro e w2 ⟨rfl, hb⟩; rw [HF.out]; have HT2 := Aside0.mk (HT1.out.step hb); have HG2 := Aside0.mk (HG1.out.step hb); clear hb; (try clear b0 b1 b2 b3 b4 b5 b6 b7 l0 l1 l2); have b0 := blk_cell HG2.out.bx 0; have b1 := blk_cell HG2.out.bx 1; have b2 := blk_cell HG2.out.bx 2; have b3 := blk_cell HG2.out.bx 3; have b4 := blk_cell HG2.out.bx 4; have b5 := blk_cell HG2.out.bx 5; have b6 := blk_cell HG2.out.bx 6; have b7 := blk_cell HG2.out.bx 7; have l0 := blk_cell HG2.out.bg 0; have l1 := blk_cell HG2.out.bg 1; have l2 := blk_cell HG2.out.bg 2; simp only [List.getElem?_toArray, List.getElem?_cons_succ, List.getElem?_cons_zero] at b0 b1 b2 b3 b4 b5 b6 b7 l0 l1 l2))
 have HT3 := Aside0.mk (HT2.out.step (below_drew1 (Below.refl _ _)))
 have HG3 := Aside0.mk (HG2.out.step (below_drew1 (Below.refl _ _)))
 refine start_ (n := 11) (S := fun w' => w'.cell? ⟨g, 0, none⟩ = some (.slice A xs.length c) ∧ w'.cell? ⟨g, 2, none⟩ = some (.int .i64 m)) (ds := []) #[false, false, false, false, false, false, false, false, false, false, false] (by kernel_rfl) rfl rfl ⟨l0, l2⟩ (fun hHeld => ?_)
 generalize w2.drew = w3 at HT3 HG3 hHeld ⊢
 refine pl_ [0, 1, 2, 5, 6, 7, 3, 4, 8, 9, 10] ?_
 iterate 6 refine pP rfl rfl (by kernel_rfl) (fun _ _ _ h => h) (by rfl) (by intro w'; go_simp; with_reducible rfl) (by simp only [Act.put, z1, z2, z3, i64_w, i32_w]; rfl) ?_
 refine pT hHeld rfl rfl (by kernel_rfl) (fun _ _ _ h => h) (by rfl) (by rintro w' ⟨s0, s1⟩; go_simp; with_reducible rfl) (by simp only [Act.put, z1, z2, z3, i64_w, i32_w]; rfl) ?_
 refine pP rfl rfl (by kernel_rfl) (fun _ _ _ h => h) (by rfl) (by intro w'; go_simp; with_reducible rfl) (by simp only [Act.put, z1, z2, z3, i64_w, i32_w]; rfl) ?_
 refine pT hHeld rfl rfl (by kernel_rfl) (fun _ _ _ h => h) (by rfl) (by rintro w' ⟨s0, s1⟩; go_simp; with_reducible rfl) (by simp only [Act.put, z1, z2, z3, i64_w, i32_w]; rfl) ?_
 iterate 2 refine pP rfl rfl (by kernel_rfl) (fun _ _ _ h => h) (by rfl) (by intro w'; go_simp; with_reducible rfl) (by simp only [Act.put, z1, z2, z3, i64_w, i32_w]; rfl) ?_
 refine pl0 ?_
 refine done_ (by kernel_rfl) ?_
 (try clear b0 b1 b2 b3 b4 b5 b6 b7 l0 l1 l2)
 have b0 := blk_cell HG3.out.bx 0
 have b1 := blk_cell HG3.out.bx 1
 have b2 := blk_cell HG3.out.bx 2
 have b3 := blk_cell HG3.out.bx 3
 have b4 := blk_cell HG3.out.bx 4
 have b5 := blk_cell HG3.out.bx 5
 have b6 := blk_cell HG3.out.bx 6
 have b7 := blk_cell HG3.out.bx 7
 have l0 := blk_cell HG3.out.bg 0
 have l1 := blk_cell HG3.out.bg 1
 have l2 := blk_cell HG3.out.bg 2
 simp only [List.getElem?_toArray, List.getElem?_cons_succ, List.getElem?_cons_zero] at b0 b1 b2 b3 b4 b5 b6 b7 l0 l1 l2
 go_wp2_with (go_at_call 99; refine (idx_put w.heap.size _ _ (put_closure x _) A c xs _ HG3.out.bx (Kd.R_reads' HT3.out.row).2.2 (Kd.R_reads' HT3.out.row).2.1 hn).mono ?_; rintro e w4 ⟨rfl, hb⟩; rw [HI.out]; have HT4 := Aside0.mk (HT3.out.step hb); have HG4 := Aside0.mk (HG3.out.step hb); clear hb; (try clear b0 b1 b2 b3 b4 b5 b6 b7 l0 l1 l2); have b0 := blk_cell HG4.out.bx 0; have b1 := blk_cell HG4.out.bx 1; have b2 := blk_cell HG4.out.bx 2; have b3 := blk_cell HG4.out.bx 3; have b4 := blk_cell HG4.out.bx 4; have b5 := blk_cell HG4.out.bx 5; have b6 := blk_cell HG4.out.bx 6; have b7 := blk_cell HG4.out.bx 7; have l0 := blk_cell HG4.out.bg 0; have l1 := blk_cell HG4.out.bg 1; have l2 := blk_cell HG4.out.bg 2; simp only [List.getElem?_toArray, List.getElem?_cons_succ, List.getElem?_cons_zero] at b0 b1 b2 b3 b4 b5 b6 b7 l0 l1 l2)
 have HT5 := Aside0.mk (HT4.out.step (below_drew1 (Below.refl _ _)))
 have HG5 := Aside0.mk (HG4.out.step (below_drew1 (Below.refl _ _)))
 refine start_ (n := 12) (S := fun w' => w'.cell? ⟨w.heap.size, 0, none⟩ = some (.int .i64 x.f0.f0) ∧ w'.cell? ⟨w.heap.size, 1, none⟩ = some (.int .u64 x.f0.f1) ∧ w'.cell? ⟨w.heap.size, 2, none⟩ = some (.int .u64 x.f0.f2) ∧ w'.cell? ⟨w.heap.size, 3, none⟩ = some (.int .i64 x.f1.f0) ∧ w'.cell? ⟨w.heap.size, 4, none⟩ = some (.int .u64 x.f1.f1) ∧ w'.cell? ⟨w.heap.size, 5, none⟩ = some (.int .u64 x.f1.f2) ∧ w'.cell? ⟨w.heap.size, 6, none⟩ = some (.int .i64 x.f2) ∧ w'.cell? ⟨w.heap.size, 7, none⟩ = some (.int .i64 x.f3) ∧ w'.cell? ⟨g, 0, none⟩ = some (.slice A xs.length c)) (ds := [11]) #[false, false, false, false, false, false, false, false, false, false, false, false] (by kernel_rfl) rfl rfl ⟨b0, b1, b2, b3, b4, b5, b6, b7, l0⟩ (fun hHeld => ?_)
 generalize w4.drew = w5 at HT5 HG5 hHeld ⊢
 refine pl_ [0, 1, 2, 3, 5, 4, 6] ?_
 iterate 5 refine pP rfl rfl (by kernel_rfl) (fun _ _ _ h => h) (by rfl) (by intro w'; go_simp; with_reducible rfl) (by simp only [Act.put, z1, z2, z3, i64_w, i32_w]; rfl) ?_
 iterate 2 refine pT hHeld rfl rfl (by kernel_rfl) (fun _ _ _ h => h) (by rfl) (by rintro w' ⟨s0, s1, s2, s3, s4, s5, s6, s7, s8⟩; go_simp; with_reducible rfl) (by simp only [Act.put, z1, z2, z3, i64_w, i32_w]; rfl) ?_
 refine pl0 ?_
 refine one_ (i := 7) (N := some 49) #[true, true, true, true, true, true, true, true, false, false, false, false] rfl rfl (by kernel_rfl) (by decide) (fun K hK => ?_)
 refine value_ (w1 := ?_) (v := ?_) (by rfl) rfl ?_ ?_
 rotate_left 2
 ·go_simp
  constructor
  ·rfl
  ·rfl
 have HT6 := Aside0.mk (HT5.out.step (below_alloc (Below.refl _ _) (.cells #[.int .i64 x.f0.f0, .int .u64 x.f0.f1, .int .u64 x.f0.f2, .int .i64 x.f1.f0, .int .u64 x.f1.f1, .int .u64 x.f1.f2, .int .i64 x.f2, .int .i64 x.f3] 59 (0, 0))))
 have HG6 := Aside0.mk (HG5.out.step (below_alloc (Below.refl _ _) (.cells #[.int .i64 x.f0.f0, .int .u64 x.f0.f1, .int .u64 x.f0.f2, .int .i64 x.f1.f0, .int .u64 x.f1.f1, .int .u64 x.f1.f2, .int .i64 x.f2, .int .i64 x.f3] 59 (0, 0))))
 have HV6 := Aside0.mk (blk_new w5 (.cells #[.int .i64 x.f0.f0, .int .u64 x.f0.f1, .int .u64 x.f0.f2, .int .i64 x.f1.f0, .int .u64 x.f1.f1, .int .u64 x.f1.f2, .int .i64 x.f2, .int .i64 x.f3] 59 (0, 0)))
 have HN6 := Aside0.mk (show some w5.heap.size ≠ (Value.slice A xs.length c).ownBlock from fun e => Nat.lt_irrefl _ (Kd.R_lt HT5.out.row _ e.symm))
 (try clear b0 b1 b2 b3 b4 b5 b6 b7 l0 l1 l2)
 have b0 := blk_cell HG6.out.bx 0
 have b1 := blk_cell HG6.out.bx 1
 have b2 := blk_cell HG6.out.bx 2
 have b3 := blk_cell HG6.out.bx 3
 have b4 := blk_cell HG6.out.bx 4
 have b5 := blk_cell HG6.out.bx 5
 have b6 := blk_cell HG6.out.bx 6
 have b7 := blk_cell HG6.out.bx 7
 have l0 := blk_cell HG6.out.bg 0
 have l1 := blk_cell HG6.out.bg 1
 have l2 := blk_cell HG6.out.bg 2
 simp only [List.getElem?_toArray, List.getElem?_cons_succ, List.getElem?_cons_zero] at b0 b1 b2 b3 b4 b5 b6 b7 l0 l1 l2
 refine hK.out _ _ ⟨b0, b1, b2, b3, b4, b5, b6, b7, l0⟩ (fun hHeld => ?_)
 clear hK K
 refine norm_ (a' := ?_) ?_ ?_
 rotate_left
 ·show Act.put _ (some 49) _ = _
  simp only [Act.put, List.setIfInBounds_toArray, List.set_cons_zero, List.set_cons_succ, i64_w, i32_w]
  rfl
 refine one_ (i := 8) (N := some 50) #[true, true, true, true, true, true, true, true, true, false, false, false] rfl rfl (by kernel_rfl) (by decide) (fun K hK => ?_)
 refine goes_ Try.func101 (by kernel_rfl) rfl #[.slice A xs.length c, .int .i64 i, .slice (some ⟨w5.heap.size, 0, none⟩) 1 1] (by rfl) rfl rfl (by simp only [List.map_toArray, List.map_cons, List.map_nil]; rfl) ?_
 with_reducible refine (ins_calls _ w0.heap.size (fun k => k ≠ g) (.slice A xs.length c) xs i x w5.heap.size HT6.out.row hi HV6.out HN6.out hn (below_size HT6.out.below) (fun k hk => by have := HT6.out.lt; omega)).mono ?_
 rintro e w7 ⟨v7, rfl, hR, hgr, hat⟩
 refine ⟨_, rfl, ?_⟩
 obtain ⟨A7, c7, rfl⟩ := Kd.R_slice hR
 generalize (xs.take i ++ x :: xs.drop i).length = L7 at hR hat ⊢
 have HR7 := Aside0.mk hR
 have HGR := Aside0.mk hgr
 have HAT := Aside0.mk hat
 have HBK := Aside0.mk ((hgr.block g HT6.out.lt (Kd.R_away HT6.out.row (fun k hk => hk))).trans HG6.out.bg)
 have HBX := Aside0.mk ((hgr.block w.heap.size (blk_lt HG6.out.bx) HNX.out).trans HG6.out.bx)
 clear hR hgr hat
 (try clear b0 b1 b2 b3 b4 b5 b6 b7 l0 l1 l2)
 have b0 := blk_cell HBX.out 0
 have b1 := blk_cell HBX.out 1
 have b2 := blk_cell HBX.out 2
 have b3 := blk_cell HBX.out 3
 have b4 := blk_cell HBX.out 4
 have b5 := blk_cell HBX.out 5
 have b6 := blk_cell HBX.out 6
 have b7 := blk_cell HBX.out 7
 have l0 := blk_cell HBK.out 0
 have l1 := blk_cell HBK.out 1
 have l2 := blk_cell HBK.out 2
 have lf := blk_frozen HBK.out
 simp only [List.getElem?_toArray, List.getElem?_cons_succ, List.getElem?_cons_zero] at b0 b1 b2 b3 b4 b5 b6 b7 l0 l1 l2
 refine hK.out _ _ ⟨b0, b1, b2, b3, b4, b5, b6, b7, l0⟩ (fun hHeld => ?_)
 clear hK K
 refine norm_ (a' := ?_) ?_ ?_
 rotate_left
 ·show Act.put _ (some 50) _ = _
  simp only [Act.put, List.setIfInBounds_toArray, List.set_cons_zero, List.set_cons_succ, i64_w, i32_w]
  rfl
 refine pl_ [9, 10] ?_
 iterate 2 refine pP rfl rfl (by kernel_rfl) (fun _ _ _ h => h) (by rfl) (by intro w'; go_simp; with_reducible rfl) (by simp only [Act.put, z1, z2, z3, i64_w, i32_w]; rfl) ?_
 refine pl0 ?_
 refine last_ (i := 11) (N := none) #[true, true, true, true, true, true, true, true, true, true, true, true] rfl rfl (by kernel_rfl) (by decide) (fun K hK => ?_)
 refine skip_ (w1 := ?_) (by rfl) rfl ?_ ?_
 rotate_left
 ·go_simp
  rfl
 refine hK.out _ _ ?_
 clear hK K
 refine done_ (by kernel_rfl) ?_
 go_wp2
 refine bodyPost_ret (by simp [results, Try.results46, go_sem]) rfl ⟨rfl, _, ⟨⟨blk_put HBK.out 0 _ rfl, Kd.R_far HR7.out (p := ⟨g, 0, none⟩) (fun k hk => hk) _, HW0.out.ge, ?_⟩, ?_, ?_⟩⟩
 ·exact below_set (HT6.out.below.grown HGR.out (below_size HT6.out.below) (fun k hk => Kd.R_base HT6.out.row k hk)) HW0.out.ge
 ·exact (Kept.of_grown HGR.out (Kept.of_below HG6.out.below _) (fun k hk => .inl (.inr hk.symm))).setCell (p := ⟨g, 0, none⟩) (.inl (.inl rfl)) _
 ·rcases HAT.out with hh | ⟨b, hh, hle⟩
  ·exact .inl hh
  ·exact .inr ⟨b, hh, Nat.le_trans (below_size HG6.out.below) hle⟩
set_option maxHeartbeats 1000000 in
set_option maxRecDepth 100000 in
theorem Put_end (w0 w : World) (g : Nat) (v : Value) (xs : List S59) (W m : Int) (x : S59) (h : TK w0 w g v xs W m) (hm : mayT W x = some 0) (F : Int) (hf : idxT (fun y => sameT y x) xs 0 = F) (hF : decide (0 ≤ F) = false) (hfull : ((xs.length : Int) == m) = false) (i : Nat) (hi : i ≤ xs.length) (hI : idxT (fun y => decide (x.f2 < y.f2)) xs 0 = -1) (hie : i = xs.length) (hn : xs.length ≤ 1000) :
 Calls Try.prog 46 #[.pointer (some ⟨g, 0, none⟩), .agg #[.int .i64 x.f0.f0, .int .u64 x.f0.f1, .int .u64 x.f0.f2, .int .i64 x.f1.f0, .int .u64 x.f1.f1, .int .u64 x.f1.f2, .int .i64 x.f2, .int .i64 x.f3]] w fun e w' => e = .returned (.int .i64 0) ∧ ∃ v1, TP w0 w w' g v v1 (xs.take i ++ x :: xs.drop i) W m := by
 have HM := Aside0.mk hm
 have HF := Aside0.mk hf
 clear hm hf
 have HI := Aside0.mk hI
 subst hie
 clear hI
 obtain ⟨A, c, rfl⟩ := Kd.R_slice h.row
 have H0 := Aside0.mk (h.step (below_alloc (Below.refl _ _) (.cells #[.int .i64 x.f0.f0, .int .u64 x.f0.f1, .int .u64 x.f0.f2, .int .i64 x.f1.f0, .int .u64 x.f1.f1, .int .u64 x.f1.f2, .int .i64 x.f2, .int .i64 x.f3] 59 (0, 0))))
 have HG0 := Aside0.mk (BG.start (.cells #[.int .i64 x.f0.f0, .int .u64 x.f0.f1, .int .u64 x.f0.f2, .int .i64 x.f1.f0, .int .u64 x.f1.f1, .int .u64 x.f1.f2, .int .i64 x.f2, .int .i64 x.f3] 59 (0, 0)) h.blk)
 have HNX := Aside0.mk (show some w.heap.size ≠ (Value.slice A xs.length c).ownBlock from fun e => Nat.lt_irrefl _ (Kd.R_lt h.row _ e.symm))
 have HW0 := Aside0.mk h
 clear h
 have b0 := blk_cell HG0.out.bx 0
 have b1 := blk_cell HG0.out.bx 1
 have b2 := blk_cell HG0.out.bx 2
 have b3 := blk_cell HG0.out.bx 3
 have b4 := blk_cell HG0.out.bx 4
 have b5 := blk_cell HG0.out.bx 5
 have b6 := blk_cell HG0.out.bx 6
 have b7 := blk_cell HG0.out.bx 7
 have l0 := blk_cell HG0.out.bg 0
 have l1 := blk_cell HG0.out.bg 1
 have l2 := blk_cell HG0.out.bg 2
 simp only [List.getElem?_toArray, List.getElem?_cons_succ, List.getElem?_cons_zero] at b0 b1 b2 b3 b4 b5 b6 b7 l0 l1 l2
 go_enter Try.func46, Try.ntmps46
 go_wp2_with (first | (go_at_call 97; with_reducible refine (may_calls w0 _ g _ xs W m x 0 H0.out HM.out).mono ?_; rintro e w1 ⟨rfl, hb⟩; have HT1 := Aside0.mk (H0.out.step hb); have HG1 := Aside0.mk (HG0.out.step hb); clear hb; (try clear b0 b1 b2 b3 b4 b5 b6 b7 l0 l1 l2); have b0 := blk_cell HG1.out.bx 0; have b1 := blk_cell HG1.out.bx 1; have b2 := blk_cell HG1.out.bx 2; have b3 := blk_cell HG1.out.bx 3; have b4 := blk_cell HG1.out.bx 4; have b5 := blk_cell HG1.out.bx 5; have b6 := blk_cell HG1.out.bx 6; have b7 := blk_cell HG1.out.bx 7; have l0 := blk_cell HG1.out.bg 0; have l1 := blk_cell HG1.out.bg 1; have l2 := blk_cell HG1.out.bg 2; simp only [List.getElem?_toArray, List.getElem?_cons_succ, List.getElem?_cons_zero] at b0 b1 b2 b3 b4 b5 b6 b7 l0 l1 l2) | (go_at_call 98; with_reducible refine (find_calls w0 _ g _ xs W m x HT1.out hn).mono ?_; rintro e w2 ⟨rfl, hb⟩; rw [HF.out]; have HT2 := Aside0.mk (HT1.out.step hb); have HG2 := Aside0.mk (HG1.out.step hb); clear hb; (try clear b0 b1 b2 b3 b4 b5 b6 b7 l0 l1 l2); have b0 := blk_cell HG2.out.bx 0; have b1 := blk_cell HG2.out.bx 1; have b2 := blk_cell HG2.out.bx 2; have b3 := blk_cell HG2.out.bx 3; have b4 := blk_cell HG2.out.bx 4; have b5 := blk_cell HG2.out.bx 5; have b6 := blk_cell HG2.out.bx 6; have b7 := blk_cell HG2.out.bx 7; have l0 := blk_cell HG2.out.bg 0; have l1 := blk_cell HG2.out.bg 1; have l2 := blk_cell HG2.out.bg 2; simp only [List.getElem?_toArray, List.getElem?_cons_succ, List.getElem?_cons_zero] at b0 b1 b2 b3 b4 b5 b6 b7 l0 l1 l2))
 have HT3 := Aside0.mk (HT2.out.step (below_drew1 (Below.refl _ _)))
 have HG3 := Aside0.mk (HG2.out.step (below_drew1 (Below.refl _ _)))
 refine start_ (n := 11) (S := fun w' => w'.cell? ⟨g, 0, none⟩ = some (.slice A xs.length c) ∧ w'.cell? ⟨g, 2, none⟩ = some (.int .i64 m)) (ds := []) #[false, false, false, false, false, false, false, false, false, false, false] (by kernel_rfl) rfl rfl ⟨l0, l2⟩ (fun hHeld => ?_)
 generalize w2.drew = w3 at HT3 HG3 hHeld ⊢
 refine pl_ [0, 1, 2, 5, 6, 7, 3, 4, 8, 9, 10] ?_
 iterate 6 refine pP rfl rfl (by kernel_rfl) (fun _ _ _ h => h) (by rfl) (by intro w'; go_simp; with_reducible rfl) (by simp only [Act.put, z1, z2, z3, i64_w, i32_w]; rfl) ?_
 refine pT hHeld rfl rfl (by kernel_rfl) (fun _ _ _ h => h) (by rfl) (by rintro w' ⟨s0, s1⟩; go_simp; with_reducible rfl) (by simp only [Act.put, z1, z2, z3, i64_w, i32_w]; rfl) ?_
 refine pP rfl rfl (by kernel_rfl) (fun _ _ _ h => h) (by rfl) (by intro w'; go_simp; with_reducible rfl) (by simp only [Act.put, z1, z2, z3, i64_w, i32_w]; rfl) ?_
 refine pT hHeld rfl rfl (by kernel_rfl) (fun _ _ _ h => h) (by rfl) (by rintro w' ⟨s0, s1⟩; go_simp; with_reducible rfl) (by simp only [Act.put, z1, z2, z3, i64_w, i32_w]; rfl) ?_
 iterate 2 refine pP rfl rfl (by kernel_rfl) (fun _ _ _ h => h) (by rfl) (by intro w'; go_simp; with_reducible rfl) (by simp only [Act.put, z1, z2, z3, i64_w, i32_w]; rfl) ?_
 refine pl0 ?_
 refine done_ (by kernel_rfl) ?_
 (try clear b0 b1 b2 b3 b4 b5 b6 b7 l0 l1 l2)
 have b0 := blk_cell HG3.out.bx 0
 have b1 := blk_cell HG3.out.bx 1
 have b2 := blk_cell HG3.out.bx 2
 have b3 := blk_cell HG3.out.bx 3
 have b4 := blk_cell HG3.out.bx 4
 have b5 := blk_cell HG3.out.bx 5
 have b6 := blk_cell HG3.out.bx 6
 have b7 := blk_cell HG3.out.bx 7
 have l0 := blk_cell HG3.out.bg 0
 have l1 := blk_cell HG3.out.bg 1
 have l2 := blk_cell HG3.out.bg 2
 simp only [List.getElem?_toArray, List.getElem?_cons_succ, List.getElem?_cons_zero] at b0 b1 b2 b3 b4 b5 b6 b7 l0 l1 l2
 go_wp2_with (go_at_call 99; refine (idx_put w.heap.size _ _ (put_closure x _) A c xs _ HG3.out.bx (Kd.R_reads' HT3.out.row).2.2 (Kd.R_reads' HT3.out.row).2.1 hn).mono ?_; rintro e w4 ⟨rfl, hb⟩; rw [HI.out]; have HT4 := Aside0.mk (HT3.out.step hb); have HG4 := Aside0.mk (HG3.out.step hb); clear hb; (try clear b0 b1 b2 b3 b4 b5 b6 b7 l0 l1 l2); have b0 := blk_cell HG4.out.bx 0; have b1 := blk_cell HG4.out.bx 1; have b2 := blk_cell HG4.out.bx 2; have b3 := blk_cell HG4.out.bx 3; have b4 := blk_cell HG4.out.bx 4; have b5 := blk_cell HG4.out.bx 5; have b6 := blk_cell HG4.out.bx 6; have b7 := blk_cell HG4.out.bx 7; have l0 := blk_cell HG4.out.bg 0; have l1 := blk_cell HG4.out.bg 1; have l2 := blk_cell HG4.out.bg 2; simp only [List.getElem?_toArray, List.getElem?_cons_succ, List.getElem?_cons_zero] at b0 b1 b2 b3 b4 b5 b6 b7 l0 l1 l2)
 have HT5 := Aside0.mk (HT4.out.step (below_drew1 (Below.refl _ _)))
 have HG5 := Aside0.mk (HG4.out.step (below_drew1 (Below.refl _ _)))
 refine start_ (n := 12) (S := fun w' => w'.cell? ⟨w.heap.size, 0, none⟩ = some (.int .i64 x.f0.f0) ∧ w'.cell? ⟨w.heap.size, 1, none⟩ = some (.int .u64 x.f0.f1) ∧ w'.cell? ⟨w.heap.size, 2, none⟩ = some (.int .u64 x.f0.f2) ∧ w'.cell? ⟨w.heap.size, 3, none⟩ = some (.int .i64 x.f1.f0) ∧ w'.cell? ⟨w.heap.size, 4, none⟩ = some (.int .u64 x.f1.f1) ∧ w'.cell? ⟨w.heap.size, 5, none⟩ = some (.int .u64 x.f1.f2) ∧ w'.cell? ⟨w.heap.size, 6, none⟩ = some (.int .i64 x.f2) ∧ w'.cell? ⟨w.heap.size, 7, none⟩ = some (.int .i64 x.f3) ∧ w'.cell? ⟨g, 0, none⟩ = some (.slice A xs.length c)) (ds := [11]) #[false, false, false, false, false, false, false, false, false, false, false, false] (by kernel_rfl) rfl rfl ⟨b0, b1, b2, b3, b4, b5, b6, b7, l0⟩ (fun hHeld => ?_)
 generalize w4.drew = w5 at HT5 HG5 hHeld ⊢
 refine pl_ [0, 1, 2, 3, 5, 4, 6] ?_
 iterate 5 refine pP rfl rfl (by kernel_rfl) (fun _ _ _ h => h) (by rfl) (by intro w'; go_simp; with_reducible rfl) (by simp only [Act.put, z1, z2, z3, i64_w, i32_w]; rfl) ?_
 iterate 2 refine pT hHeld rfl rfl (by kernel_rfl) (fun _ _ _ h => h) (by rfl) (by rintro w' ⟨s0, s1, s2, s3, s4, s5, s6, s7, s8⟩; go_simp; with_reducible rfl) (by simp only [Act.put, z1, z2, z3, i64_w, i32_w]; rfl) ?_
 refine pl0 ?_
 refine one_ (i := 7) (N := some 49) #[true, true, true, true, true, true, true, true, false, false, false, false] rfl rfl (by kernel_rfl) (by decide) (fun K hK => ?_)
 refine value_ (w1 := ?_) (v := ?_) (by rfl) rfl ?_ ?_
 rotate_left 2
 ·go_simp
  constructor
  ·rfl
  ·rfl
 have HT6 := Aside0.mk (HT5.out.step (below_alloc (Below.refl _ _) (.cells #[.int .i64 x.f0.f0, .int .u64 x.f0.f1, .int .u64 x.f0.f2, .int .i64 x.f1.f0, .int .u64 x.f1.f1, .int .u64 x.f1.f2, .int .i64 x.f2, .int .i64 x.f3] 59 (0, 0))))
 have HG6 := Aside0.mk (HG5.out.step (below_alloc (Below.refl _ _) (.cells #[.int .i64 x.f0.f0, .int .u64 x.f0.f1, .int .u64 x.f0.f2, .int .i64 x.f1.f0, .int .u64 x.f1.f1, .int .u64 x.f1.f2, .int .i64 x.f2, .int .i64 x.f3] 59 (0, 0))))
 have HV6 := Aside0.mk (blk_new w5 (.cells #[.int .i64 x.f0.f0, .int .u64 x.f0.f1, .int .u64 x.f0.f2, .int .i64 x.f1.f0, .int .u64 x.f1.f1, .int .u64 x.f1.f2, .int .i64 x.f2, .int .i64 x.f3] 59 (0, 0)))
 have HN6 := Aside0.mk (show some w5.heap.size ≠ (Value.slice A xs.length c).ownBlock from fun e => Nat.lt_irrefl _ (Kd.R_lt HT5.out.row _ e.symm))
 (try clear b0 b1 b2 b3 b4 b5 b6 b7 l0 l1 l2)
 have b0 := blk_cell HG6.out.bx 0
 have b1 := blk_cell HG6.out.bx 1
 have b2 := blk_cell HG6.out.bx 2
 have b3 := blk_cell HG6.out.bx 3
 have b4 := blk_cell HG6.out.bx 4
 have b5 := blk_cell HG6.out.bx 5
 have b6 := blk_cell HG6.out.bx 6
 have b7 := blk_cell HG6.out.bx 7
 have l0 := blk_cell HG6.out.bg 0
 have l1 := blk_cell HG6.out.bg 1
 have l2 := blk_cell HG6.out.bg 2
 simp only [List.getElem?_toArray, List.getElem?_cons_succ, List.getElem?_cons_zero] at b0 b1 b2 b3 b4 b5 b6 b7 l0 l1 l2
 refine hK.out _ _ ⟨b0, b1, b2, b3, b4, b5, b6, b7, l0⟩ (fun hHeld => ?_)
 clear hK K
 refine norm_ (a' := ?_) ?_ ?_
 rotate_left
 ·show Act.put _ (some 49) _ = _
  simp only [Act.put, List.setIfInBounds_toArray, List.set_cons_zero, List.set_cons_succ, i64_w, i32_w]
  rfl
 refine one_ (i := 8) (N := some 50) #[true, true, true, true, true, true, true, true, true, false, false, false] rfl rfl (by kernel_rfl) (by decide) (fun K hK => ?_)
 refine goes_ Try.func101 (by kernel_rfl) rfl #[.slice A xs.length c, .int .i64 xs.length, .slice (some ⟨w5.heap.size, 0, none⟩) 1 1] (by rfl) rfl rfl (by simp only [List.map_toArray, List.map_cons, List.map_nil]; rfl) ?_
 with_reducible refine (ins_calls _ w0.heap.size (fun k => k ≠ g) (.slice A xs.length c) xs xs.length x w5.heap.size HT6.out.row hi HV6.out HN6.out hn (below_size HT6.out.below) (fun k hk => by have := HT6.out.lt; omega)).mono ?_
 rintro e w7 ⟨v7, rfl, hR, hgr, hat⟩
 refine ⟨_, rfl, ?_⟩
 obtain ⟨A7, c7, rfl⟩ := Kd.R_slice hR
 generalize (xs.take xs.length ++ x :: xs.drop xs.length).length = L7 at hR hat ⊢
 have HR7 := Aside0.mk hR
 have HGR := Aside0.mk hgr
 have HAT := Aside0.mk hat
 have HBK := Aside0.mk ((hgr.block g HT6.out.lt (Kd.R_away HT6.out.row (fun k hk => hk))).trans HG6.out.bg)
 have HBX := Aside0.mk ((hgr.block w.heap.size (blk_lt HG6.out.bx) HNX.out).trans HG6.out.bx)
 clear hR hgr hat
 (try clear b0 b1 b2 b3 b4 b5 b6 b7 l0 l1 l2)
 have b0 := blk_cell HBX.out 0
 have b1 := blk_cell HBX.out 1
 have b2 := blk_cell HBX.out 2
 have b3 := blk_cell HBX.out 3
 have b4 := blk_cell HBX.out 4
 have b5 := blk_cell HBX.out 5
 have b6 := blk_cell HBX.out 6
 have b7 := blk_cell HBX.out 7
 have l0 := blk_cell HBK.out 0
 have l1 := blk_cell HBK.out 1
 have l2 := blk_cell HBK.out 2
 have lf := blk_frozen HBK.out
 simp only [List.getElem?_toArray, List.getElem?_cons_succ, List.getElem?_cons_zero] at b0 b1 b2 b3 b4 b5 b6 b7 l0 l1 l2
 refine hK.out _ _ ⟨b0, b1, b2, b3, b4, b5, b6, b7, l0⟩ (fun hHeld => ?_)
 clear hK K
 refine norm_ (a' := ?_) ?_ ?_
 rotate_left
 ·show Act.put _ (some 50) _ = _
  simp only [Act.put, List.setIfInBounds_toArray, List.set_cons_zero, List.set_cons_succ, i64_w, i32_w]
  rfl
 refine pl_ [9, 10] ?_
 iterate 2 refine pP rfl rfl (by kernel_rfl) (fun _ _ _ h => h) (by rfl) (by intro w'; go_simp; with_reducible rfl) (by simp only [Act.put, z1, z2, z3, i64_w, i32_w]; rfl) ?_
 refine pl0 ?_
 refine last_ (i := 11) (N := none) #[true, true, true, true, true, true, true, true, true, true, true, true] rfl rfl (by kernel_rfl) (by decide) (fun K hK => ?_)
 refine skip_ (w1 := ?_) (by rfl) rfl ?_ ?_
 rotate_left
 ·go_simp
  rfl
 refine hK.out _ _ ?_
 clear hK K
 refine done_ (by kernel_rfl) ?_
 go_wp2
 refine bodyPost_ret (by simp [results, Try.results46, go_sem]) rfl ⟨rfl, _, ⟨⟨blk_put HBK.out 0 _ rfl, Kd.R_far HR7.out (p := ⟨g, 0, none⟩) (fun k hk => hk) _, HW0.out.ge, ?_⟩, ?_, ?_⟩⟩
 ·exact below_set (HT6.out.below.grown HGR.out (below_size HT6.out.below) (fun k hk => Kd.R_base HT6.out.row k hk)) HW0.out.ge
 ·exact (Kept.of_grown HGR.out (Kept.of_below HG6.out.below _) (fun k hk => .inl (.inr hk.symm))).setCell (p := ⟨g, 0, none⟩) (.inl (.inl rfl)) _
 ·rcases HAT.out with hh | ⟨b, hh, hle⟩
  ·exact .inl hh
  ·exact .inr ⟨b, hh, Nat.le_trans (below_size HG6.out.below) hle⟩
theorem R59_setN {w : World} {base : Nat} {ok : Nat → Prop} {g2 n c : Nat} {xs : List S59} (h : Kd.R k59 59 w base ok (.slice (some ⟨g2, 0, none⟩) n c) xs) (i : Nat) (hi : i < xs.length) (u : Int) :
 Kd.R k59 59 (w.setCell ⟨g2, i * 8 + 7, none⟩ (.int .i64 u)) base ok (.slice (some ⟨g2, 0, none⟩) n c) (xs.set i { rd_T59 xs (i : Int) with f3 := u }) := by
 obtain ⟨hn, _, _⟩ := Kd.R_reads' h
 obtain ⟨hok, inner, hown, hr⟩ := h
 rw [← hn] at hown
 obtain ⟨hl, hx⟩ := hown
 rcases hx with ⟨hv, _⟩ | ⟨g', cap, cur, hv, hb, hh, hnc, hcm, hcs, ht⟩
 ·cases hv
 injection hv with hv1 _ hv3
 injection hv1 with hv1
 injection hv1 with hv1
 subst hv1 hv3
 change inner.length = n * 8 at hl
 have hx : xs[i]? = some (rd_T59 xs (i : Int)) := by simp [rd_T59, List.getD_eq_getElem?_getD, hi]
 have hM := hr.2 i _ hx
 have hc8 := k59_openM hM
 change (inner.drop (i * 8)).take 8 = _ at hc8
 have hin : (i + 1) * 8 ≤ n * 8 := Nat.mul_le_mul_right 8 (by omega)
 generalize rd_T59 xs (i : Int) = y at *
 have hset : inner.set (i * 8 + 7) (.int .i64 u) = inner.take (i * 8) ++ [.int .i64 y.f0.f0, .int .u64 y.f0.f1, .int .u64 y.f0.f2, .int .i64 y.f1.f0, .int .u64 y.f1.f1, .int .u64 y.f1.f2, .int .i64 y.f2, .int .i64 u] ++ inner.drop (i * 8 + 8) := by
  have hsplit : inner = inner.take (i * 8) ++ ([.int .i64 y.f0.f0, .int .u64 y.f0.f1, .int .u64 y.f0.f2, .int .i64 y.f1.f0, .int .u64 y.f1.f1, .int .u64 y.f1.f2, .int .i64 y.f2, .int .i64 y.f3] ++ inner.drop (i * 8 + 8)) := by
   rw [← hc8, ← List.drop_drop, List.take_append_drop, List.take_append_drop]
  have hlt : (inner.take (i * 8)).length = i * 8 := by rw [List.length_take]; omega
  conv => lhs; rw [hsplit]
  rw [List.set_append_right _ _ (by rw [hlt]; omega), hlt, show i * 8 + 7 - i * 8 = 7 by omega]
  simp
 refine ⟨hok, inner.set (i * 8 + 7) (.int .i64 u), ?_, ?_⟩
 ·rw [List.length_set, ← hn]
  refine ⟨by rw [List.length_set]; exact hl, .inr ⟨g2, c, cur.setIfInBounds (i * 8 + 7) (.int .i64 u), rfl, hb, blk_set hh _ _, hnc, hcm, by rw [Array.size_setIfInBounds]; exact hcs, ?_⟩⟩
  rw [Array.toList_setIfInBounds, List.take_set, ht]
 ·rw [hset]
  have hr2 := hr.imp_ (fun p q hp => k59.M_move (w1 := w.setCell ⟨g2, i * 8 + 7, none⟩ (.int .i64 u)) (fun k' hk' => Below.heap_setCell _ _ _ _ (fun he => hk'.2 (by rw [he]; rfl))) hp)
  exact Kd.reps_set hr2 (i := i) hi (k59_mkM _ _ _ { y with f3 := u }) rfl
set_option maxHeartbeats 1000000 in
set_option maxRecDepth 100000 in
theorem Set_ok (w0 w : World) (g : Nat) (v : Value) (xs : List S59) (W m : Int) (x : S59) (h : TK w0 w g v xs W m) (hm : mayT W x = some 0) (i : Nat) (hf : idxT (fun y => sameT y x) xs 0 = (i : Int)) (hi : i < xs.length) (hn : xs.length ≤ 1000) :
 Calls Try.prog 47 #[.pointer (some ⟨g, 0, none⟩), .agg #[.int .i64 x.f0.f0, .int .u64 x.f0.f1, .int .u64 x.f0.f2, .int .i64 x.f1.f0, .int .u64 x.f1.f1, .int .u64 x.f1.f2, .int .i64 x.f2, .int .i64 x.f3]] w fun e w' => e = .returned (.int .i64 0) ∧ TP w0 w w' g v v (xs.set i { rd_T59 xs (i : Int) with f3 := x.f3 }) W m := by
 have HM := Aside0.mk hm
 have HF := Aside0.mk hf
 clear hm hf
 obtain ⟨g2, c, rfl, _, _, _⟩ : ∃ g2 c, v = .slice (some ⟨g2, 0, none⟩) xs.length c ∧ w0.heap.size ≤ g2 ∧ g2 < w.heap.size ∧ True := by
  obtain ⟨a, b, d, e, f, _⟩ := Kd.R_form h.row (by omega)
  exact ⟨a, b, d, e, f, trivial⟩
 have H0 := Aside0.mk (h.step (below_alloc (Below.refl _ _) (.cells #[.int .i64 x.f0.f0, .int .u64 x.f0.f1, .int .u64 x.f0.f2, .int .i64 x.f1.f0, .int .u64 x.f1.f1, .int .u64 x.f1.f2, .int .i64 x.f2, .int .i64 x.f3] 59 (0, 0))))
 have HG0 := Aside0.mk (BG.start (.cells #[.int .i64 x.f0.f0, .int .u64 x.f0.f1, .int .u64 x.f0.f2, .int .i64 x.f1.f0, .int .u64 x.f1.f1, .int .u64 x.f1.f2, .int .i64 x.f2, .int .i64 x.f3] 59 (0, 0)) h.blk)
 have HW0 := Aside0.mk h
 have hgg : g2 ≠ g := h.row.1 g2 rfl
 clear h
 have b0 := blk_cell HG0.out.bx 0
 have b1 := blk_cell HG0.out.bx 1
 have b2 := blk_cell HG0.out.bx 2
 have b3 := blk_cell HG0.out.bx 3
 have b4 := blk_cell HG0.out.bx 4
 have b5 := blk_cell HG0.out.bx 5
 have b6 := blk_cell HG0.out.bx 6
 have b7 := blk_cell HG0.out.bx 7
 have l0 := blk_cell HG0.out.bg 0
 have l1 := blk_cell HG0.out.bg 1
 have l2 := blk_cell HG0.out.bg 2
 simp only [List.getElem?_toArray, List.getElem?_cons_succ, List.getElem?_cons_zero] at b0 b1 b2 b3 b4 b5 b6 b7 l0 l1 l2
 go_enter Try.func47, Try.ntmps47
 go_wp2_with (first | (go_at_call 97; with_reducible refine (may_calls w0 _ g _ xs W m x 0 H0.out HM.out).mono ?_; rintro e w1 ⟨rfl, hb⟩; have HT1 := Aside0.mk (H0.out.step hb); have HG1 := Aside0.mk (HG0.out.step hb); clear hb; (try clear b0 b1 b2 b3 b4 b5 b6 b7 l0 l1 l2); have b0 := blk_cell HG1.out.bx 0; have b1 := blk_cell HG1.out.bx 1; have b2 := blk_cell HG1.out.bx 2; have b3 := blk_cell HG1.out.bx 3; have b4 := blk_cell HG1.out.bx 4; have b5 := blk_cell HG1.out.bx 5; have b6 := blk_cell HG1.out.bx 6; have b7 := blk_cell HG1.out.bx 7; have l0 := blk_cell HG1.out.bg 0; have l1 := blk_cell HG1.out.bg 1; have l2 := blk_cell HG1.out.bg 2; simp only [List.getElem?_toArray, List.getElem?_cons_succ, List.getElem?_cons_zero] at b0 b1 b2 b3 b4 b5 b6 b7 l0 l1 l2) | (go_at_call 98; with_reducible refine (find_calls w0 _ g _ xs W m x HT1.out hn).mono ?_; rintro e w2 ⟨rfl, hb⟩; rw [HF.out]; have HT2 := Aside0.mk (HT1.out.step hb); have HG2 := Aside0.mk (HG1.out.step hb); clear hb; (try clear b0 b1 b2 b3 b4 b5 b6 b7 l0 l1 l2); have b0 := blk_cell HG2.out.bx 0; have b1 := blk_cell HG2.out.bx 1; have b2 := blk_cell HG2.out.bx 2; have b3 := blk_cell HG2.out.bx 3; have b4 := blk_cell HG2.out.bx 4; have b5 := blk_cell HG2.out.bx 5; have b6 := blk_cell HG2.out.bx 6; have b7 := blk_cell HG2.out.bx 7; have l0 := blk_cell HG2.out.bg 0; have l1 := blk_cell HG2.out.bg 1; have l2 := blk_cell HG2.out.bg 2; simp only [List.getElem?_toArray, List.getElem?_cons_succ, List.getElem?_cons_zero] at b0 b1 b2 b3 b4 b5 b6 b7 l0 l1 l2))
 obtain ⟨ad, hA, p0, p1, p2, p3, p4, p5, p6, p7⟩ := at_T59 (Kd.R_reads' HT2.out.row).2.2 (i : Int) (by omega) (by omega)
 cases hA
 rw [Int.toNat_natCast] at p7
 obtain ⟨cells0, hblk, hfz⟩ : ∃ cs, w2.heap[g2]? = some (.cells cs 59 (0, 0)) ∧ w2.frozen? ⟨g2, i * 8 + 7, none⟩ = false := by
  obtain ⟨a, b, d, e, f, cs, hcs⟩ := Kd.R_form HT2.out.row (by omega)
  injection d with d1
  injection d1 with d1
  injection d1 with d1
  subst d1
  exact ⟨cs, hcs, blk_frozen hcs _⟩
 rw [add_plain] at p7
 have p7' : w2.cell? ⟨g2, i * 8 + 7, none⟩ = some (.int .i64 (rd_T59 xs (i : Int)).f3) := p7
 clear p0 p1 p2 p3 p4 p5 p6 p7
 have hi0 : 0 ≤ (i : Int) := by omega
 have hil : (i : Int) < (xs.length : Int) := by omega
 have HT3 := Aside0.mk (HT2.out.step (below_drew1 (Below.refl _ _)))
 have HG3 := Aside0.mk (HG2.out.step (below_drew1 (Below.refl _ _)))
 refine start_ (n := 10) (S := fun w' => w'.cell? ⟨w.heap.size, 7, none⟩ = some (.int .i64 x.f3) ∧ w'.cell? ⟨g, 0, none⟩ = some (.slice (some ⟨g2, 0, none⟩) xs.length c) ∧ w'.cell? ⟨g2, i * 8 + 7, none⟩ = some (.int .i64 (rd_T59 xs (i : Int)).f3) ∧ w'.frozen? ⟨g2, i * 8 + 7, none⟩ = false) (ds := [9]) #[false, false, false, false, false, false, false, false, false, false] (by kernel_rfl) rfl rfl ⟨b7, l0, p7', hfz⟩ (fun hHeld => ?_)
 generalize w2.drew = w3 at HT3 HG3 hHeld ⊢
 refine pl_ [0, 1, 2, 4, 5, 3, 6, 7, 8] ?_
 iterate 5 refine pP rfl rfl (by kernel_rfl) (fun _ _ _ h => h) (by rfl) (by intro w'; go_simp; with_reducible rfl) (by simp only [Act.put, z1, z2, z3, i64_w, i32_w]; rfl) ?_
 iterate 2 refine pT hHeld rfl rfl (by kernel_rfl) (fun _ _ _ h => h) (by rfl) (by rintro w' ⟨s0, s1, s2, s3⟩; go_simp; with_reducible rfl) (by simp only [Act.put, z1, z2, z3, i64_w, i32_w]; rfl) ?_
 iterate 2 refine pP rfl rfl (by kernel_rfl) (fun _ _ _ h => h) (by rfl) (by intro w'; go_simp; with_reducible rfl) (by simp only [Act.put, z1, z2, z3, i64_w, i32_w]; rfl) ?_
 refine pl0 ?_
 refine last_ (i := 9) (N := none) #[true, true, true, true, true, true, true, true, true, true] rfl rfl (by kernel_rfl) (by decide) (fun K hK => ?_)
 refine skip_ (w1 := ?_) (by rfl) rfl ?_ ?_
 rotate_left
 ·go_simp
  rfl
 refine hK.out _ _ ?_
 clear hK K
 refine done_ (by kernel_rfl) ?_
 go_wp2
 refine bodyPost_ret (by simp [results, Try.results47, go_sem]) rfl ⟨rfl, ⟨blk_far HG3.out.bg (fun e => hgg e.symm) _, R59_setN HT3.out.row i hi x.f3, HW0.out.ge, ?_⟩, ?_, .inl rfl⟩
 ·exact HT3.out.below.setCell (p := ⟨g2, i * 8 + 7, none⟩) (Kd.R_base HT3.out.row g2 rfl) _
 ·exact (Kept.of_below HG3.out.below _).setCell (p := ⟨g2, i * 8 + 7, none⟩) (.inl (.inr rfl)) _
set_option maxHeartbeats 1000000 in
set_option maxRecDepth 100000 in
theorem Drop_ok (w0 w : World) (g : Nat) (v : Value) (xs : List S59) (W m : Int) (x : S59) (h : TK w0 w g v xs W m) (hm : mayT W x = some 0) (i : Nat) (hf : idxT (fun y => sameT y x) xs 0 = (i : Int)) (hi : i < xs.length) (hn : xs.length ≤ 1000) :
 Calls Try.prog 48 #[.pointer (some ⟨g, 0, none⟩), .agg #[.int .i64 x.f0.f0, .int .u64 x.f0.f1, .int .u64 x.f0.f2, .int .i64 x.f1.f0, .int .u64 x.f1.f1, .int .u64 x.f1.f2, .int .i64 x.f2, .int .i64 x.f3]] w fun e w' => e = .returned (.int .i64 0) ∧ ∃ v1, TP w0 w w' g v v1 (xs.eraseIdx i) W m := by
 have HM := Aside0.mk hm
 have HF := Aside0.mk hf
 clear hm hf
 obtain ⟨g2, c, rfl, _, _, _⟩ : ∃ g2 c, v = .slice (some ⟨g2, 0, none⟩) xs.length c ∧ w0.heap.size ≤ g2 ∧ g2 < w.heap.size ∧ True := by
  obtain ⟨a, b, d, e, f, _⟩ := Kd.R_form h.row (by omega)
  exact ⟨a, b, d, e, f, trivial⟩
 have H0 := Aside0.mk (h.step (below_alloc (Below.refl _ _) (.cells #[.int .i64 x.f0.f0, .int .u64 x.f0.f1, .int .u64 x.f0.f2, .int .i64 x.f1.f0, .int .u64 x.f1.f1, .int .u64 x.f1.f2, .int .i64 x.f2, .int .i64 x.f3] 59 (0, 0))))
 have HG0 := Aside0.mk (BG.start (.cells #[.int .i64 x.f0.f0, .int .u64 x.f0.f1, .int .u64 x.f0.f2, .int .i64 x.f1.f0, .int .u64 x.f1.f1, .int .u64 x.f1.f2, .int .i64 x.f2, .int .i64 x.f3] 59 (0, 0)) h.blk)
 have HW0 := Aside0.mk h
 have hgg : g2 ≠ g := h.row.1 g2 rfl
 clear h
 have b0 := blk_cell HG0.out.bx 0
 have b1 := blk_cell HG0.out.bx 1
 have b2 := blk_cell HG0.out.bx 2
 have b3 := blk_cell HG0.out.bx 3
 have b4 := blk_cell HG0.out.bx 4
 have b5 := blk_cell HG0.out.bx 5
 have b6 := blk_cell HG0.out.bx 6
 have b7 := blk_cell HG0.out.bx 7
 have l0 := blk_cell HG0.out.bg 0
 have l1 := blk_cell HG0.out.bg 1
 have l2 := blk_cell HG0.out.bg 2
 simp only [List.getElem?_toArray, List.getElem?_cons_succ, List.getElem?_cons_zero] at b0 b1 b2 b3 b4 b5 b6 b7 l0 l1 l2
 go_enter Try.func48, Try.ntmps48
 go_wp2_with (first | (go_at_call 97; with_reducible refine (may_calls w0 _ g _ xs W m x 0 H0.out HM.out).mono ?_; rintro e w1 ⟨rfl, hb⟩; have HT1 := Aside0.mk (H0.out.step hb); have HG1 := Aside0.mk (HG0.out.step hb); clear hb; (try clear b0 b1 b2 b3 b4 b5 b6 b7 l0 l1 l2); have b0 := blk_cell HG1.out.bx 0; have b1 := blk_cell HG1.out.bx 1; have b2 := blk_cell HG1.out.bx 2; have b3 := blk_cell HG1.out.bx 3; have b4 := blk_cell HG1.out.bx 4; have b5 := blk_cell HG1.out.bx 5; have b6 := blk_cell HG1.out.bx 6; have b7 := blk_cell HG1.out.bx 7; have l0 := blk_cell HG1.out.bg 0; have l1 := blk_cell HG1.out.bg 1; have l2 := blk_cell HG1.out.bg 2; simp only [List.getElem?_toArray, List.getElem?_cons_succ, List.getElem?_cons_zero] at b0 b1 b2 b3 b4 b5 b6 b7 l0 l1 l2) | (go_at_call 98; with_reducible refine (find_calls w0 _ g _ xs W m x HT1.out hn).mono ?_; rintro e w2 ⟨rfl, hb⟩; rw [HF.out]; have HT2 := Aside0.mk (HT1.out.step hb); have HG2 := Aside0.mk (HG1.out.step hb); clear hb; (try clear b0 b1 b2 b3 b4 b5 b6 b7 l0 l1 l2); have b0 := blk_cell HG2.out.bx 0; have b1 := blk_cell HG2.out.bx 1; have b2 := blk_cell HG2.out.bx 2; have b3 := blk_cell HG2.out.bx 3; have b4 := blk_cell HG2.out.bx 4; have b5 := blk_cell HG2.out.bx 5; have b6 := blk_cell HG2.out.bx 6; have b7 := blk_cell HG2.out.bx 7; have l0 := blk_cell HG2.out.bg 0; have l1 := blk_cell HG2.out.bg 1; have l2 := blk_cell HG2.out.bg 2; simp only [List.getElem?_toArray, List.getElem?_cons_succ, List.getElem?_cons_zero] at b0 b1 b2 b3 b4 b5 b6 b7 l0 l1 l2) | (go_at_call 102; refine (del_at k59 rfl _ w0.heap.size (fun k => k ≠ g) g2 c xs.length i xs HT2.out.row hi hn).mono ?_; rintro e w3 ⟨rfl, hR, hgr⟩; have HR3 := Aside0.mk hR; have HGR := Aside0.mk hgr; have HBK := Aside0.mk ((hgr.block g HT2.out.lt (fun e => hgg (by injection e with e; exact e.symm))).trans HG2.out.bg); clear hR hgr; (try clear b0 b1 b2 b3 b4 b5 b6 b7 l0 l1 l2); have l0 := blk_cell HBK.out 0; have l1 := blk_cell HBK.out 1; have l2 := blk_cell HBK.out 2; have lf := blk_frozen HBK.out; simp only [List.getElem?_toArray, List.getElem?_cons_succ, List.getElem?_cons_zero] at l0 l1 l2))
 refine bodyPost_ret (by simp [results, Try.results48, go_sem]) rfl ⟨rfl, _, ⟨⟨blk_put HBK.out 0 _ rfl, Kd.R_far HR3.out (p := ⟨g, 0, none⟩) (fun k hk => hk) _, HW0.out.ge, ?_⟩, ?_, .inl rfl⟩⟩
 ·exact below_set (HT2.out.below.grown HGR.out (below_size HT2.out.below) (fun k hk => Kd.R_base HT2.out.row k hk)) HW0.out.ge
 ·exact (Kept.of_grown HGR.out (Kept.of_below HG2.out.below _) (fun k hk => .inl (.inr hk.symm))).setCell (p := ⟨g, 0, none⟩) (.inl (.inl rfl)) _
end Go.Proofs.Ytfdbcnbakchcgaa.XT
