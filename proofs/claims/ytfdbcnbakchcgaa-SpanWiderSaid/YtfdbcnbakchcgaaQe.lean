import Derived.Test.YtfdbcnbakchcgaaSv
import Derived.Test.YtfdbcnbakchcgaaQd
import Derived.Test.YtfdbcnbakchcgaaQo
namespace Go.Proofs.Ytfdbcnbakchcgaa.XQ
open Go.RowKit Go.Proofs.YtfdbcnbakchcgaaW.PrintWords Go.Proofs.YtfdbcnbakchcgaaW.PrintLast Go.Proofs.YtfdbcnbakchcgaaW.PrintMore
attribute [local go_sem] max2_int min2_int max_two min_two max_three min_three max_four min_four
set_option linter.unusedVariables false
set_option linter.unusedSimpArgs false
theorem ins_calls (w : World) (base : Nat) (ok okp : Nat → Prop) (v : Value) (xs : List S94) (i : Nat) (x : S94) (v0 v1 : Value) (vb : Nat) (hR : Kd.R k94 94 w base ok v xs) (hi : i ≤ xs.length) (hM : k94.M w base okp x [v0, v1, .int .i64 x.f2, .int .i64 x.f3]) (hokp : ∀ k, okp k → ok k ∧ some k ≠ v.ownBlock) (hvb : w.heap[vb]? = some (.cells #[v0, v1, .int .i64 x.f2, .int .i64 x.f3] 94 (0, 0))) (hne : some vb ≠ v.ownBlock) (hn : xs.length ≤ 1000) (hbase : base ≤ w.heap.size) (hfresh : ∀ k, w.heap.size ≤ k → ok k) :
 Calls Try.prog 110 #[v, .int .i64 i, .slice (some ⟨vb, 0, none⟩) 1 1] w fun e w' => ∃ v', e = .returned v' ∧ Kd.R k94 94 w' base ok v' (xs.take i ++ x :: xs.drop i) ∧ w.grownBy w' v.ownBlock ∧ (v'.ownBlock = v.ownBlock ∨ ∃ b, v'.ownBlock = some b ∧ w.heap.size ≤ b) := by
 obtain ⟨h0, inner, hown, hr⟩ := hR
 have h1 : ∀ u ∈ ([v0, v1, .int .i64 x.f2, .int .i64 x.f3] : List Value), u.oneCell' = true := k94.K_one (k94.K_of_M hM)
 have hc1 : ∀ u ∈ inner, u.oneCell' = true := Kd.reps_one (R := k94.M w base (fun k => ok k ∧ some k ≠ v.ownBlock)) hr (by decide) (fun p c hp => k94.K_one (k94.K_of_M hp))
 have hil : inner.length = xs.length * 4 := hr.1
 have fin : ∀ (v' : Value) (w' : World), w'.ownsRow base 94 4 v' (xs.length + 1) (insC (i * 4) [v0, v1, .int .i64 x.f2, .int .i64 x.f3] inner) → w.grownBy w' v.ownBlock → (v'.ownBlock = v.ownBlock ∨ ∃ b, v'.ownBlock = some b ∧ w.heap.size ≤ b) → Kd.R k94 94 w' base ok v' (xs.take i ++ x :: xs.drop i) := fun v' w' ho hg hat =>
  R_inserted (d := k94) h0 hr hM hokp hfresh hi ho hg hat
 rcases hown.2 with ⟨rfl, hn0⟩ | ⟨g, cap, cur, rfl, hb, hh, hnc, hcm, hcs, ht⟩
 ·have hx0 : xs = [] := List.eq_nil_of_length_eq_zero hn0
  subst hx0
  obtain rfl : i = 0 := by simpa using hi
  have hin : inner = [] := List.eq_nil_of_length_eq_zero (by simpa using hil)
  subst hin
  refine (qsins_nil w base vb [v0, v1, .int .i64 x.f2, .int .i64 x.f3] rfl h1 hvb hbase).mono ?_
  rintro e w' ⟨v', rfl, ho, hg, hat⟩
  exact ⟨v', rfl, fin v' w' ho hg hat, hg, hat⟩
 ·have hvg : vb ≠ g := fun e => hne (by rw [e]; rfl)
  rcases Nat.lt_or_ge i xs.length with hlt | hge
  ·rcases Nat.lt_or_ge cap (xs.length + 1) with hroom | hroom
   ·refine (qsins_grow w base g cap xs.length i vb inner [v0, v1, .int .i64 x.f2, .int .i64 x.f3] hown rfl h1 hc1 hvb hvg hn hlt hroom hbase).mono ?_
    rintro e w' ⟨v', rfl, ho, hg, hat⟩
    exact ⟨v', rfl, fin v' w' ho hg hat, hg, hat⟩
   ·refine (qsins_shift w base g cap xs.length i vb inner [v0, v1, .int .i64 x.f2, .int .i64 x.f3] hown rfl h1 hc1 hvb hvg hn hlt hroom).mono ?_
    rintro e w' ⟨v', rfl, ho, hg, hat⟩
    exact ⟨v', rfl, fin v' w' ho hg hat, hg, hat⟩
  ·obtain rfl : i = xs.length := by omega
   refine (qsins_end w base g cap xs.length 0 vb inner [v0, v1, .int .i64 x.f2, .int .i64 x.f3] hown rfl h1 hc1 hvb hvg hn hbase).mono ?_
   rintro e w' ⟨v', rfl, ho, hg, hat⟩
   exact ⟨v', rfl, fin v' w' ho hg hat, hg, hat⟩
structure LP (w0 w w' : World) (g : Nat) (v v1 wv : Value) (xs : List S94) (ws : List Int) (m : Int) : Prop where
 lk : LK w0 w' g v1 wv xs ws m
 kept : Kept w w' (fun k => k = g ∨ some k = v.ownBlock)
 at_ : v1.ownBlock = v.ownBlock ∨ ∃ b, v1.ownBlock = some b ∧ w.heap.size ≤ b
theorem LP.of_below {w0 w w' : World} {g : Nat} {v wv : Value} {xs : List S94} {ws : List Int} {m : Int} (h : LK w0 w g v wv xs ws m) (hb : Below w.heap.size w w') : LP w0 w w' g v v wv xs ws m :=
 ⟨h.step hb, Kept.of_below hb _, .inl rfl⟩
theorem V_beside {α : Type} {dd : Kd α} {e b g : Nat} {w w' : World} {v v1 u : Value} {ys : List α} (h : Kd.V dd e w b (fun k => k ≠ g ∧ some k ≠ v.ownBlock) u ys) (hk : Kept w w' (fun k => k = g ∨ some k = v.ownBlock)) (hat : v1.ownBlock = v.ownBlock ∨ ∃ b, v1.ownBlock = some b ∧ w.heap.size ≤ b) : Kd.V dd e w' b (fun k => k ≠ g ∧ some k ≠ v1.ownBlock) u ys :=
 Kd.V_mono (Kd.V_step (Kd.V_bound h) (fun k hk1 hlt => hk.2 k hlt (by rintro (q | q); exact hk1.1.1 q; exact hk1.1.2 q))) (fun k hk1 => ⟨hk1.1.1, by
  rcases hat with q | ⟨b, q, hb⟩
  ·rw [q]; exact hk1.1.2
  ·rw [q]; intro e2; injection e2 with e2; have := hk1.2; omega⟩)
set_option maxHeartbeats 1000000 in
set_option maxRecDepth 100000 in
theorem Put_e (w0 w : World) (g : Nat) (v wv : Value) (xs : List S94) (ws : List Int) (m : Int) (x : S94) (A : Option Addr) (c : Nat) (B : Option Addr) (d : Nat) (h : LK w0 w g v wv xs ws m) (hA : Kd.C k32 w A x.f0.length x.f0) (hB : Kd.C k32 w B x.f1.length x.f1) (hok0 : ∀ y ∈ x.f0, okV y) (hok1 : ∀ y ∈ x.f1, okV y) (c1 : Int) (hm : mayL ws x = c1) (hc : (c1 != 0) = true) (hn : xs.length ≤ 1000) :
 Calls Try.prog 55 #[.pointer (some ⟨g, 0, none⟩), .agg #[.slice A x.f0.length c, .slice B x.f1.length d, .int .i64 x.f2, .int .i64 x.f3]] w fun e w' => e = .returned (.int .i64 c1) ∧ Below w.heap.size w w' := by
 have HM := Aside0.mk hm
 clear hm
 obtain ⟨AX, cX, rfl⟩ := Kd.R_slice h.row
 obtain ⟨E, e, rfl⟩ := Kd.V_slice h.wid
 have HT0 := Aside0.mk (h.step (below_alloc (Below.refl _ _) (.cells #[.slice A x.f0.length c, .slice B x.f1.length d, .int .i64 x.f2, .int .i64 x.f3] 94 (0, 0))))
 have HC0 := Aside0.mk (show CB w.heap.size A c B d x (w.alloc (.cells #[.slice A x.f0.length c, .slice B x.f1.length d, .int .i64 x.f2, .int .i64 x.f3] 94 (0, 0))) from ⟨blk_new w _, Kd.C_alloc hA _, Kd.C_alloc hB _⟩)
 have HB0 := Aside0.mk (below_alloc (Below.refl w.heap.size w) (.cells #[.slice A x.f0.length c, .slice B x.f1.length d, .int .i64 x.f2, .int .i64 x.f3] 94 (0, 0)))
 have HK0 := Aside0.mk hok0
 have HK1 := Aside0.mk hok1
 clear h hA hB hok0 hok1
 have b0 := blk_cell HC0.out.blk 0
 have b1 := blk_cell HC0.out.blk 1
 have b2 := blk_cell HC0.out.blk 2
 have b3 := blk_cell HC0.out.blk 3
 have l0 := blk_cell HT0.out.blk 0
 have l1 := blk_cell HT0.out.blk 1
 have l2 := blk_cell HT0.out.blk 2
 simp only [List.getElem?_toArray, List.getElem?_cons_succ, List.getElem?_cons_zero] at b0 b1 b2 b3 l0 l1 l2
 go_enter Try.func55, Try.ntmps55
 go_wp2_with (first | (go_at_call 106; with_reducible refine (may_calls _ g _ E e ws m x A c B d HT0.out.blk (Kd.V_reads' HT0.out.wid).2.2 HC0.out.lo HC0.out.hi HK0.out HK1.out).mono ?_; rintro e_ w1 ⟨rfl, hb⟩; rw [HM.out]; have HT1 := Aside0.mk (HT0.out.step hb); have HC1 := Aside0.mk (HC0.out.step hb); have HB1 := Aside0.mk (below_step HB0.out hb); clear hb b0 b1 b2 b3 l0 l1 l2; have b0 := blk_cell HC1.out.blk 0; have b1 := blk_cell HC1.out.blk 1; have b2 := blk_cell HC1.out.blk 2; have b3 := blk_cell HC1.out.blk 3; have l0 := blk_cell HT1.out.blk 0; have l1 := blk_cell HT1.out.blk 1; have l2 := blk_cell HT1.out.blk 2; simp only [List.getElem?_toArray, List.getElem?_cons_succ, List.getElem?_cons_zero] at b0 b1 b2 b3 l0 l1 l2))
 go_ret
 exact ⟨rfl, HB1.out⟩
set_option maxHeartbeats 1000000 in
set_option maxRecDepth 100000 in
theorem Put_twice (w0 w : World) (g : Nat) (v wv : Value) (xs : List S94) (ws : List Int) (m : Int) (x : S94) (A : Option Addr) (c : Nat) (B : Option Addr) (d : Nat) (h : LK w0 w g v wv xs ws m) (hA : Kd.C k32 w A x.f0.length x.f0) (hB : Kd.C k32 w B x.f1.length x.f1) (hok0 : ∀ y ∈ x.f0, okV y) (hok1 : ∀ y ∈ x.f1, okV y) (hm : mayL ws x = 0) (F : Int) (hf : idxT (fun y => sameI y x) xs 0 = F) (hF : decide (0 ≤ F) = true) (hn : xs.length ≤ 1000) :
 Calls Try.prog 55 #[.pointer (some ⟨g, 0, none⟩), .agg #[.slice A x.f0.length c, .slice B x.f1.length d, .int .i64 x.f2, .int .i64 x.f3]] w fun e w' => e = .returned (.int .i64 6) ∧ Below w.heap.size w w' := by
 have HM := Aside0.mk hm
 have HF := Aside0.mk hf
 clear hm hf
 obtain ⟨AX, cX, rfl⟩ := Kd.R_slice h.row
 obtain ⟨E, e, rfl⟩ := Kd.V_slice h.wid
 have HT0 := Aside0.mk (h.step (below_alloc (Below.refl _ _) (.cells #[.slice A x.f0.length c, .slice B x.f1.length d, .int .i64 x.f2, .int .i64 x.f3] 94 (0, 0))))
 have HC0 := Aside0.mk (show CB w.heap.size A c B d x (w.alloc (.cells #[.slice A x.f0.length c, .slice B x.f1.length d, .int .i64 x.f2, .int .i64 x.f3] 94 (0, 0))) from ⟨blk_new w _, Kd.C_alloc hA _, Kd.C_alloc hB _⟩)
 have HB0 := Aside0.mk (below_alloc (Below.refl w.heap.size w) (.cells #[.slice A x.f0.length c, .slice B x.f1.length d, .int .i64 x.f2, .int .i64 x.f3] 94 (0, 0)))
 have HK0 := Aside0.mk hok0
 have HK1 := Aside0.mk hok1
 clear h hA hB hok0 hok1
 have b0 := blk_cell HC0.out.blk 0
 have b1 := blk_cell HC0.out.blk 1
 have b2 := blk_cell HC0.out.blk 2
 have b3 := blk_cell HC0.out.blk 3
 have l0 := blk_cell HT0.out.blk 0
 have l1 := blk_cell HT0.out.blk 1
 have l2 := blk_cell HT0.out.blk 2
 simp only [List.getElem?_toArray, List.getElem?_cons_succ, List.getElem?_cons_zero] at b0 b1 b2 b3 l0 l1 l2
 go_enter Try.func55, Try.ntmps55
 go_wp2_with (first | (go_at_call 106; with_reducible refine (may_calls _ g _ E e ws m x A c B d HT0.out.blk (Kd.V_reads' HT0.out.wid).2.2 HC0.out.lo HC0.out.hi HK0.out HK1.out).mono ?_; rintro e_ w1 ⟨rfl, hb⟩; rw [HM.out]; have HT1 := Aside0.mk (HT0.out.step hb); have HC1 := Aside0.mk (HC0.out.step hb); have HB1 := Aside0.mk (below_step HB0.out hb); clear hb b0 b1 b2 b3 l0 l1 l2; have b0 := blk_cell HC1.out.blk 0; have b1 := blk_cell HC1.out.blk 1; have b2 := blk_cell HC1.out.blk 2; have b3 := blk_cell HC1.out.blk 3; have l0 := blk_cell HT1.out.blk 0; have l1 := blk_cell HT1.out.blk 1; have l2 := blk_cell HT1.out.blk 2; simp only [List.getElem?_toArray, List.getElem?_cons_succ, List.getElem?_cons_zero] at b0 b1 b2 b3 l0 l1 l2) | (go_at_call 107; with_reducible refine (find_calls w0 _ g _ _ xs ws m x A c B d HT1.out HC1.out.lo HC1.out.hi hn).mono ?_; rintro e_ w2 ⟨rfl, hb⟩; rw [HF.out]; have HT2 := Aside0.mk (HT1.out.step hb); have HC2 := Aside0.mk (HC1.out.step hb); have HB2 := Aside0.mk (below_step HB1.out hb); clear hb b0 b1 b2 b3 l0 l1 l2; have b0 := blk_cell HC2.out.blk 0; have b1 := blk_cell HC2.out.blk 1; have b2 := blk_cell HC2.out.blk 2; have b3 := blk_cell HC2.out.blk 3; have l0 := blk_cell HT2.out.blk 0; have l1 := blk_cell HT2.out.blk 1; have l2 := blk_cell HT2.out.blk 2; simp only [List.getElem?_toArray, List.getElem?_cons_succ, List.getElem?_cons_zero] at b0 b1 b2 b3 l0 l1 l2))
 go_ret
 exact ⟨rfl, HB2.out⟩
set_option maxHeartbeats 1000000 in
set_option maxRecDepth 100000 in
theorem Put_full (w0 w : World) (g : Nat) (v wv : Value) (xs : List S94) (ws : List Int) (m : Int) (x : S94) (A : Option Addr) (c : Nat) (B : Option Addr) (d : Nat) (h : LK w0 w g v wv xs ws m) (hA : Kd.C k32 w A x.f0.length x.f0) (hB : Kd.C k32 w B x.f1.length x.f1) (hok0 : ∀ y ∈ x.f0, okV y) (hok1 : ∀ y ∈ x.f1, okV y) (hm : mayL ws x = 0) (F : Int) (hf : idxT (fun y => sameI y x) xs 0 = F) (hF : decide (0 ≤ F) = false) (hfull : ((xs.length : Int) == m) = true) (hn : xs.length ≤ 1000) :
 Calls Try.prog 55 #[.pointer (some ⟨g, 0, none⟩), .agg #[.slice A x.f0.length c, .slice B x.f1.length d, .int .i64 x.f2, .int .i64 x.f3]] w fun e w' => e = .returned (.int .i64 8) ∧ Below w.heap.size w w' := by
 have HM := Aside0.mk hm
 have HF := Aside0.mk hf
 clear hm hf
 obtain ⟨AX, cX, rfl⟩ := Kd.R_slice h.row
 obtain ⟨E, e, rfl⟩ := Kd.V_slice h.wid
 have HT0 := Aside0.mk (h.step (below_alloc (Below.refl _ _) (.cells #[.slice A x.f0.length c, .slice B x.f1.length d, .int .i64 x.f2, .int .i64 x.f3] 94 (0, 0))))
 have HC0 := Aside0.mk (show CB w.heap.size A c B d x (w.alloc (.cells #[.slice A x.f0.length c, .slice B x.f1.length d, .int .i64 x.f2, .int .i64 x.f3] 94 (0, 0))) from ⟨blk_new w _, Kd.C_alloc hA _, Kd.C_alloc hB _⟩)
 have HB0 := Aside0.mk (below_alloc (Below.refl w.heap.size w) (.cells #[.slice A x.f0.length c, .slice B x.f1.length d, .int .i64 x.f2, .int .i64 x.f3] 94 (0, 0)))
 have HK0 := Aside0.mk hok0
 have HK1 := Aside0.mk hok1
 clear h hA hB hok0 hok1
 have b0 := blk_cell HC0.out.blk 0
 have b1 := blk_cell HC0.out.blk 1
 have b2 := blk_cell HC0.out.blk 2
 have b3 := blk_cell HC0.out.blk 3
 have l0 := blk_cell HT0.out.blk 0
 have l1 := blk_cell HT0.out.blk 1
 have l2 := blk_cell HT0.out.blk 2
 simp only [List.getElem?_toArray, List.getElem?_cons_succ, List.getElem?_cons_zero] at b0 b1 b2 b3 l0 l1 l2
 go_enter Try.func55, Try.ntmps55
 go_wp2_with (first | (go_at_call 106; with_reducible refine (may_calls _ g _ E e ws m x A c B d HT0.out.blk (Kd.V_reads' HT0.out.wid).2.2 HC0.out.lo HC0.out.hi HK0.out HK1.out).mono ?_; rintro e_ w1 ⟨rfl, hb⟩; rw [HM.out]; have HT1 := Aside0.mk (HT0.out.step hb); have HC1 := Aside0.mk (HC0.out.step hb); have HB1 := Aside0.mk (below_step HB0.out hb); clear hb b0 b1 b2 b3 l0 l1 l2; have b0 := blk_cell HC1.out.blk 0; have b1 := blk_cell HC1.out.blk 1; have b2 := blk_cell HC1.out.blk 2; have b3 := blk_cell HC1.out.blk 3; have l0 := blk_cell HT1.out.blk 0; have l1 := blk_cell HT1.out.blk 1; have l2 := blk_cell HT1.out.blk 2; simp only [List.getElem?_toArray, List.getElem?_cons_succ, List.getElem?_cons_zero] at b0 b1 b2 b3 l0 l1 l2) | (go_at_call 107; with_reducible refine (find_calls w0 _ g _ _ xs ws m x A c B d HT1.out HC1.out.lo HC1.out.hi hn).mono ?_; rintro e_ w2 ⟨rfl, hb⟩; rw [HF.out]; have HT2 := Aside0.mk (HT1.out.step hb); have HC2 := Aside0.mk (HC1.out.step hb); have HB2 := Aside0.mk (below_step HB1.out hb); clear hb b0 b1 b2 b3 l0 l1 l2; have b0 := blk_cell HC2.out.blk 0; have b1 := blk_cell HC2.out.blk 1; have b2 := blk_cell HC2.out.blk 2; have b3 := blk_cell HC2.out.blk 3; have l0 := blk_cell HT2.out.blk 0; have l1 := blk_cell HT2.out.blk 1; have l2 := blk_cell HT2.out.blk 2; simp only [List.getElem?_toArray, List.getElem?_cons_succ, List.getElem?_cons_zero] at b0 b1 b2 b3 l0 l1 l2))
 clear b0 b1 b2 b3 l0 l1 l2
 refine start_ (n := 11) (S := fun w' => Below w2.heap.size w2 w') (ds := []) #[false, false, false, false, false, false, false, false, false, false, false] (by kernel_rfl) rfl rfl (below_drew1 (Below.refl _ _)) (fun hHeld => ?_)
 generalize World.drew _ = w3_ at hHeld ⊢
 refine pl_ [0, 1, 2, 5, 6, 7] ?_
 iterate 6 refine qP rfl rfl ?_
 refine pl0 ?_
 refine take_ (i := 3) (N := some 22) (v := ?_) (a' := ?_) #[true, true, true, true, false, true, true, true, false, false, false] rfl rfl (by kernel_rfl) (fun _ _ _ h => h) (Or.inl ⟨by rfl, ?_⟩) hHeld ?_ ?_
 rotate_left
 ·intro w' hs
  have l0 := blk_cell (HT2.out.step hs).blk 0
  simp only [List.getElem?_toArray, List.getElem?_cons_succ, List.getElem?_cons_zero] at l0
  go_simp
  with_reducible rfl
 rotate_left
 ·simp only [Act.put, List.setIfInBounds_toArray, List.set_cons_zero, List.set_cons_succ, i64_w, i32_w]
  rfl
 refine pl_ [4] ?_
 refine qP rfl rfl ?_
 refine pl0 ?_
 refine take_ (i := 8) (N := some 27) (v := ?_) (a' := ?_) #[true, true, true, true, true, true, true, true, true, false, false] rfl rfl (by kernel_rfl) (fun _ _ _ h => h) (Or.inl ⟨by rfl, ?_⟩) hHeld ?_ ?_
 rotate_left
 ·intro w' hs
  have l2 := blk_cell (HT2.out.step hs).blk 2
  simp only [List.getElem?_toArray, List.getElem?_cons_succ, List.getElem?_cons_zero] at l2
  go_simp
  with_reducible rfl
 rotate_left
 ·simp only [Act.put, List.setIfInBounds_toArray, List.set_cons_zero, List.set_cons_succ, i64_w, i32_w]
  rfl
 refine pl_ [9, 10] ?_
 iterate 2 refine qP rfl rfl ?_
 refine pl0 ?_
 refine done_ (by kernel_rfl) ?_
 have HT3 := Aside0.mk (HT2.out.step hHeld)
 have HC3 := Aside0.mk (HC2.out.step hHeld)
 have HB3 := Aside0.mk (below_step HB2.out hHeld)
 clear hHeld
 go_wp2
 go_ret
 exact ⟨rfl, HB3.out⟩
set_option maxHeartbeats 1000000 in
set_option maxRecDepth 100000 in
theorem Put_mid (w0 w : World) (g : Nat) (v wv : Value) (xs : List S94) (ws : List Int) (m : Int) (x : S94) (A : Option Addr) (c : Nat) (B : Option Addr) (d : Nat) (h : LK w0 w g v wv xs ws m) (hA : Kd.C k32 w A x.f0.length x.f0) (hB : Kd.C k32 w B x.f1.length x.f1) (hok0 : ∀ y ∈ x.f0, okV y) (hok1 : ∀ y ∈ x.f1, okV y) (hm : mayL ws x = 0) (F : Int) (hf : idxT (fun y => sameI y x) xs 0 = F) (hF : decide (0 ≤ F) = false) (hfull : ((xs.length : Int) == m) = false) (i : Nat) (hi : i ≤ xs.length) (hxl : x.f0.length ≤ c ∧ x.f1.length ≤ d ∧ x.f0.length ≤ 1000 ∧ x.f1.length ≤ 1000) (hI : idxT (fun y => decide (x.f2 < y.f2)) xs 0 = (i : Int)) (hn : xs.length ≤ 1000) :
 Calls Try.prog 55 #[.pointer (some ⟨g, 0, none⟩), .agg #[.slice A x.f0.length c, .slice B x.f1.length d, .int .i64 x.f2, .int .i64 x.f3]] w fun e w' => e = .returned (.int .i64 0) ∧ ∃ v1, LP w0 w w' g v v1 wv (xs.take i ++ x :: xs.drop i) ws m := by
 have HNX := Aside0.mk (show some w.heap.size ≠ v.ownBlock from fun q => Nat.lt_irrefl _ (Kd.R_lt h.row _ q.symm))
 have HM := Aside0.mk hm
 have HF := Aside0.mk hf
 have HI := Aside0.mk hI
 clear hm hf hI
 have HLL := Aside0.mk (show x.f0.length ≤ c ∧ x.f1.length ≤ d ∧ x.f0.length ≤ 1000 ∧ x.f1.length ≤ 1000 from hxl)
 clear hxl
 obtain ⟨AX, cX, rfl⟩ := Kd.R_slice h.row
 obtain ⟨E, e, rfl⟩ := Kd.V_slice h.wid
 have HT0 := Aside0.mk (h.step (below_alloc (Below.refl _ _) (.cells #[.slice A x.f0.length c, .slice B x.f1.length d, .int .i64 x.f2, .int .i64 x.f3] 94 (0, 0))))
 have HC0 := Aside0.mk (show CB w.heap.size A c B d x (w.alloc (.cells #[.slice A x.f0.length c, .slice B x.f1.length d, .int .i64 x.f2, .int .i64 x.f3] 94 (0, 0))) from ⟨blk_new w _, Kd.C_alloc hA _, Kd.C_alloc hB _⟩)
 have HB0 := Aside0.mk (below_alloc (Below.refl w.heap.size w) (.cells #[.slice A x.f0.length c, .slice B x.f1.length d, .int .i64 x.f2, .int .i64 x.f3] 94 (0, 0)))
 have HK0 := Aside0.mk hok0
 have HK1 := Aside0.mk hok1
 have HW0 := Aside0.mk h
 clear h hA hB hok0 hok1
 have b0 := blk_cell HC0.out.blk 0
 have b1 := blk_cell HC0.out.blk 1
 have b2 := blk_cell HC0.out.blk 2
 have b3 := blk_cell HC0.out.blk 3
 have l0 := blk_cell HT0.out.blk 0
 have l1 := blk_cell HT0.out.blk 1
 have l2 := blk_cell HT0.out.blk 2
 simp only [List.getElem?_toArray, List.getElem?_cons_succ, List.getElem?_cons_zero] at b0 b1 b2 b3 l0 l1 l2
 go_enter Try.func55, Try.ntmps55
 go_wp2_with (first | (go_at_call 106; with_reducible refine (may_calls _ g _ E e ws m x A c B d HT0.out.blk (Kd.V_reads' HT0.out.wid).2.2 HC0.out.lo HC0.out.hi HK0.out HK1.out).mono ?_; rintro e_ w1 ⟨rfl, hb⟩; rw [HM.out]; have HT1 := Aside0.mk (HT0.out.step hb); have HC1 := Aside0.mk (HC0.out.step hb); have HB1 := Aside0.mk (below_step HB0.out hb); clear hb b0 b1 b2 b3 l0 l1 l2; have b0 := blk_cell HC1.out.blk 0; have b1 := blk_cell HC1.out.blk 1; have b2 := blk_cell HC1.out.blk 2; have b3 := blk_cell HC1.out.blk 3; have l0 := blk_cell HT1.out.blk 0; have l1 := blk_cell HT1.out.blk 1; have l2 := blk_cell HT1.out.blk 2; simp only [List.getElem?_toArray, List.getElem?_cons_succ, List.getElem?_cons_zero] at b0 b1 b2 b3 l0 l1 l2) | (go_at_call 107; with_reducible refine (find_calls w0 _ g _ _ xs ws m x A c B d HT1.out HC1.out.lo HC1.out.hi hn).mono ?_; rintro e_ w2 ⟨rfl, hb⟩; rw [HF.out]; have HT2 := Aside0.mk (HT1.out.step hb); have HC2 := Aside0.mk (HC1.out.step hb); have HB2 := Aside0.mk (below_step HB1.out hb); clear hb b0 b1 b2 b3 l0 l1 l2; have b0 := blk_cell HC2.out.blk 0; have b1 := blk_cell HC2.out.blk 1; have b2 := blk_cell HC2.out.blk 2; have b3 := blk_cell HC2.out.blk 3; have l0 := blk_cell HT2.out.blk 0; have l1 := blk_cell HT2.out.blk 1; have l2 := blk_cell HT2.out.blk 2; simp only [List.getElem?_toArray, List.getElem?_cons_succ, List.getElem?_cons_zero] at b0 b1 b2 b3 l0 l1 l2))
 clear b0 b1 b2 b3 l0 l1 l2
 refine start_ (n := 11) (S := fun w' => Below w2.heap.size w2 w') (ds := []) #[false, false, false, false, false, false, false, false, false, false, false] (by kernel_rfl) rfl rfl (below_drew1 (Below.refl _ _)) (fun hHeld => ?_)
 generalize World.drew _ = w3_ at hHeld ⊢
 refine pl_ [0, 1, 2, 5, 6, 7] ?_
 iterate 6 refine qP rfl rfl ?_
 refine pl0 ?_
 refine take_ (i := 3) (N := some 22) (v := ?_) (a' := ?_) #[true, true, true, true, false, true, true, true, false, false, false] rfl rfl (by kernel_rfl) (fun _ _ _ h => h) (Or.inl ⟨by rfl, ?_⟩) hHeld ?_ ?_
 rotate_left
 ·intro w' hs
  have l0 := blk_cell (HT2.out.step hs).blk 0
  simp only [List.getElem?_toArray, List.getElem?_cons_succ, List.getElem?_cons_zero] at l0
  go_simp
  with_reducible rfl
 rotate_left
 ·simp only [Act.put, List.setIfInBounds_toArray, List.set_cons_zero, List.set_cons_succ, i64_w, i32_w]
  rfl
 refine pl_ [4] ?_
 refine qP rfl rfl ?_
 refine pl0 ?_
 refine take_ (i := 8) (N := some 27) (v := ?_) (a' := ?_) #[true, true, true, true, true, true, true, true, true, false, false] rfl rfl (by kernel_rfl) (fun _ _ _ h => h) (Or.inl ⟨by rfl, ?_⟩) hHeld ?_ ?_
 rotate_left
 ·intro w' hs
  have l2 := blk_cell (HT2.out.step hs).blk 2
  simp only [List.getElem?_toArray, List.getElem?_cons_succ, List.getElem?_cons_zero] at l2
  go_simp
  with_reducible rfl
 rotate_left
 ·simp only [Act.put, List.setIfInBounds_toArray, List.set_cons_zero, List.set_cons_succ, i64_w, i32_w]
  rfl
 refine pl_ [9, 10] ?_
 iterate 2 refine qP rfl rfl ?_
 refine pl0 ?_
 refine done_ (by kernel_rfl) ?_
 have HT3 := Aside0.mk (HT2.out.step hHeld)
 have HC3 := Aside0.mk (HC2.out.step hHeld)
 have HB3 := Aside0.mk (below_step HB2.out hHeld)
 clear hHeld
 have b0 := blk_cell HC3.out.blk 0
 have b1 := blk_cell HC3.out.blk 1
 have b2 := blk_cell HC3.out.blk 2
 have b3 := blk_cell HC3.out.blk 3
 have l0 := blk_cell HT3.out.blk 0
 have l1 := blk_cell HT3.out.blk 1
 have l2 := blk_cell HT3.out.blk 2
 simp only [List.getElem?_toArray, List.getElem?_cons_succ, List.getElem?_cons_zero] at b0 b1 b2 b3 l0 l1 l2
 have hmf : ∀ (fn : Fn) (first cap : Array Value) (w : World), (Instr.makeFunc fn first cap).run Try.prog w = .ok (.func fn first cap) w := fun _ _ _ _ => rfl
 go_wp2_with (first | (go_at_call 108; refine (idx_put w.heap.size _ (fun _ _ hb hg => CB.step hg hb) _ (put_closure x _ A c B d) AX cX xs _ HC3.out (Kd.R_reads' HT3.out.row).2.2 hn).mono ?_; rintro e_ w4 ⟨rfl, hb⟩; rw [HI.out]; have HT4 := Aside0.mk (HT3.out.step hb); have HC4 := Aside0.mk (HC3.out.step hb); have HB4 := Aside0.mk (below_step HB3.out hb); clear hb b0 b1 b2 b3 l0 l1 l2; have b0 := blk_cell HC4.out.blk 0; have b1 := blk_cell HC4.out.blk 1; have b2 := blk_cell HC4.out.blk 2; have b3 := blk_cell HC4.out.blk 3; have l0 := blk_cell HT4.out.blk 0; have l1 := blk_cell HT4.out.blk 1; have l2 := blk_cell HT4.out.blk 2; simp only [List.getElem?_toArray, List.getElem?_cons_succ, List.getElem?_cons_zero] at b0 b1 b2 b3 l0 l1 l2))
 clear b0 b1 b2 b3 l0 l1 l2 hmf
 refine start_ (n := 13) (S := fun w' => w'.heap[w.heap.size]? = some (.cells #[.slice A x.f0.length c, .slice B x.f1.length d, .int .i64 x.f2, .int .i64 x.f3] 94 (0, 0)) ∧ w'.heap[g]? = some (.cells #[.slice AX xs.length cX, .slice E ws.length e, .int .i64 m] 163 (0, 0))) (ds := [12]) #[false, false, false, false, false, false, false, false, false, false, false, false, false] (by kernel_rfl) rfl rfl ⟨blk_drew HC4.out.blk, blk_drew HT4.out.blk⟩ (fun hHeld => ?_)
 have HT5 := Aside0.mk (HT4.out.step (below_drew1 (Below.refl _ _)))
 have HC5 := Aside0.mk (HC4.out.step (below_drew1 (Below.refl _ _)))
 have HB5 := Aside0.mk (below_drew1 HB4.out)
 generalize World.drew _ = w5 at HT5 HC5 HB5 hHeld ⊢
 refine pl_ [0, 1, 2, 3, 5] ?_
 iterate 5 refine qP rfl rfl ?_
 refine pl0 ?_
 refine take_ (i := 4) (N := some 46) (v := ?_) (a' := ?_) #[true, true, true, true, true, true, false, false, false, false, false, false, false] rfl rfl (by kernel_rfl) (fun _ _ _ h => h) (Or.inl ⟨by rfl, ?_⟩) hHeld ?_ ?_
 rotate_left
 ·intro w' hs
  have l0 := blk_cell hs.2 0
  simp only [List.getElem?_toArray, List.getElem?_cons_succ, List.getElem?_cons_zero] at l0
  go_simp
  with_reducible rfl
 rotate_left
 ·simp only [Act.put, List.setIfInBounds_toArray, List.set_cons_zero, List.set_cons_succ, i64_w, i32_w]
  rfl
 refine take_ (i := 6) (N := some 48) (v := ?_) (a' := ?_) #[true, true, true, true, true, true, true, false, false, false, false, false, false] rfl rfl (by kernel_rfl) (fun _ _ _ h => h) (Or.inl ⟨by rfl, ?_⟩) hHeld ?_ ?_
 rotate_left
 ·intro w' hs
  have b0 := blk_cell (hs.1) 0
  have b1 := blk_cell (hs.1) 1
  have b2 := blk_cell (hs.1) 2
  have b3 := blk_cell (hs.1) 3
  simp only [List.getElem?_toArray, List.getElem?_cons_succ, List.getElem?_cons_zero] at b0 b1 b2 b3
  go_simp
  with_reducible rfl
 rotate_left
 ·simp only [Act.put, List.setIfInBounds_toArray, List.set_cons_zero, List.set_cons_succ, i64_w, i32_w]
  rfl
 clear hHeld
 refine one_ (i := 7) (N := some 49) #[true, true, true, true, true, true, true, true, false, false, false, false, false] rfl rfl (by kernel_rfl) (by decide) (fun K hK => ?_)
 refine goes_ Try.func111 (by kernel_rfl) rfl #[.agg #[.slice A x.f0.length c, .slice B x.f1.length d, .int .i64 x.f2, .int .i64 x.f3]] (by rfl) rfl rfl (by simp only [List.map_toArray, List.map_cons, List.map_nil]; first | rfl | (go_simp; done)) ?_
 with_reducible refine (own_calls x A c B d _ HC5.out.lo HC5.out.hi HLL.out.1 HLL.out.2.1 HLL.out.2.2.1 HLL.out.2.2.2).mono ?_
 rintro e_ w1 ⟨v0, v1, rfl, hr0, hr1, hb⟩
 refine ⟨_, rfl, ?_⟩
 have HT6 := Aside0.mk (HT5.out.step hb)
 have HC6 := Aside0.mk (HC5.out.step hb)
 have HB6 := Aside0.mk (below_step HB5.out hb)
 have HR0 := Aside0.mk (show Kd.R k32 32 w1 w0.heap.size (fun k => w5.heap.size ≤ k) v0 x.f0 from Kd.R_lower (Kd.R_mono (Kd.R_bound hr0) (fun k hk => hk.2.1)) (below_size HT5.out.below))
 have HR1 := Aside0.mk (show Kd.R k32 32 w1 w0.heap.size (fun k => w5.heap.size ≤ k) v1 x.f1 from Kd.R_lower (Kd.R_mono (Kd.R_bound hr1) (fun k hk => hk.2.1)) (below_size HT5.out.below))
 have HG5 := Aside0.mk HT5.out.lt
 have HO5 := Aside0.mk (fun k (hk : some k = (Value.slice AX xs.length cX).ownBlock) => Kd.R_lt HT5.out.row k hk.symm)
 have HS51 := Aside0.mk hb.size
 obtain ⟨A0_, c0_, rfl⟩ := Kd.R_slice hr0
 obtain ⟨A1_, c1_, rfl⟩ := Kd.R_slice hr1
 clear hr0 hr1 hb
 obtain ⟨w6, hw6⟩ : ∃ w6, w6 = w1 := ⟨_, rfl⟩
 rw [← hw6] at HT6 HC6 HB6 HR0 HR1 HS51 ⊢
 clear hw6 HT5 HC5 HB5
 refine hK.out _ _ ⟨HC6.out.blk, HT6.out.blk⟩ (fun hHeld => ?_)
 clear hK K
 refine norm_ (a' := ?_) ?_ ?_
 rotate_left
 ·show Act.put _ (some 49) _ = _
  simp only [Act.put, List.setIfInBounds_toArray, List.set_cons_zero, List.set_cons_succ, i64_w, i32_w]
  rfl
 clear hHeld
 refine one_ (i := 8) (N := some 50) #[true, true, true, true, true, true, true, true, true, false, false, false, false] rfl rfl (by kernel_rfl) (by decide) (fun K hK => ?_)
 refine value_ (w1 := ?_) (v := ?_) (by rfl) rfl ?_ ?_
 rotate_left 2
 ·go_simp
  constructor
  ·rfl
  ·rfl
 have HT7 := Aside0.mk (HT6.out.step (below_alloc (Below.refl _ _) (.cells #[.slice A0_ x.f0.length c0_, .slice A1_ x.f1.length c1_, .int .i64 x.f2, .int .i64 x.f3] 94 (0, 0))))
 have HC7 := Aside0.mk (HC6.out.step (below_alloc (Below.refl _ _) (.cells #[.slice A0_ x.f0.length c0_, .slice A1_ x.f1.length c1_, .int .i64 x.f2, .int .i64 x.f3] 94 (0, 0))))
 have HB7 := Aside0.mk (below_alloc HB6.out (.cells #[.slice A0_ x.f0.length c0_, .slice A1_ x.f1.length c1_, .int .i64 x.f2, .int .i64 x.f3] 94 (0, 0)))
 have HV7 := Aside0.mk (blk_new w6 (.cells #[.slice A0_ x.f0.length c0_, .slice A1_ x.f1.length c1_, .int .i64 x.f2, .int .i64 x.f3] 94 (0, 0)))
 have HM7 := Aside0.mk (k94_mkM (w6.alloc (.cells #[.slice A0_ x.f0.length c0_, .slice A1_ x.f1.length c1_, .int .i64 x.f2, .int .i64 x.f3] 94 (0, 0))) w0.heap.size (fun k => w5.heap.size ≤ k) x (Kd.R_alloc HR0.out _) (Kd.R_alloc HR1.out _))
 have HN7 := Aside0.mk (show some w6.heap.size ≠ (Value.slice AX xs.length cX).ownBlock from fun q => by have := HO5.out _ q; have := HS51.out; omega)
 have HZ7 := Aside0.mk (show (w6.alloc (.cells #[.slice A0_ x.f0.length c0_, .slice A1_ x.f1.length c1_, .int .i64 x.f2, .int .i64 x.f3] 94 (0, 0))).heap.size = w6.heap.size + 1 from by simp)
 generalize w6.alloc (.cells #[.slice A0_ x.f0.length c0_, .slice A1_ x.f1.length c1_, .int .i64 x.f2, .int .i64 x.f3] 94 (0, 0)) = w7 at HT7 HC7 HB7 HV7 HM7 HZ7 ⊢
 clear HR0 HR1 HT6 HC6 HB6
 refine hK.out _ _ ⟨HC7.out.blk, HT7.out.blk⟩ (fun hHeld => ?_)
 clear hK K hHeld
 refine norm_ (a' := ?_) ?_ ?_
 rotate_left
 ·show Act.put _ (some 50) _ = _
  simp only [Act.put, List.setIfInBounds_toArray, List.set_cons_zero, List.set_cons_succ, i64_w, i32_w]
  rfl
 refine one_ (i := 9) (N := some 51) #[true, true, true, true, true, true, true, true, true, true, false, false, false] rfl rfl (by kernel_rfl) (by decide) (fun K hK => ?_)
 refine goes_ Try.func110 (by kernel_rfl) rfl #[.slice AX xs.length cX, .int .i64 i, .slice (some ⟨w6.heap.size, 0, none⟩) 1 1] (by rfl) rfl rfl (by simp only [List.map_toArray, List.map_cons, List.map_nil]; first | rfl | (go_simp; done)) ?_
 with_reducible refine (ins_calls _ w0.heap.size (fun k => k ≠ g) (fun k => w5.heap.size ≤ k) (.slice AX xs.length cX) xs i x _ _ w6.heap.size HT7.out.row hi HM7.out (fun k hk => ⟨fun q => by have := HG5.out; omega, fun q => by have := HO5.out _ q; omega⟩) HV7.out HN7.out hn (below_size HT7.out.below) (fun k hk => by have := HT7.out.lt; omega)).mono ?_
 rintro e_ w1 ⟨v7, rfl, hR, hgr, hat⟩
 refine ⟨_, rfl, ?_⟩
 obtain ⟨A7, c7, rfl⟩ := Kd.R_slice hR
 generalize (xs.take i ++ x :: xs.drop i).length = L7 at hR hat ⊢
 have HR7 := Aside0.mk hR
 have HGR := Aside0.mk hgr
 have HAT := Aside0.mk hat
 have HBK := Aside0.mk ((hgr.block g HT7.out.lt (Kd.R_away HT7.out.row (fun k hk => hk))).trans HT7.out.blk)
 have HBX := Aside0.mk ((hgr.block w.heap.size (blk_lt HC7.out.blk) HNX.out).trans HC7.out.blk)
 clear hR hgr hat
 refine hK.out _ _ ⟨HBX.out, HBK.out⟩ (fun hHeld => ?_)
 clear hK K
 refine norm_ (a' := ?_) ?_ ?_
 rotate_left
 ·show Act.put _ (some 51) _ = _
  simp only [Act.put, List.setIfInBounds_toArray, List.set_cons_zero, List.set_cons_succ, i64_w, i32_w]
  rfl
 clear hHeld
 refine pl_ [10, 11] ?_
 iterate 2 refine qP rfl rfl ?_
 refine pl0 ?_
 refine last_ (i := 12) (N := none) #[true, true, true, true, true, true, true, true, true, true, true, true, true] rfl rfl (by kernel_rfl) (by decide) (fun K hK => ?_)
 have l0 := blk_cell HBK.out 0
 simp only [List.getElem?_toArray, List.getElem?_cons_succ, List.getElem?_cons_zero] at l0
 have lf := blk_frozen HBK.out 0
 refine skip_ (w1 := ?_) (by rfl) rfl ?_ ?_
 rotate_left
 ·go_simp
  rfl
 refine hK.out _ _ ?_
 clear hK K
 refine done_ (by kernel_rfl) ?_
 go_wp2
 have hkp := Kept.of_grown HGR.out (Kept.of_below HB7.out (fun k => k = g ∨ some k = (Value.slice AX xs.length cX).ownBlock)) (fun k hk => .inl (.inr hk.symm))
 have hkp2 := hkp.setCell (p := ⟨g, 0, none⟩) (.inl (.inl rfl)) (Value.slice A7 L7 c7)
 have hat2 : (Value.slice A7 L7 c7).ownBlock = (Value.slice AX xs.length cX).ownBlock ∨ ∃ b, (Value.slice A7 L7 c7).ownBlock = some b ∧ w.heap.size ≤ b := by
  rcases HAT.out with hh | ⟨b, hh, hle⟩
  ·exact .inl hh
  ·exact .inr ⟨b, hh, Nat.le_trans (below_size HB7.out) hle⟩
 refine bodyPost_ret (by simp [results, Try.results55, go_sem]) rfl ⟨rfl, _, ⟨⟨blk_put HBK.out 0 _ rfl, Kd.R_far HR7.out (p := ⟨g, 0, none⟩) (fun k hk => hk) _, V_beside HW0.out.wid hkp2 hat2, HW0.out.ge, ?_⟩, hkp2, hat2⟩⟩
 exact below_set (HT7.out.below.grown HGR.out (below_size HT7.out.below) (fun k hk => Kd.R_base HT7.out.row k hk)) HW0.out.ge
set_option maxHeartbeats 1000000 in
set_option maxRecDepth 100000 in
theorem Put_end (w0 w : World) (g : Nat) (v wv : Value) (xs : List S94) (ws : List Int) (m : Int) (x : S94) (A : Option Addr) (c : Nat) (B : Option Addr) (d : Nat) (h : LK w0 w g v wv xs ws m) (hA : Kd.C k32 w A x.f0.length x.f0) (hB : Kd.C k32 w B x.f1.length x.f1) (hok0 : ∀ y ∈ x.f0, okV y) (hok1 : ∀ y ∈ x.f1, okV y) (hm : mayL ws x = 0) (F : Int) (hf : idxT (fun y => sameI y x) xs 0 = F) (hF : decide (0 ≤ F) = false) (hfull : ((xs.length : Int) == m) = false) (i : Nat) (hi : i ≤ xs.length) (hxl : x.f0.length ≤ c ∧ x.f1.length ≤ d ∧ x.f0.length ≤ 1000 ∧ x.f1.length ≤ 1000) (hI : idxT (fun y => decide (x.f2 < y.f2)) xs 0 = -1) (hie : i = xs.length) (hn : xs.length ≤ 1000) :
 Calls Try.prog 55 #[.pointer (some ⟨g, 0, none⟩), .agg #[.slice A x.f0.length c, .slice B x.f1.length d, .int .i64 x.f2, .int .i64 x.f3]] w fun e w' => e = .returned (.int .i64 0) ∧ ∃ v1, LP w0 w w' g v v1 wv (xs.take i ++ x :: xs.drop i) ws m := by
 have HNX := Aside0.mk (show some w.heap.size ≠ v.ownBlock from fun q => Nat.lt_irrefl _ (Kd.R_lt h.row _ q.symm))
 have HM := Aside0.mk hm
 have HF := Aside0.mk hf
 have HI := Aside0.mk hI
 subst hie
 clear hm hf hI
 have HLL := Aside0.mk (show x.f0.length ≤ c ∧ x.f1.length ≤ d ∧ x.f0.length ≤ 1000 ∧ x.f1.length ≤ 1000 from hxl)
 clear hxl
 obtain ⟨AX, cX, rfl⟩ := Kd.R_slice h.row
 obtain ⟨E, e, rfl⟩ := Kd.V_slice h.wid
 have HT0 := Aside0.mk (h.step (below_alloc (Below.refl _ _) (.cells #[.slice A x.f0.length c, .slice B x.f1.length d, .int .i64 x.f2, .int .i64 x.f3] 94 (0, 0))))
 have HC0 := Aside0.mk (show CB w.heap.size A c B d x (w.alloc (.cells #[.slice A x.f0.length c, .slice B x.f1.length d, .int .i64 x.f2, .int .i64 x.f3] 94 (0, 0))) from ⟨blk_new w _, Kd.C_alloc hA _, Kd.C_alloc hB _⟩)
 have HB0 := Aside0.mk (below_alloc (Below.refl w.heap.size w) (.cells #[.slice A x.f0.length c, .slice B x.f1.length d, .int .i64 x.f2, .int .i64 x.f3] 94 (0, 0)))
 have HK0 := Aside0.mk hok0
 have HK1 := Aside0.mk hok1
 have HW0 := Aside0.mk h
 clear h hA hB hok0 hok1
 have b0 := blk_cell HC0.out.blk 0
 have b1 := blk_cell HC0.out.blk 1
 have b2 := blk_cell HC0.out.blk 2
 have b3 := blk_cell HC0.out.blk 3
 have l0 := blk_cell HT0.out.blk 0
 have l1 := blk_cell HT0.out.blk 1
 have l2 := blk_cell HT0.out.blk 2
 simp only [List.getElem?_toArray, List.getElem?_cons_succ, List.getElem?_cons_zero] at b0 b1 b2 b3 l0 l1 l2
 go_enter Try.func55, Try.ntmps55
 go_wp2_with (first | (go_at_call 106; with_reducible refine (may_calls _ g _ E e ws m x A c B d HT0.out.blk (Kd.V_reads' HT0.out.wid).2.2 HC0.out.lo HC0.out.hi HK0.out HK1.out).mono ?_; rintro e_ w1 ⟨rfl, hb⟩; rw [HM.out]; have HT1 := Aside0.mk (HT0.out.step hb); have HC1 := Aside0.mk (HC0.out.step hb); have HB1 := Aside0.mk (below_step HB0.out hb); clear hb b0 b1 b2 b3 l0 l1 l2; have b0 := blk_cell HC1.out.blk 0; have b1 := blk_cell HC1.out.blk 1; have b2 := blk_cell HC1.out.blk 2; have b3 := blk_cell HC1.out.blk 3; have l0 := blk_cell HT1.out.blk 0; have l1 := blk_cell HT1.out.blk 1; have l2 := blk_cell HT1.out.blk 2; simp only [List.getElem?_toArray, List.getElem?_cons_succ, List.getElem?_cons_zero] at b0 b1 b2 b3 l0 l1 l2) | (go_at_call 107; with_reducible refine (find_calls w0 _ g _ _ xs ws m x A c B d HT1.out HC1.out.lo HC1.out.hi hn).mono ?_; rintro e_ w2 ⟨rfl, hb⟩; rw [HF.out]; have HT2 := Aside0.mk (HT1.out.step hb); have HC2 := Aside0.mk (HC1.out.step hb); have HB2 := Aside0.mk (below_step HB1.out hb); clear hb b0 b1 b2 b3 l0 l1 l2; have b0 := blk_cell HC2.out.blk 0; have b1 := blk_cell HC2.out.blk 1; have b2 := blk_cell HC2.out.blk 2; have b3 := blk_cell HC2.out.blk 3; have l0 := blk_cell HT2.out.blk 0; have l1 := blk_cell HT2.out.blk 1; have l2 := blk_cell HT2.out.blk 2; simp only [List.getElem?_toArray, List.getElem?_cons_succ, List.getElem?_cons_zero] at b0 b1 b2 b3 l0 l1 l2))
 clear b0 b1 b2 b3 l0 l1 l2
 refine start_ (n := 11) (S := fun w' => Below w2.heap.size w2 w') (ds := []) #[false, false, false, false, false, false, false, false, false, false, false] (by kernel_rfl) rfl rfl (below_drew1 (Below.refl _ _)) (fun hHeld => ?_)
 generalize World.drew _ = w3_ at hHeld ⊢
 refine pl_ [0, 1, 2, 5, 6, 7] ?_
 iterate 6 refine qP rfl rfl ?_
 refine pl0 ?_
 refine take_ (i := 3) (N := some 22) (v := ?_) (a' := ?_) #[true, true, true, true, false, true, true, true, false, false, false] rfl rfl (by kernel_rfl) (fun _ _ _ h => h) (Or.inl ⟨by rfl, ?_⟩) hHeld ?_ ?_
 rotate_left
 ·intro w' hs
  have l0 := blk_cell (HT2.out.step hs).blk 0
  simp only [List.getElem?_toArray, List.getElem?_cons_succ, List.getElem?_cons_zero] at l0
  go_simp
  with_reducible rfl
 rotate_left
 ·simp only [Act.put, List.setIfInBounds_toArray, List.set_cons_zero, List.set_cons_succ, i64_w, i32_w]
  rfl
 refine pl_ [4] ?_
 refine qP rfl rfl ?_
 refine pl0 ?_
 refine take_ (i := 8) (N := some 27) (v := ?_) (a' := ?_) #[true, true, true, true, true, true, true, true, true, false, false] rfl rfl (by kernel_rfl) (fun _ _ _ h => h) (Or.inl ⟨by rfl, ?_⟩) hHeld ?_ ?_
 rotate_left
 ·intro w' hs
  have l2 := blk_cell (HT2.out.step hs).blk 2
  simp only [List.getElem?_toArray, List.getElem?_cons_succ, List.getElem?_cons_zero] at l2
  go_simp
  with_reducible rfl
 rotate_left
 ·simp only [Act.put, List.setIfInBounds_toArray, List.set_cons_zero, List.set_cons_succ, i64_w, i32_w]
  rfl
 refine pl_ [9, 10] ?_
 iterate 2 refine qP rfl rfl ?_
 refine pl0 ?_
 refine done_ (by kernel_rfl) ?_
 have HT3 := Aside0.mk (HT2.out.step hHeld)
 have HC3 := Aside0.mk (HC2.out.step hHeld)
 have HB3 := Aside0.mk (below_step HB2.out hHeld)
 clear hHeld
 have b0 := blk_cell HC3.out.blk 0
 have b1 := blk_cell HC3.out.blk 1
 have b2 := blk_cell HC3.out.blk 2
 have b3 := blk_cell HC3.out.blk 3
 have l0 := blk_cell HT3.out.blk 0
 have l1 := blk_cell HT3.out.blk 1
 have l2 := blk_cell HT3.out.blk 2
 simp only [List.getElem?_toArray, List.getElem?_cons_succ, List.getElem?_cons_zero] at b0 b1 b2 b3 l0 l1 l2
 have hmf : ∀ (fn : Fn) (first cap : Array Value) (w : World), (Instr.makeFunc fn first cap).run Try.prog w = .ok (.func fn first cap) w := fun _ _ _ _ => rfl
 go_wp2_with (first | (go_at_call 108; refine (idx_put w.heap.size _ (fun _ _ hb hg => CB.step hg hb) _ (put_closure x _ A c B d) AX cX xs _ HC3.out (Kd.R_reads' HT3.out.row).2.2 hn).mono ?_; rintro e_ w4 ⟨rfl, hb⟩; rw [HI.out]; have HT4 := Aside0.mk (HT3.out.step hb); have HC4 := Aside0.mk (HC3.out.step hb); have HB4 := Aside0.mk (below_step HB3.out hb); clear hb b0 b1 b2 b3 l0 l1 l2; have b0 := blk_cell HC4.out.blk 0; have b1 := blk_cell HC4.out.blk 1; have b2 := blk_cell HC4.out.blk 2; have b3 := blk_cell HC4.out.blk 3; have l0 := blk_cell HT4.out.blk 0; have l1 := blk_cell HT4.out.blk 1; have l2 := blk_cell HT4.out.blk 2; simp only [List.getElem?_toArray, List.getElem?_cons_succ, List.getElem?_cons_zero] at b0 b1 b2 b3 l0 l1 l2))
 clear b0 b1 b2 b3 l0 l1 l2 hmf
 refine start_ (n := 13) (S := fun w' => w'.heap[w.heap.size]? = some (.cells #[.slice A x.f0.length c, .slice B x.f1.length d, .int .i64 x.f2, .int .i64 x.f3] 94 (0, 0)) ∧ w'.heap[g]? = some (.cells #[.slice AX xs.length cX, .slice E ws.length e, .int .i64 m] 163 (0, 0))) (ds := [12]) #[false, false, false, false, false, false, false, false, false, false, false, false, false] (by kernel_rfl) rfl rfl ⟨blk_drew HC4.out.blk, blk_drew HT4.out.blk⟩ (fun hHeld => ?_)
 have HT5 := Aside0.mk (HT4.out.step (below_drew1 (Below.refl _ _)))
 have HC5 := Aside0.mk (HC4.out.step (below_drew1 (Below.refl _ _)))
 have HB5 := Aside0.mk (below_drew1 HB4.out)
 generalize World.drew _ = w5 at HT5 HC5 HB5 hHeld ⊢
 refine pl_ [0, 1, 2, 3, 5] ?_
 iterate 5 refine qP rfl rfl ?_
 refine pl0 ?_
 refine take_ (i := 4) (N := some 46) (v := ?_) (a' := ?_) #[true, true, true, true, true, true, false, false, false, false, false, false, false] rfl rfl (by kernel_rfl) (fun _ _ _ h => h) (Or.inl ⟨by rfl, ?_⟩) hHeld ?_ ?_
 rotate_left
 ·intro w' hs
  have l0 := blk_cell hs.2 0
  simp only [List.getElem?_toArray, List.getElem?_cons_succ, List.getElem?_cons_zero] at l0
  go_simp
  with_reducible rfl
 rotate_left
 ·simp only [Act.put, List.setIfInBounds_toArray, List.set_cons_zero, List.set_cons_succ, i64_w, i32_w]
  rfl
 refine take_ (i := 6) (N := some 48) (v := ?_) (a' := ?_) #[true, true, true, true, true, true, true, false, false, false, false, false, false] rfl rfl (by kernel_rfl) (fun _ _ _ h => h) (Or.inl ⟨by rfl, ?_⟩) hHeld ?_ ?_
 rotate_left
 ·intro w' hs
  have b0 := blk_cell (hs.1) 0
  have b1 := blk_cell (hs.1) 1
  have b2 := blk_cell (hs.1) 2
  have b3 := blk_cell (hs.1) 3
  simp only [List.getElem?_toArray, List.getElem?_cons_succ, List.getElem?_cons_zero] at b0 b1 b2 b3
  go_simp
  with_reducible rfl
 rotate_left
 ·simp only [Act.put, List.setIfInBounds_toArray, List.set_cons_zero, List.set_cons_succ, i64_w, i32_w]
  rfl
 clear hHeld
 refine one_ (i := 7) (N := some 49) #[true, true, true, true, true, true, true, true, false, false, false, false, false] rfl rfl (by kernel_rfl) (by decide) (fun K hK => ?_)
 refine goes_ Try.func111 (by kernel_rfl) rfl #[.agg #[.slice A x.f0.length c, .slice B x.f1.length d, .int .i64 x.f2, .int .i64 x.f3]] (by rfl) rfl rfl (by simp only [List.map_toArray, List.map_cons, List.map_nil]; first | rfl | (go_simp; done)) ?_
 with_reducible refine (own_calls x A c B d _ HC5.out.lo HC5.out.hi HLL.out.1 HLL.out.2.1 HLL.out.2.2.1 HLL.out.2.2.2).mono ?_
 rintro e_ w1 ⟨v0, v1, rfl, hr0, hr1, hb⟩
 refine ⟨_, rfl, ?_⟩
 have HT6 := Aside0.mk (HT5.out.step hb)
 have HC6 := Aside0.mk (HC5.out.step hb)
 have HB6 := Aside0.mk (below_step HB5.out hb)
 have HR0 := Aside0.mk (show Kd.R k32 32 w1 w0.heap.size (fun k => w5.heap.size ≤ k) v0 x.f0 from Kd.R_lower (Kd.R_mono (Kd.R_bound hr0) (fun k hk => hk.2.1)) (below_size HT5.out.below))
 have HR1 := Aside0.mk (show Kd.R k32 32 w1 w0.heap.size (fun k => w5.heap.size ≤ k) v1 x.f1 from Kd.R_lower (Kd.R_mono (Kd.R_bound hr1) (fun k hk => hk.2.1)) (below_size HT5.out.below))
 have HG5 := Aside0.mk HT5.out.lt
 have HO5 := Aside0.mk (fun k (hk : some k = (Value.slice AX xs.length cX).ownBlock) => Kd.R_lt HT5.out.row k hk.symm)
 have HS51 := Aside0.mk hb.size
 obtain ⟨A0_, c0_, rfl⟩ := Kd.R_slice hr0
 obtain ⟨A1_, c1_, rfl⟩ := Kd.R_slice hr1
 clear hr0 hr1 hb
 obtain ⟨w6, hw6⟩ : ∃ w6, w6 = w1 := ⟨_, rfl⟩
 rw [← hw6] at HT6 HC6 HB6 HR0 HR1 HS51 ⊢
 clear hw6 HT5 HC5 HB5
 refine hK.out _ _ ⟨HC6.out.blk, HT6.out.blk⟩ (fun hHeld => ?_)
 clear hK K
 refine norm_ (a' := ?_) ?_ ?_
 rotate_left
 ·show Act.put _ (some 49) _ = _
  simp only [Act.put, List.setIfInBounds_toArray, List.set_cons_zero, List.set_cons_succ, i64_w, i32_w]
  rfl
 clear hHeld
 refine one_ (i := 8) (N := some 50) #[true, true, true, true, true, true, true, true, true, false, false, false, false] rfl rfl (by kernel_rfl) (by decide) (fun K hK => ?_)
 refine value_ (w1 := ?_) (v := ?_) (by rfl) rfl ?_ ?_
 rotate_left 2
 ·go_simp
  constructor
  ·rfl
  ·rfl
 have HT7 := Aside0.mk (HT6.out.step (below_alloc (Below.refl _ _) (.cells #[.slice A0_ x.f0.length c0_, .slice A1_ x.f1.length c1_, .int .i64 x.f2, .int .i64 x.f3] 94 (0, 0))))
 have HC7 := Aside0.mk (HC6.out.step (below_alloc (Below.refl _ _) (.cells #[.slice A0_ x.f0.length c0_, .slice A1_ x.f1.length c1_, .int .i64 x.f2, .int .i64 x.f3] 94 (0, 0))))
 have HB7 := Aside0.mk (below_alloc HB6.out (.cells #[.slice A0_ x.f0.length c0_, .slice A1_ x.f1.length c1_, .int .i64 x.f2, .int .i64 x.f3] 94 (0, 0)))
 have HV7 := Aside0.mk (blk_new w6 (.cells #[.slice A0_ x.f0.length c0_, .slice A1_ x.f1.length c1_, .int .i64 x.f2, .int .i64 x.f3] 94 (0, 0)))
 have HM7 := Aside0.mk (k94_mkM (w6.alloc (.cells #[.slice A0_ x.f0.length c0_, .slice A1_ x.f1.length c1_, .int .i64 x.f2, .int .i64 x.f3] 94 (0, 0))) w0.heap.size (fun k => w5.heap.size ≤ k) x (Kd.R_alloc HR0.out _) (Kd.R_alloc HR1.out _))
 have HN7 := Aside0.mk (show some w6.heap.size ≠ (Value.slice AX xs.length cX).ownBlock from fun q => by have := HO5.out _ q; have := HS51.out; omega)
 have HZ7 := Aside0.mk (show (w6.alloc (.cells #[.slice A0_ x.f0.length c0_, .slice A1_ x.f1.length c1_, .int .i64 x.f2, .int .i64 x.f3] 94 (0, 0))).heap.size = w6.heap.size + 1 from by simp)
 generalize w6.alloc (.cells #[.slice A0_ x.f0.length c0_, .slice A1_ x.f1.length c1_, .int .i64 x.f2, .int .i64 x.f3] 94 (0, 0)) = w7 at HT7 HC7 HB7 HV7 HM7 HZ7 ⊢
 clear HR0 HR1 HT6 HC6 HB6
 refine hK.out _ _ ⟨HC7.out.blk, HT7.out.blk⟩ (fun hHeld => ?_)
 clear hK K hHeld
 refine norm_ (a' := ?_) ?_ ?_
 rotate_left
 ·show Act.put _ (some 50) _ = _
  simp only [Act.put, List.setIfInBounds_toArray, List.set_cons_zero, List.set_cons_succ, i64_w, i32_w]
  rfl
 refine one_ (i := 9) (N := some 51) #[true, true, true, true, true, true, true, true, true, true, false, false, false] rfl rfl (by kernel_rfl) (by decide) (fun K hK => ?_)
 refine goes_ Try.func110 (by kernel_rfl) rfl #[.slice AX xs.length cX, .int .i64 xs.length, .slice (some ⟨w6.heap.size, 0, none⟩) 1 1] (by rfl) rfl rfl (by simp only [List.map_toArray, List.map_cons, List.map_nil]; first | rfl | (go_simp; done)) ?_
 with_reducible refine (ins_calls _ w0.heap.size (fun k => k ≠ g) (fun k => w5.heap.size ≤ k) (.slice AX xs.length cX) xs xs.length x _ _ w6.heap.size HT7.out.row hi HM7.out (fun k hk => ⟨fun q => by have := HG5.out; omega, fun q => by have := HO5.out _ q; omega⟩) HV7.out HN7.out hn (below_size HT7.out.below) (fun k hk => by have := HT7.out.lt; omega)).mono ?_
 rintro e_ w1 ⟨v7, rfl, hR, hgr, hat⟩
 refine ⟨_, rfl, ?_⟩
 obtain ⟨A7, c7, rfl⟩ := Kd.R_slice hR
 generalize (xs.take xs.length ++ x :: xs.drop xs.length).length = L7 at hR hat ⊢
 have HR7 := Aside0.mk hR
 have HGR := Aside0.mk hgr
 have HAT := Aside0.mk hat
 have HBK := Aside0.mk ((hgr.block g HT7.out.lt (Kd.R_away HT7.out.row (fun k hk => hk))).trans HT7.out.blk)
 have HBX := Aside0.mk ((hgr.block w.heap.size (blk_lt HC7.out.blk) HNX.out).trans HC7.out.blk)
 clear hR hgr hat
 refine hK.out _ _ ⟨HBX.out, HBK.out⟩ (fun hHeld => ?_)
 clear hK K
 refine norm_ (a' := ?_) ?_ ?_
 rotate_left
 ·show Act.put _ (some 51) _ = _
  simp only [Act.put, List.setIfInBounds_toArray, List.set_cons_zero, List.set_cons_succ, i64_w, i32_w]
  rfl
 clear hHeld
 refine pl_ [10, 11] ?_
 iterate 2 refine qP rfl rfl ?_
 refine pl0 ?_
 refine last_ (i := 12) (N := none) #[true, true, true, true, true, true, true, true, true, true, true, true, true] rfl rfl (by kernel_rfl) (by decide) (fun K hK => ?_)
 have l0 := blk_cell HBK.out 0
 simp only [List.getElem?_toArray, List.getElem?_cons_succ, List.getElem?_cons_zero] at l0
 have lf := blk_frozen HBK.out 0
 refine skip_ (w1 := ?_) (by rfl) rfl ?_ ?_
 rotate_left
 ·go_simp
  rfl
 refine hK.out _ _ ?_
 clear hK K
 refine done_ (by kernel_rfl) ?_
 go_wp2
 have hkp := Kept.of_grown HGR.out (Kept.of_below HB7.out (fun k => k = g ∨ some k = (Value.slice AX xs.length cX).ownBlock)) (fun k hk => .inl (.inr hk.symm))
 have hkp2 := hkp.setCell (p := ⟨g, 0, none⟩) (.inl (.inl rfl)) (Value.slice A7 L7 c7)
 have hat2 : (Value.slice A7 L7 c7).ownBlock = (Value.slice AX xs.length cX).ownBlock ∨ ∃ b, (Value.slice A7 L7 c7).ownBlock = some b ∧ w.heap.size ≤ b := by
  rcases HAT.out with hh | ⟨b, hh, hle⟩
  ·exact .inl hh
  ·exact .inr ⟨b, hh, Nat.le_trans (below_size HB7.out) hle⟩
 refine bodyPost_ret (by simp [results, Try.results55, go_sem]) rfl ⟨rfl, _, ⟨⟨blk_put HBK.out 0 _ rfl, Kd.R_far HR7.out (p := ⟨g, 0, none⟩) (fun k hk => hk) _, V_beside HW0.out.wid hkp2 hat2, HW0.out.ge, ?_⟩, hkp2, hat2⟩⟩
 exact below_set (HT7.out.below.grown HGR.out (below_size HT7.out.below) (fun k hk => Kd.R_base HT7.out.row k hk)) HW0.out.ge
end Go.Proofs.Ytfdbcnbakchcgaa.XQ
