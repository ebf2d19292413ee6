import Derived.Test.YtfdbcnbakchcgaaSr
import Derived.Test.YtfdbcnbakchcgaaXRx0
import Derived.Test.YtfdbcnbakchcgaaXRx2
import Derived.Test.YtfdbcnbakchcgaaXRx3
import Derived.Test.YtfdbcnbakchcgaaXRx4
namespace Go.Proofs.Ytfdbcnbakchcgaa.XR
open Go.RowKit Go.Proofs.YtfdbcnbakchcgaaW.PrintWords Go.Proofs.YtfdbcnbakchcgaaW.PrintLast Go.Proofs.YtfdbcnbakchcgaaW.PrintMore
attribute [local go_sem] max2_int min2_int max_two min_two max_three min_three max_four min_four   -- for this text's walks alone
set_option linter.unusedVariables false
set_option linter.unusedSimpArgs false
def trie_bit.f (a0_0 : Int) (a0_1 : Int) (a0_2 : Int) (a1 : Int) : Option (Int) := (vec_Word.f a0_0 a0_1 a0_2).bind fun bt148 => ((word_Bit.f bt148.1 bt148.2 (wrap64 ((wrap64 (a0_0 - 1)) - a1))).bind fun t150 => (if t150 = true then (some 1) else (some 0)))
def trie_bit.T1 : Bool × List (List Nat × List Nat) := (true, [([], []), ([0], [0]), ([], []), ([2], [2]), ([3], [3]), ([], []), ([4, 5], [4, 5]), ([1, 6, 1], [1, 6])])
def trie_bit.B1 : List Nat := [0, 1, 0, 4, 12, 0, 60, 127]
theorem trie_bit.tab1 : rtab .any (opsOf Try.f74 1) = trie_bit.T1 := by kernel_rfl
theorem trie_bit.bits1 : waitsOk trie_bit.T1.2 trie_bit.B1 = true := by kernel_rfl
set_option maxHeartbeats 8000000 in
set_option maxRecDepth 100000 in
theorem trie_bit.calls (a0_0 : Int) (a0_1 : Int) (a0_2 : Int) (a1 : Int) (r : Int) (w : World) (h : trie_bit.f a0_0 a0_1 a0_2 a1 = some r) :
 Calls Try.prog 74 #[.agg #[.int .i64 a0_0, .int .u64 a0_1, .int .u64 a0_2], .int .i64 a1] w fun e w' => e = .returned (.int .i64 r) ∧ Below w.heap.size w w' := by
 have hu32 := Try.underlying32
 have HB := Aside0.mk (Below.refl w.heap.size w)
 have H : ((vec_Word.f a0_0 a0_1 a0_2).bind fun bt148 => ((word_Bit.f bt148.1 bt148.2 (wrap64 ((wrap64 (a0_0 - 1)) - a1))).bind fun t150 => (if t150 = true then (some 1) else (some 0)))) = some r := h
 clear h
 replace H := Option.bind_eq_some_iff.mp H
 obtain ⟨⟨t148, t149⟩, A30, H⟩ := H
 replace H : ((word_Bit.f t148 t149 (wrap64 ((wrap64 (a0_0 - 1)) - a1))).bind fun t150 => (if t150 = true then (some 1) else (some 0))) = some r := H
 have A3 := Aside0.mk A30
 clear A30
 replace H := Option.bind_eq_some_iff.mp H
 obtain ⟨t150, A40, H⟩ := H
 replace H : (if t150 = true then (some 1) else (some 0)) = some r := H
 have A4 := Aside0.mk A40
 clear A40
 by_cases c5 : t150 = true
 ·subst c5
  have H1 : (some 1) = some r := by rw [if_pos rfl] at H; exact H
  clear H
  have H := H1
  clear H1
  obtain rfl := Option.some.inj H
  go_enter Try.func74, Try.ntmps74
  try go_wp2_with (first | ((with_reducible refine gate_dst (N := 2) rfl ?_); refine box_event ?hg (N := 2) ?hd (cs := #[.int .i64 a0_0, .int .u64 a0_1, .int .u64 a0_2]) (t := 32) ?hr ?_; (case hd => rfl); (case hg => rfl); (case hr => first | (go_simp; done) | (go_simp; rfl)); intro gb147 hg w6 hbox hb; have BK147 := Aside0.mk (hbox); have GW147 := Aside0.mk ((by rw [hg]; exact (below_size (by repeat (first | (with_reducible first | exact HB.out | apply below_alloc | apply pw_below_drewN | apply below_drew1) | exact HB.out))) : w.heap.size ≤ gb147)); have GE147 := Aside0.mk ((by rw [hg]; exact (below_size (by repeat (first | (with_reducible first | exact HB.out | apply below_alloc | apply pw_below_drewN | apply below_drew1) | exact HB.out))) : w.heap.size ≤ gb147)); replace HB := Aside0.mk (below_step (by repeat (first | (with_reducible first | exact HB.out | apply below_alloc | apply pw_below_drewN | apply below_drew1) | exact HB.out)) hb); clear hb hbox hg))
  replace BK147 := Aside0.mk (blk_drew BK147.out)
  replace HB := Aside0.mk (below_drew1 HB.out)
  refine start_ (n := 8) (S := fun w' => w'.cell? ⟨gb147, 0, none⟩ = some (.int .i64 a0_0) ∧ w'.cell? ⟨gb147, 1, none⟩ = some (.int .u64 a0_1) ∧ w'.cell? ⟨gb147, 2, none⟩ = some (.int .u64 a0_2)) (ds := []) #[false, false, false, false, false, false, false, false] (by kernel_rfl) rfl rfl ⟨(blk_cell BK147.out 0).trans rfl, (blk_cell BK147.out 1).trans rfl, (blk_cell BK147.out 2).trans rfl⟩ (fun hHeld => ?_); refine with_tabW trie_bit.tab1 trie_bit.bits1 (fun HT_ HW_ => ?_)
  generalize w6.drew = w7 at BK147 HB hHeld ⊢
  refine pl_ [2, 5, 0, 3, 4, 6] ?_
  iterate 2 refine pP rfl rfl (any_of HT_.out (by kernel_rfl)) (fun _ _ _ h => h) (by rfl) (by intro w'; go_simp; with_reducible rfl) (by simp only [Act.put, z1, z2, z3, i64_w, i32_w]; rfl) ?_
  iterate 2 refine pT hHeld rfl rfl (take_ofW HT_.out HW_.out (by kernel_rfl)) (fun _ _ _ h => h) (by rfl) (by rintro w' ⟨s0, s1, s2⟩; go_simp; with_reducible rfl) (by simp only [Act.put, z1, z2, z3, i64_w, i32_w]; rfl) ?_
  iterate 2 refine pP rfl rfl (any_of HT_.out (by kernel_rfl)) (fun _ _ _ h => h) (by rfl) (by intro w'; go_simp; with_reducible rfl) (by simp only [Act.put, z1, z2, z3, i64_w, i32_w]; rfl) ?_
  refine pl0 ?_
  refine one_ (i := 1) (N := some 6) #[true, true, true, true, true, true, true, false] rfl rfl (one_of HT_.out (by kernel_rfl)) (by decide) (fun K hK => ?_)
  refine goes_ Try.func124 (by kernel_rfl) rfl #[.agg #[.int .i64 a0_0, .int .u64 a0_1, .int .u64 a0_2]] (by rfl) rfl rfl (by (try simp only [List.map_toArray, List.map_cons, List.map_nil]); first | done | rfl | (simp only [List.length_drop, List.length_take]; rfl)) ?_
  with_reducible refine (vec_Word.calls a0_0 a0_1 a0_2 t148 t149 _ A3.out).mono ?_
  rintro e w8 ⟨rfl, hb⟩
  refine ⟨_, rfl, ?_⟩
  replace BK147 := bk1 (by (with_reducible repeat (first | refine blk_drewN ?_ _ | refine blk_drew ?_ | refine blk_alloc ?_ _)); exact BK147.out) hb
  replace HB := Aside0.mk (below_step (by repeat (first | (with_reducible first | exact HB.out | apply below_alloc | apply pw_below_drewN | apply below_drew1 | refine below_set ?_ GE147.out) | exact HB.out)) hb)
  (try clear hb)
  (try clear hb2)
  (try clear hk)
  (try clear hi)
  refine hK.out _ _ ⟨(blk_cell BK147.out 0).trans rfl, (blk_cell BK147.out 1).trans rfl, (blk_cell BK147.out 2).trans rfl⟩ (fun hHeld => ?_)
  clear hK K
  refine norm_ (a' := ?_) ?_ ?_
  rotate_left
  ·show Act.put _ (some 6) _ = _
   simp only [Act.put, List.setIfInBounds_toArray, List.set_cons_zero, List.set_cons_succ, i64_w, i32_w]
   rfl
  refine one_ (i := 7) (N := some 12) #[true, true, true, true, true, true, true, true] rfl rfl (one_of HT_.out (by kernel_rfl)) (by decide) (fun K hK => ?_)
  refine goes_ Try.func125 (by kernel_rfl) rfl #[.agg #[.int .u64 t148, .int .u64 t149], .int .i64 (wrap64 ((wrap64 (a0_0 - 1)) - a1))] (by rfl) rfl rfl (by (try simp only [List.map_toArray, List.map_cons, List.map_nil]); first | done | rfl | (simp only [List.length_drop, List.length_take]; rfl)) ?_
  with_reducible refine (word_Bit.calls t148 t149 (wrap64 ((wrap64 (a0_0 - 1)) - a1)) true _ A4.out).mono ?_
  rintro e w9 ⟨rfl, hb⟩
  refine ⟨_, rfl, ?_⟩
  replace BK147 := bk1 (by (with_reducible repeat (first | refine blk_drewN ?_ _ | refine blk_drew ?_ | refine blk_alloc ?_ _)); exact BK147.out) hb
  replace HB := Aside0.mk (below_step (by repeat (first | (with_reducible first | exact HB.out | apply below_alloc | apply pw_below_drewN | apply below_drew1 | refine below_set ?_ GE147.out) | exact HB.out)) hb)
  (try clear hb)
  (try clear hb2)
  (try clear hk)
  (try clear hi)
  refine hK.out _ _ ⟨(blk_cell BK147.out 0).trans rfl, (blk_cell BK147.out 1).trans rfl, (blk_cell BK147.out 2).trans rfl⟩ (fun hHeld => ?_)
  clear hK K
  refine norm_ (a' := ?_) ?_ ?_
  rotate_left
  ·show Act.put _ (some 12) _ = _
   simp only [Act.put, List.setIfInBounds_toArray, List.set_cons_zero, List.set_cons_succ, i64_w, i32_w]
   rfl
  refine done_ (done_of HT_.out (by kernel_rfl)) ?_
  try go_wp2
  go_ret
  exact ⟨by first | rfl | (simp [errW_none, errW_some] <;> rfl) | (simp [*, errW_none, errW_some] <;> rfl), by repeat (first | (with_reducible first | exact HB.out | apply below_alloc | apply pw_below_drewN | apply below_drew1 | refine below_set ?_ GE147.out) | exact HB.out)⟩
 ·replace c5 := Bool.eq_false_iff.mpr c5
  subst c5
  have H1 : (some 0) = some r := by rw [if_neg (show ¬ (false = true) by decide)] at H; exact H
  clear H
  have H := H1
  clear H1
  obtain rfl := Option.some.inj H
  go_enter Try.func74, Try.ntmps74
  try go_wp2_with (first | ((with_reducible refine gate_dst (N := 2) rfl ?_); refine box_event ?hg (N := 2) ?hd (cs := #[.int .i64 a0_0, .int .u64 a0_1, .int .u64 a0_2]) (t := 32) ?hr ?_; (case hd => rfl); (case hg => rfl); (case hr => first | (go_simp; done) | (go_simp; rfl)); intro gb147 hg w10 hbox hb; have BK147 := Aside0.mk (hbox); have GW147 := Aside0.mk ((by rw [hg]; exact (below_size (by repeat (first | (with_reducible first | exact HB.out | apply below_alloc | apply pw_below_drewN | apply below_drew1) | exact HB.out))) : w.heap.size ≤ gb147)); have GE147 := Aside0.mk ((by rw [hg]; exact (below_size (by repeat (first | (with_reducible first | exact HB.out | apply below_alloc | apply pw_below_drewN | apply below_drew1) | exact HB.out))) : w.heap.size ≤ gb147)); replace HB := Aside0.mk (below_step (by repeat (first | (with_reducible first | exact HB.out | apply below_alloc | apply pw_below_drewN | apply below_drew1) | exact HB.out)) hb); clear hb hbox hg))
  replace BK147 := Aside0.mk (blk_drew BK147.out)
  replace HB := Aside0.mk (below_drew1 HB.out)
  refine start_ (n := 8) (S := fun w' => w'.cell? ⟨gb147, 0, none⟩ = some (.int .i64 a0_0) ∧ w'.cell? ⟨gb147, 1, none⟩ = some (.int .u64 a0_1) ∧ w'.cell? ⟨gb147, 2, none⟩ = some (.int .u64 a0_2)) (ds := []) #[false, false, false, false, false, false, false, false] (by kernel_rfl) rfl rfl ⟨(blk_cell BK147.out 0).trans rfl, (blk_cell BK147.out 1).trans rfl, (blk_cell BK147.out 2).trans rfl⟩ (fun hHeld => ?_); refine with_tabW trie_bit.tab1 trie_bit.bits1 (fun HT_ HW_ => ?_)
  generalize w10.drew = w11 at BK147 HB hHeld ⊢
  refine pl_ [2, 5, 0, 3, 4, 6] ?_
  iterate 2 refine pP rfl rfl (any_of HT_.out (by kernel_rfl)) (fun _ _ _ h => h) (by rfl) (by intro w'; go_simp; with_reducible rfl) (by simp only [Act.put, z1, z2, z3, i64_w, i32_w]; rfl) ?_
  iterate 2 refine pT hHeld rfl rfl (take_ofW HT_.out HW_.out (by kernel_rfl)) (fun _ _ _ h => h) (by rfl) (by rintro w' ⟨s0, s1, s2⟩; go_simp; with_reducible rfl) (by simp only [Act.put, z1, z2, z3, i64_w, i32_w]; rfl) ?_
  iterate 2 refine pP rfl rfl (any_of HT_.out (by kernel_rfl)) (fun _ _ _ h => h) (by rfl) (by intro w'; go_simp; with_reducible rfl) (by simp only [Act.put, z1, z2, z3, i64_w, i32_w]; rfl) ?_
  refine pl0 ?_
  refine one_ (i := 1) (N := some 6) #[true, true, true, true, true, true, true, false] rfl rfl (one_of HT_.out (by kernel_rfl)) (by decide) (fun K hK => ?_)
  refine goes_ Try.func124 (by kernel_rfl) rfl #[.agg #[.int .i64 a0_0, .int .u64 a0_1, .int .u64 a0_2]] (by rfl) rfl rfl (by (try simp only [List.map_toArray, List.map_cons, List.map_nil]); first | done | rfl | (simp only [List.length_drop, List.length_take]; rfl)) ?_
  with_reducible refine (vec_Word.calls a0_0 a0_1 a0_2 t148 t149 _ A3.out).mono ?_
  rintro e w12 ⟨rfl, hb⟩
  refine ⟨_, rfl, ?_⟩
  replace BK147 := bk1 (by (with_reducible repeat (first | refine blk_drewN ?_ _ | refine blk_drew ?_ | refine blk_alloc ?_ _)); exact BK147.out) hb
  replace HB := Aside0.mk (below_step (by repeat (first | (with_reducible first | exact HB.out | apply below_alloc | apply pw_below_drewN | apply below_drew1 | refine below_set ?_ GE147.out) | exact HB.out)) hb)
  (try clear hb)
  (try clear hb2)
  (try clear hk)
  (try clear hi)
  refine hK.out _ _ ⟨(blk_cell BK147.out 0).trans rfl, (blk_cell BK147.out 1).trans rfl, (blk_cell BK147.out 2).trans rfl⟩ (fun hHeld => ?_)
  clear hK K
  refine norm_ (a' := ?_) ?_ ?_
  rotate_left
  ·show Act.put _ (some 6) _ = _
   simp only [Act.put, List.setIfInBounds_toArray, List.set_cons_zero, List.set_cons_succ, i64_w, i32_w]
   rfl
  refine one_ (i := 7) (N := some 12) #[true, true, true, true, true, true, true, true] rfl rfl (one_of HT_.out (by kernel_rfl)) (by decide) (fun K hK => ?_)
  refine goes_ Try.func125 (by kernel_rfl) rfl #[.agg #[.int .u64 t148, .int .u64 t149], .int .i64 (wrap64 ((wrap64 (a0_0 - 1)) - a1))] (by rfl) rfl rfl (by (try simp only [List.map_toArray, List.map_cons, List.map_nil]); first | done | rfl | (simp only [List.length_drop, List.length_take]; rfl)) ?_
  with_reducible refine (word_Bit.calls t148 t149 (wrap64 ((wrap64 (a0_0 - 1)) - a1)) false _ A4.out).mono ?_
  rintro e w13 ⟨rfl, hb⟩
  refine ⟨_, rfl, ?_⟩
  replace BK147 := bk1 (by (with_reducible repeat (first | refine blk_drewN ?_ _ | refine blk_drew ?_ | refine blk_alloc ?_ _)); exact BK147.out) hb
  replace HB := Aside0.mk (below_step (by repeat (first | (with_reducible first | exact HB.out | apply below_alloc | apply pw_below_drewN | apply below_drew1 | refine below_set ?_ GE147.out) | exact HB.out)) hb)
  (try clear hb)
  (try clear hb2)
  (try clear hk)
  (try clear hi)
  refine hK.out _ _ ⟨(blk_cell BK147.out 0).trans rfl, (blk_cell BK147.out 1).trans rfl, (blk_cell BK147.out 2).trans rfl⟩ (fun hHeld => ?_)
  clear hK K
  refine norm_ (a' := ?_) ?_ ?_
  rotate_left
  ·show Act.put _ (some 12) _ = _
   simp only [Act.put, List.setIfInBounds_toArray, List.set_cons_zero, List.set_cons_succ, i64_w, i32_w]
   rfl
  refine done_ (done_of HT_.out (by kernel_rfl)) ?_
  try go_wp2
  go_ret
  exact ⟨by first | rfl | (simp [errW_none, errW_some] <;> rfl) | (simp [*, errW_none, errW_some] <;> rfl), by repeat (first | (with_reducible first | exact HB.out | apply below_alloc | apply pw_below_drewN | apply below_drew1 | refine below_set ?_ GE147.out) | exact HB.out)⟩
-- NOT PRINTED: function 21 (trie_Trie_Get)
-- EXT shunter/vec.And ROUNDS=0 MAKING=1 DEPS=shunter/vec.May;shunter/vec.Word;shunter/word.And;shunter/vec.Cut
/-- Three blocks of this call's own, and all that lay before is as it was. -/
structure BX3 (w W : World) (x y z : Obj) : Prop where
 b0 : W.heap[w.heap.size]? = some x
 b1 : W.heap[w.heap.size + 1]? = some y
 b2 : W.heap[w.heap.size + 1 + 1]? = some z
 below : Below w.heap.size w W
theorem BX3.start (w : World) (x y z : Obj) : BX3 w (((w.alloc x).alloc y).alloc z) x y z := by
 have h1 : (w.alloc x).heap.size = w.heap.size + 1 := by simp
 have h2 : ((w.alloc x).alloc y).heap.size = w.heap.size + 1 + 1 := by simp
 refine ⟨blk_alloc (blk_alloc (blk_new w x) y) z, ?_, ?_, below_alloc (below_alloc (below_alloc (Below.refl _ _) _) _) _⟩
 ·have := blk_alloc (blk_new (w.alloc x) y) z
  rwa [h1] at this
 ·have := blk_new ((w.alloc x).alloc y) z
  rwa [h2] at this
theorem BX3.step {w W W1 : World} {x y z : Obj} (h : BX3 w W x y z) (hb : Below W.heap.size W W1) : BX3 w W1 x y z :=
 ⟨blk_below h.b0 hb, blk_below h.b1 hb, blk_below h.b2 hb, below_step h.below hb⟩
theorem BX3.drew {w W : World} {x y z : Obj} (h : BX3 w W x y z) : BX3 w W.drew x y z := h.step (below_drew1 (Below.refl _ _))
/-- A call of a function value that captures nothing. -/
theorem goesV_ {P : Program} {ops : Array Oper} {Q : Exit → Act → World → Prop} {oi : Oper} {N : Option Tmp} {a : Act} {w : World} {K : Act → World → Prop} {f : FuncId} {fn : Func} {x : Operand} {ops2 : Array Operand} {ts : Array TypeId} (hf : P.funcs[f]? = some fn) (hname : (fn.name == "runtime.NumGoroutine") = false) (hb : fn.body.isSome = true) (args : Array Value)
 (hw : Region.wanted oi (yielded ops a.tmps) = true) (hN : oi.dst = N) (hop : oi.op = .call { callee := .value x, args := ops2, argTypes := ts }) (hx : a.eval x = .func (.func f) #[] #[]) (hargs : ops2.map a.eval = args)
 (h : Calls P f args w fun e w' => ∃ v, e = .returned v ∧ K (a.put N v) w') : if Region.wanted oi (yielded ops a.tmps) = true then Oper.wp P oi a w K Q else K (a.put N undef) w := by
 refine call_ f args hw hN ?_ h
 have he := enters_ hf hname hb args w
 unfold execOp
 simp [hop, resolve, Deferred.ofValue, invoke, hx, hargs, he]
def vec_And.f (a0 a1 a2 b0 b1 b2 : Int) : Option (Int × Int × Int × Int) :=
 (vec_May.f a0 a1 a2).bind fun ma => if ma = true then (vec_May.f b0 b1 b2).bind fun mb => if mb = true then (if a0 = b0 then (word_And.f a1 a2 b1 b2).bind fun x => vec_Cut.f 4 a0 x.1 x.2 else some (0, 0, 0, 9)) else some (0, 0, 0, 1) else some (0, 0, 0, 1)
set_option maxHeartbeats 400000 in
set_option maxRecDepth 100000 in
theorem two_a (a0 a1 a2 b0 b1 b2 : Int) (w : World) (hA : vec_May.f a0 a1 a2 = some false) :
 Calls Try.prog 131 #[.agg #[.int .i64 a0, .int .u64 a1, .int .u64 a2], .agg #[.int .i64 b0, .int .u64 b1, .int .u64 b2], .func (.func 127) #[] #[]] w fun e w' => e = .returned (.tuple #[.agg #[.int .i64 0, .int .u64 0, .int .u64 0], .int .i64 1]) ∧ Below w.heap.size w w' := by
 have HA := Aside0.mk hA
 clear hA
 have H0 := Aside0.mk (BX3.start w (.cells #[.int .i64 a0, .int .u64 a1, .int .u64 a2] 32 (0, 0)) (.cells #[.int .i64 b0, .int .u64 b1, .int .u64 b2] 32 (0, 0)) (.cells #[.int .i64 0, .int .u64 0, .int .u64 0] 32 (0, 0)))
 go_enter Try.func131, Try.ntmps131
 go_wp2_with (first | (go_at_call 73; with_reducible refine (vec_May.calls a0 a1 a2 false _ HA.out).mono ?_; rintro e w1 ⟨rfl, hb⟩; have H1 := Aside0.mk (H0.out.step hb); clear hb; (try clear cx0 cx1 cx2 cy0 cy1 cy2 cz0 cz1 cz2 zf); have cx0 := blk_cell H1.out.b0 0; have cx1 := blk_cell H1.out.b0 1; have cx2 := blk_cell H1.out.b0 2; have cy0 := blk_cell H1.out.b1 0; have cy1 := blk_cell H1.out.b1 1; have cy2 := blk_cell H1.out.b1 2; have cz0 := blk_cell H1.out.b2 0; have cz1 := blk_cell H1.out.b2 1; have cz2 := blk_cell H1.out.b2 2; have zf := blk_frozen H1.out.b2; simp only [List.getElem?_toArray, List.getElem?_cons_succ, List.getElem?_cons_zero] at cx0 cx1 cx2 cy0 cy1 cy2 cz0 cz1 cz2))
 refine bodyPost_ret (results_ct rfl _ _ (w.heap.size + 1 + 1) 32 _ (0, 0) _ rfl (blk_set (blk_set (blk_set H1.out.b2 0 _) 1 _) 2 _) Try.underlying32 rfl (by kernel_rfl)) rfl ⟨rfl, ?_⟩
 exact below_set (below_set (below_set H1.out.below (by omega)) (by omega)) (by omega)
set_option maxHeartbeats 400000 in
set_option maxRecDepth 100000 in
theorem two_b (a0 a1 a2 b0 b1 b2 : Int) (w : World) (hA : vec_May.f a0 a1 a2 = some true) (hB : vec_May.f b0 b1 b2 = some false) :
 Calls Try.prog 131 #[.agg #[.int .i64 a0, .int .u64 a1, .int .u64 a2], .agg #[.int .i64 b0, .int .u64 b1, .int .u64 b2], .func (.func 127) #[] #[]] w fun e w' => e = .returned (.tuple #[.agg #[.int .i64 0, .int .u64 0, .int .u64 0], .int .i64 1]) ∧ Below w.heap.size w w' := by
 have HA := Aside0.mk hA
 have HB := Aside0.mk hB
 clear hA hB
 have H0 := Aside0.mk (BX3.start w (.cells #[.int .i64 a0, .int .u64 a1, .int .u64 a2] 32 (0, 0)) (.cells #[.int .i64 b0, .int .u64 b1, .int .u64 b2] 32 (0, 0)) (.cells #[.int .i64 0, .int .u64 0, .int .u64 0] 32 (0, 0)))
 go_enter Try.func131, Try.ntmps131
 go_wp2_with (first | (go_at_call 73; with_reducible refine (vec_May.calls a0 a1 a2 true _ HA.out).mono ?_; rintro e w1 ⟨rfl, hb⟩; have H1 := Aside0.mk (H0.out.step hb); clear hb; (try clear cx0 cx1 cx2 cy0 cy1 cy2 cz0 cz1 cz2 zf); have cx0 := blk_cell H1.out.b0 0; have cx1 := blk_cell H1.out.b0 1; have cx2 := blk_cell H1.out.b0 2; have cy0 := blk_cell H1.out.b1 0; have cy1 := blk_cell H1.out.b1 1; have cy2 := blk_cell H1.out.b1 2; have cz0 := blk_cell H1.out.b2 0; have cz1 := blk_cell H1.out.b2 1; have cz2 := blk_cell H1.out.b2 2; have zf := blk_frozen H1.out.b2; simp only [List.getElem?_toArray, List.getElem?_cons_succ, List.getElem?_cons_zero] at cx0 cx1 cx2 cy0 cy1 cy2 cz0 cz1 cz2) | (go_at_call 73; with_reducible refine (vec_May.calls b0 b1 b2 false _ HB.out).mono ?_; rintro e w2 ⟨rfl, hb⟩; have H2 := Aside0.mk (H1.out.step hb); clear hb; (try clear cx0 cx1 cx2 cy0 cy1 cy2 cz0 cz1 cz2 zf); have cx0 := blk_cell H2.out.b0 0; have cx1 := blk_cell H2.out.b0 1; have cx2 := blk_cell H2.out.b0 2; have cy0 := blk_cell H2.out.b1 0; have cy1 := blk_cell H2.out.b1 1; have cy2 := blk_cell H2.out.b1 2; have cz0 := blk_cell H2.out.b2 0; have cz1 := blk_cell H2.out.b2 1; have cz2 := blk_cell H2.out.b2 2; have zf := blk_frozen H2.out.b2; simp only [List.getElem?_toArray, List.getElem?_cons_succ, List.getElem?_cons_zero] at cx0 cx1 cx2 cy0 cy1 cy2 cz0 cz1 cz2))
 refine bodyPost_ret (results_ct rfl _ _ (w.heap.size + 1 + 1) 32 _ (0, 0) _ rfl (blk_set (blk_set (blk_set H2.out.b2 0 _) 1 _) 2 _) Try.underlying32 rfl (by kernel_rfl)) rfl ⟨rfl, ?_⟩
 exact below_set (below_set (below_set H2.out.below (by omega)) (by omega)) (by omega)
set_option maxHeartbeats 400000 in
set_option maxRecDepth 100000 in
theorem two_w (a0 a1 a2 b0 b1 b2 : Int) (w : World) (hA : vec_May.f a0 a1 a2 = some true) (hB : vec_May.f b0 b1 b2 = some true) (hw : (a0 != b0) = true) :
 Calls Try.prog 131 #[.agg #[.int .i64 a0, .int .u64 a1, .int .u64 a2], .agg #[.int .i64 b0, .int .u64 b1, .int .u64 b2], .func (.func 127) #[] #[]] w fun e w' => e = .returned (.tuple #[.agg #[.int .i64 0, .int .u64 0, .int .u64 0], .int .i64 9]) ∧ Below w.heap.size w w' := by
 have HA := Aside0.mk hA
 have HB := Aside0.mk hB
 clear hA hB
 have H0 := Aside0.mk (BX3.start w (.cells #[.int .i64 a0, .int .u64 a1, .int .u64 a2] 32 (0, 0)) (.cells #[.int .i64 b0, .int .u64 b1, .int .u64 b2] 32 (0, 0)) (.cells #[.int .i64 0, .int .u64 0, .int .u64 0] 32 (0, 0)))
 go_enter Try.func131, Try.ntmps131
 go_wp2_with (first | (go_at_call 73; with_reducible refine (vec_May.calls a0 a1 a2 true _ HA.out).mono ?_; rintro e w1 ⟨rfl, hb⟩; have H1 := Aside0.mk (H0.out.step hb); clear hb; (try clear cx0 cx1 cx2 cy0 cy1 cy2 cz0 cz1 cz2 zf); have cx0 := blk_cell H1.out.b0 0; have cx1 := blk_cell H1.out.b0 1; have cx2 := blk_cell H1.out.b0 2; have cy0 := blk_cell H1.out.b1 0; have cy1 := blk_cell H1.out.b1 1; have cy2 := blk_cell H1.out.b1 2; have cz0 := blk_cell H1.out.b2 0; have cz1 := blk_cell H1.out.b2 1; have cz2 := blk_cell H1.out.b2 2; have zf := blk_frozen H1.out.b2; simp only [List.getElem?_toArray, List.getElem?_cons_succ, List.getElem?_cons_zero] at cx0 cx1 cx2 cy0 cy1 cy2 cz0 cz1 cz2) | (go_at_call 73; with_reducible refine (vec_May.calls b0 b1 b2 true _ HB.out).mono ?_; rintro e w2 ⟨rfl, hb⟩; have H2 := Aside0.mk (H1.out.step hb); clear hb; (try clear cx0 cx1 cx2 cy0 cy1 cy2 cz0 cz1 cz2 zf); have cx0 := blk_cell H2.out.b0 0; have cx1 := blk_cell H2.out.b0 1; have cx2 := blk_cell H2.out.b0 2; have cy0 := blk_cell H2.out.b1 0; have cy1 := blk_cell H2.out.b1 1; have cy2 := blk_cell H2.out.b1 2; have cz0 := blk_cell H2.out.b2 0; have cz1 := blk_cell H2.out.b2 1; have cz2 := blk_cell H2.out.b2 2; have zf := blk_frozen H2.out.b2; simp only [List.getElem?_toArray, List.getElem?_cons_succ, List.getElem?_cons_zero] at cx0 cx1 cx2 cy0 cy1 cy2 cz0 cz1 cz2))
 refine bodyPost_ret (results_ct rfl _ _ (w.heap.size + 1 + 1) 32 _ (0, 0) _ rfl (blk_set (blk_set (blk_set H2.out.b2 0 _) 1 _) 2 _) Try.underlying32 rfl (by kernel_rfl)) rfl ⟨rfl, ?_⟩
 exact below_set (below_set (below_set H2.out.below (by omega)) (by omega)) (by omega)
set_option maxHeartbeats 400000 in
set_option maxRecDepth 100000 in
theorem two_ok (a0 a1 a2 b1 b2 x1 x2 r1 r2 r3 r4 : Int) (w : World) (hA : vec_May.f a0 a1 a2 = some true) (hB : vec_May.f a0 b1 b2 = some true) (hX : word_And.f a1 a2 b1 b2 = some (x1, x2)) (hC : vec_Cut.f 4 a0 x1 x2 = some (r1, r2, r3, r4)) :
 Calls Try.prog 131 #[.agg #[.int .i64 a0, .int .u64 a1, .int .u64 a2], .agg #[.int .i64 a0, .int .u64 b1, .int .u64 b2], .func (.func 127) #[] #[]] w fun e w' => e = .returned (.tuple #[.agg #[.int .i64 r1, .int .u64 r2, .int .u64 r3], .int .i64 r4]) ∧ Below w.heap.size w w' := by
 have HA := Aside0.mk hA
 have HB := Aside0.mk hB
 have HX := Aside0.mk hX
 have HC := Aside0.mk hC
 have hne : (a0 != a0) = false := by simp
 clear hA hB hX hC
 have H0 := Aside0.mk (BX3.start w (.cells #[.int .i64 a0, .int .u64 a1, .int .u64 a2] 32 (0, 0)) (.cells #[.int .i64 a0, .int .u64 b1, .int .u64 b2] 32 (0, 0)) (.cells #[.int .i64 0, .int .u64 0, .int .u64 0] 32 (0, 0)))
 go_enter Try.func131, Try.ntmps131
 go_wp2_with (first | (go_at_call 73; with_reducible refine (vec_May.calls a0 a1 a2 true _ HA.out).mono ?_; rintro e w1 ⟨rfl, hb⟩; have H1 := Aside0.mk (H0.out.step hb); clear hb; (try clear cx0 cx1 cx2 cy0 cy1 cy2 cz0 cz1 cz2 zf); have cx0 := blk_cell H1.out.b0 0; have cx1 := blk_cell H1.out.b0 1; have cx2 := blk_cell H1.out.b0 2; have cy0 := blk_cell H1.out.b1 0; have cy1 := blk_cell H1.out.b1 1; have cy2 := blk_cell H1.out.b1 2; have cz0 := blk_cell H1.out.b2 0; have cz1 := blk_cell H1.out.b2 1; have cz2 := blk_cell H1.out.b2 2; have zf := blk_frozen H1.out.b2; simp only [List.getElem?_toArray, List.getElem?_cons_succ, List.getElem?_cons_zero] at cx0 cx1 cx2 cy0 cy1 cy2 cz0 cz1 cz2) | (go_at_call 73; with_reducible refine (vec_May.calls a0 b1 b2 true _ HB.out).mono ?_; rintro e w2 ⟨rfl, hb⟩; have H2 := Aside0.mk (H1.out.step hb); clear hb; (try clear cx0 cx1 cx2 cy0 cy1 cy2 cz0 cz1 cz2 zf); have cx0 := blk_cell H2.out.b0 0; have cx1 := blk_cell H2.out.b0 1; have cx2 := blk_cell H2.out.b0 2; have cy0 := blk_cell H2.out.b1 0; have cy1 := blk_cell H2.out.b1 1; have cy2 := blk_cell H2.out.b1 2; have cz0 := blk_cell H2.out.b2 0; have cz1 := blk_cell H2.out.b2 1; have cz2 := blk_cell H2.out.b2 2; have zf := blk_frozen H2.out.b2; simp only [List.getElem?_toArray, List.getElem?_cons_succ, List.getElem?_cons_zero] at cx0 cx1 cx2 cy0 cy1 cy2 cz0 cz1 cz2))
 refine start_ (n := 13) (S := fun w' => w'.cell? ⟨w.heap.size, 0, none⟩ = some (.int .i64 a0) ∧ w'.cell? ⟨w.heap.size, 1, none⟩ = some (.int .u64 a1) ∧ w'.cell? ⟨w.heap.size, 2, none⟩ = some (.int .u64 a2) ∧ w'.cell? ⟨w.heap.size + 1, 0, none⟩ = some (.int .i64 a0) ∧ w'.cell? ⟨w.heap.size + 1, 1, none⟩ = some (.int .u64 b1) ∧ w'.cell? ⟨w.heap.size + 1, 2, none⟩ = some (.int .u64 b2)) (ds := [11]) #[false, false, false, false, false, false, false, false, false, false, false, false, false] (by kernel_rfl) rfl rfl ⟨cx0, cx1, cx2, cy0, cy1, cy2⟩ (fun hHeld => ?_)
 refine pl_ [0, 2, 1, 3, 5] ?_
 iterate 2 refine pP rfl rfl (by kernel_rfl) (fun _ _ _ h => h) (by rfl) (by intro w'; go_simp; with_reducible rfl) (by simp only [Act.put, z1, z2, z3, i64_w, i32_w]; rfl) ?_
 iterate 3 refine pT hHeld rfl rfl (by kernel_rfl) (fun _ _ _ h => h) (by rfl) (by rintro w' ⟨s0, s1, s2, s3, s4, s5⟩; go_simp; with_reducible rfl) (by simp only [Act.put, z1, z2, z3, i64_w, i32_w]; rfl) ?_
 refine pl0 ?_
 refine one_ (i := 4) (N := some 29) #[true, true, true, true, true, true, false, false, false, false, false, false, false] rfl rfl (by kernel_rfl) (by decide) (fun K hK => ?_)
 refine goes_ Try.func124 (by kernel_rfl) rfl #[.agg #[.int .i64 a0, .int .u64 a1, .int .u64 a2]] (by rfl) rfl rfl (by simp only [List.map_toArray, List.map_cons, List.map_nil]; rfl) ?_
 with_reducible refine (vec_Word.calls a0 a1 a2 a1 a2 _ rfl).mono ?_
 rintro e w3 ⟨rfl, hb⟩
 refine ⟨_, rfl, ?_⟩
 have H3 := Aside0.mk (H2.out.drew.step hb)
 clear hb
 (try clear cx0 cx1 cx2 cy0 cy1 cy2 cz0 cz1 cz2 zf)
 have cx0 := blk_cell H3.out.b0 0
 have cx1 := blk_cell H3.out.b0 1
 have cx2 := blk_cell H3.out.b0 2
 have cy0 := blk_cell H3.out.b1 0
 have cy1 := blk_cell H3.out.b1 1
 have cy2 := blk_cell H3.out.b1 2
 have cz0 := blk_cell H3.out.b2 0
 have cz1 := blk_cell H3.out.b2 1
 have cz2 := blk_cell H3.out.b2 2
 have zf := blk_frozen H3.out.b2
 simp only [List.getElem?_toArray, List.getElem?_cons_succ, List.getElem?_cons_zero] at cx0 cx1 cx2 cy0 cy1 cy2 cz0 cz1 cz2
 refine hK.out _ _ ⟨cx0, cx1, cx2, cy0, cy1, cy2⟩ (fun hHeld => ?_)
 clear hK K
 refine norm_ (a' := ?_) ?_ ?_
 rotate_left
 ·show Act.put _ (some 29) _ = _
  simp only [Act.put, List.setIfInBounds_toArray, List.set_cons_zero, List.set_cons_succ, i64_w, i32_w]
  rfl
 refine one_ (i := 6) (N := some 31) #[true, true, true, true, true, true, true, false, false, false, false, false, false] rfl rfl (by kernel_rfl) (by decide) (fun K hK => ?_)
 refine goes_ Try.func124 (by kernel_rfl) rfl #[.agg #[.int .i64 a0, .int .u64 b1, .int .u64 b2]] (by rfl) rfl rfl (by simp only [List.map_toArray, List.map_cons, List.map_nil]; rfl) ?_
 with_reducible refine (vec_Word.calls a0 b1 b2 b1 b2 _ rfl).mono ?_
 rintro e w4 ⟨rfl, hb⟩
 refine ⟨_, rfl, ?_⟩
 have H4 := Aside0.mk (H3.out.step hb)
 clear hb
 (try clear cx0 cx1 cx2 cy0 cy1 cy2 cz0 cz1 cz2 zf)
 have cx0 := blk_cell H4.out.b0 0
 have cx1 := blk_cell H4.out.b0 1
 have cx2 := blk_cell H4.out.b0 2
 have cy0 := blk_cell H4.out.b1 0
 have cy1 := blk_cell H4.out.b1 1
 have cy2 := blk_cell H4.out.b1 2
 have cz0 := blk_cell H4.out.b2 0
 have cz1 := blk_cell H4.out.b2 1
 have cz2 := blk_cell H4.out.b2 2
 have zf := blk_frozen H4.out.b2
 simp only [List.getElem?_toArray, List.getElem?_cons_succ, List.getElem?_cons_zero] at cx0 cx1 cx2 cy0 cy1 cy2 cz0 cz1 cz2
 refine hK.out _ _ ⟨cx0, cx1, cx2, cy0, cy1, cy2⟩ (fun hHeld => ?_)
 clear hK K
 refine norm_ (a' := ?_) ?_ ?_
 rotate_left
 ·show Act.put _ (some 31) _ = _
  simp only [Act.put, List.setIfInBounds_toArray, List.set_cons_zero, List.set_cons_succ, i64_w, i32_w]
  rfl
 refine one_ (i := 7) (N := some 32) #[true, true, true, true, true, true, true, true, false, false, false, false, false] rfl rfl (by kernel_rfl) (by decide) (fun K hK => ?_)
 refine goesV_ Try.func127 (by kernel_rfl) rfl #[.agg #[.int .u64 a1, .int .u64 a2], .agg #[.int .u64 b1, .int .u64 b2]] (by rfl) rfl rfl (by rfl) (by simp only [List.map_toArray, List.map_cons, List.map_nil]; rfl) ?_
 with_reducible refine (word_And.calls a1 a2 b1 b2 x1 x2 _ HX.out).mono ?_
 rintro e w5 ⟨rfl, hb⟩
 refine ⟨_, rfl, ?_⟩
 have H5 := Aside0.mk (H4.out.step hb)
 clear hb
 (try clear cx0 cx1 cx2 cy0 cy1 cy2 cz0 cz1 cz2 zf)
 have cx0 := blk_cell H5.out.b0 0
 have cx1 := blk_cell H5.out.b0 1
 have cx2 := blk_cell H5.out.b0 2
 have cy0 := blk_cell H5.out.b1 0
 have cy1 := blk_cell H5.out.b1 1
 have cy2 := blk_cell H5.out.b1 2
 have cz0 := blk_cell H5.out.b2 0
 have cz1 := blk_cell H5.out.b2 1
 have cz2 := blk_cell H5.out.b2 2
 have zf := blk_frozen H5.out.b2
 simp only [List.getElem?_toArray, List.getElem?_cons_succ, List.getElem?_cons_zero] at cx0 cx1 cx2 cy0 cy1 cy2 cz0 cz1 cz2
 refine hK.out _ _ ⟨cx0, cx1, cx2, cy0, cy1, cy2⟩ (fun hHeld => ?_)
 clear hK K
 refine norm_ (a' := ?_) ?_ ?_
 rotate_left
 ·show Act.put _ (some 32) _ = _
  simp only [Act.put, List.setIfInBounds_toArray, List.set_cons_zero, List.set_cons_succ, i64_w, i32_w]
  rfl
 refine one_ (i := 8) (N := some 33) #[true, true, true, true, true, true, true, true, true, false, false, false, false] rfl rfl (by kernel_rfl) (by decide) (fun K hK => ?_)
 refine goes_ Try.func76 (by kernel_rfl) rfl #[.int .i64 a0, .agg #[.int .u64 x1, .int .u64 x2]] (by rfl) rfl rfl (by simp only [List.map_toArray, List.map_cons, List.map_nil]; rfl) ?_
 with_reducible refine (vec_Cut.calls 4 a0 x1 x2 r1 r2 r3 r4 _ HC.out).mono ?_
 rintro e w6 ⟨rfl, hb⟩
 refine ⟨_, rfl, ?_⟩
 have H6 := Aside0.mk (H5.out.step hb)
 clear hb
 (try clear cx0 cx1 cx2 cy0 cy1 cy2 cz0 cz1 cz2 zf)
 have cx0 := blk_cell H6.out.b0 0
 have cx1 := blk_cell H6.out.b0 1
 have cx2 := blk_cell H6.out.b0 2
 have cy0 := blk_cell H6.out.b1 0
 have cy1 := blk_cell H6.out.b1 1
 have cy2 := blk_cell H6.out.b1 2
 have cz0 := blk_cell H6.out.b2 0
 have cz1 := blk_cell H6.out.b2 1
 have cz2 := blk_cell H6.out.b2 2
 have zf := blk_frozen H6.out.b2
 simp only [List.getElem?_toArray, List.getElem?_cons_succ, List.getElem?_cons_zero] at cx0 cx1 cx2 cy0 cy1 cy2 cz0 cz1 cz2
 refine hK.out _ _ ⟨cx0, cx1, cx2, cy0, cy1, cy2⟩ (fun hHeld => ?_)
 clear hK K
 refine norm_ (a' := ?_) ?_ ?_
 rotate_left
 ·show Act.put _ (some 33) _ = _
  simp only [Act.put, List.setIfInBounds_toArray, List.set_cons_zero, List.set_cons_succ, i64_w, i32_w]
  rfl
 refine pl_ [9, 10] ?_
 iterate 2 refine pP rfl rfl (by kernel_rfl) (fun _ _ _ h => h) (by rfl) (by intro w'; go_simp; with_reducible rfl) (by simp only [Act.put, z1, z2, z3, i64_w, i32_w]; rfl) ?_
 refine pl0 ?_
 refine last_ (i := 11) (N := none) #[true, true, true, true, true, true, true, true, true, true, true, true, false] rfl rfl (by kernel_rfl) (by decide) (fun K hK => ?_)
 refine skip_ (w1 := ?_) (by rfl) rfl ?_ ?_
 rotate_left
 ·go_simp
  rfl
 refine hK.out _ _ ?_
 clear hK K
 refine pl_ [12] ?_
 refine pP rfl rfl (by kernel_rfl) (fun _ _ _ h => h) (by rfl) (by intro w'; go_simp; with_reducible rfl) (by simp only [Act.put, z1, z2, z3, i64_w, i32_w]; rfl) ?_
 refine pl0 ?_
 refine done_ (by kernel_rfl) ?_
 go_wp2
 refine bodyPost_ret (results_ct rfl _ _ (w.heap.size + 1 + 1) 32 _ (0, 0) _ rfl (blk_set (blk_set (blk_set H6.out.b2 0 _) 1 _) 2 _) Try.underlying32 rfl (by kernel_rfl)) rfl ⟨rfl, ?_⟩
 exact below_set (below_set (below_set H6.out.below (by omega)) (by omega)) (by omega)
set_option maxHeartbeats 400000 in
set_option maxRecDepth 100000 in
theorem vec_two_and (a0 a1 a2 b0 b1 b2 r1 r2 r3 r4 : Int) (W : World) (h : vec_And.f a0 a1 a2 b0 b1 b2 = some (r1, r2, r3, r4)) :
 Calls Try.prog 131 #[.agg #[.int .i64 a0, .int .u64 a1, .int .u64 a2], .agg #[.int .i64 b0, .int .u64 b1, .int .u64 b2], .func (.func 127) #[] #[]] W fun e w' => e = .returned (.tuple #[.agg #[.int .i64 r1, .int .u64 r2, .int .u64 r3], .int .i64 r4]) ∧ Below W.heap.size W w' := by
 unfold vec_And.f at h
 obtain ⟨ma, hA, h⟩ := Option.bind_eq_some_iff.mp h
 cases ma with
 | false =>
  rw [if_neg (by simp)] at h
  simp only [Option.some.injEq, Prod.mk.injEq] at h
  obtain ⟨rfl, rfl, rfl, rfl⟩ := h
  exact two_a a0 a1 a2 b0 b1 b2 W hA
 | true =>
  rw [if_pos rfl] at h
  obtain ⟨mb, hB, h⟩ := Option.bind_eq_some_iff.mp h
  cases mb with
  | false =>
   rw [if_neg (by simp)] at h
   simp only [Option.some.injEq, Prod.mk.injEq] at h
   obtain ⟨rfl, rfl, rfl, rfl⟩ := h
   exact two_b a0 a1 a2 b0 b1 b2 W hA hB
  | true =>
   rw [if_pos rfl] at h
   by_cases hw : a0 = b0
   ·subst hw
    rw [if_pos rfl] at h
    obtain ⟨⟨x1, x2⟩, hX, hC⟩ := Option.bind_eq_some_iff.mp h
    exact two_ok a0 a1 a2 b1 b2 x1 x2 r1 r2 r3 r4 W hA hB hX hC
   ·rw [if_neg hw] at h
    simp only [Option.some.injEq, Prod.mk.injEq] at h
    obtain ⟨rfl, rfl, rfl, rfl⟩ := h
    exact two_w a0 a1 a2 b0 b1 b2 W hA hB (by simpa using hw)
set_option maxHeartbeats 400000 in
set_option maxRecDepth 100000 in
theorem vec_And.calls (a0 a1 a2 b0 b1 b2 r1 r2 r3 r4 : Int) (w : World) (h : vec_And.f a0 a1 a2 b0 b1 b2 = some (r1, r2, r3, r4)) :
 Calls Try.prog 87 #[.agg #[.int .i64 a0, .int .u64 a1, .int .u64 a2], .agg #[.int .i64 b0, .int .u64 b1, .int .u64 b2]] w fun e w' => e = .returned (.tuple #[.agg #[.int .i64 r1, .int .u64 r2, .int .u64 r3], .int .i64 r4]) ∧ Below w.heap.size w w' := by
 have HT := Aside0.mk (fun W : World => vec_two_and a0 a1 a2 b0 b1 b2 r1 r2 r3 r4 W h)
 clear h
 have H0 := Aside0.mk (BX3.start w (.cells #[.int .i64 a0, .int .u64 a1, .int .u64 a2] 32 (0, 0)) (.cells #[.int .i64 b0, .int .u64 b1, .int .u64 b2] 32 (0, 0)) (.cells #[.int .i64 0, .int .u64 0, .int .u64 0] 32 (0, 0)))
 go_enter Try.func87, Try.ntmps87
 go_wp2_with (go_at_call 131; refine (HT.out _).mono ?_; rintro e w1 ⟨rfl, hb⟩; have H1 := Aside0.mk (H0.out.step hb); clear hb; have cx0 := blk_cell H1.out.b0 0; have cx1 := blk_cell H1.out.b0 1; have cx2 := blk_cell H1.out.b0 2; have cy0 := blk_cell H1.out.b1 0; have cy1 := blk_cell H1.out.b1 1; have cy2 := blk_cell H1.out.b1 2; have cz0 := blk_cell H1.out.b2 0; have cz1 := blk_cell H1.out.b2 1; have cz2 := blk_cell H1.out.b2 2; have zf := blk_frozen H1.out.b2; simp only [List.getElem?_toArray, List.getElem?_cons_succ, List.getElem?_cons_zero] at cx0 cx1 cx2 cy0 cy1 cy2 cz0 cz1 cz2)
 refine bodyPost_ret (results_ct rfl _ _ (w.heap.size + 1 + 1) 32 _ (0, 0) _ rfl (blk_set (blk_set (blk_set H1.out.b2 0 _) 1 _) 2 _) Try.underlying32 rfl (by kernel_rfl)) rfl ⟨rfl, ?_⟩
 exact below_set (below_set (below_set H1.out.below (by omega)) (by omega)) (by omega)
def vec_Prefix.j0 : Nat → Int → Int → Bool → Option (Int × Int × Int × Int)
 | 0, _, _, _ => none
 | k + 1, x0, x1, x11 => if x11 = true then (some (0, 0, 0, 15)) else ((word_Ones.f k x1).bind fun bt153 => ((word_Shl.f k bt153.1 bt153.2 (wrap64 (x0 - x1))).bind fun bt155 => ((vec_Cut.f k x0 bt155.1 bt155.2).bind fun bt157 => (some (bt157.1, bt157.2.1, bt157.2.2.1, bt157.2.2.2)))))
def vec_Prefix.f (k : Nat) (a0 : Int) (a1 : Int) : Option (Int × Int × Int × Int) := (vec_width.f a0).bind fun t152 => (if t152 = true then (if a1 < 0 then (vec_Prefix.j0 k a0 a1 true) else (vec_Prefix.j0 k a0 a1 (decide (a1 > a0)))) else (some (0, 0, 0, 9)))
theorem vec_Prefix.mono_l : ∀ k, (∀ y0 y1 y2, LeO (vec_Prefix.j0 k y0 y1 y2) (vec_Prefix.j0 (k + 1) y0 y1 y2))
 | 0 => fun _ _ _ r h => by simp [vec_Prefix.j0] at h
 | k + 1 => by
  have ih0 := vec_Prefix.mono_l k
  ·intro y0 y1 y2
   unfold vec_Prefix.j0
   repeat' first
   | (with_reducible exact ih0 _ _ _)
   | (with_reducible exact vec_Cut.mono _ _ _ _)
   | (with_reducible exact word_Ones.mono _ _)
   | (with_reducible exact word_Shl.mono _ _ _ _)
   | (with_reducible exact LeO.refl _)
   | (with_reducible exact LeO.none _)
   | (with_reducible refine LeO.ite ?_ ?_)
   | (with_reducible refine LeO.bind ?_ (fun _ => ?_))
   | exact ih0 _ _ _
   | exact vec_Cut.mono _ _ _ _
   | exact word_Ones.mono _ _
   | exact word_Shl.mono _ _ _ _
   | exact LeO.none _
   | refine LeO.ite ?_ ?_
   | refine LeO.bind ?_ (fun _ => ?_)
theorem vec_Prefix.mono : ∀ a0 a1 k, LeO (vec_Prefix.f k a0 a1) (vec_Prefix.f (k + 1) a0 a1) := by
 intro a0 a1 k
 have ih0 := vec_Prefix.mono_l k
 unfold vec_Prefix.f
 repeat' first
  | (with_reducible exact ih0 _ _ _)
  | (with_reducible exact vec_Cut.mono _ _ _ _)
  | (with_reducible exact word_Ones.mono _ _)
  | (with_reducible exact word_Shl.mono _ _ _ _)
  | (with_reducible exact LeO.refl _)
  | (with_reducible exact LeO.none _)
  | (with_reducible refine LeO.ite ?_ ?_)
  | (with_reducible refine LeO.bind ?_ (fun _ => ?_))
  | exact ih0 _ _ _
  | exact vec_Cut.mono _ _ _ _
  | exact word_Ones.mono _ _
  | exact word_Shl.mono _ _ _ _
  | exact LeO.none _
  | refine LeO.ite ?_ ?_
  | refine LeO.bind ?_ (fun _ => ?_)
set_option maxHeartbeats 8000000 in
set_option maxRecDepth 100000 in
theorem vec_Prefix.calls (k : Nat) (a0 : Int) (a1 : Int) (r1 : Int) (r2 : Int) (r3 : Int) (r4 : Int) (w : World) (h : vec_Prefix.f k a0 a1 = some (r1, r2, r3, r4)) :
 Calls Try.prog 130 #[.int .i64 a0, .int .i64 a1] w fun e w' => e = .returned (.tuple #[.agg #[.int .i64 r1, .int .u64 r2, .int .u64 r3], .int .i64 r4]) ∧ Below w.heap.size w w' := by
 have hu32 := Try.underlying32
 have HB := Aside0.mk (Below.refl w.heap.size w)
 have H : ((vec_width.f a0).bind fun t152 => (if t152 = true then (if a1 < 0 then (vec_Prefix.j0 k a0 a1 true) else (vec_Prefix.j0 k a0 a1 (decide (a1 > a0)))) else (some (0, 0, 0, 9)))) = some (r1, r2, r3, r4) := h
 clear h
 replace H := Option.bind_eq_some_iff.mp H
 obtain ⟨t152, A30, H⟩ := H
 replace H : (if t152 = true then (if a1 < 0 then (vec_Prefix.j0 k a0 a1 true) else (vec_Prefix.j0 k a0 a1 (decide (a1 > a0)))) else (some (0, 0, 0, 9))) = some (r1, r2, r3, r4) := H
 have A3 := Aside0.mk A30
 clear A30
 by_cases c4 : t152 = true
 ·subst c4
  have H1 : (if a1 < 0 then (vec_Prefix.j0 k a0 a1 true) else (vec_Prefix.j0 k a0 a1 (decide (a1 > a0)))) = some (r1, r2, r3, r4) := by rw [if_pos rfl] at H; exact H
  clear H
  have H := H1
  clear H1
  have HC5 := Aside0.mk H
  clear H
  go_enter Try.func130, Try.ntmps130
  go_upto_region 3 with (first | ((with_reducible refine gate_dst (N := 4) rfl ?_); refine box_event ?hg (N := 4) ?hd (cs := #[.int .i64 0, .int .u64 0, .int .u64 0]) (t := 32) ?hr ?_; (case hd => rfl); (case hg => rfl); (case hr => first | (go_simp; done) | (go_simp; rfl)); intro gb151 hg w6 hbox hb; have BK151 := Aside0.mk (hbox); have GW151 := Aside0.mk ((by rw [hg]; exact (below_size (by repeat (first | (with_reducible first | exact HB.out | apply below_alloc | apply pw_below_drewN | apply below_drew1) | exact HB.out))) : w.heap.size ≤ gb151)); have GE151 := Aside0.mk ((by rw [hg]; exact (below_size (by repeat (first | (with_reducible first | exact HB.out | apply below_alloc | apply pw_below_drewN | apply below_drew1) | exact HB.out))) : w.heap.size ≤ gb151)); replace HB := Aside0.mk (below_step (by repeat (first | (with_reducible first | exact HB.out | apply below_alloc | apply pw_below_drewN | apply below_drew1) | exact HB.out)) hb); clear hb hbox hg) | ((with_reducible refine gate_callee (f := 122) rfl ?_); refine goesL_ (some 8) rfl rfl Try.func122 (by kernel_rfl) rfl #[.int .i64 a0] rfl (by (try simp only [List.map_toArray, List.map_cons, List.map_nil]); first | done | rfl | (simp only [List.length_drop, List.length_take]; rfl)) ?_; (with_reducible refine (vec_width.calls a0 true _ A3.out).mono ?_); rintro e w' ⟨rfl, ⟨nd, rfl⟩⟩; refine ⟨_, rfl, ?_⟩))
  (try simp only [Act.put, List.setIfInBounds_toArray, List.set_cons_zero, List.set_cons_succ])
  go_cut [11] (fun v11 wc => ∃ (kq : Nat) (x11_4 : Bool), v11 = .bool x11_4 ∧ Aside0 (vec_Prefix.j0 kq a0 a1 x11_4 = some (r1, r2, r3, r4)) ∧ Aside0 (kq ≤ k) ∧ Aside0 (wc.heap[gb151]? = some (.cells #[.int .i64 0, .int .u64 0, .int .u64 0] 32 (0, 0))) ∧ Aside0 (Below w.heap.size w wc))
  case first =>
   have H := HC5.out
   clear HC5
   by_cases c7 : a1 < 0
   ·rw [if_pos c7] at H
    have c7b0 : decide (a1 < 0) = true := decide_eq_true c7
    clear c7
    (first | rw [c7b0] | (simp only [i64_w, i32_w]; rw [c7b0]) | skip)
    have H' := Aside0.mk H
    clear H
    go_wp2
    go_meet
    case rel => exact ⟨_, (true), (by first | rfl | (simp; done) | (simp [*]; done)), H', ⟨by first | omega | exact Nat.le_refl _⟩, ⟨by (with_reducible repeat (first | refine blk_drewN ?_ _ | refine blk_drew ?_ | refine blk_alloc ?_ _)); exact BK151.out⟩, ⟨by repeat (first | (with_reducible first | exact HB.out | apply below_alloc | apply pw_below_drewN | apply below_drew1 | refine below_set ?_ GE151.out) | exact HB.out)⟩⟩
   ·rw [if_neg c7] at H
    have c7b0 : decide (a1 < 0) = false := decide_eq_false c7
    clear c7
    (first | rw [c7b0] | (simp only [i64_w, i32_w]; rw [c7b0]) | skip)
    have H' := Aside0.mk H
    clear H
    go_wp2
    go_meet
    case rel => exact ⟨_, (decide (a1 > a0)), (by first | rfl | (simp; done) | (simp [*]; done)), H', ⟨by first | omega | exact Nat.le_refl _⟩, ⟨by (with_reducible repeat (first | refine blk_drewN ?_ _ | refine blk_drew ?_ | refine blk_alloc ?_ _)); exact BK151.out⟩, ⟨by repeat (first | (with_reducible first | exact HB.out | apply below_alloc | apply pw_below_drewN | apply below_drew1 | refine below_set ?_ GE151.out) | exact HB.out)⟩⟩
  case rest =>
   clear HC5
   try clear c1
   try clear p2
   try clear c4
   try clear c7
   try clear c7b0
   obtain ⟨kq, x11_4, rfl, HA, HJ4, BK151, HB⟩ := hcut
   cases kq with
   | zero => exact absurd HA.out (by simp [vec_Prefix.j0])
   | succ kj4 =>
    have H := HA.out
    clear HA
    simp only [vec_Prefix.j0] at H
    by_cases c8 : x11_4 = true
    ·subst c8
     have H1 : (some (0, 0, 0, 15)) = some (r1, r2, r3, r4) := by rw [if_pos rfl] at H; exact H
     clear H
     have H := H1
     clear H1
     simp only [Option.some.injEq, Prod.mk.injEq] at H
     obtain ⟨rfl, rfl, rfl, rfl⟩ := H
     obtain ⟨hcz9_0, hcz9_1, hcz9_2, hfz9_0, hfz9_1, hfz9_2⟩ := cl3 BK151.out
     go_wp2
     refine bodyPost_ret (results_ct rfl _ _ gb151 32 #[.int .i64 0, .int .u64 0, .int .u64 0] (0, 0) _ rfl (by (with_reducible repeat (first | refine blk_drewN ?_ _ | refine blk_drew ?_ | refine blk_alloc ?_ _)); refine blk_put (cs := #[.int .i64 0, .int .u64 0, .int .u64 0]) ?_ 2 _ rfl; (with_reducible repeat (first | refine blk_drewN ?_ _ | refine blk_drew ?_ | refine blk_alloc ?_ _)); refine blk_put (cs := #[.int .i64 0, .int .u64 0, .int .u64 0]) ?_ 1 _ rfl; (with_reducible repeat (first | refine blk_drewN ?_ _ | refine blk_drew ?_ | refine blk_alloc ?_ _)); refine blk_put (cs := #[.int .i64 0, .int .u64 0, .int .u64 0]) ?_ 0 _ rfl; (with_reducible repeat (first | refine blk_drewN ?_ _ | refine blk_drew ?_ | refine blk_alloc ?_ _)); exact BK151.out) Try.underlying32 rfl (by kernel_rfl)) rfl ?_
     exact ⟨by first | rfl | (simp [errW_none, errW_some] <;> rfl) | (simp [*, errW_none, errW_some] <;> rfl), by repeat (first | (with_reducible first | exact HB.out | apply below_alloc | apply pw_below_drewN | apply below_drew1 | refine below_set ?_ GE151.out) | exact HB.out)⟩
    ·replace c8 := Bool.eq_false_iff.mpr c8
     subst c8
     have H1 : ((word_Ones.f kj4 a1).bind fun bt153 => ((word_Shl.f kj4 bt153.1 bt153.2 (wrap64 (a0 - a1))).bind fun bt155 => ((vec_Cut.f kj4 a0 bt155.1 bt155.2).bind fun bt157 => (some (bt157.1, bt157.2.1, bt157.2.2.1, bt157.2.2.2))))) = some (r1, r2, r3, r4) := by rw [if_neg (show ¬ (false = true) by decide)] at H; exact H
     clear H
     have H := H1
     clear H1
     replace H := Option.bind_eq_some_iff.mp H
     obtain ⟨⟨t153, t154⟩, A100, H⟩ := H
     replace H : ((word_Shl.f kj4 t153 t154 (wrap64 (a0 - a1))).bind fun bt155 => ((vec_Cut.f kj4 a0 bt155.1 bt155.2).bind fun bt157 => (some (bt157.1, bt157.2.1, bt157.2.2.1, bt157.2.2.2)))) = some (r1, r2, r3, r4) := H
     have A10 := Aside0.mk A100
     clear A100
     replace H := Option.bind_eq_some_iff.mp H
     obtain ⟨⟨t155, t156⟩, A110, H⟩ := H
     replace H : ((vec_Cut.f kj4 a0 t155 t156).bind fun bt157 => (some (bt157.1, bt157.2.1, bt157.2.2.1, bt157.2.2.2))) = some (r1, r2, r3, r4) := H
     have A11 := Aside0.mk A110
     clear A110
     replace H := Option.bind_eq_some_iff.mp H
     obtain ⟨⟨t157, t158, t159, t160⟩, A120, H⟩ := H
     replace H : (some (t157, t158, t159, t160)) = some (r1, r2, r3, r4) := H
     have A12 := Aside0.mk A120
     clear A120
     simp only [Option.some.injEq, Prod.mk.injEq] at H
     obtain ⟨rfl, rfl, rfl, rfl⟩ := H
     go_wp2_with (first | ((with_reducible refine gate_callee (f := 128) rfl ?_); refine goesL_ (some 22) rfl rfl Try.func128 (by kernel_rfl) rfl #[.int .i64 a1] rfl (by (try simp only [List.map_toArray, List.map_cons, List.map_nil]); first | done | rfl | (simp only [List.length_drop, List.length_take]; rfl)) ?_; (with_reducible refine (word_Ones.calls kj4 a1 t153 t154 _ A10.out).mono ?_); rintro e w13 ⟨rfl, hb⟩; refine ⟨_, rfl, ?_⟩; replace BK151 := bk1 (by (with_reducible repeat (first | refine blk_drewN ?_ _ | refine blk_drew ?_ | refine blk_alloc ?_ _)); exact BK151.out) hb; replace HB := Aside0.mk (below_step (by repeat (first | (with_reducible first | exact HB.out | apply below_alloc | apply pw_below_drewN | apply below_drew1 | refine below_set ?_ GE151.out) | exact HB.out)) hb); (try clear hb); (try clear hb2); (try clear hk); (try clear hi)) | ((with_reducible refine gate_callee (f := 78) rfl ?_); refine goesL_ (some 26) rfl rfl Try.func78 (by kernel_rfl) rfl #[.agg #[.int .u64 t153, .int .u64 t154], .int .i64 (wrap64 (a0 - a1))] rfl (by (try simp only [List.map_toArray, List.map_cons, List.map_nil]); first | done | rfl | (simp only [List.length_drop, List.length_take]; rfl)) ?_; (with_reducible refine (word_Shl.calls kj4 t153 t154 (wrap64 (a0 - a1)) t155 t156 _ A11.out).mono ?_); rintro e w14 ⟨rfl, hb⟩; refine ⟨_, rfl, ?_⟩; replace BK151 := bk1 (by (with_reducible repeat (first | refine blk_drewN ?_ _ | refine blk_drew ?_ | refine blk_alloc ?_ _)); exact BK151.out) hb; replace HB := Aside0.mk (below_step (by repeat (first | (with_reducible first | exact HB.out | apply below_alloc | apply pw_below_drewN | apply below_drew1 | refine below_set ?_ GE151.out) | exact HB.out)) hb); (try clear hb); (try clear hb2); (try clear hk); (try clear hi)) | ((with_reducible refine gate_callee (f := 76) rfl ?_); refine goesL_ (some 27) rfl rfl Try.func76 (by kernel_rfl) rfl #[.int .i64 a0, .agg #[.int .u64 t155, .int .u64 t156]] rfl (by (try simp only [List.map_toArray, List.map_cons, List.map_nil]); first | done | rfl | (simp only [List.length_drop, List.length_take]; rfl)) ?_; (with_reducible refine (vec_Cut.calls kj4 a0 t155 t156 t157 t158 t159 t160 _ A12.out).mono ?_); rintro e w15 ⟨rfl, hb⟩; refine ⟨_, rfl, ?_⟩; replace BK151 := bk1 (by (with_reducible repeat (first | refine blk_drewN ?_ _ | refine blk_drew ?_ | refine blk_alloc ?_ _)); exact BK151.out) hb; replace HB := Aside0.mk (below_step (by repeat (first | (with_reducible first | exact HB.out | apply below_alloc | apply pw_below_drewN | apply below_drew1 | refine below_set ?_ GE151.out) | exact HB.out)) hb); (try clear hb); (try clear hb2); (try clear hk); (try clear hi); obtain ⟨hcz16_0, hcz16_1, hcz16_2, hfz16_0, hfz16_1, hfz16_2⟩ := cl3 BK151.out))
     refine bodyPost_ret (results_ct rfl _ _ gb151 32 #[.int .i64 t157, .int .u64 t158, .int .u64 t159] (0, 0) _ rfl (by (with_reducible repeat (first | refine blk_drewN ?_ _ | refine blk_drew ?_ | refine blk_alloc ?_ _)); refine blk_put (cs := #[.int .i64 t157, .int .u64 t158, .int .u64 0]) ?_ 2 _ rfl; (with_reducible repeat (first | refine blk_drewN ?_ _ | refine blk_drew ?_ | refine blk_alloc ?_ _)); refine blk_put (cs := #[.int .i64 t157, .int .u64 0, .int .u64 0]) ?_ 1 _ rfl; (with_reducible repeat (first | refine blk_drewN ?_ _ | refine blk_drew ?_ | refine blk_alloc ?_ _)); refine blk_put (cs := #[.int .i64 0, .int .u64 0, .int .u64 0]) ?_ 0 _ rfl; (with_reducible repeat (first | refine blk_drewN ?_ _ | refine blk_drew ?_ | refine blk_alloc ?_ _)); exact BK151.out) Try.underlying32 rfl (by kernel_rfl)) rfl ?_
     exact ⟨by first | rfl | (simp [errW_none, errW_some] <;> rfl) | (simp [*, errW_none, errW_some] <;> rfl), by repeat (first | (with_reducible first | exact HB.out | apply below_alloc | apply pw_below_drewN | apply below_drew1 | refine below_set ?_ GE151.out) | exact HB.out)⟩
 ·replace c4 := Bool.eq_false_iff.mpr c4
  subst c4
  have H1 : (some (0, 0, 0, 9)) = some (r1, r2, r3, r4) := by rw [if_neg (show ¬ (false = true) by decide)] at H; exact H
  clear H
  have H := H1
  clear H1
  simp only [Option.some.injEq, Prod.mk.injEq] at H
  obtain ⟨rfl, rfl, rfl, rfl⟩ := H
  go_enter Try.func130, Try.ntmps130
  go_wp2_with (first | ((with_reducible refine gate_dst (N := 4) rfl ?_); refine box_event ?hg (N := 4) ?hd (cs := #[.int .i64 0, .int .u64 0, .int .u64 0]) (t := 32) ?hr ?_; (case hd => rfl); (case hg => rfl); (case hr => first | (go_simp; done) | (go_simp; rfl)); intro gb151 hg w17 hbox hb; have BK151 := Aside0.mk (hbox); have GW151 := Aside0.mk ((by rw [hg]; exact (below_size (by repeat (first | (with_reducible first | exact HB.out | apply below_alloc | apply pw_below_drewN | apply below_drew1) | exact HB.out))) : w.heap.size ≤ gb151)); have GE151 := Aside0.mk ((by rw [hg]; exact (below_size (by repeat (first | (with_reducible first | exact HB.out | apply below_alloc | apply pw_below_drewN | apply below_drew1) | exact HB.out))) : w.heap.size ≤ gb151)); replace HB := Aside0.mk (below_step (by repeat (first | (with_reducible first | exact HB.out | apply below_alloc | apply pw_below_drewN | apply below_drew1) | exact HB.out)) hb); clear hb hbox hg) | ((with_reducible refine gate_callee (f := 122) rfl ?_); refine goesL_ (some 8) rfl rfl Try.func122 (by kernel_rfl) rfl #[.int .i64 a0] rfl (by (try simp only [List.map_toArray, List.map_cons, List.map_nil]); first | done | rfl | (simp only [List.length_drop, List.length_take]; rfl)) ?_; (with_reducible refine (vec_width.calls a0 false _ A3.out).mono ?_); rintro e w' ⟨rfl, ⟨nd, rfl⟩⟩; refine ⟨_, rfl, ?_⟩; (try (rw [drewN_self w17]; generalize hq_ : World.drewN w17 _ = w17; have n0_ : Aside0 (w17.heap[gb151]? = some (.cells #[.int .i64 0, .int .u64 0, .int .u64 0] 32 (0, 0))) := ⟨by rw [← hq_]; exact (by (with_reducible repeat (first | refine blk_drewN ?_ _ | refine blk_drew ?_ | refine blk_alloc ?_ _)); exact BK151.out)⟩; have n1_ : Aside0 (Below w.heap.size w w17) := ⟨by rw [← hq_]; exact (by repeat (first | (with_reducible first | exact HB.out | apply below_alloc | apply pw_below_drewN | apply below_drew1 | refine below_set ?_ GE151.out) | exact HB.out))⟩; clear BK151 HB hq_; have BK151 := n0_; have HB := n1_; clear n0_ n1_)); obtain ⟨hcz18_0, hcz18_1, hcz18_2, hfz18_0, hfz18_1, hfz18_2⟩ := cl3 BK151.out))
  refine bodyPost_ret (results_ct rfl _ _ gb151 32 #[.int .i64 0, .int .u64 0, .int .u64 0] (0, 0) _ rfl (by (with_reducible repeat (first | refine blk_drewN ?_ _ | refine blk_drew ?_ | refine blk_alloc ?_ _)); refine blk_put (cs := #[.int .i64 0, .int .u64 0, .int .u64 0]) ?_ 2 _ rfl; (with_reducible repeat (first | refine blk_drewN ?_ _ | refine blk_drew ?_ | refine blk_alloc ?_ _)); refine blk_put (cs := #[.int .i64 0, .int .u64 0, .int .u64 0]) ?_ 1 _ rfl; (with_reducible repeat (first | refine blk_drewN ?_ _ | refine blk_drew ?_ | refine blk_alloc ?_ _)); refine blk_put (cs := #[.int .i64 0, .int .u64 0, .int .u64 0]) ?_ 0 _ rfl; (with_reducible repeat (first | refine blk_drewN ?_ _ | refine blk_drew ?_ | refine blk_alloc ?_ _)); exact BK151.out) Try.underlying32 rfl (by kernel_rfl)) rfl ?_
  exact ⟨by first | rfl | (simp [errW_none, errW_some] <;> rfl) | (simp [*, errW_none, errW_some] <;> rfl), by repeat (first | (with_reducible first | exact HB.out | apply below_alloc | apply pw_below_drewN | apply below_drew1 | refine below_set ?_ GE151.out) | exact HB.out)⟩
-- NOT PRINTED: function 82 (trie_Trie_may)
-- NOT PRINTED: function 83 (trie_Trie_find)
-- NOT PRINTED: function 28 (trie_Trie_Put)
-- NOT PRINTED: function 17 (shunterlaw20_lives)
end Go.Proofs.Ytfdbcnbakchcgaa.XR
