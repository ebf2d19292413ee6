import Derived.Test.YtfdbcnbakchcgaaSq
import Derived.Test.YtfdbcnbakchcgaaTa
import Derived.Test.YtfdbcnbakchcgaaXTx5
namespace Go.Proofs.Ytfdbcnbakchcgaa.XT
open Go.RowKit Go.Proofs.YtfdbcnbakchcgaaW.PrintWords Go.Proofs.YtfdbcnbakchcgaaW.PrintLast Go.Proofs.YtfdbcnbakchcgaaW.PrintMore
attribute [local go_sem] max2_int min2_int max_two min_two max_three min_three max_four min_four   -- for this text's walks alone
set_option linter.unusedVariables false
set_option linter.unusedSimpArgs false
/-- A box of this call's own, and the list's block. -/
structure BG (w W : World) (o : Obj) (g : Nat) (og : Obj) : Prop where
 bx : W.heap[w.heap.size]? = some o
 bg : W.heap[g]? = some og
 below : Below w.heap.size w W
theorem BG.start {w : World} (o : Obj) {g : Nat} {og : Obj} (h : w.heap[g]? = some og) : BG w (w.alloc o) o g og := ⟨blk_new w o, blk_alloc h o, below_alloc (Below.refl _ _) _⟩
theorem BG.step {w W W1 : World} {o : Obj} {g : Nat} {og : Obj} (h : BG w W o g og) (hb : Below W.heap.size W W1) : BG w W1 o g og := ⟨blk_below h.bx hb, blk_below h.bg hb, below_step h.below hb⟩
/-- Why a rule may not be. -/
def mayT (W : Int) (x : S59) : Option Int :=
 (vec_May.f x.f0.f0 x.f0.f1 x.f0.f2).bind fun a => if a = true then (vec_May.f x.f1.f0 x.f1.f1 x.f1.f2).bind fun b => if b = true then (if x.f0.f0 = W then (if x.f1.f0 = W then
  (tern_inside.f x.f0.f0 x.f0.f1 x.f0.f2 x.f1.f0 x.f1.f1 x.f1.f2).bind fun c => if c = true then some (if x.f2 < 0 then 7 else if 65535 < x.f2 then 7 else 0) else some 14 else some 9) else some 9) else some 9 else some 9
set_option maxHeartbeats 400000 in
set_option maxRecDepth 100000 in
theorem may_nil (x : S59) (w : World) : Calls Try.prog 97 #[.pointer none, .agg #[.int .i64 x.f0.f0, .int .u64 x.f0.f1, .int .u64 x.f0.f2, .int .i64 x.f1.f0, .int .u64 x.f1.f1, .int .u64 x.f1.f2, .int .i64 x.f2, .int .i64 x.f3]] w fun e w' => e = .returned (.int .i64 1) ∧ Below w.heap.size w w' := by
 go_enter Try.func97, Try.ntmps97
 go_wp2
 go_ret
 exact ⟨rfl, below_alloc (Below.refl _ _) _⟩
set_option maxHeartbeats 400000 in
set_option maxRecDepth 100000 in
theorem may_a (w : World) (g : Nat) (v : Value) (W m : Int) (x : S59) (h : w.heap[g]? = some (.cells #[v, .int .i64 W, .int .i64 m] 147 (0, 0))) (hA : vec_May.f x.f0.f0 x.f0.f1 x.f0.f2 = some false) :
 Calls Try.prog 97 #[.pointer (some ⟨g, 0, none⟩), .agg #[.int .i64 x.f0.f0, .int .u64 x.f0.f1, .int .u64 x.f0.f2, .int .i64 x.f1.f0, .int .u64 x.f1.f1, .int .u64 x.f1.f2, .int .i64 x.f2, .int .i64 x.f3]] w fun e w' => e = .returned (.int .i64 9) ∧ Below w.heap.size w w' := by
 have H0 := Aside0.mk (BG.start (.cells #[.int .i64 x.f0.f0, .int .u64 x.f0.f1, .int .u64 x.f0.f2, .int .i64 x.f1.f0, .int .u64 x.f1.f1, .int .u64 x.f1.f2, .int .i64 x.f2, .int .i64 x.f3] 59 (0, 0)) h)
 have HA := Aside0.mk hA
 clear h hA
 have b0 := blk_cell H0.out.bx 0
 have b1 := blk_cell H0.out.bx 1
 have b2 := blk_cell H0.out.bx 2
 have b3 := blk_cell H0.out.bx 3
 have b4 := blk_cell H0.out.bx 4
 have b5 := blk_cell H0.out.bx 5
 have b6 := blk_cell H0.out.bx 6
 have b7 := blk_cell H0.out.bx 7
 have l0 := blk_cell H0.out.bg 0
 have l1 := blk_cell H0.out.bg 1
 have l2 := blk_cell H0.out.bg 2
 simp only [List.getElem?_toArray, List.getElem?_cons_succ, List.getElem?_cons_zero] at b0 b1 b2 b3 b4 b5 b6 b7 l0 l1 l2
 go_enter Try.func97, Try.ntmps97
 go_wp2
 refine start_ (n := 31) (S := fun w' => w'.cell? ⟨w.heap.size, 0, none⟩ = some (.int .i64 x.f0.f0) ∧ w'.cell? ⟨w.heap.size, 1, none⟩ = some (.int .u64 x.f0.f1) ∧ w'.cell? ⟨w.heap.size, 2, none⟩ = some (.int .u64 x.f0.f2) ∧ w'.cell? ⟨w.heap.size, 3, none⟩ = some (.int .i64 x.f1.f0) ∧ w'.cell? ⟨w.heap.size, 4, none⟩ = some (.int .u64 x.f1.f1) ∧ w'.cell? ⟨w.heap.size, 5, none⟩ = some (.int .u64 x.f1.f2) ∧ w'.cell? ⟨w.heap.size, 6, none⟩ = some (.int .i64 x.f2) ∧ w'.cell? ⟨w.heap.size, 7, none⟩ = some (.int .i64 x.f3) ∧ w'.cell? ⟨g, 1, none⟩ = some (.int .i64 W)) (ds := []) #[false, false, false, false, false, false, false, false, false, false, false, false, false, false, false, false, false, false, false, false, false, false, false, false, false, false, false, false, false, false, false] (by kernel_rfl) rfl rfl ⟨b0, b1, b2, b3, b4, b5, b6, b7, l1⟩ (fun hHeld => ?_)
 refine pl_ [0, 1] ?_
 refine pP rfl rfl (by kernel_rfl) (fun _ _ _ h => h) (by rfl) (by intro w'; go_simp; with_reducible rfl) (by simp only [Act.put, z1, z2, z3, i64_w, i32_w]; rfl) ?_
 refine pT hHeld rfl rfl (by kernel_rfl) (fun _ _ _ h => h) (by rfl) (by rintro w' ⟨s0, s1, s2, s3, s4, s5, s6, s7, s8⟩; go_simp; with_reducible rfl) (by simp only [Act.put, z1, z2, z3, i64_w, i32_w]; rfl) ?_
 refine pl0 ?_
 refine one_ (i := 2) (N := some 11) #[true, true, true, false, false, false, false, false, false, false, false, false, false, false, false, false, false, false, false, false, false, false, false, false, false, false, false, false, false, false, false] rfl rfl (by kernel_rfl) (by decide) (fun K hK => ?_)
 refine goes_ Try.func73 (by kernel_rfl) rfl #[.agg #[.int .i64 x.f0.f0, .int .u64 x.f0.f1, .int .u64 x.f0.f2]] (by rfl) rfl rfl (by simp only [List.map_toArray, List.map_cons, List.map_nil]; rfl) ?_
 with_reducible refine (vec_May.calls x.f0.f0 x.f0.f1 x.f0.f2 false _ HA.out).mono ?_
 rintro e w1 ⟨rfl, hb⟩
 refine ⟨_, rfl, ?_⟩
 have H1 := Aside0.mk ((H0.out.step (below_drew1 (Below.refl _ _))).step hb)
 clear hb
 (try clear b0 b1 b2 b3 b4 b5 b6 b7 l0 l1 l2)
 have b0 := blk_cell H1.out.bx 0
 have b1 := blk_cell H1.out.bx 1
 have b2 := blk_cell H1.out.bx 2
 have b3 := blk_cell H1.out.bx 3
 have b4 := blk_cell H1.out.bx 4
 have b5 := blk_cell H1.out.bx 5
 have b6 := blk_cell H1.out.bx 6
 have b7 := blk_cell H1.out.bx 7
 have l0 := blk_cell H1.out.bg 0
 have l1 := blk_cell H1.out.bg 1
 have l2 := blk_cell H1.out.bg 2
 simp only [List.getElem?_toArray, List.getElem?_cons_succ, List.getElem?_cons_zero] at b0 b1 b2 b3 b4 b5 b6 b7 l0 l1 l2
 refine hK.out _ _ ⟨b0, b1, b2, b3, b4, b5, b6, b7, l1⟩ (fun hHeld => ?_)
 clear hK K
 refine norm_ (a' := ?_) ?_ ?_
 rotate_left
 ·show Act.put _ (some 11) _ = _
  simp only [Act.put, List.setIfInBounds_toArray, List.set_cons_zero, List.set_cons_succ, i64_w, i32_w]
  rfl
 refine pl_ [3, 4, 5, 6, 7, 8, 9, 10, 11, 12, 13, 14, 15, 16, 17, 18, 19, 20, 21, 22, 23, 24, 25, 26, 27, 28, 29, 30] ?_
 iterate 2 refine pP rfl rfl (by kernel_rfl) (fun _ _ _ h => h) (by rfl) (by intro w'; go_simp; with_reducible rfl) (by simp only [Act.put, z1, z2, z3, i64_w, i32_w]; rfl) ?_
 iterate 4 refine pU rfl rfl (by kernel_rfl) (fun _ _ _ h => h) (by rfl) (by simp only [Act.put, z1, z2, z3, i64_w, i32_w]; rfl) ?_
 iterate 2 refine pP rfl rfl (by kernel_rfl) (fun _ _ _ h => h) (by rfl) (by intro w'; go_simp; with_reducible rfl) (by simp only [Act.put, z1, z2, z3, i64_w, i32_w]; rfl) ?_
 iterate 8 refine pU rfl rfl (by kernel_rfl) (fun _ _ _ h => h) (by rfl) (by simp only [Act.put, z1, z2, z3, i64_w, i32_w]; rfl) ?_
 iterate 2 refine pP rfl rfl (by kernel_rfl) (fun _ _ _ h => h) (by rfl) (by intro w'; go_simp; with_reducible rfl) (by simp only [Act.put, z1, z2, z3, i64_w, i32_w]; rfl) ?_
 iterate 8 refine pU rfl rfl (by kernel_rfl) (fun _ _ _ h => h) (by rfl) (by simp only [Act.put, z1, z2, z3, i64_w, i32_w]; rfl) ?_
 iterate 2 refine pP rfl rfl (by kernel_rfl) (fun _ _ _ h => h) (by rfl) (by intro w'; go_simp; with_reducible rfl) (by simp only [Act.put, z1, z2, z3, i64_w, i32_w]; rfl) ?_
 refine pl0 ?_
 refine done_ (by kernel_rfl) ?_
 go_wp2
 go_ret
 exact ⟨rfl, H1.out.below⟩
set_option maxHeartbeats 400000 in
set_option maxRecDepth 100000 in
theorem may_b (w : World) (g : Nat) (v : Value) (W m : Int) (x : S59) (h : w.heap[g]? = some (.cells #[v, .int .i64 W, .int .i64 m] 147 (0, 0))) (hA : vec_May.f x.f0.f0 x.f0.f1 x.f0.f2 = some true) (hB : vec_May.f x.f1.f0 x.f1.f1 x.f1.f2 = some false) :
 Calls Try.prog 97 #[.pointer (some ⟨g, 0, none⟩), .agg #[.int .i64 x.f0.f0, .int .u64 x.f0.f1, .int .u64 x.f0.f2, .int .i64 x.f1.f0, .int .u64 x.f1.f1, .int .u64 x.f1.f2, .int .i64 x.f2, .int .i64 x.f3]] w fun e w' => e = .returned (.int .i64 9) ∧ Below w.heap.size w w' := by
 have H0 := Aside0.mk (BG.start (.cells #[.int .i64 x.f0.f0, .int .u64 x.f0.f1, .int .u64 x.f0.f2, .int .i64 x.f1.f0, .int .u64 x.f1.f1, .int .u64 x.f1.f2, .int .i64 x.f2, .int .i64 x.f3] 59 (0, 0)) h)
 have HA := Aside0.mk hA
 have HB := Aside0.mk hB
 clear h hA hB
 have b0 := blk_cell H0.out.bx 0
 have b1 := blk_cell H0.out.bx 1
 have b2 := blk_cell H0.out.bx 2
 have b3 := blk_cell H0.out.bx 3
 have b4 := blk_cell H0.out.bx 4
 have b5 := blk_cell H0.out.bx 5
 have b6 := blk_cell H0.out.bx 6
 have b7 := blk_cell H0.out.bx 7
 have l0 := blk_cell H0.out.bg 0
 have l1 := blk_cell H0.out.bg 1
 have l2 := blk_cell H0.out.bg 2
 simp only [List.getElem?_toArray, List.getElem?_cons_succ, List.getElem?_cons_zero] at b0 b1 b2 b3 b4 b5 b6 b7 l0 l1 l2
 go_enter Try.func97, Try.ntmps97
 go_wp2
 refine start_ (n := 31) (S := fun w' => w'.cell? ⟨w.heap.size, 0, none⟩ = some (.int .i64 x.f0.f0) ∧ w'.cell? ⟨w.heap.size, 1, none⟩ = some (.int .u64 x.f0.f1) ∧ w'.cell? ⟨w.heap.size, 2, none⟩ = some (.int .u64 x.f0.f2) ∧ w'.cell? ⟨w.heap.size, 3, none⟩ = some (.int .i64 x.f1.f0) ∧ w'.cell? ⟨w.heap.size, 4, none⟩ = some (.int .u64 x.f1.f1) ∧ w'.cell? ⟨w.heap.size, 5, none⟩ = some (.int .u64 x.f1.f2) ∧ w'.cell? ⟨w.heap.size, 6, none⟩ = some (.int .i64 x.f2) ∧ w'.cell? ⟨w.heap.size, 7, none⟩ = some (.int .i64 x.f3) ∧ w'.cell? ⟨g, 1, none⟩ = some (.int .i64 W)) (ds := []) #[false, false, false, false, false, false, false, false, false, false, false, false, false, false, false, false, false, false, false, false, false, false, false, false, false, false, false, false, false, false, false] (by kernel_rfl) rfl rfl ⟨b0, b1, b2, b3, b4, b5, b6, b7, l1⟩ (fun hHeld => ?_)
 refine pl_ [0, 1] ?_
 refine pP rfl rfl (by kernel_rfl) (fun _ _ _ h => h) (by rfl) (by intro w'; go_simp; with_reducible rfl) (by simp only [Act.put, z1, z2, z3, i64_w, i32_w]; rfl) ?_
 refine pT hHeld rfl rfl (by kernel_rfl) (fun _ _ _ h => h) (by rfl) (by rintro w' ⟨s0, s1, s2, s3, s4, s5, s6, s7, s8⟩; go_simp; with_reducible rfl) (by simp only [Act.put, z1, z2, z3, i64_w, i32_w]; rfl) ?_
 refine pl0 ?_
 refine one_ (i := 2) (N := some 11) #[true, true, true, false, false, false, false, false, false, false, false, false, false, false, false, false, false, false, false, false, false, false, false, false, false, false, false, false, false, false, false] rfl rfl (by kernel_rfl) (by decide) (fun K hK => ?_)
 refine goes_ Try.func73 (by kernel_rfl) rfl #[.agg #[.int .i64 x.f0.f0, .int .u64 x.f0.f1, .int .u64 x.f0.f2]] (by rfl) rfl rfl (by simp only [List.map_toArray, List.map_cons, List.map_nil]; rfl) ?_
 with_reducible refine (vec_May.calls x.f0.f0 x.f0.f1 x.f0.f2 true _ HA.out).mono ?_
 rintro e w1 ⟨rfl, hb⟩
 refine ⟨_, rfl, ?_⟩
 have H1 := Aside0.mk ((H0.out.step (below_drew1 (Below.refl _ _))).step hb)
 clear hb
 (try clear b0 b1 b2 b3 b4 b5 b6 b7 l0 l1 l2)
 have b0 := blk_cell H1.out.bx 0
 have b1 := blk_cell H1.out.bx 1
 have b2 := blk_cell H1.out.bx 2
 have b3 := blk_cell H1.out.bx 3
 have b4 := blk_cell H1.out.bx 4
 have b5 := blk_cell H1.out.bx 5
 have b6 := blk_cell H1.out.bx 6
 have b7 := blk_cell H1.out.bx 7
 have l0 := blk_cell H1.out.bg 0
 have l1 := blk_cell H1.out.bg 1
 have l2 := blk_cell H1.out.bg 2
 simp only [List.getElem?_toArray, List.getElem?_cons_succ, List.getElem?_cons_zero] at b0 b1 b2 b3 b4 b5 b6 b7 l0 l1 l2
 refine hK.out _ _ ⟨b0, b1, b2, b3, b4, b5, b6, b7, l1⟩ (fun hHeld => ?_)
 clear hK K
 refine norm_ (a' := ?_) ?_ ?_
 rotate_left
 ·show Act.put _ (some 11) _ = _
  simp only [Act.put, List.setIfInBounds_toArray, List.set_cons_zero, List.set_cons_succ, i64_w, i32_w]
  rfl
 refine pl_ [3, 4, 5, 6] ?_
 iterate 3 refine pP rfl rfl (by kernel_rfl) (fun _ _ _ h => h) (by rfl) (by intro w'; go_simp; with_reducible rfl) (by simp only [Act.put, z1, z2, z3, i64_w, i32_w]; rfl) ?_
 refine pT hHeld rfl rfl (by kernel_rfl) (fun _ _ _ h => h) (by rfl) (by rintro w' ⟨s0, s1, s2, s3, s4, s5, s6, s7, s8⟩; go_simp; with_reducible rfl) (by simp only [Act.put, z1, z2, z3, i64_w, i32_w]; rfl) ?_
 refine pl0 ?_
 refine one_ (i := 7) (N := some 16) #[true, true, true, true, true, true, true, true, false, false, false, false, false, false, false, false, false, false, false, false, false, false, false, false, false, false, false, false, false, false, false] rfl rfl (by kernel_rfl) (by decide) (fun K hK => ?_)
 refine goes_ Try.func73 (by kernel_rfl) rfl #[.agg #[.int .i64 x.f1.f0, .int .u64 x.f1.f1, .int .u64 x.f1.f2]] (by rfl) rfl rfl (by simp only [List.map_toArray, List.map_cons, List.map_nil]; rfl) ?_
 with_reducible refine (vec_May.calls x.f1.f0 x.f1.f1 x.f1.f2 false _ HB.out).mono ?_
 rintro e w2 ⟨rfl, hb⟩
 refine ⟨_, rfl, ?_⟩
 have H2 := Aside0.mk (H1.out.step hb)
 clear hb
 (try clear b0 b1 b2 b3 b4 b5 b6 b7 l0 l1 l2)
 have b0 := blk_cell H2.out.bx 0
 have b1 := blk_cell H2.out.bx 1
 have b2 := blk_cell H2.out.bx 2
 have b3 := blk_cell H2.out.bx 3
 have b4 := blk_cell H2.out.bx 4
 have b5 := blk_cell H2.out.bx 5
 have b6 := blk_cell H2.out.bx 6
 have b7 := blk_cell H2.out.bx 7
 have l0 := blk_cell H2.out.bg 0
 have l1 := blk_cell H2.out.bg 1
 have l2 := blk_cell H2.out.bg 2
 simp only [List.getElem?_toArray, List.getElem?_cons_succ, List.getElem?_cons_zero] at b0 b1 b2 b3 b4 b5 b6 b7 l0 l1 l2
 refine hK.out _ _ ⟨b0, b1, b2, b3, b4, b5, b6, b7, l1⟩ (fun hHeld => ?_)
 clear hK K
 refine norm_ (a' := ?_) ?_ ?_
 rotate_left
 ·show Act.put _ (some 16) _ = _
  simp only [Act.put, List.setIfInBounds_toArray, List.set_cons_zero, List.set_cons_succ, i64_w, i32_w]
  rfl
 refine pl_ [8, 9, 10, 11, 12, 13, 14, 15, 16, 17, 18, 19, 20, 21, 22, 23, 24, 25, 26, 27, 28, 29, 30] ?_
 iterate 3 refine pP rfl rfl (by kernel_rfl) (fun _ _ _ h => h) (by rfl) (by intro w'; go_simp; with_reducible rfl) (by simp only [Act.put, z1, z2, z3, i64_w, i32_w]; rfl) ?_
 iterate 8 refine pU rfl rfl (by kernel_rfl) (fun _ _ _ h => h) (by rfl) (by simp only [Act.put, z1, z2, z3, i64_w, i32_w]; rfl) ?_
 iterate 2 refine pP rfl rfl (by kernel_rfl) (fun _ _ _ h => h) (by rfl) (by intro w'; go_simp; with_reducible rfl) (by simp only [Act.put, z1, z2, z3, i64_w, i32_w]; rfl) ?_
 iterate 8 refine pU rfl rfl (by kernel_rfl) (fun _ _ _ h => h) (by rfl) (by simp only [Act.put, z1, z2, z3, i64_w, i32_w]; rfl) ?_
 iterate 2 refine pP rfl rfl (by kernel_rfl) (fun _ _ _ h => h) (by rfl) (by intro w'; go_simp; with_reducible rfl) (by simp only [Act.put, z1, z2, z3, i64_w, i32_w]; rfl) ?_
 refine pl0 ?_
 refine done_ (by kernel_rfl) ?_
 go_wp2
 go_ret
 exact ⟨rfl, H2.out.below⟩
set_option maxHeartbeats 400000 in
set_option maxRecDepth 100000 in
theorem may_c (w : World) (g : Nat) (v : Value) (W m : Int) (x : S59) (h : w.heap[g]? = some (.cells #[v, .int .i64 W, .int .i64 m] 147 (0, 0))) (hA : vec_May.f x.f0.f0 x.f0.f1 x.f0.f2 = some true) (hB : vec_May.f x.f1.f0 x.f1.f1 x.f1.f2 = some true) (e1 : (x.f0.f0 != W) = true) :
 Calls Try.prog 97 #[.pointer (some ⟨g, 0, none⟩), .agg #[.int .i64 x.f0.f0, .int .u64 x.f0.f1, .int .u64 x.f0.f2, .int .i64 x.f1.f0, .int .u64 x.f1.f1, .int .u64 x.f1.f2, .int .i64 x.f2, .int .i64 x.f3]] w fun e w' => e = .returned (.int .i64 9) ∧ Below w.heap.size w w' := by
 have H0 := Aside0.mk (BG.start (.cells #[.int .i64 x.f0.f0, .int .u64 x.f0.f1, .int .u64 x.f0.f2, .int .i64 x.f1.f0, .int .u64 x.f1.f1, .int .u64 x.f1.f2, .int .i64 x.f2, .int .i64 x.f3] 59 (0, 0)) h)
 have HA := Aside0.mk hA
 have HB := Aside0.mk hB
 clear h hA hB
 have b0 := blk_cell H0.out.bx 0
 have b1 := blk_cell H0.out.bx 1
 have b2 := blk_cell H0.out.bx 2
 have b3 := blk_cell H0.out.bx 3
 have b4 := blk_cell H0.out.bx 4
 have b5 := blk_cell H0.out.bx 5
 have b6 := blk_cell H0.out.bx 6
 have b7 := blk_cell H0.out.bx 7
 have l0 := blk_cell H0.out.bg 0
 have l1 := blk_cell H0.out.bg 1
 have l2 := blk_cell H0.out.bg 2
 simp only [List.getElem?_toArray, List.getElem?_cons_succ, List.getElem?_cons_zero] at b0 b1 b2 b3 b4 b5 b6 b7 l0 l1 l2
 go_enter Try.func97, Try.ntmps97
 go_wp2
 refine start_ (n := 31) (S := fun w' => w'.cell? ⟨w.heap.size, 0, none⟩ = some (.int .i64 x.f0.f0) ∧ w'.cell? ⟨w.heap.size, 1, none⟩ = some (.int .u64 x.f0.f1) ∧ w'.cell? ⟨w.heap.size, 2, none⟩ = some (.int .u64 x.f0.f2) ∧ w'.cell? ⟨w.heap.size, 3, none⟩ = some (.int .i64 x.f1.f0) ∧ w'.cell? ⟨w.heap.size, 4, none⟩ = some (.int .u64 x.f1.f1) ∧ w'.cell? ⟨w.heap.size, 5, none⟩ = some (.int .u64 x.f1.f2) ∧ w'.cell? ⟨w.heap.size, 6, none⟩ = some (.int .i64 x.f2) ∧ w'.cell? ⟨w.heap.size, 7, none⟩ = some (.int .i64 x.f3) ∧ w'.cell? ⟨g, 1, none⟩ = some (.int .i64 W)) (ds := []) #[false, false, false, false, false, false, false, false, false, false, false, false, false, false, false, false, false, false, false, false, false, false, false, false, false, false, false, false, false, false, false] (by kernel_rfl) rfl rfl ⟨b0, b1, b2, b3, b4, b5, b6, b7, l1⟩ (fun hHeld => ?_)
 refine pl_ [0, 1] ?_
 refine pP rfl rfl (by kernel_rfl) (fun _ _ _ h => h) (by rfl) (by intro w'; go_simp; with_reducible rfl) (by simp only [Act.put, z1, z2, z3, i64_w, i32_w]; rfl) ?_
 refine pT hHeld rfl rfl (by kernel_rfl) (fun _ _ _ h => h) (by rfl) (by rintro w' ⟨s0, s1, s2, s3, s4, s5, s6, s7, s8⟩; go_simp; with_reducible rfl) (by simp only [Act.put, z1, z2, z3, i64_w, i32_w]; rfl) ?_
 refine pl0 ?_
 refine one_ (i := 2) (N := some 11) #[true, true, true, false, false, false, false, false, false, false, false, false, false, false, false, false, false, false, false, false, false, false, false, false, false, false, false, false, false, false, false] rfl rfl (by kernel_rfl) (by decide) (fun K hK => ?_)
 refine goes_ Try.func73 (by kernel_rfl) rfl #[.agg #[.int .i64 x.f0.f0, .int .u64 x.f0.f1, .int .u64 x.f0.f2]] (by rfl) rfl rfl (by simp only [List.map_toArray, List.map_cons, List.map_nil]; rfl) ?_
 with_reducible refine (vec_May.calls x.f0.f0 x.f0.f1 x.f0.f2 true _ HA.out).mono ?_
 rintro e w1 ⟨rfl, hb⟩
 refine ⟨_, rfl, ?_⟩
 have H1 := Aside0.mk ((H0.out.step (below_drew1 (Below.refl _ _))).step hb)
 clear hb
 (try clear b0 b1 b2 b3 b4 b5 b6 b7 l0 l1 l2)
 have b0 := blk_cell H1.out.bx 0
 have b1 := blk_cell H1.out.bx 1
 have b2 := blk_cell H1.out.bx 2
 have b3 := blk_cell H1.out.bx 3
 have b4 := blk_cell H1.out.bx 4
 have b5 := blk_cell H1.out.bx 5
 have b6 := blk_cell H1.out.bx 6
 have b7 := blk_cell H1.out.bx 7
 have l0 := blk_cell H1.out.bg 0
 have l1 := blk_cell H1.out.bg 1
 have l2 := blk_cell H1.out.bg 2
 simp only [List.getElem?_toArray, List.getElem?_cons_succ, List.getElem?_cons_zero] at b0 b1 b2 b3 b4 b5 b6 b7 l0 l1 l2
 refine hK.out _ _ ⟨b0, b1, b2, b3, b4, b5, b6, b7, l1⟩ (fun hHeld => ?_)
 clear hK K
 refine norm_ (a' := ?_) ?_ ?_
 rotate_left
 ·show Act.put _ (some 11) _ = _
  simp only [Act.put, List.setIfInBounds_toArray, List.set_cons_zero, List.set_cons_succ, i64_w, i32_w]
  rfl
 refine pl_ [3, 4, 5, 6] ?_
 iterate 3 refine pP rfl rfl (by kernel_rfl) (fun _ _ _ h => h) (by rfl) (by intro w'; go_simp; with_reducible rfl) (by simp only [Act.put, z1, z2, z3, i64_w, i32_w]; rfl) ?_
 refine pT hHeld rfl rfl (by kernel_rfl) (fun _ _ _ h => h) (by rfl) (by rintro w' ⟨s0, s1, s2, s3, s4, s5, s6, s7, s8⟩; go_simp; with_reducible rfl) (by simp only [Act.put, z1, z2, z3, i64_w, i32_w]; rfl) ?_
 refine pl0 ?_
 refine one_ (i := 7) (N := some 16) #[true, true, true, true, true, true, true, true, false, false, false, false, false, false, false, false, false, false, false, false, false, false, false, false, false, false, false, false, false, false, false] rfl rfl (by kernel_rfl) (by decide) (fun K hK => ?_)
 refine goes_ Try.func73 (by kernel_rfl) rfl #[.agg #[.int .i64 x.f1.f0, .int .u64 x.f1.f1, .int .u64 x.f1.f2]] (by rfl) rfl rfl (by simp only [List.map_toArray, List.map_cons, List.map_nil]; rfl) ?_
 with_reducible refine (vec_May.calls x.f1.f0 x.f1.f1 x.f1.f2 true _ HB.out).mono ?_
 rintro e w2 ⟨rfl, hb⟩
 refine ⟨_, rfl, ?_⟩
 have H2 := Aside0.mk (H1.out.step hb)
 clear hb
 (try clear b0 b1 b2 b3 b4 b5 b6 b7 l0 l1 l2)
 have b0 := blk_cell H2.out.bx 0
 have b1 := blk_cell H2.out.bx 1
 have b2 := blk_cell H2.out.bx 2
 have b3 := blk_cell H2.out.bx 3
 have b4 := blk_cell H2.out.bx 4
 have b5 := blk_cell H2.out.bx 5
 have b6 := blk_cell H2.out.bx 6
 have b7 := blk_cell H2.out.bx 7
 have l0 := blk_cell H2.out.bg 0
 have l1 := blk_cell H2.out.bg 1
 have l2 := blk_cell H2.out.bg 2
 simp only [List.getElem?_toArray, List.getElem?_cons_succ, List.getElem?_cons_zero] at b0 b1 b2 b3 b4 b5 b6 b7 l0 l1 l2
 refine hK.out _ _ ⟨b0, b1, b2, b3, b4, b5, b6, b7, l1⟩ (fun hHeld => ?_)
 clear hK K
 refine norm_ (a' := ?_) ?_ ?_
 rotate_left
 ·show Act.put _ (some 16) _ = _
  simp only [Act.put, List.setIfInBounds_toArray, List.set_cons_zero, List.set_cons_succ, i64_w, i32_w]
  rfl
 refine pl_ [8, 9, 10, 11, 12, 14, 15, 16, 13, 17, 18, 19, 20, 21, 22, 23, 24, 25, 26, 27, 28, 29, 30] ?_
 iterate 8 refine pP rfl rfl (by kernel_rfl) (fun _ _ _ h => h) (by rfl) (by intro w'; go_simp; with_reducible rfl) (by simp only [Act.put, z1, z2, z3, i64_w, i32_w]; rfl) ?_
 iterate 2 refine pT hHeld rfl rfl (by kernel_rfl) (fun _ _ _ h => h) (by rfl) (by rintro w' ⟨s0, s1, s2, s3, s4, s5, s6, s7, s8⟩; go_simp; with_reducible rfl) (by simp only [Act.put, z1, z2, z3, i64_w, i32_w]; rfl) ?_
 iterate 3 refine pP rfl rfl (by kernel_rfl) (fun _ _ _ h => h) (by rfl) (by intro w'; go_simp; with_reducible rfl) (by simp only [Act.put, z1, z2, z3, i64_w, i32_w]; rfl) ?_
 iterate 8 refine pU rfl rfl (by kernel_rfl) (fun _ _ _ h => h) (by rfl) (by simp only [Act.put, z1, z2, z3, i64_w, i32_w]; rfl) ?_
 iterate 2 refine pP rfl rfl (by kernel_rfl) (fun _ _ _ h => h) (by rfl) (by intro w'; go_simp; with_reducible rfl) (by simp only [Act.put, z1, z2, z3, i64_w, i32_w]; rfl) ?_
 refine pl0 ?_
 refine done_ (by kernel_rfl) ?_
 go_wp2
 go_ret
 exact ⟨rfl, H2.out.below⟩
set_option maxHeartbeats 400000 in
set_option maxRecDepth 100000 in
theorem may_d (w : World) (g : Nat) (v : Value) (W m : Int) (x : S59) (h : w.heap[g]? = some (.cells #[v, .int .i64 W, .int .i64 m] 147 (0, 0))) (hA : vec_May.f x.f0.f0 x.f0.f1 x.f0.f2 = some true) (hB : vec_May.f x.f1.f0 x.f1.f1 x.f1.f2 = some true) (e1 : (x.f0.f0 != W) = false) (e2 : (x.f1.f0 != W) = true) :
 Calls Try.prog 97 #[.pointer (some ⟨g, 0, none⟩), .agg #[.int .i64 x.f0.f0, .int .u64 x.f0.f1, .int .u64 x.f0.f2, .int .i64 x.f1.f0, .int .u64 x.f1.f1, .int .u64 x.f1.f2, .int .i64 x.f2, .int .i64 x.f3]] w fun e w' => e = .returned (.int .i64 9) ∧ Below w.heap.size w w' := by
 have H0 := Aside0.mk (BG.start (.cells #[.int .i64 x.f0.f0, .int .u64 x.f0.f1, .int .u64 x.f0.f2, .int .i64 x.f1.f0, .int .u64 x.f1.f1, .int .u64 x.f1.f2, .int .i64 x.f2, .int .i64 x.f3] 59 (0, 0)) h)
 have HA := Aside0.mk hA
 have HB := Aside0.mk hB
 clear h hA hB
 have b0 := blk_cell H0.out.bx 0
 have b1 := blk_cell H0.out.bx 1
 have b2 := blk_cell H0.out.bx 2
 have b3 := blk_cell H0.out.bx 3
 have b4 := blk_cell H0.out.bx 4
 have b5 := blk_cell H0.out.bx 5
 have b6 := blk_cell H0.out.bx 6
 have b7 := blk_cell H0.out.bx 7
 have l0 := blk_cell H0.out.bg 0
 have l1 := blk_cell H0.out.bg 1
 have l2 := blk_cell H0.out.bg 2
 simp only [List.getElem?_toArray, List.getElem?_cons_succ, List.getElem?_cons_zero] at b0 b1 b2 b3 b4 b5 b6 b7 l0 l1 l2
 go_enter Try.func97, Try.ntmps97
 go_wp2
 refine start_ (n := 31) (S := fun w' => w'.cell? ⟨w.heap.size, 0, none⟩ = some (.int .i64 x.f0.f0) ∧ w'.cell? ⟨w.heap.size, 1, none⟩ = some (.int .u64 x.f0.f1) ∧ w'.cell? ⟨w.heap.size, 2, none⟩ = some (.int .u64 x.f0.f2) ∧ w'.cell? ⟨w.heap.size, 3, none⟩ = some (.int .i64 x.f1.f0) ∧ w'.cell? ⟨w.heap.size, 4, none⟩ = some (.int .u64 x.f1.f1) ∧ w'.cell? ⟨w.heap.size, 5, none⟩ = some (.int .u64 x.f1.f2) ∧ w'.cell? ⟨w.heap.size, 6, none⟩ = some (.int .i64 x.f2) ∧ w'.cell? ⟨w.heap.size, 7, none⟩ = some (.int .i64 x.f3) ∧ w'.cell? ⟨g, 1, none⟩ = some (.int .i64 W)) (ds := []) #[false, false, false, false, false, false, false, false, false, false, false, false, false, false, false, false, false, false, false, false, false, false, false, false, false, false, false, false, false, false, false] (by kernel_rfl) rfl rfl ⟨b0, b1, b2, b3, b4, b5, b6, b7, l1⟩ (fun hHeld => ?_)
 refine pl_ [0, 1] ?_
 refine pP rfl rfl (by kernel_rfl) (fun _ _ _ h => h) (by rfl) (by intro w'; go_simp; with_reducible rfl) (by simp only [Act.put, z1, z2, z3, i64_w, i32_w]; rfl) ?_
 refine pT hHeld rfl rfl (by kernel_rfl) (fun _ _ _ h => h) (by rfl) (by rintro w' ⟨s0, s1, s2, s3, s4, s5, s6, s7, s8⟩; go_simp; with_reducible rfl) (by simp only [Act.put, z1, z2, z3, i64_w, i32_w]; rfl) ?_
 refine pl0 ?_
 refine one_ (i := 2) (N := some 11) #[true, true, true, false, false, false, false, false, false, false, false, false, false, false, false, false, false, false, false, false, false, false, false, false, false, false, false, false, false, false, false] rfl rfl (by kernel_rfl) (by decide) (fun K hK => ?_)
 refine goes_ Try.func73 (by kernel_rfl) rfl #[.agg #[.int .i64 x.f0.f0, .int .u64 x.f0.f1, .int .u64 x.f0.f2]] (by rfl) rfl rfl (by simp only [List.map_toArray, List.map_cons, List.map_nil]; rfl) ?_
 with_reducible refine (vec_May.calls x.f0.f0 x.f0.f1 x.f0.f2 true _ HA.out).mono ?_
 rintro e w1 ⟨rfl, hb⟩
 refine ⟨_, rfl, ?_⟩
 have H1 := Aside0.mk ((H0.out.step (below_drew1 (Below.refl _ _))).step hb)
 clear hb
 (try clear b0 b1 b2 b3 b4 b5 b6 b7 l0 l1 l2)
 have b0 := blk_cell H1.out.bx 0
 have b1 := blk_cell H1.out.bx 1
 have b2 := blk_cell H1.out.bx 2
 have b3 := blk_cell H1.out.bx 3
 have b4 := blk_cell H1.out.bx 4
 have b5 := blk_cell H1.out.bx 5
 have b6 := blk_cell H1.out.bx 6
 have b7 := blk_cell H1.out.bx 7
 have l0 := blk_cell H1.out.bg 0
 have l1 := blk_cell H1.out.bg 1
 have l2 := blk_cell H1.out.bg 2
 simp only [List.getElem?_toArray, List.getElem?_cons_succ, List.getElem?_cons_zero] at b0 b1 b2 b3 b4 b5 b6 b7 l0 l1 l2
 refine hK.out _ _ ⟨b0, b1, b2, b3, b4, b5, b6, b7, l1⟩ (fun hHeld => ?_)
 clear hK K
 refine norm_ (a' := ?_) ?_ ?_
 rotate_left
 ·show Act.put _ (some 11) _ = _
  simp only [Act.put, List.setIfInBounds_toArray, List.set_cons_zero, List.set_cons_succ, i64_w, i32_w]
  rfl
 refine pl_ [3, 4, 5, 6] ?_
 iterate 3 refine pP rfl rfl (by kernel_rfl) (fun _ _ _ h => h) (by rfl) (by intro w'; go_simp; with_reducible rfl) (by simp only [Act.put, z1, z2, z3, i64_w, i32_w]; rfl) ?_
 refine pT hHeld rfl rfl (by kernel_rfl) (fun _ _ _ h => h) (by rfl) (by rintro w' ⟨s0, s1, s2, s3, s4, s5, s6, s7, s8⟩; go_simp; with_reducible rfl) (by simp only [Act.put, z1, z2, z3, i64_w, i32_w]; rfl) ?_
 refine pl0 ?_
 refine one_ (i := 7) (N := some 16) #[true, true, true, true, true, true, true, true, false, false, false, false, false, false, false, false, false, false, false, false, false, false, false, false, false, false, false, false, false, false, false] rfl rfl (by kernel_rfl) (by decide) (fun K hK => ?_)
 refine goes_ Try.func73 (by kernel_rfl) rfl #[.agg #[.int .i64 x.f1.f0, .int .u64 x.f1.f1, .int .u64 x.f1.f2]] (by rfl) rfl rfl (by simp only [List.map_toArray, List.map_cons, List.map_nil]; rfl) ?_
 with_reducible refine (vec_May.calls x.f1.f0 x.f1.f1 x.f1.f2 true _ HB.out).mono ?_
 rintro e w2 ⟨rfl, hb⟩
 refine ⟨_, rfl, ?_⟩
 have H2 := Aside0.mk (H1.out.step hb)
 clear hb
 (try clear b0 b1 b2 b3 b4 b5 b6 b7 l0 l1 l2)
 have b0 := blk_cell H2.out.bx 0
 have b1 := blk_cell H2.out.bx 1
 have b2 := blk_cell H2.out.bx 2
 have b3 := blk_cell H2.out.bx 3
 have b4 := blk_cell H2.out.bx 4
 have b5 := blk_cell H2.out.bx 5
 have b6 := blk_cell H2.out.bx 6
 have b7 := blk_cell H2.out.bx 7
 have l0 := blk_cell H2.out.bg 0
 have l1 := blk_cell H2.out.bg 1
 have l2 := blk_cell H2.out.bg 2
 simp only [List.getElem?_toArray, List.getElem?_cons_succ, List.getElem?_cons_zero] at b0 b1 b2 b3 b4 b5 b6 b7 l0 l1 l2
 refine hK.out _ _ ⟨b0, b1, b2, b3, b4, b5, b6, b7, l1⟩ (fun hHeld => ?_)
 clear hK K
 refine norm_ (a' := ?_) ?_ ?_
 rotate_left
 ·show Act.put _ (some 16) _ = _
  simp only [Act.put, List.setIfInBounds_toArray, List.set_cons_zero, List.set_cons_succ, i64_w, i32_w]
  rfl
 refine pl_ [8, 9, 10, 11, 12, 14, 15, 16, 13, 17, 18, 19, 20, 21, 22, 24, 25, 26, 23, 27, 28, 29, 30] ?_
 iterate 8 refine pP rfl rfl (by kernel_rfl) (fun _ _ _ h => h) (by rfl) (by intro w'; go_simp; with_reducible rfl) (by simp only [Act.put, z1, z2, z3, i64_w, i32_w]; rfl) ?_
 iterate 2 refine pT hHeld rfl rfl (by kernel_rfl) (fun _ _ _ h => h) (by rfl) (by rintro w' ⟨s0, s1, s2, s3, s4, s5, s6, s7, s8⟩; go_simp; with_reducible rfl) (by simp only [Act.put, z1, z2, z3, i64_w, i32_w]; rfl) ?_
 iterate 8 refine pP rfl rfl (by kernel_rfl) (fun _ _ _ h => h) (by rfl) (by intro w'; go_simp; with_reducible rfl) (by simp only [Act.put, z1, z2, z3, i64_w, i32_w]; rfl) ?_
 iterate 2 refine pT hHeld rfl rfl (by kernel_rfl) (fun _ _ _ h => h) (by rfl) (by rintro w' ⟨s0, s1, s2, s3, s4, s5, s6, s7, s8⟩; go_simp; with_reducible rfl) (by simp only [Act.put, z1, z2, z3, i64_w, i32_w]; rfl) ?_
 iterate 3 refine pP rfl rfl (by kernel_rfl) (fun _ _ _ h => h) (by rfl) (by intro w'; go_simp; with_reducible rfl) (by simp only [Act.put, z1, z2, z3, i64_w, i32_w]; rfl) ?_
 refine pl0 ?_
 refine done_ (by kernel_rfl) ?_
 go_wp2
 go_ret
 exact ⟨rfl, H2.out.below⟩
set_option maxHeartbeats 400000 in
set_option maxRecDepth 100000 in
theorem may_e (w : World) (g : Nat) (v : Value) (W m : Int) (x : S59) (h : w.heap[g]? = some (.cells #[v, .int .i64 W, .int .i64 m] 147 (0, 0))) (hA : vec_May.f x.f0.f0 x.f0.f1 x.f0.f2 = some true) (hB : vec_May.f x.f1.f0 x.f1.f1 x.f1.f2 = some true) (e1 : (x.f0.f0 != W) = false) (e2 : (x.f1.f0 != W) = false) (hC : tern_inside.f x.f0.f0 x.f0.f1 x.f0.f2 x.f1.f0 x.f1.f1 x.f1.f2 = some false) :
 Calls Try.prog 97 #[.pointer (some ⟨g, 0, none⟩), .agg #[.int .i64 x.f0.f0, .int .u64 x.f0.f1, .int .u64 x.f0.f2, .int .i64 x.f1.f0, .int .u64 x.f1.f1, .int .u64 x.f1.f2, .int .i64 x.f2, .int .i64 x.f3]] w fun e w' => e = .returned (.int .i64 14) ∧ Below w.heap.size w w' := by
 have H0 := Aside0.mk (BG.start (.cells #[.int .i64 x.f0.f0, .int .u64 x.f0.f1, .int .u64 x.f0.f2, .int .i64 x.f1.f0, .int .u64 x.f1.f1, .int .u64 x.f1.f2, .int .i64 x.f2, .int .i64 x.f3] 59 (0, 0)) h)
 have HA := Aside0.mk hA
 have HB := Aside0.mk hB
 have HC := Aside0.mk hC
 clear h hA hB hC
 have b0 := blk_cell H0.out.bx 0
 have b1 := blk_cell H0.out.bx 1
 have b2 := blk_cell H0.out.bx 2
 have b3 := blk_cell H0.out.bx 3
 have b4 := blk_cell H0.out.bx 4
 have b5 := blk_cell H0.out.bx 5
 have b6 := blk_cell H0.out.bx 6
 have b7 := blk_cell H0.out.bx 7
 have l0 := blk_cell H0.out.bg 0
 have l1 := blk_cell H0.out.bg 1
 have l2 := blk_cell H0.out.bg 2
 simp only [List.getElem?_toArray, List.getElem?_cons_succ, List.getElem?_cons_zero] at b0 b1 b2 b3 b4 b5 b6 b7 l0 l1 l2
 go_enter Try.func97, Try.ntmps97
 go_wp2
 refine start_ (n := 31) (S := fun w' => w'.cell? ⟨w.heap.size, 0, none⟩ = some (.int .i64 x.f0.f0) ∧ w'.cell? ⟨w.heap.size, 1, none⟩ = some (.int .u64 x.f0.f1) ∧ w'.cell? ⟨w.heap.size, 2, none⟩ = some (.int .u64 x.f0.f2) ∧ w'.cell? ⟨w.heap.size, 3, none⟩ = some (.int .i64 x.f1.f0) ∧ w'.cell? ⟨w.heap.size, 4, none⟩ = some (.int .u64 x.f1.f1) ∧ w'.cell? ⟨w.heap.size, 5, none⟩ = some (.int .u64 x.f1.f2) ∧ w'.cell? ⟨w.heap.size, 6, none⟩ = some (.int .i64 x.f2) ∧ w'.cell? ⟨w.heap.size, 7, none⟩ = some (.int .i64 x.f3) ∧ w'.cell? ⟨g, 1, none⟩ = some (.int .i64 W)) (ds := []) #[false, false, false, false, false, false, false, false, false, false, false, false, false, false, false, false, false, false, false, false, false, false, false, false, false, false, false, false, false, false, false] (by kernel_rfl) rfl rfl ⟨b0, b1, b2, b3, b4, b5, b6, b7, l1⟩ (fun hHeld => ?_)
 refine pl_ [0, 1] ?_
 refine pP rfl rfl (by kernel_rfl) (fun _ _ _ h => h) (by rfl) (by intro w'; go_simp; with_reducible rfl) (by simp only [Act.put, z1, z2, z3, i64_w, i32_w]; rfl) ?_
 refine pT hHeld rfl rfl (by kernel_rfl) (fun _ _ _ h => h) (by rfl) (by rintro w' ⟨s0, s1, s2, s3, s4, s5, s6, s7, s8⟩; go_simp; with_reducible rfl) (by simp only [Act.put, z1, z2, z3, i64_w, i32_w]; rfl) ?_
 refine pl0 ?_
 refine one_ (i := 2) (N := some 11) #[true, true, true, false, false, false, false, false, false, false, false, false, false, false, false, false, false, false, false, false, false, false, false, false, false, false, false, false, false, false, false] rfl rfl (by kernel_rfl) (by decide) (fun K hK => ?_)
 refine goes_ Try.func73 (by kernel_rfl) rfl #[.agg #[.int .i64 x.f0.f0, .int .u64 x.f0.f1, .int .u64 x.f0.f2]] (by rfl) rfl rfl (by simp only [List.map_toArray, List.map_cons, List.map_nil]; rfl) ?_
 with_reducible refine (vec_May.calls x.f0.f0 x.f0.f1 x.f0.f2 true _ HA.out).mono ?_
 rintro e w1 ⟨rfl, hb⟩
 refine ⟨_, rfl, ?_⟩
 have H1 := Aside0.mk ((H0.out.step (below_drew1 (Below.refl _ _))).step hb)
 clear hb
 (try clear b0 b1 b2 b3 b4 b5 b6 b7 l0 l1 l2)
 have b0 := blk_cell H1.out.bx 0
 have b1 := blk_cell H1.out.bx 1
 have b2 := blk_cell H1.out.bx 2
 have b3 := blk_cell H1.out.bx 3
 have b4 := blk_cell H1.out.bx 4
 have b5 := blk_cell H1.out.bx 5
 have b6 := blk_cell H1.out.bx 6
 have b7 := blk_cell H1.out.bx 7
 have l0 := blk_cell H1.out.bg 0
 have l1 := blk_cell H1.out.bg 1
 have l2 := blk_cell H1.out.bg 2
 simp only [List.getElem?_toArray, List.getElem?_cons_succ, List.getElem?_cons_zero] at b0 b1 b2 b3 b4 b5 b6 b7 l0 l1 l2
 refine hK.out _ _ ⟨b0, b1, b2, b3, b4, b5, b6, b7, l1⟩ (fun hHeld => ?_)
 clear hK K
 refine norm_ (a' := ?_) ?_ ?_
 rotate_left
 ·show Act.put _ (some 11) _ = _
  simp only [Act.put, List.setIfInBounds_toArray, List.set_cons_zero, List.set_cons_succ, i64_w, i32_w]
  rfl
 refine pl_ [3, 4, 5, 6] ?_
 iterate 3 refine pP rfl rfl (by kernel_rfl) (fun _ _ _ h => h) (by rfl) (by intro w'; go_simp; with_reducible rfl) (by simp only [Act.put, z1, z2, z3, i64_w, i32_w]; rfl) ?_
 refine pT hHeld rfl rfl (by kernel_rfl) (fun _ _ _ h => h) (by rfl) (by rintro w' ⟨s0, s1, s2, s3, s4, s5, s6, s7, s8⟩; go_simp; with_reducible rfl) (by simp only [Act.put, z1, z2, z3, i64_w, i32_w]; rfl) ?_
 refine pl0 ?_
 refine one_ (i := 7) (N := some 16) #[true, true, true, true, true, true, true, true, false, false, false, false, false, false, false, false, false, false, false, false, false, false, false, false, false, false, false, false, false, false, false] rfl rfl (by kernel_rfl) (by decide) (fun K hK => ?_)
 refine goes_ Try.func73 (by kernel_rfl) rfl #[.agg #[.int .i64 x.f1.f0, .int .u64 x.f1.f1, .int .u64 x.f1.f2]] (by rfl) rfl rfl (by simp only [List.map_toArray, List.map_cons, List.map_nil]; rfl) ?_
 with_reducible refine (vec_May.calls x.f1.f0 x.f1.f1 x.f1.f2 true _ HB.out).mono ?_
 rintro e w2 ⟨rfl, hb⟩
 refine ⟨_, rfl, ?_⟩
 have H2 := Aside0.mk (H1.out.step hb)
 clear hb
 (try clear b0 b1 b2 b3 b4 b5 b6 b7 l0 l1 l2)
 have b0 := blk_cell H2.out.bx 0
 have b1 := blk_cell H2.out.bx 1
 have b2 := blk_cell H2.out.bx 2
 have b3 := blk_cell H2.out.bx 3
 have b4 := blk_cell H2.out.bx 4
 have b5 := blk_cell H2.out.bx 5
 have b6 := blk_cell H2.out.bx 6
 have b7 := blk_cell H2.out.bx 7
 have l0 := blk_cell H2.out.bg 0
 have l1 := blk_cell H2.out.bg 1
 have l2 := blk_cell H2.out.bg 2
 simp only [List.getElem?_toArray, List.getElem?_cons_succ, List.getElem?_cons_zero] at b0 b1 b2 b3 b4 b5 b6 b7 l0 l1 l2
 refine hK.out _ _ ⟨b0, b1, b2, b3, b4, b5, b6, b7, l1⟩ (fun hHeld => ?_)
 clear hK K
 refine norm_ (a' := ?_) ?_ ?_
 rotate_left
 ·show Act.put _ (some 16) _ = _
  simp only [Act.put, List.setIfInBounds_toArray, List.set_cons_zero, List.set_cons_succ, i64_w, i32_w]
  rfl
 refine pl_ [8, 9, 10, 11, 12, 14, 15, 16, 13, 17, 18, 19, 20, 21, 22, 24, 25, 26, 23, 27, 28, 29, 30] ?_
 iterate 8 refine pP rfl rfl (by kernel_rfl) (fun _ _ _ h => h) (by rfl) (by intro w'; go_simp; with_reducible rfl) (by simp only [Act.put, z1, z2, z3, i64_w, i32_w]; rfl) ?_
 iterate 2 refine pT hHeld rfl rfl (by kernel_rfl) (fun _ _ _ h => h) (by rfl) (by rintro w' ⟨s0, s1, s2, s3, s4, s5, s6, s7, s8⟩; go_simp; with_reducible rfl) (by simp only [Act.put, z1, z2, z3, i64_w, i32_w]; rfl) ?_
 iterate 8 refine pP rfl rfl (by kernel_rfl) (fun _ _ _ h => h) (by rfl) (by intro w'; go_simp; with_reducible rfl) (by simp only [Act.put, z1, z2, z3, i64_w, i32_w]; rfl) ?_
 iterate 2 refine pT hHeld rfl rfl (by kernel_rfl) (fun _ _ _ h => h) (by rfl) (by rintro w' ⟨s0, s1, s2, s3, s4, s5, s6, s7, s8⟩; go_simp; with_reducible rfl) (by simp only [Act.put, z1, z2, z3, i64_w, i32_w]; rfl) ?_
 iterate 3 refine pP rfl rfl (by kernel_rfl) (fun _ _ _ h => h) (by rfl) (by intro w'; go_simp; with_reducible rfl) (by simp only [Act.put, z1, z2, z3, i64_w, i32_w]; rfl) ?_
 refine pl0 ?_
 refine done_ (by kernel_rfl) ?_
 go_wp2_with (go_at_call 86; with_reducible refine (tern_inside.calls x.f0.f0 x.f0.f1 x.f0.f2 x.f1.f0 x.f1.f1 x.f1.f2 false _ HC.out).mono ?_; rintro e w3 ⟨rfl, hb⟩; have H3 := Aside0.mk (H2.out.step hb); clear hb; (try clear b0 b1 b2 b3 b4 b5 b6 b7 l0 l1 l2); have b0 := blk_cell H3.out.bx 0; have b1 := blk_cell H3.out.bx 1; have b2 := blk_cell H3.out.bx 2; have b3 := blk_cell H3.out.bx 3; have b4 := blk_cell H3.out.bx 4; have b5 := blk_cell H3.out.bx 5; have b6 := blk_cell H3.out.bx 6; have b7 := blk_cell H3.out.bx 7; have l0 := blk_cell H3.out.bg 0; have l1 := blk_cell H3.out.bg 1; have l2 := blk_cell H3.out.bg 2; simp only [List.getElem?_toArray, List.getElem?_cons_succ, List.getElem?_cons_zero] at b0 b1 b2 b3 b4 b5 b6 b7 l0 l1 l2)
 go_ret
 exact ⟨rfl, H3.out.below⟩
set_option maxHeartbeats 400000 in
set_option maxRecDepth 100000 in
theorem may_f (w : World) (g : Nat) (v : Value) (W m : Int) (x : S59) (h : w.heap[g]? = some (.cells #[v, .int .i64 W, .int .i64 m] 147 (0, 0))) (hA : vec_May.f x.f0.f0 x.f0.f1 x.f0.f2 = some true) (hB : vec_May.f x.f1.f0 x.f1.f1 x.f1.f2 = some true) (e1 : (x.f0.f0 != W) = false) (e2 : (x.f1.f0 != W) = false) (hC : tern_inside.f x.f0.f0 x.f0.f1 x.f0.f2 x.f1.f0 x.f1.f1 x.f1.f2 = some true) (e3 : decide (x.f2 < 0) = true) :
 Calls Try.prog 97 #[.pointer (some ⟨g, 0, none⟩), .agg #[.int .i64 x.f0.f0, .int .u64 x.f0.f1, .int .u64 x.f0.f2, .int .i64 x.f1.f0, .int .u64 x.f1.f1, .int .u64 x.f1.f2, .int .i64 x.f2, .int .i64 x.f3]] w fun e w' => e = .returned (.int .i64 7) ∧ Below w.heap.size w w' := by
 have H0 := Aside0.mk (BG.start (.cells #[.int .i64 x.f0.f0, .int .u64 x.f0.f1, .int .u64 x.f0.f2, .int .i64 x.f1.f0, .int .u64 x.f1.f1, .int .u64 x.f1.f2, .int .i64 x.f2, .int .i64 x.f3] 59 (0, 0)) h)
 have HA := Aside0.mk hA
 have HB := Aside0.mk hB
 have HC := Aside0.mk hC
 clear h hA hB hC
 have b0 := blk_cell H0.out.bx 0
 have b1 := blk_cell H0.out.bx 1
 have b2 := blk_cell H0.out.bx 2
 have b3 := blk_cell H0.out.bx 3
 have b4 := blk_cell H0.out.bx 4
 have b5 := blk_cell H0.out.bx 5
 have b6 := blk_cell H0.out.bx 6
 have b7 := blk_cell H0.out.bx 7
 have l0 := blk_cell H0.out.bg 0
 have l1 := blk_cell H0.out.bg 1
 have l2 := blk_cell H0.out.bg 2
 simp only [List.getElem?_toArray, List.getElem?_cons_succ, List.getElem?_cons_zero] at b0 b1 b2 b3 b4 b5 b6 b7 l0 l1 l2
 go_enter Try.func97, Try.ntmps97
 go_wp2
 refine start_ (n := 31) (S := fun w' => w'.cell? ⟨w.heap.size, 0, none⟩ = some (.int .i64 x.f0.f0) ∧ w'.cell? ⟨w.heap.size, 1, none⟩ = some (.int .u64 x.f0.f1) ∧ w'.cell? ⟨w.heap.size, 2, none⟩ = some (.int .u64 x.f0.f2) ∧ w'.cell? ⟨w.heap.size, 3, none⟩ = some (.int .i64 x.f1.f0) ∧ w'.cell? ⟨w.heap.size, 4, none⟩ = some (.int .u64 x.f1.f1) ∧ w'.cell? ⟨w.heap.size, 5, none⟩ = some (.int .u64 x.f1.f2) ∧ w'.cell? ⟨w.heap.size, 6, none⟩ = some (.int .i64 x.f2) ∧ w'.cell? ⟨w.heap.size, 7, none⟩ = some (.int .i64 x.f3) ∧ w'.cell? ⟨g, 1, none⟩ = some (.int .i64 W)) (ds := []) #[false, false, false, false, false, false, false, false, false, false, false, false, false, false, false, false, false, false, false, false, false, false, false, false, false, false, false, false, false, false, false] (by kernel_rfl) rfl rfl ⟨b0, b1, b2, b3, b4, b5, b6, b7, l1⟩ (fun hHeld => ?_)
 refine pl_ [0, 1] ?_
 refine pP rfl rfl (by kernel_rfl) (fun _ _ _ h => h) (by rfl) (by intro w'; go_simp; with_reducible rfl) (by simp only [Act.put, z1, z2, z3, i64_w, i32_w]; rfl) ?_
 refine pT hHeld rfl rfl (by kernel_rfl) (fun _ _ _ h => h) (by rfl) (by rintro w' ⟨s0, s1, s2, s3, s4, s5, s6, s7, s8⟩; go_simp; with_reducible rfl) (by simp only [Act.put, z1, z2, z3, i64_w, i32_w]; rfl) ?_
 refine pl0 ?_
 refine one_ (i := 2) (N := some 11) #[true, true, true, false, false, false, false, false, false, false, false, false, false, false, false, false, false, false, false, false, false, false, false, false, false, false, false, false, false, false, false] rfl rfl (by kernel_rfl) (by decide) (fun K hK => ?_)
 refine goes_ Try.func73 (by kernel_rfl) rfl #[.agg #[.int .i64 x.f0.f0, .int .u64 x.f0.f1, .int .u64 x.f0.f2]] (by rfl) rfl rfl (by simp only [List.map_toArray, List.map_cons, List.map_nil]; rfl) ?_
 with_reducible refine (vec_May.calls x.f0.f0 x.f0.f1 x.f0.f2 true _ HA.out).mono ?_
 rintro e w1 ⟨rfl, hb⟩
 refine ⟨_, rfl, ?_⟩
 have H1 := Aside0.mk ((H0.out.step (below_drew1 (Below.refl _ _))).step hb)
 clear hb
 (try clear b0 b1 b2 b3 b4 b5 b6 b7 l0 l1 l2)
 have b0 := blk_cell H1.out.bx 0
 have b1 := blk_cell H1.out.bx 1
 have b2 := blk_cell H1.out.bx 2
 have b3 := blk_cell H1.out.bx 3
 have b4 := blk_cell H1.out.bx 4
 have b5 := blk_cell H1.out.bx 5
 have b6 := blk_cell H1.out.bx 6
 have b7 := blk_cell H1.out.bx 7
 have l0 := blk_cell H1.out.bg 0
 have l1 := blk_cell H1.out.bg 1
 have l2 := blk_cell H1.out.bg 2
 simp only [List.getElem?_toArray, List.getElem?_cons_succ, List.getElem?_cons_zero] at b0 b1 b2 b3 b4 b5 b6 b7 l0 l1 l2
 refine hK.out _ _ ⟨b0, b1, b2, b3, b4, b5, b6, b7, l1⟩ (fun hHeld => ?_)
 clear hK K
 refine norm_ (a' := ?_) ?_ ?_
 rotate_left
 ·show Act.put _ (some 11) _ = _
  simp only [Act.put, List.setIfInBounds_toArray, List.set_cons_zero, List.set_cons_succ, i64_w, i32_w]
  rfl
 refine pl_ [3, 4, 5, 6] ?_
 iterate 3 refine pP rfl rfl (by kernel_rfl) (fun _ _ _ h => h) (by rfl) (by intro w'; go_simp; with_reducible rfl) (by simp only [Act.put, z1, z2, z3, i64_w, i32_w]; rfl) ?_
 refine pT hHeld rfl rfl (by kernel_rfl) (fun _ _ _ h => h) (by rfl) (by rintro w' ⟨s0, s1, s2, s3, s4, s5, s6, s7, s8⟩; go_simp; with_reducible rfl) (by simp only [Act.put, z1, z2, z3, i64_w, i32_w]; rfl) ?_
 refine pl0 ?_
 refine one_ (i := 7) (N := some 16) #[true, true, true, true, true, true, true, true, false, false, false, false, false, false, false, false, false, false, false, false, false, false, false, false, false, false, false, false, false, false, false] rfl rfl (by kernel_rfl) (by decide) (fun K hK => ?_)
 refine goes_ Try.func73 (by kernel_rfl) rfl #[.agg #[.int .i64 x.f1.f0, .int .u64 x.f1.f1, .int .u64 x.f1.f2]] (by rfl) rfl rfl (by simp only [List.map_toArray, List.map_cons, List.map_nil]; rfl) ?_
 with_reducible refine (vec_May.calls x.f1.f0 x.f1.f1 x.f1.f2 true _ HB.out).mono ?_
 rintro e w2 ⟨rfl, hb⟩
 refine ⟨_, rfl, ?_⟩
 have H2 := Aside0.mk (H1.out.step hb)
 clear hb
 (try clear b0 b1 b2 b3 b4 b5 b6 b7 l0 l1 l2)
 have b0 := blk_cell H2.out.bx 0
 have b1 := blk_cell H2.out.bx 1
 have b2 := blk_cell H2.out.bx 2
 have b3 := blk_cell H2.out.bx 3
 have b4 := blk_cell H2.out.bx 4
 have b5 := blk_cell H2.out.bx 5
 have b6 := blk_cell H2.out.bx 6
 have b7 := blk_cell H2.out.bx 7
 have l0 := blk_cell H2.out.bg 0
 have l1 := blk_cell H2.out.bg 1
 have l2 := blk_cell H2.out.bg 2
 simp only [List.getElem?_toArray, List.getElem?_cons_succ, List.getElem?_cons_zero] at b0 b1 b2 b3 b4 b5 b6 b7 l0 l1 l2
 refine hK.out _ _ ⟨b0, b1, b2, b3, b4, b5, b6, b7, l1⟩ (fun hHeld => ?_)
 clear hK K
 refine norm_ (a' := ?_) ?_ ?_
 rotate_left
 ·show Act.put _ (some 16) _ = _
  simp only [Act.put, List.setIfInBounds_toArray, List.set_cons_zero, List.set_cons_succ, i64_w, i32_w]
  rfl
 refine pl_ [8, 9, 10, 11, 12, 14, 15, 16, 13, 17, 18, 19, 20, 21, 22, 24, 25, 26, 23, 27, 28, 29, 30] ?_
 iterate 8 refine pP rfl rfl (by kernel_rfl) (fun _ _ _ h => h) (by rfl) (by intro w'; go_simp; with_reducible rfl) (by simp only [Act.put, z1, z2, z3, i64_w, i32_w]; rfl) ?_
 iterate 2 refine pT hHeld rfl rfl (by kernel_rfl) (fun _ _ _ h => h) (by rfl) (by rintro w' ⟨s0, s1, s2, s3, s4, s5, s6, s7, s8⟩; go_simp; with_reducible rfl) (by simp only [Act.put, z1, z2, z3, i64_w, i32_w]; rfl) ?_
 iterate 8 refine pP rfl rfl (by kernel_rfl) (fun _ _ _ h => h) (by rfl) (by intro w'; go_simp; with_reducible rfl) (by simp only [Act.put, z1, z2, z3, i64_w, i32_w]; rfl) ?_
 iterate 2 refine pT hHeld rfl rfl (by kernel_rfl) (fun _ _ _ h => h) (by rfl) (by rintro w' ⟨s0, s1, s2, s3, s4, s5, s6, s7, s8⟩; go_simp; with_reducible rfl) (by simp only [Act.put, z1, z2, z3, i64_w, i32_w]; rfl) ?_
 iterate 3 refine pP rfl rfl (by kernel_rfl) (fun _ _ _ h => h) (by rfl) (by intro w'; go_simp; with_reducible rfl) (by simp only [Act.put, z1, z2, z3, i64_w, i32_w]; rfl) ?_
 refine pl0 ?_
 refine done_ (by kernel_rfl) ?_
 go_wp2_with (go_at_call 86; with_reducible refine (tern_inside.calls x.f0.f0 x.f0.f1 x.f0.f2 x.f1.f0 x.f1.f1 x.f1.f2 true _ HC.out).mono ?_; rintro e w3 ⟨rfl, hb⟩; have H3 := Aside0.mk (H2.out.step hb); clear hb; (try clear b0 b1 b2 b3 b4 b5 b6 b7 l0 l1 l2); have b0 := blk_cell H3.out.bx 0; have b1 := blk_cell H3.out.bx 1; have b2 := blk_cell H3.out.bx 2; have b3 := blk_cell H3.out.bx 3; have b4 := blk_cell H3.out.bx 4; have b5 := blk_cell H3.out.bx 5; have b6 := blk_cell H3.out.bx 6; have b7 := blk_cell H3.out.bx 7; have l0 := blk_cell H3.out.bg 0; have l1 := blk_cell H3.out.bg 1; have l2 := blk_cell H3.out.bg 2; simp only [List.getElem?_toArray, List.getElem?_cons_succ, List.getElem?_cons_zero] at b0 b1 b2 b3 b4 b5 b6 b7 l0 l1 l2)
 go_ret
 exact ⟨rfl, H3.out.below⟩
set_option maxHeartbeats 400000 in
set_option maxRecDepth 100000 in
theorem may_g (w : World) (g : Nat) (v : Value) (W m : Int) (x : S59) (h : w.heap[g]? = some (.cells #[v, .int .i64 W, .int .i64 m] 147 (0, 0))) (hA : vec_May.f x.f0.f0 x.f0.f1 x.f0.f2 = some true) (hB : vec_May.f x.f1.f0 x.f1.f1 x.f1.f2 = some true) (e1 : (x.f0.f0 != W) = false) (e2 : (x.f1.f0 != W) = false) (hC : tern_inside.f x.f0.f0 x.f0.f1 x.f0.f2 x.f1.f0 x.f1.f1 x.f1.f2 = some true) (e3 : decide (x.f2 < 0) = false) (e4 : decide (65535 < x.f2) = true) :
 Calls Try.prog 97 #[.pointer (some ⟨g, 0, none⟩), .agg #[.int .i64 x.f0.f0, .int .u64 x.f0.f1, .int .u64 x.f0.f2, .int .i64 x.f1.f0, .int .u64 x.f1.f1, .int .u64 x.f1.f2, .int .i64 x.f2, .int .i64 x.f3]] w fun e w' => e = .returned (.int .i64 7) ∧ Below w.heap.size w w' := by
 have H0 := Aside0.mk (BG.start (.cells #[.int .i64 x.f0.f0, .int .u64 x.f0.f1, .int .u64 x.f0.f2, .int .i64 x.f1.f0, .int .u64 x.f1.f1, .int .u64 x.f1.f2, .int .i64 x.f2, .int .i64 x.f3] 59 (0, 0)) h)
 have HA := Aside0.mk hA
 have HB := Aside0.mk hB
 have HC := Aside0.mk hC
 clear h hA hB hC
 have b0 := blk_cell H0.out.bx 0
 have b1 := blk_cell H0.out.bx 1
 have b2 := blk_cell H0.out.bx 2
 have b3 := blk_cell H0.out.bx 3
 have b4 := blk_cell H0.out.bx 4
 have b5 := blk_cell H0.out.bx 5
 have b6 := blk_cell H0.out.bx 6
 have b7 := blk_cell H0.out.bx 7
 have l0 := blk_cell H0.out.bg 0
 have l1 := blk_cell H0.out.bg 1
 have l2 := blk_cell H0.out.bg 2
 simp only [List.getElem?_toArray, List.getElem?_cons_succ, List.getElem?_cons_zero] at b0 b1 b2 b3 b4 b5 b6 b7 l0 l1 l2
 go_enter Try.func97, Try.ntmps97
 go_wp2
 refine start_ (n := 31) (S := fun w' => w'.cell? ⟨w.heap.size, 0, none⟩ = some (.int .i64 x.f0.f0) ∧ w'.cell? ⟨w.heap.size, 1, none⟩ = some (.int .u64 x.f0.f1) ∧ w'.cell? ⟨w.heap.size, 2, none⟩ = some (.int .u64 x.f0.f2) ∧ w'.cell? ⟨w.heap.size, 3, none⟩ = some (.int .i64 x.f1.f0) ∧ w'.cell? ⟨w.heap.size, 4, none⟩ = some (.int .u64 x.f1.f1) ∧ w'.cell? ⟨w.heap.size, 5, none⟩ = some (.int .u64 x.f1.f2) ∧ w'.cell? ⟨w.heap.size, 6, none⟩ = some (.int .i64 x.f2) ∧ w'.cell? ⟨w.heap.size, 7, none⟩ = some (.int .i64 x.f3) ∧ w'.cell? ⟨g, 1, none⟩ = some (.int .i64 W)) (ds := []) #[false, false, false, false, false, false, false, false, false, false, false, false, false, false, false, false, false, false, false, false, false, false, false, false, false, false, false, false, false, false, false] (by kernel_rfl) rfl rfl ⟨b0, b1, b2, b3, b4, b5, b6, b7, l1⟩ (fun hHeld => ?_)
 refine pl_ [0, 1] ?_
 refine pP rfl rfl (by kernel_rfl) (fun _ _ _ h => h) (by rfl) (by intro w'; go_simp; with_reducible rfl) (by simp only [Act.put, z1, z2, z3, i64_w, i32_w]; rfl) ?_
 refine pT hHeld rfl rfl (by kernel_rfl) (fun _ _ _ h => h) (by rfl) (by rintro w' ⟨s0, s1, s2, s3, s4, s5, s6, s7, s8⟩; go_simp; with_reducible rfl) (by simp only [Act.put, z1, z2, z3, i64_w, i32_w]; rfl) ?_
 refine pl0 ?_
 refine one_ (i := 2) (N := some 11) #[true, true, true, false, false, false, false, false, false, false, false, false, false, false, false, false, false, false, false, false, false, false, false, false, false, false, false, false, false, false, false] rfl rfl (by kernel_rfl) (by decide) (fun K hK => ?_)
 refine goes_ Try.func73 (by kernel_rfl) rfl #[.agg #[.int .i64 x.f0.f0, .int .u64 x.f0.f1, .int .u64 x.f0.f2]] (by rfl) rfl rfl (by simp only [List.map_toArray, List.map_cons, List.map_nil]; rfl) ?_
 with_reducible refine (vec_May.calls x.f0.f0 x.f0.f1 x.f0.f2 true _ HA.out).mono ?_
 rintro e w1 ⟨rfl, hb⟩
 refine ⟨_, rfl, ?_⟩
 have H1 := Aside0.mk ((H0.out.step (below_drew1 (Below.refl _ _))).step hb)
 clear hb
 (try clear b0 b1 b2 b3 b4 b5 b6 b7 l0 l1 l2)
 have b0 := blk_cell H1.out.bx 0
 have b1 := blk_cell H1.out.bx 1
 have b2 := blk_cell H1.out.bx 2
 have b3 := blk_cell H1.out.bx 3
 have b4 := blk_cell H1.out.bx 4
 have b5 := blk_cell H1.out.bx 5
 have b6 := blk_cell H1.out.bx 6
 have b7 := blk_cell H1.out.bx 7
 have l0 := blk_cell H1.out.bg 0
 have l1 := blk_cell H1.out.bg 1
 have l2 := blk_cell H1.out.bg 2
 simp only [List.getElem?_toArray, List.getElem?_cons_succ, List.getElem?_cons_zero] at b0 b1 b2 b3 b4 b5 b6 b7 l0 l1 l2
 refine hK.out _ _ ⟨b0, b1, b2, b3, b4, b5, b6, b7, l1⟩ (fun hHeld => ?_)
 clear hK K
 refine norm_ (a' := ?_) ?_ ?_
 rotate_left
 ·show Act.put _ (some 11) _ = _
  simp only [Act.put, List.setIfInBounds_toArray, List.set_cons_zero, List.set_cons_succ, i64_w, i32_w]
  rfl
 refine pl_ [3, 4, 5, 6] ?_
 iterate 3 refine pP rfl rfl (by kernel_rfl) (fun _ _ _ h => h) (by rfl) (by intro w'; go_simp; with_reducible rfl) (by simp only [Act.put, z1, z2, z3, i64_w, i32_w]; rfl) ?_
 refine pT hHeld rfl rfl (by kernel_rfl) (fun _ _ _ h => h) (by rfl) (by rintro w' ⟨s0, s1, s2, s3, s4, s5, s6, s7, s8⟩; go_simp; with_reducible rfl) (by simp only [Act.put, z1, z2, z3, i64_w, i32_w]; rfl) ?_
 refine pl0 ?_
 refine one_ (i := 7) (N := some 16) #[true, true, true, true, true, true, true, true, false, false, false, false, false, false, false, false, false, false, false, false, false, false, false, false, false, false, false, false, false, false, false] rfl rfl (by kernel_rfl) (by decide) (fun K hK => ?_)
 refine goes_ Try.func73 (by kernel_rfl) rfl #[.agg #[.int .i64 x.f1.f0, .int .u64 x.f1.f1, .int .u64 x.f1.f2]] (by rfl) rfl rfl (by simp only [List.map_toArray, List.map_cons, List.map_nil]; rfl) ?_
 with_reducible refine (vec_May.calls x.f1.f0 x.f1.f1 x.f1.f2 true _ HB.out).mono ?_
 rintro e w2 ⟨rfl, hb⟩
 refine ⟨_, rfl, ?_⟩
 have H2 := Aside0.mk (H1.out.step hb)
 clear hb
 (try clear b0 b1 b2 b3 b4 b5 b6 b7 l0 l1 l2)
 have b0 := blk_cell H2.out.bx 0
 have b1 := blk_cell H2.out.bx 1
 have b2 := blk_cell H2.out.bx 2
 have b3 := blk_cell H2.out.bx 3
 have b4 := blk_cell H2.out.bx 4
 have b5 := blk_cell H2.out.bx 5
 have b6 := blk_cell H2.out.bx 6
 have b7 := blk_cell H2.out.bx 7
 have l0 := blk_cell H2.out.bg 0
 have l1 := blk_cell H2.out.bg 1
 have l2 := blk_cell H2.out.bg 2
 simp only [List.getElem?_toArray, List.getElem?_cons_succ, List.getElem?_cons_zero] at b0 b1 b2 b3 b4 b5 b6 b7 l0 l1 l2
 refine hK.out _ _ ⟨b0, b1, b2, b3, b4, b5, b6, b7, l1⟩ (fun hHeld => ?_)
 clear hK K
 refine norm_ (a' := ?_) ?_ ?_
 rotate_left
 ·show Act.put _ (some 16) _ = _
  simp only [Act.put, List.setIfInBounds_toArray, List.set_cons_zero, List.set_cons_succ, i64_w, i32_w]
  rfl
 refine pl_ [8, 9, 10, 11, 12, 14, 15, 16, 13, 17, 18, 19, 20, 21, 22, 24, 25, 26, 23, 27, 28, 29, 30] ?_
 iterate 8 refine pP rfl rfl (by kernel_rfl) (fun _ _ _ h => h) (by rfl) (by intro w'; go_simp; with_reducible rfl) (by simp only [Act.put, z1, z2, z3, i64_w, i32_w]; rfl) ?_
 iterate 2 refine pT hHeld rfl rfl (by kernel_rfl) (fun _ _ _ h => h) (by rfl) (by rintro w' ⟨s0, s1, s2, s3, s4, s5, s6, s7, s8⟩; go_simp; with_reducible rfl) (by simp only [Act.put, z1, z2, z3, i64_w, i32_w]; rfl) ?_
 iterate 8 refine pP rfl rfl (by kernel_rfl) (fun _ _ _ h => h) (by rfl) (by intro w'; go_simp; with_reducible rfl) (by simp only [Act.put, z1, z2, z3, i64_w, i32_w]; rfl) ?_
 iterate 2 refine pT hHeld rfl rfl (by kernel_rfl) (fun _ _ _ h => h) (by rfl) (by rintro w' ⟨s0, s1, s2, s3, s4, s5, s6, s7, s8⟩; go_simp; with_reducible rfl) (by simp only [Act.put, z1, z2, z3, i64_w, i32_w]; rfl) ?_
 iterate 3 refine pP rfl rfl (by kernel_rfl) (fun _ _ _ h => h) (by rfl) (by intro w'; go_simp; with_reducible rfl) (by simp only [Act.put, z1, z2, z3, i64_w, i32_w]; rfl) ?_
 refine pl0 ?_
 refine done_ (by kernel_rfl) ?_
 go_wp2_with (go_at_call 86; with_reducible refine (tern_inside.calls x.f0.f0 x.f0.f1 x.f0.f2 x.f1.f0 x.f1.f1 x.f1.f2 true _ HC.out).mono ?_; rintro e w3 ⟨rfl, hb⟩; have H3 := Aside0.mk (H2.out.step hb); clear hb; (try clear b0 b1 b2 b3 b4 b5 b6 b7 l0 l1 l2); have b0 := blk_cell H3.out.bx 0; have b1 := blk_cell H3.out.bx 1; have b2 := blk_cell H3.out.bx 2; have b3 := blk_cell H3.out.bx 3; have b4 := blk_cell H3.out.bx 4; have b5 := blk_cell H3.out.bx 5; have b6 := blk_cell H3.out.bx 6; have b7 := blk_cell H3.out.bx 7; have l0 := blk_cell H3.out.bg 0; have l1 := blk_cell H3.out.bg 1; have l2 := blk_cell H3.out.bg 2; simp only [List.getElem?_toArray, List.getElem?_cons_succ, List.getElem?_cons_zero] at b0 b1 b2 b3 b4 b5 b6 b7 l0 l1 l2)
 go_ret
 exact ⟨rfl, H3.out.below⟩
set_option maxHeartbeats 400000 in
set_option maxRecDepth 100000 in
theorem may_h (w : World) (g : Nat) (v : Value) (W m : Int) (x : S59) (h : w.heap[g]? = some (.cells #[v, .int .i64 W, .int .i64 m] 147 (0, 0))) (hA : vec_May.f x.f0.f0 x.f0.f1 x.f0.f2 = some true) (hB : vec_May.f x.f1.f0 x.f1.f1 x.f1.f2 = some true) (e1 : (x.f0.f0 != W) = false) (e2 : (x.f1.f0 != W) = false) (hC : tern_inside.f x.f0.f0 x.f0.f1 x.f0.f2 x.f1.f0 x.f1.f1 x.f1.f2 = some true) (e3 : decide (x.f2 < 0) = false) (e4 : decide (65535 < x.f2) = false) :
 Calls Try.prog 97 #[.pointer (some ⟨g, 0, none⟩), .agg #[.int .i64 x.f0.f0, .int .u64 x.f0.f1, .int .u64 x.f0.f2, .int .i64 x.f1.f0, .int .u64 x.f1.f1, .int .u64 x.f1.f2, .int .i64 x.f2, .int .i64 x.f3]] w fun e w' => e = .returned (.int .i64 0) ∧ Below w.heap.size w w' := by
 have H0 := Aside0.mk (BG.start (.cells #[.int .i64 x.f0.f0, .int .u64 x.f0.f1, .int .u64 x.f0.f2, .int .i64 x.f1.f0, .int .u64 x.f1.f1, .int .u64 x.f1.f2, .int .i64 x.f2, .int .i64 x.f3] 59 (0, 0)) h)
 have HA := Aside0.mk hA
 have HB := Aside0.mk hB
 have HC := Aside0.mk hC
 clear h hA hB hC
 have b0 := blk_cell H0.out.bx 0
 have b1 := blk_cell H0.out.bx 1
 have b2 := blk_cell H0.out.bx 2
 have b3 := blk_cell H0.out.bx 3
 have b4 := blk_cell H0.out.bx 4
 have b5 := blk_cell H0.out.bx 5
 have b6 := blk_cell H0.out.bx 6
 have b7 := blk_cell H0.out.bx 7
 have l0 := blk_cell H0.out.bg 0
 have l1 := blk_cell H0.out.bg 1
 have l2 := blk_cell H0.out.bg 2
 simp only [List.getElem?_toArray, List.getElem?_cons_succ, List.getElem?_cons_zero] at b0 b1 b2 b3 b4 b5 b6 b7 l0 l1 l2
 go_enter Try.func97, Try.ntmps97
 go_wp2
 refine start_ (n := 31) (S := fun w' => w'.cell? ⟨w.heap.size, 0, none⟩ = some (.int .i64 x.f0.f0) ∧ w'.cell? ⟨w.heap.size, 1, none⟩ = some (.int .u64 x.f0.f1) ∧ w'.cell? ⟨w.heap.size, 2, none⟩ = some (.int .u64 x.f0.f2) ∧ w'.cell? ⟨w.heap.size, 3, none⟩ = some (.int .i64 x.f1.f0) ∧ w'.cell? ⟨w.heap.size, 4, none⟩ = some (.int .u64 x.f1.f1) ∧ w'.cell? ⟨w.heap.size, 5, none⟩ = some (.int .u64 x.f1.f2) ∧ w'.cell? ⟨w.heap.size, 6, none⟩ = some (.int .i64 x.f2) ∧ w'.cell? ⟨w.heap.size, 7, none⟩ = some (.int .i64 x.f3) ∧ w'.cell? ⟨g, 1, none⟩ = some (.int .i64 W)) (ds := []) #[false, false, false, false, false, false, false, false, false, false, false, false, false, false, false, false, false, false, false, false, false, false, false, false, false, false, false, false, false, false, false] (by kernel_rfl) rfl rfl ⟨b0, b1, b2, b3, b4, b5, b6, b7, l1⟩ (fun hHeld => ?_)
 refine pl_ [0, 1] ?_
 refine pP rfl rfl (by kernel_rfl) (fun _ _ _ h => h) (by rfl) (by intro w'; go_simp; with_reducible rfl) (by simp only [Act.put, z1, z2, z3, i64_w, i32_w]; rfl) ?_
 refine pT hHeld rfl rfl (by kernel_rfl) (fun _ _ _ h => h) (by rfl) (by rintro w' ⟨s0, s1, s2, s3, s4, s5, s6, s7, s8⟩; go_simp; with_reducible rfl) (by simp only [Act.put, z1, z2, z3, i64_w, i32_w]; rfl) ?_
 refine pl0 ?_
 refine one_ (i := 2) (N := some 11) #[true, true, true, false, false, false, false, false, false, false, false, false, false, false, false, false, false, false, false, false, false, false, false, false, false, false, false, false, false, false, false] rfl rfl (by kernel_rfl) (by decide) (fun K hK => ?_)
 refine goes_ Try.func73 (by kernel_rfl) rfl #[.agg #[.int .i64 x.f0.f0, .int .u64 x.f0.f1, .int .u64 x.f0.f2]] (by rfl) rfl rfl (by simp only [List.map_toArray, List.map_cons, List.map_nil]; rfl) ?_
 with_reducible refine (vec_May.calls x.f0.f0 x.f0.f1 x.f0.f2 true _ HA.out).mono ?_
 rintro e w1 ⟨rfl, hb⟩
 refine ⟨_, rfl, ?_⟩
 have H1 := Aside0.mk ((H0.out.step (below_drew1 (Below.refl _ _))).step hb)
 clear hb
 (try clear b0 b1 b2 b3 b4 b5 b6 b7 l0 l1 l2)
 have b0 := blk_cell H1.out.bx 0
 have b1 := blk_cell H1.out.bx 1
 have b2 := blk_cell H1.out.bx 2
 have b3 := blk_cell H1.out.bx 3
 have b4 := blk_cell H1.out.bx 4
 have b5 := blk_cell H1.out.bx 5
 have b6 := blk_cell H1.out.bx 6
 have b7 := blk_cell H1.out.bx 7
 have l0 := blk_cell H1.out.bg 0
 have l1 := blk_cell H1.out.bg 1
 have l2 := blk_cell H1.out.bg 2
 simp only [List.getElem?_toArray, List.getElem?_cons_succ, List.getElem?_cons_zero] at b0 b1 b2 b3 b4 b5 b6 b7 l0 l1 l2
 refine hK.out _ _ ⟨b0, b1, b2, b3, b4, b5, b6, b7, l1⟩ (fun hHeld => ?_)
 clear hK K
 refine norm_ (a' := ?_) ?_ ?_
 rotate_left
 ·show Act.put _ (some 11) _ = _
  simp only [Act.put, List.setIfInBounds_toArray, List.set_cons_zero, List.set_cons_succ, i64_w, i32_w]
  rfl
 refine pl_ [3, 4, 5, 6] ?_
 iterate 3 refine pP rfl rfl (by kernel_rfl) (fun _ _ _ h => h) (by rfl) (by intro w'; go_simp; with_reducible rfl) (by simp only [Act.put, z1, z2, z3, i64_w, i32_w]; rfl) ?_
 refine pT hHeld rfl rfl (by kernel_rfl) (fun _ _ _ h => h) (by rfl) (by rintro w' ⟨s0, s1, s2, s3, s4, s5, s6, s7, s8⟩; go_simp; with_reducible rfl) (by simp only [Act.put, z1, z2, z3, i64_w, i32_w]; rfl) ?_
 refine pl0 ?_
 refine one_ (i := 7) (N := some 16) #[true, true, true, true, true, true, true, true, false, false, false, false, false, false, false, false, false, false, false, false, false, false, false, false, false, false, false, false, false, false, false] rfl rfl (by kernel_rfl) (by decide) (fun K hK => ?_)
 refine goes_ Try.func73 (by kernel_rfl) rfl #[.agg #[.int .i64 x.f1.f0, .int .u64 x.f1.f1, .int .u64 x.f1.f2]] (by rfl) rfl rfl (by simp only [List.map_toArray, List.map_cons, List.map_nil]; rfl) ?_
 with_reducible refine (vec_May.calls x.f1.f0 x.f1.f1 x.f1.f2 true _ HB.out).mono ?_
 rintro e w2 ⟨rfl, hb⟩
 refine ⟨_, rfl, ?_⟩
 have H2 := Aside0.mk (H1.out.step hb)
 clear hb
 (try clear b0 b1 b2 b3 b4 b5 b6 b7 l0 l1 l2)
 have b0 := blk_cell H2.out.bx 0
 have b1 := blk_cell H2.out.bx 1
 have b2 := blk_cell H2.out.bx 2
 have b3 := blk_cell H2.out.bx 3
 have b4 := blk_cell H2.out.bx 4
 have b5 := blk_cell H2.out.bx 5
 have b6 := blk_cell H2.out.bx 6
 have b7 := blk_cell H2.out.bx 7
 have l0 := blk_cell H2.out.bg 0
 have l1 := blk_cell H2.out.bg 1
 have l2 := blk_cell H2.out.bg 2
 simp only [List.getElem?_toArray, List.getElem?_cons_succ, List.getElem?_cons_zero] at b0 b1 b2 b3 b4 b5 b6 b7 l0 l1 l2
 refine hK.out _ _ ⟨b0, b1, b2, b3, b4, b5, b6, b7, l1⟩ (fun hHeld => ?_)
 clear hK K
 refine norm_ (a' := ?_) ?_ ?_
 rotate_left
 ·show Act.put _ (some 16) _ = _
  simp only [Act.put, List.setIfInBounds_toArray, List.set_cons_zero, List.set_cons_succ, i64_w, i32_w]
  rfl
 refine pl_ [8, 9, 10, 11, 12, 14, 15, 16, 13, 17, 18, 19, 20, 21, 22, 24, 25, 26, 23, 27, 28, 29, 30] ?_
 iterate 8 refine pP rfl rfl (by kernel_rfl) (fun _ _ _ h => h) (by rfl) (by intro w'; go_simp; with_reducible rfl) (by simp only [Act.put, z1, z2, z3, i64_w, i32_w]; rfl) ?_
 iterate 2 refine pT hHeld rfl rfl (by kernel_rfl) (fun _ _ _ h => h) (by rfl) (by rintro w' ⟨s0, s1, s2, s3, s4, s5, s6, s7, s8⟩; go_simp; with_reducible rfl) (by simp only [Act.put, z1, z2, z3, i64_w, i32_w]; rfl) ?_
 iterate 8 refine pP rfl rfl (by kernel_rfl) (fun _ _ _ h => h) (by rfl) (by intro w'; go_simp; with_reducible rfl) (by simp only [Act.put, z1, z2, z3, i64_w, i32_w]; rfl) ?_
 iterate 2 refine pT hHeld rfl rfl (by kernel_rfl) (fun _ _ _ h => h) (by rfl) (by rintro w' ⟨s0, s1, s2, s3, s4, s5, s6, s7, s8⟩; go_simp; with_reducible rfl) (by simp only [Act.put, z1, z2, z3, i64_w, i32_w]; rfl) ?_
 iterate 3 refine pP rfl rfl (by kernel_rfl) (fun _ _ _ h => h) (by rfl) (by intro w'; go_simp; with_reducible rfl) (by simp only [Act.put, z1, z2, z3, i64_w, i32_w]; rfl) ?_
 refine pl0 ?_
 refine done_ (by kernel_rfl) ?_
 go_wp2_with (go_at_call 86; with_reducible refine (tern_inside.calls x.f0.f0 x.f0.f1 x.f0.f2 x.f1.f0 x.f1.f1 x.f1.f2 true _ HC.out).mono ?_; rintro e w3 ⟨rfl, hb⟩; have H3 := Aside0.mk (H2.out.step hb); clear hb; (try clear b0 b1 b2 b3 b4 b5 b6 b7 l0 l1 l2); have b0 := blk_cell H3.out.bx 0; have b1 := blk_cell H3.out.bx 1; have b2 := blk_cell H3.out.bx 2; have b3 := blk_cell H3.out.bx 3; have b4 := blk_cell H3.out.bx 4; have b5 := blk_cell H3.out.bx 5; have b6 := blk_cell H3.out.bx 6; have b7 := blk_cell H3.out.bx 7; have l0 := blk_cell H3.out.bg 0; have l1 := blk_cell H3.out.bg 1; have l2 := blk_cell H3.out.bg 2; simp only [List.getElem?_toArray, List.getElem?_cons_succ, List.getElem?_cons_zero] at b0 b1 b2 b3 b4 b5 b6 b7 l0 l1 l2)
 go_ret
 exact ⟨rfl, H3.out.below⟩
theorem may_calls (w0 w : World) (g : Nat) (v : Value) (xs : List S59) (W m : Int) (x : S59) (c : Int) (h : TK w0 w g v xs W m) (hm : mayT W x = some c) :
 Calls Try.prog 97 #[.pointer (some ⟨g, 0, none⟩), .agg #[.int .i64 x.f0.f0, .int .u64 x.f0.f1, .int .u64 x.f0.f2, .int .i64 x.f1.f0, .int .u64 x.f1.f1, .int .u64 x.f1.f2, .int .i64 x.f2, .int .i64 x.f3]] w fun e w' => e = .returned (.int .i64 c) ∧ Below w.heap.size w w' := by
 unfold mayT at hm
 obtain ⟨a, hA, hm⟩ := Option.bind_eq_some_iff.mp hm
 cases a with
 | false =>
  rw [if_neg (by simp)] at hm
  cases hm
  exact may_a w g v W m x h.blk hA
 | true =>
  rw [if_pos rfl] at hm
  obtain ⟨b, hB, hm⟩ := Option.bind_eq_some_iff.mp hm
  cases b with
  | false =>
   rw [if_neg (by simp)] at hm
   cases hm
   exact may_b w g v W m x h.blk hA hB
  | true =>
   rw [if_pos rfl] at hm
   by_cases e1 : x.f0.f0 = W
   ·rw [if_pos e1] at hm
    by_cases e2 : x.f1.f0 = W
    ·rw [if_pos e2] at hm
     obtain ⟨q, hC, hm⟩ := Option.bind_eq_some_iff.mp hm
     cases q with
     | false =>
      rw [if_neg (by simp)] at hm
      cases hm
      exact may_e w g v W m x h.blk hA hB (by simp [e1]) (by simp [e2]) hC
     | true =>
      rw [if_pos rfl] at hm
      by_cases e3 : x.f2 < 0
      ·rw [if_pos e3] at hm
       cases hm
       exact may_f w g v W m x h.blk hA hB (by simp [e1]) (by simp [e2]) hC (by simp [e3])
      ·rw [if_neg e3] at hm
       by_cases e4 : 65535 < x.f2
       ·rw [if_pos e4] at hm
        cases hm
        exact may_g w g v W m x h.blk hA hB (by simp [e1]) (by simp [e2]) hC (by simpa using e3) (by simp [e4])
       ·rw [if_neg e4] at hm
        cases hm
        exact may_h w g v W m x h.blk hA hB (by simp [e1]) (by simp [e2]) hC (by simpa using e3) (by simpa using e4)
    ·rw [if_neg e2] at hm
     cases hm
     exact may_d w g v W m x h.blk hA hB (by simp [e1]) (by simpa using e2)
   ·rw [if_neg e1] at hm
    cases hm
    exact may_c w g v W m x h.blk hA hB (by simpa using e1)
set_option maxHeartbeats 400000 in
set_option maxRecDepth 100000 in
theorem New_ok (W m : Int) (w : World) (h1 : 1 ≤ W) (h2 : W ≤ 128) (h3 : 1 ≤ m) (h4 : m ≤ 256) :
 Calls Try.prog 39 #[.int .i64 W, .int .i64 m] w fun e w' => e = .returned (.pointer (some ⟨w.heap.size, 0, none⟩)) ∧ w' = w.alloc (.cells #[.slice none 0 0, .int .i64 W, .int .i64 m] 147 (0, 0)) := by
 have e1 : decide (W < 1) = false := by simp; omega
 have e2 : decide (128 < W) = false := by simp; omega
 have e3 : decide (m < 1) = false := by simp; omega
 have e4 : decide (256 < m) = false := by simp; omega
 go_enter Try.func39, Try.ntmps39
 go_wp2
 go_ret
 exact ⟨rfl, rfl⟩
set_option maxHeartbeats 400000 in
set_option maxRecDepth 100000 in
theorem Len_nil (w : World) : Calls Try.prog 43 #[.pointer none] w fun e w' => e = .returned (.int .i64 0) ∧ w' = w := by
 go_enter Try.func43, Try.ntmps43
 go_wp2
 go_ret
 exact ⟨rfl, rfl⟩
end Go.Proofs.Ytfdbcnbakchcgaa.XT
