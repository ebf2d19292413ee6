import Derived.Test.YtfdbcnbakchcgaaSr
import Derived.Test.YtfdbcnbakchcgaaRc
namespace Go.Proofs.Ytfdbcnbakchcgaa.XR
open Go.RowKit Go.Proofs.YtfdbcnbakchcgaaW.PrintWords Go.Proofs.YtfdbcnbakchcgaaW.PrintLast Go.Proofs.YtfdbcnbakchcgaaW.PrintMore
attribute [local go_sem] max2_int min2_int max_two min_two max_three min_three max_four min_four   -- for this text's walks alone
set_option linter.unusedVariables false
set_option linter.unusedSimpArgs false
attribute [local go_sem high] eqA32
set_option maxHeartbeats 1000000 in
set_option maxRecDepth 100000 in
theorem tmay_nil (a b c n : Int) (w : World) : Calls Try.prog 82 #[.pointer none, .agg #[.int .i64 a, .int .u64 b, .int .u64 c], .int .i64 n] w fun e w' => e = .returned (.int .i64 1) ∧ Below w.heap.size w w' := by
 go_enter Try.func82, Try.ntmps82
 go_wp2
 go_ret
 exact ⟨rfl, below_alloc (Below.refl _ _) _⟩
set_option maxHeartbeats 1000000 in
set_option maxRecDepth 100000 in
theorem tmay_a (w0 w : World) (g : Nat) (M : NM) (W X : Nat) (k0 m N n : Int) (h : KT w0 w g M (W : Int) m N) (hX : X < 2 ^ 128) (hm : vmay k0 X = false) :
 Calls Try.prog 82 #[.pointer (some ⟨g, 0, none⟩), .agg #[.int .i64 k0, .int .u64 (hiW X), .int .u64 (loW X)], .int .i64 n] w fun e w' => e = .returned (.int .i64 9) ∧ Below w.heap.size w w' := by
 have HK1 := Aside0.mk (h.step (below_alloc (Below.refl _ _) (.cells #[.int .i64 k0, .int .u64 (hiW X), .int .u64 (loW X)] 32 (0, 0))))
 have HX1 := Aside0.mk (blk_new w (.cells #[.int .i64 k0, .int .u64 (hiW X), .int .u64 (loW X)] 32 (0, 0)))
 have HW1 := Aside0.mk (below_alloc (Below.refl w.heap.size w) (.cells #[.int .i64 k0, .int .u64 (hiW X), .int .u64 (loW X)] 32 (0, 0)))
 have HMAY := Aside0.mk (show vec_May.f k0 (hiW X) (loW X) = some false from by rw [vec_May_eq k0 X hX, hm])
 clear h hX hm
 go_enter Try.func82, Try.ntmps82
 go_wp2
 generalize w.alloc (.cells #[.int .i64 k0, .int .u64 (hiW X), .int .u64 (loW X)] 32 (0, 0)) = wq at HK1 HX1 HW1 ⊢
 refine start_ (n := 13) (S := fun w' => Below wq.heap.size wq w') (ds := []) #[false, false, false, false, false, false, false, false, false, false, false, false, false] (by kernel_rfl) rfl rfl (below_drew1 (Below.refl _ _)) (fun hHeld => ?_)
 generalize World.drew _ = w2 at hHeld ⊢
 refine take_ (i := 0) (N := some 15) (v := ?_) (a' := ?_) #[true, false, false, false, false, false, false, false, false, false, false, false, false] rfl rfl (by kernel_rfl) (fun _ _ _ h => h) (Or.inl ⟨by rfl, ?_⟩) hHeld ?_ ?_
 rotate_left
 ·intro w' hs
  have m0 := blk_cell (blk_below HX1.out hs) 0
  have m1 := blk_cell (blk_below HX1.out hs) 1
  have m2 := blk_cell (blk_below HX1.out hs) 2
  simp only [List.getElem?_toArray, List.getElem?_cons_succ, List.getElem?_cons_zero] at m0 m1 m2
  go_simp
  with_reducible rfl
 rotate_left
 ·simp only [Act.put, List.setIfInBounds_toArray, List.set_cons_zero, List.set_cons_succ, i64_w, i32_w]
  rfl
 have HH := Aside0.mk hHeld
 clear hHeld
 refine one_ (i := 1) (N := some 16) #[true, true, false, false, false, false, false, false, false, false, false, false, false] rfl rfl (by kernel_rfl) (by decide) (fun K hK => ?_)
 refine goes_ Try.func73 (by kernel_rfl) rfl #[.agg #[.int .i64 k0, .int .u64 (hiW X), .int .u64 (loW X)]] (by rfl) rfl rfl (by simp only [List.map_toArray, List.map_cons, List.map_nil]; rfl) ?_
 with_reducible refine (vec_May.calls k0 (hiW X) (loW X) false _ HMAY.out).mono ?_
 rintro e_ w1 ⟨rfl, hb⟩
 refine ⟨_, rfl, ?_⟩
 have HB8 := Aside0.mk (below_step HH.out hb)
 clear hb HH
 refine hK.out _ _ HB8.out (fun hHeld => ?_)
 clear hK K
 refine norm_ (a' := ?_) ?_ ?_
 rotate_left
 ·show Act.put _ (some 16) _ = _
  simp only [Act.put, List.setIfInBounds_toArray, List.set_cons_zero, List.set_cons_succ, i64_w, i32_w]
  rfl
 refine pl_ [2, 3, 4, 5, 6, 7, 8, 9, 10, 11, 12] ?_
 iterate 2 refine pP rfl rfl (by kernel_rfl) (fun _ _ _ h => h) (by rfl) (by intro w'; go_simp; with_reducible rfl) (by simp only [Act.put, z1, z2, z3, i64_w, i32_w]; rfl) ?_
 iterate 7 refine pU rfl rfl (by kernel_rfl) (fun _ _ _ h => h) (by rfl) (by simp only [Act.put, z1, z2, z3, i64_w, i32_w]; rfl) ?_
 iterate 2 refine pP rfl rfl (by kernel_rfl) (fun _ _ _ h => h) (by rfl) (by intro w'; go_simp; with_reducible rfl) (by simp only [Act.put, z1, z2, z3, i64_w, i32_w]; rfl) ?_
 refine pl0 ?_
 refine done_ (by kernel_rfl) ?_
 go_wp2
 go_ret
 exact ⟨rfl, below_step HW1.out HB8.out⟩
set_option maxHeartbeats 1000000 in
set_option maxRecDepth 100000 in
theorem tmay_b (w0 w : World) (g : Nat) (M : NM) (W X : Nat) (k0 m N n : Int) (h : KT w0 w g M (W : Int) m N) (hX : X < 2 ^ 128) (hm : vmay k0 X = true) (hw : (k0 != (W : Int)) = true) :
 Calls Try.prog 82 #[.pointer (some ⟨g, 0, none⟩), .agg #[.int .i64 k0, .int .u64 (hiW X), .int .u64 (loW X)], .int .i64 n] w fun e w' => e = .returned (.int .i64 9) ∧ Below w.heap.size w w' := by
 have HK1 := Aside0.mk (h.step (below_alloc (Below.refl _ _) (.cells #[.int .i64 k0, .int .u64 (hiW X), .int .u64 (loW X)] 32 (0, 0))))
 have HX1 := Aside0.mk (blk_new w (.cells #[.int .i64 k0, .int .u64 (hiW X), .int .u64 (loW X)] 32 (0, 0)))
 have HW1 := Aside0.mk (below_alloc (Below.refl w.heap.size w) (.cells #[.int .i64 k0, .int .u64 (hiW X), .int .u64 (loW X)] 32 (0, 0)))
 have HMAY := Aside0.mk (show vec_May.f k0 (hiW X) (loW X) = some true from by rw [vec_May_eq k0 X hX, hm])
 clear h hX hm
 go_enter Try.func82, Try.ntmps82
 go_wp2
 generalize w.alloc (.cells #[.int .i64 k0, .int .u64 (hiW X), .int .u64 (loW X)] 32 (0, 0)) = wq at HK1 HX1 HW1 ⊢
 refine start_ (n := 13) (S := fun w' => Below wq.heap.size wq w') (ds := []) #[false, false, false, false, false, false, false, false, false, false, false, false, false] (by kernel_rfl) rfl rfl (below_drew1 (Below.refl _ _)) (fun hHeld => ?_)
 generalize World.drew _ = w2 at hHeld ⊢
 refine take_ (i := 0) (N := some 15) (v := ?_) (a' := ?_) #[true, false, false, false, false, false, false, false, false, false, false, false, false] rfl rfl (by kernel_rfl) (fun _ _ _ h => h) (Or.inl ⟨by rfl, ?_⟩) hHeld ?_ ?_
 rotate_left
 ·intro w' hs
  have m0 := blk_cell (blk_below HX1.out hs) 0
  have m1 := blk_cell (blk_below HX1.out hs) 1
  have m2 := blk_cell (blk_below HX1.out hs) 2
  simp only [List.getElem?_toArray, List.getElem?_cons_succ, List.getElem?_cons_zero] at m0 m1 m2
  go_simp
  with_reducible rfl
 rotate_left
 ·simp only [Act.put, List.setIfInBounds_toArray, List.set_cons_zero, List.set_cons_succ, i64_w, i32_w]
  rfl
 have HH := Aside0.mk hHeld
 clear hHeld
 refine one_ (i := 1) (N := some 16) #[true, true, false, false, false, false, false, false, false, false, false, false, false] rfl rfl (by kernel_rfl) (by decide) (fun K hK => ?_)
 refine goes_ Try.func73 (by kernel_rfl) rfl #[.agg #[.int .i64 k0, .int .u64 (hiW X), .int .u64 (loW X)]] (by rfl) rfl rfl (by simp only [List.map_toArray, List.map_cons, List.map_nil]; rfl) ?_
 with_reducible refine (vec_May.calls k0 (hiW X) (loW X) true _ HMAY.out).mono ?_
 rintro e_ w1 ⟨rfl, hb⟩
 refine ⟨_, rfl, ?_⟩
 have HB8 := Aside0.mk (below_step HH.out hb)
 clear hb HH
 refine hK.out _ _ HB8.out (fun hHeld => ?_)
 clear hK K
 refine norm_ (a' := ?_) ?_ ?_
 rotate_left
 ·show Act.put _ (some 16) _ = _
  simp only [Act.put, List.setIfInBounds_toArray, List.set_cons_zero, List.set_cons_succ, i64_w, i32_w]
  rfl
 refine pl_ [2, 3, 4, 6, 7, 8] ?_
 iterate 6 refine pP rfl rfl (by kernel_rfl) (fun _ _ _ h => h) (by rfl) (by intro w'; go_simp; with_reducible rfl) (by simp only [Act.put, z1, z2, z3, i64_w, i32_w]; rfl) ?_
 refine pl0 ?_
 refine take_ (i := 5) (N := some 20) (v := ?_) (a' := ?_) #[true, true, true, true, true, true, true, true, true, false, false, false, false] rfl rfl (by kernel_rfl) (fun _ _ _ h => h) (Or.inl ⟨by rfl, ?_⟩) hHeld ?_ ?_
 rotate_left
 ·intro w' hs
  have m0 := blk_cell (blk_below HX1.out hs) 0
  simp only [List.getElem?_toArray, List.getElem?_cons_succ, List.getElem?_cons_zero] at m0
  go_simp
  with_reducible rfl
 rotate_left
 ·simp only [Act.put, List.setIfInBounds_toArray, List.set_cons_zero, List.set_cons_succ, i64_w, i32_w]
  rfl
 refine take_ (i := 9) (N := some 24) (v := ?_) (a' := ?_) #[true, true, true, true, true, true, true, true, true, true, false, false, false] rfl rfl (by kernel_rfl) (fun _ _ _ h => h) (Or.inl ⟨by rfl, ?_⟩) hHeld ?_ ?_
 rotate_left
 ·intro w' hs
  have m1 := blk_cell (HK1.out.step hs).blk 1
  simp only [List.getElem?_toArray, List.getElem?_cons_succ, List.getElem?_cons_zero] at m1
  go_simp
  with_reducible rfl
 rotate_left
 ·simp only [Act.put, List.setIfInBounds_toArray, List.set_cons_zero, List.set_cons_succ, i64_w, i32_w]
  rfl
 refine pl_ [10, 11, 12] ?_
 iterate 3 refine pP rfl rfl (by kernel_rfl) (fun _ _ _ h => h) (by rfl) (by intro w'; go_simp; with_reducible rfl) (by simp only [Act.put, z1, z2, z3, i64_w, i32_w]; rfl) ?_
 refine pl0 ?_
 refine done_ (by kernel_rfl) ?_
 go_wp2
 go_ret
 exact ⟨rfl, below_step HW1.out HB8.out⟩
set_option maxHeartbeats 1000000 in
set_option maxRecDepth 100000 in
theorem tmay_c (w0 w : World) (g : Nat) (M : NM) (W X : Nat) (m N n : Int) (h : KT w0 w g M (W : Int) m N) (hX : X < 2 ^ 128) (hm : vmay (W : Int) X = true) (r1 r2 r3 r4 : Int) (hp : vec_Prefix.f 5 (W : Int) n = some (r1, r2, r3, r4)) (hr : (r4 != 0) = true) :
 Calls Try.prog 82 #[.pointer (some ⟨g, 0, none⟩), .agg #[.int .i64 (W : Int), .int .u64 (hiW X), .int .u64 (loW X)], .int .i64 n] w fun e w' => e = .returned (.int .i64 15) ∧ Below w.heap.size w w' := by
 have HK1 := Aside0.mk (h.step (below_alloc (Below.refl _ _) (.cells #[.int .i64 (W : Int), .int .u64 (hiW X), .int .u64 (loW X)] 32 (0, 0))))
 have HX1 := Aside0.mk (blk_new w (.cells #[.int .i64 (W : Int), .int .u64 (hiW X), .int .u64 (loW X)] 32 (0, 0)))
 have HW1 := Aside0.mk (below_alloc (Below.refl w.heap.size w) (.cells #[.int .i64 (W : Int), .int .u64 (hiW X), .int .u64 (loW X)] 32 (0, 0)))
 have HMAY := Aside0.mk (show vec_May.f (W : Int) (hiW X) (loW X) = some true from by rw [vec_May_eq _ X hX, hm])
 have hw : ((W : Int) != (W : Int)) = false := by simp
 have HPF := Aside0.mk hp
 clear h hX hm hp
 go_enter Try.func82, Try.ntmps82
 go_wp2
 generalize w.alloc (.cells #[.int .i64 (W : Int), .int .u64 (hiW X), .int .u64 (loW X)] 32 (0, 0)) = wq at HK1 HX1 HW1 ⊢
 refine start_ (n := 13) (S := fun w' => Below wq.heap.size wq w') (ds := []) #[false, false, false, false, false, false, false, false, false, false, false, false, false] (by kernel_rfl) rfl rfl (below_drew1 (Below.refl _ _)) (fun hHeld => ?_)
 generalize World.drew _ = w2 at hHeld ⊢
 refine take_ (i := 0) (N := some 15) (v := ?_) (a' := ?_) #[true, false, false, false, false, false, false, false, false, false, false, false, false] rfl rfl (by kernel_rfl) (fun _ _ _ h => h) (Or.inl ⟨by rfl, ?_⟩) hHeld ?_ ?_
 rotate_left
 ·intro w' hs
  have m0 := blk_cell (blk_below HX1.out hs) 0
  have m1 := blk_cell (blk_below HX1.out hs) 1
  have m2 := blk_cell (blk_below HX1.out hs) 2
  simp only [List.getElem?_toArray, List.getElem?_cons_succ, List.getElem?_cons_zero] at m0 m1 m2
  go_simp
  with_reducible rfl
 rotate_left
 ·simp only [Act.put, List.setIfInBounds_toArray, List.set_cons_zero, List.set_cons_succ, i64_w, i32_w]
  rfl
 have HH := Aside0.mk hHeld
 clear hHeld
 refine one_ (i := 1) (N := some 16) #[true, true, false, false, false, false, false, false, false, false, false, false, false] rfl rfl (by kernel_rfl) (by decide) (fun K hK => ?_)
 refine goes_ Try.func73 (by kernel_rfl) rfl #[.agg #[.int .i64 (W : Int), .int .u64 (hiW X), .int .u64 (loW X)]] (by rfl) rfl rfl (by simp only [List.map_toArray, List.map_cons, List.map_nil]; rfl) ?_
 with_reducible refine (vec_May.calls (W : Int) (hiW X) (loW X) true _ HMAY.out).mono ?_
 rintro e_ w1 ⟨rfl, hb⟩
 refine ⟨_, rfl, ?_⟩
 have HB8 := Aside0.mk (below_step HH.out hb)
 clear hb HH
 refine hK.out _ _ HB8.out (fun hHeld => ?_)
 clear hK K
 refine norm_ (a' := ?_) ?_ ?_
 rotate_left
 ·show Act.put _ (some 16) _ = _
  simp only [Act.put, List.setIfInBounds_toArray, List.set_cons_zero, List.set_cons_succ, i64_w, i32_w]
  rfl
 refine pl_ [2, 3, 4, 6, 7, 8] ?_
 iterate 6 refine pP rfl rfl (by kernel_rfl) (fun _ _ _ h => h) (by rfl) (by intro w'; go_simp; with_reducible rfl) (by simp only [Act.put, z1, z2, z3, i64_w, i32_w]; rfl) ?_
 refine pl0 ?_
 refine take_ (i := 5) (N := some 20) (v := ?_) (a' := ?_) #[true, true, true, true, true, true, true, true, true, false, false, false, false] rfl rfl (by kernel_rfl) (fun _ _ _ h => h) (Or.inl ⟨by rfl, ?_⟩) hHeld ?_ ?_
 rotate_left
 ·intro w' hs
  have m0 := blk_cell (blk_below HX1.out hs) 0
  simp only [List.getElem?_toArray, List.getElem?_cons_succ, List.getElem?_cons_zero] at m0
  go_simp
  with_reducible rfl
 rotate_left
 ·simp only [Act.put, List.setIfInBounds_toArray, List.set_cons_zero, List.set_cons_succ, i64_w, i32_w]
  rfl
 refine take_ (i := 9) (N := some 24) (v := ?_) (a' := ?_) #[true, true, true, true, true, true, true, true, true, true, false, false, false] rfl rfl (by kernel_rfl) (fun _ _ _ h => h) (Or.inl ⟨by rfl, ?_⟩) hHeld ?_ ?_
 rotate_left
 ·intro w' hs
  have m1 := blk_cell (HK1.out.step hs).blk 1
  simp only [List.getElem?_toArray, List.getElem?_cons_succ, List.getElem?_cons_zero] at m1
  go_simp
  with_reducible rfl
 rotate_left
 ·simp only [Act.put, List.setIfInBounds_toArray, List.set_cons_zero, List.set_cons_succ, i64_w, i32_w]
  rfl
 refine pl_ [10, 11, 12] ?_
 iterate 3 refine pP rfl rfl (by kernel_rfl) (fun _ _ _ h => h) (by rfl) (by intro w'; go_simp; with_reducible rfl) (by simp only [Act.put, z1, z2, z3, i64_w, i32_w]; rfl) ?_
 refine pl0 ?_
 refine done_ (by kernel_rfl) ?_
 have c1 := blk_cell (HK1.out.step HB8.out).blk 1
 simp only [List.getElem?_toArray, List.getElem?_cons_succ, List.getElem?_cons_zero] at c1
 go_upto_region 6 with (first | (go_at_call 130; with_reducible refine (vec_Prefix.calls 5 (W : Int) n r1 r2 r3 r4 _ HPF.out).mono ?_; rintro e_ w3 ⟨rfl, hb⟩; have HB3 := Aside0.mk (below_step HB8.out hb); clear hb c1))
 have HM3 := Aside0.mk (blk_new w3 (.cells #[.int .i64 r1, .int .u64 r2, .int .u64 r3] 32 (0, 0)))
 have HB4 := Aside0.mk (below_alloc HB3.out (.cells #[.int .i64 r1, .int .u64 r2, .int .u64 r3] 32 (0, 0)))
 generalize w3.alloc (.cells #[.int .i64 r1, .int .u64 r2, .int .u64 r3] 32 (0, 0)) = w4 at HM3 HB4 ⊢
 generalize w3.heap.size = gm at HM3 ⊢
 clear HB3 HB8
 go_wp2
 go_ret
 exact ⟨rfl, below_step HW1.out HB4.out⟩
set_option maxHeartbeats 1000000 in
set_option maxRecDepth 100000 in
theorem tmay_d (w0 w : World) (g : Nat) (M : NM) (W X : Nat) (m N n : Int) (h : KT w0 w g M (W : Int) m N) (hX : X < 2 ^ 128) (hm : vmay (W : Int) X = true) (r1 r2 r3 yh yl : Int) (hp : vec_Prefix.f 5 (W : Int) n = some (r1, r2, r3, 0)) (ha : vec_And.f (W : Int) (hiW X) (loW X) r1 r2 r3 = some ((W : Int), yh, yl, 0)) (rc : Int) (hrc : rc = if yh = hiW X ∧ yl = loW X then 0 else 15) :
 Calls Try.prog 82 #[.pointer (some ⟨g, 0, none⟩), .agg #[.int .i64 (W : Int), .int .u64 (hiW X), .int .u64 (loW X)], .int .i64 n] w fun e w' => e = .returned (.int .i64 rc) ∧ Below w.heap.size w w' := by
 have HK1 := Aside0.mk (h.step (below_alloc (Below.refl _ _) (.cells #[.int .i64 (W : Int), .int .u64 (hiW X), .int .u64 (loW X)] 32 (0, 0))))
 have HX1 := Aside0.mk (blk_new w (.cells #[.int .i64 (W : Int), .int .u64 (hiW X), .int .u64 (loW X)] 32 (0, 0)))
 have HW1 := Aside0.mk (below_alloc (Below.refl w.heap.size w) (.cells #[.int .i64 (W : Int), .int .u64 (hiW X), .int .u64 (loW X)] 32 (0, 0)))
 have HMAY := Aside0.mk (show vec_May.f (W : Int) (hiW X) (loW X) = some true from by rw [vec_May_eq _ X hX, hm])
 have hw : ((W : Int) != (W : Int)) = false := by simp
 have HPF := Aside0.mk hp
 have HAND := Aside0.mk ha
 clear h hX hm hp ha
 go_enter Try.func82, Try.ntmps82
 go_wp2
 generalize w.alloc (.cells #[.int .i64 (W : Int), .int .u64 (hiW X), .int .u64 (loW X)] 32 (0, 0)) = wq at HK1 HX1 HW1 ⊢
 refine start_ (n := 13) (S := fun w' => Below wq.heap.size wq w') (ds := []) #[false, false, false, false, false, false, false, false, false, false, false, false, false] (by kernel_rfl) rfl rfl (below_drew1 (Below.refl _ _)) (fun hHeld => ?_)
 generalize World.drew _ = w2 at hHeld ⊢
 refine take_ (i := 0) (N := some 15) (v := ?_) (a' := ?_) #[true, false, false, false, false, false, false, false, false, false, false, false, false] rfl rfl (by kernel_rfl) (fun _ _ _ h => h) (Or.inl ⟨by rfl, ?_⟩) hHeld ?_ ?_
 rotate_left
 ·intro w' hs
  have m0 := blk_cell (blk_below HX1.out hs) 0
  have m1 := blk_cell (blk_below HX1.out hs) 1
  have m2 := blk_cell (blk_below HX1.out hs) 2
  simp only [List.getElem?_toArray, List.getElem?_cons_succ, List.getElem?_cons_zero] at m0 m1 m2
  go_simp
  with_reducible rfl
 rotate_left
 ·simp only [Act.put, List.setIfInBounds_toArray, List.set_cons_zero, List.set_cons_succ, i64_w, i32_w]
  rfl
 have HH := Aside0.mk hHeld
 clear hHeld
 refine one_ (i := 1) (N := some 16) #[true, true, false, false, false, false, false, false, false, false, false, false, false] rfl rfl (by kernel_rfl) (by decide) (fun K hK => ?_)
 refine goes_ Try.func73 (by kernel_rfl) rfl #[.agg #[.int .i64 (W : Int), .int .u64 (hiW X), .int .u64 (loW X)]] (by rfl) rfl rfl (by simp only [List.map_toArray, List.map_cons, List.map_nil]; rfl) ?_
 with_reducible refine (vec_May.calls (W : Int) (hiW X) (loW X) true _ HMAY.out).mono ?_
 rintro e_ w1 ⟨rfl, hb⟩
 refine ⟨_, rfl, ?_⟩
 have HB8 := Aside0.mk (below_step HH.out hb)
 clear hb HH
 refine hK.out _ _ HB8.out (fun hHeld => ?_)
 clear hK K
 refine norm_ (a' := ?_) ?_ ?_
 rotate_left
 ·show Act.put _ (some 16) _ = _
  simp only [Act.put, List.setIfInBounds_toArray, List.set_cons_zero, List.set_cons_succ, i64_w, i32_w]
  rfl
 refine pl_ [2, 3, 4, 6, 7, 8] ?_
 iterate 6 refine pP rfl rfl (by kernel_rfl) (fun _ _ _ h => h) (by rfl) (by intro w'; go_simp; with_reducible rfl) (by simp only [Act.put, z1, z2, z3, i64_w, i32_w]; rfl) ?_
 refine pl0 ?_
 refine take_ (i := 5) (N := some 20) (v := ?_) (a' := ?_) #[true, true, true, true, true, true, true, true, true, false, false, false, false] rfl rfl (by kernel_rfl) (fun _ _ _ h => h) (Or.inl ⟨by rfl, ?_⟩) hHeld ?_ ?_
 rotate_left
 ·intro w' hs
  have m0 := blk_cell (blk_below HX1.out hs) 0
  simp only [List.getElem?_toArray, List.getElem?_cons_succ, List.getElem?_cons_zero] at m0
  go_simp
  with_reducible rfl
 rotate_left
 ·simp only [Act.put, List.setIfInBounds_toArray, List.set_cons_zero, List.set_cons_succ, i64_w, i32_w]
  rfl
 refine take_ (i := 9) (N := some 24) (v := ?_) (a' := ?_) #[true, true, true, true, true, true, true, true, true, true, false, false, false] rfl rfl (by kernel_rfl) (fun _ _ _ h => h) (Or.inl ⟨by rfl, ?_⟩) hHeld ?_ ?_
 rotate_left
 ·intro w' hs
  have m1 := blk_cell (HK1.out.step hs).blk 1
  simp only [List.getElem?_toArray, List.getElem?_cons_succ, List.getElem?_cons_zero] at m1
  go_simp
  with_reducible rfl
 rotate_left
 ·simp only [Act.put, List.setIfInBounds_toArray, List.set_cons_zero, List.set_cons_succ, i64_w, i32_w]
  rfl
 refine pl_ [10, 11, 12] ?_
 iterate 3 refine pP rfl rfl (by kernel_rfl) (fun _ _ _ h => h) (by rfl) (by intro w'; go_simp; with_reducible rfl) (by simp only [Act.put, z1, z2, z3, i64_w, i32_w]; rfl) ?_
 refine pl0 ?_
 refine done_ (by kernel_rfl) ?_
 have c1 := blk_cell (HK1.out.step HB8.out).blk 1
 simp only [List.getElem?_toArray, List.getElem?_cons_succ, List.getElem?_cons_zero] at c1
 go_upto_region 6 with (first | (go_at_call 130; with_reducible refine (vec_Prefix.calls 5 (W : Int) n r1 r2 r3 0 _ HPF.out).mono ?_; rintro e_ w3 ⟨rfl, hb⟩; have HB3 := Aside0.mk (below_step HB8.out hb); clear hb c1))
 have HM3 := Aside0.mk (blk_new w3 (.cells #[.int .i64 r1, .int .u64 r2, .int .u64 r3] 32 (0, 0)))
 have HB4 := Aside0.mk (below_alloc HB3.out (.cells #[.int .i64 r1, .int .u64 r2, .int .u64 r3] 32 (0, 0)))
 generalize w3.alloc (.cells #[.int .i64 r1, .int .u64 r2, .int .u64 r3] 32 (0, 0)) = w4 at HM3 HB4 ⊢
 generalize w3.heap.size = gm at HM3 ⊢
 clear HB3 HB8
 have m0 := blk_cell HM3.out 0
 have m1 := blk_cell HM3.out 1
 have m2 := blk_cell HM3.out 2
 simp only [List.getElem?_toArray, List.getElem?_cons_succ, List.getElem?_cons_zero] at m0 m1 m2
 have x0 := blk_cell (blk_below HX1.out HB4.out) 0
 have x1 := blk_cell (blk_below HX1.out HB4.out) 1
 have x2 := blk_cell (blk_below HX1.out HB4.out) 2
 simp only [List.getElem?_toArray, List.getElem?_cons_succ, List.getElem?_cons_zero] at x0 x1 x2
 go_upto_region 9 with (first | (go_at_call 87; with_reducible refine (vec_And.calls (W : Int) (hiW X) (loW X) r1 r2 r3 (W : Int) yh yl 0 _ HAND.out).mono ?_; rintro e_ w5 ⟨rfl, hb⟩; have HB5 := Aside0.mk (below_step HB4.out hb); clear hb x0 x1 x2 m0 m1 m2))
 have HA3 := Aside0.mk (blk_new w5 (.cells #[.int .i64 (W : Int), .int .u64 yh, .int .u64 yl] 32 (0, 0)))
 have HB6 := Aside0.mk (below_alloc HB5.out (.cells #[.int .i64 (W : Int), .int .u64 yh, .int .u64 yl] 32 (0, 0)))
 generalize w5.alloc (.cells #[.int .i64 (W : Int), .int .u64 yh, .int .u64 yl] 32 (0, 0)) = w6 at HA3 HB6 ⊢
 generalize w5.heap.size = ga at HA3 ⊢
 clear HB5 HB4 HM3
 have m0 := blk_cell HA3.out 0
 have m1 := blk_cell HA3.out 1
 have m2 := blk_cell HA3.out 2
 simp only [List.getElem?_toArray, List.getElem?_cons_succ, List.getElem?_cons_zero] at m0 m1 m2
 have x0 := blk_cell (blk_below HX1.out HB6.out) 0
 have x1 := blk_cell (blk_below HX1.out HB6.out) 1
 have x2 := blk_cell (blk_below HX1.out HB6.out) 2
 simp only [List.getElem?_toArray, List.getElem?_cons_succ, List.getElem?_cons_zero] at x0 x1 x2
 by_cases e1 : yh = hiW X
 ·by_cases e2 : yl = loW X
  ·have e4 : rc = 0 := by rw [hrc, if_pos ⟨e1, e2⟩]
   clear hrc
   subst e1 e2 e4
   go_wp2
   go_ret
   exact ⟨rfl, below_step HW1.out HB6.out⟩
  ·have e3 : (yl == loW X) = false := by simpa using e2
   have e4 : rc = 15 := by rw [hrc, if_neg (fun hh => e2 hh.2)]
   clear hrc e2
   subst e1 e4
   go_wp2
   go_ret
   exact ⟨rfl, below_step HW1.out HB6.out⟩
 ·have e3 : (yh == hiW X) = false := by simpa using e1
  have e4 : rc = 15 := by rw [hrc, if_neg (fun hh => e1 hh.1)]
  clear hrc e1
  subst e4
  go_wp2
  go_ret
  exact ⟨rfl, below_step HW1.out HB6.out⟩
theorem tmay_calls (w0 w : World) (g : Nat) (M : NM) (W X : Nat) (k0 m N n : Int) (h : KT w0 w g M (W : Int) m N) (h1 : 1 ≤ W) (h2 : W ≤ 128) (hX : X < 2 ^ 128) :
 Calls Try.prog 82 #[.pointer (some ⟨g, 0, none⟩), .agg #[.int .i64 k0, .int .u64 (hiW X), .int .u64 (loW X)], .int .i64 n] w fun e w' => e = .returned (.int .i64 (mayP W k0 X n)) ∧ Below w.heap.size w w' := by
 by_cases c1 : vmay k0 X = true
 ·by_cases c2 : k0 = (W : Int)
  ·subst c2
   rw [mayP_yes ⟨c1, rfl⟩]
   by_cases c3 : 0 ≤ n ∧ n ≤ (W : Int)
   ·rw [if_pos c3]
    obtain ⟨j, rfl⟩ : ∃ j : Nat, n = (j : Int) := ⟨n.toNat, by omega⟩
    have hj : j ≤ W := by omega
    have hml : maskN W j < 2 ^ 128 := Nat.lt_of_lt_of_le (maskN_lt W j hj) (pow_le128 h2)
    have hand := vec_And_eq (W : Int) (W : Int) X (maskN W j) hX hml
    rw [if_pos ⟨c1, maskN_may W j h1 h2 hj⟩, if_pos rfl] at hand
    have hd := tmay_d w0 w g M W X m N (j : Int) h hX c1 _ _ _ _ _ (vec_Prefix_ok 2 W j h1 h2 hj) hand _ rfl
    rw [Int.toNat_natCast]
    have e : (hiW (X &&& maskN W j) = hiW X ∧ loW (X &&& maskN W j) = loW X) ↔ X &&& maskN W j = X := by
     have := hl_inj (and128 (Y := maskN W j) hX) hX
     constructor
     ·rintro ⟨e1, e2⟩
      rw [e1, e2] at this
      simpa using this.symm
     ·intro e1; rw [e1]; exact ⟨rfl, rfl⟩
    refine hd.mono ?_
    rintro e_ w' ⟨rfl, hb⟩
    refine ⟨?_, hb⟩
    by_cases c4 : X &&& maskN W j = X
    ·rw [if_pos (e.2 c4), if_pos c4]
    ·rw [if_neg (fun hh => c4 (e.1 hh)), if_neg c4]
   ·rw [if_neg c3]
    exact tmay_c w0 w g M W X m N n h hX c1 _ _ _ _ (vec_Prefix_no 2 W n h1 h2 (by omega)) (by decide)
  ·rw [mayP_no (fun hh => c2 hh.2)]
   exact tmay_b w0 w g M W X k0 m N n h hX c1 (by simpa using c2)
 ·rw [mayP_no (fun hh => c1 hh.1)]
  exact tmay_a w0 w g M W X k0 m N n h hX (by simpa using c1)
end Go.Proofs.Ytfdbcnbakchcgaa.XR
