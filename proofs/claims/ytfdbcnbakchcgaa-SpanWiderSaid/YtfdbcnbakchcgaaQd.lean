import Derived.Test.YtfdbcnbakchcgaaSv
import Derived.Test.YtfdbcnbakchcgaaQc
namespace Go.Proofs.Ytfdbcnbakchcgaa.XQ
open Go.RowKit Go.Proofs.YtfdbcnbakchcgaaW.PrintWords Go.Proofs.YtfdbcnbakchcgaaW.PrintLast Go.Proofs.YtfdbcnbakchcgaaW.PrintMore
attribute [local go_sem] max2_int min2_int max_two min_two max_three min_three max_four min_four
set_option linter.unusedVariables false
set_option linter.unusedSimpArgs false
set_option maxHeartbeats 1000000 in
set_option maxRecDepth 100000 in
theorem own_calls (x : S94) (A : Option Addr) (c : Nat) (B : Option Addr) (d : Nat) (w : World) (hA : Kd.C k32 w A x.f0.length x.f0) (hB : Kd.C k32 w B x.f1.length x.f1) (hc : x.f0.length ≤ c) (hd : x.f1.length ≤ d) (hl : x.f0.length ≤ 1000) (hm : x.f1.length ≤ 1000) :
 Calls Try.prog 111 #[.agg #[.slice A x.f0.length c, .slice B x.f1.length d, .int .i64 x.f2, .int .i64 x.f3]] w fun e w' => ∃ v0 v1, e = .returned (.agg #[v0, v1, .int .i64 x.f2, .int .i64 x.f3]) ∧ Kd.R k32 32 w' w.heap.size (fun k => some k = v0.ownBlock) v0 x.f0 ∧ Kd.R k32 32 w' w.heap.size (fun k => some k = v1.ownBlock) v1 x.f1 ∧ Below w.heap.size w w' := by
 have HX := Aside0.mk (show ((w.alloc (.cells #[.slice A x.f0.length c, .slice B x.f1.length d, .int .i64 x.f2, .int .i64 x.f3] 94 (0, 0))).alloc (.cells #[.slice none 0 0, .slice none 0 0, .int .i64 0, .int .i64 0] 94 (0, 0))).heap[w.heap.size]? = some (.cells #[.slice A x.f0.length c, .slice B x.f1.length d, .int .i64 x.f2, .int .i64 x.f3] 94 (0, 0)) from blk_alloc (blk_new w _) _)
 have HZ := Aside0.mk (show ((w.alloc (.cells #[.slice A x.f0.length c, .slice B x.f1.length d, .int .i64 x.f2, .int .i64 x.f3] 94 (0, 0))).alloc (.cells #[.slice none 0 0, .slice none 0 0, .int .i64 0, .int .i64 0] 94 (0, 0))).heap[w.heap.size + 1]? = some (.cells #[.slice none 0 0, .slice none 0 0, .int .i64 0, .int .i64 0] 94 (0, 0)) from by have := blk_new (w.alloc (.cells #[.slice A x.f0.length c, .slice B x.f1.length d, .int .i64 x.f2, .int .i64 x.f3] 94 (0, 0))) (.cells #[.slice none 0 0, .slice none 0 0, .int .i64 0, .int .i64 0] 94 (0, 0)); simpa using this)
 have HWQ := Aside0.mk (show Below w.heap.size w ((w.alloc (.cells #[.slice A x.f0.length c, .slice B x.f1.length d, .int .i64 x.f2, .int .i64 x.f3] 94 (0, 0))).alloc (.cells #[.slice none 0 0, .slice none 0 0, .int .i64 0, .int .i64 0] 94 (0, 0))) from below_alloc (below_alloc (Below.refl _ _) _) _)
 have HLO := Aside0.mk (Kd.C_below hA HWQ.out)
 have HHI := Aside0.mk (Kd.C_below hB HWQ.out)
 have HV0 := Aside0.mk (fun w1 (h : Kd.C k32 w1 A x.f0.length x.f0) => vclone_calls w1 A c x.f0 h hc (by omega))
 have HV1 := Aside0.mk (fun w1 (h : Kd.C k32 w1 B x.f1.length x.f1) => vclone_calls w1 B d x.f1 h hd (by omega))
 clear hA hB hc hd
 go_enter Try.func111, Try.ntmps111
 go_wp2
 generalize ((w.alloc (.cells #[.slice A x.f0.length c, .slice B x.f1.length d, .int .i64 x.f2, .int .i64 x.f3] 94 (0, 0))).alloc (.cells #[.slice none 0 0, .slice none 0 0, .int .i64 0, .int .i64 0] 94 (0, 0))) = wq at HX HZ HWQ HLO HHI ⊢
 refine start_ (n := 10) (S := fun w' => Below wq.heap.size wq w') (ds := [7, 9]) #[false, false, false, false, false, false, false, false, false, false] (by kernel_rfl) rfl rfl (below_drew1 (Below.refl _ _)) (fun hHeld => ?_)
 generalize World.drew _ = w8 at hHeld ⊢
 refine pl_ [0, 3] ?_
 iterate 2 refine qP rfl rfl ?_
 refine pl0 ?_
 refine take_ (i := 1) (N := some 4) (v := ?_) (a' := ?_) #[true, true, false, true, false, false, false, false, false, false] rfl rfl (by kernel_rfl) (fun _ _ _ h => h) (Or.inl ⟨by rfl, ?_⟩) hHeld ?_ ?_
 rotate_left
 ·intro w' hs
  have b0 := blk_cell (blk_below HX.out hs) 0
  simp only [List.getElem?_toArray, List.getElem?_cons_succ, List.getElem?_cons_zero] at b0
  go_simp
  with_reducible rfl
 rotate_left
 ·simp only [Act.put, List.setIfInBounds_toArray, List.set_cons_zero, List.set_cons_succ, i64_w, i32_w]
  rfl
 refine take_ (i := 4) (N := some 7) (v := ?_) (a' := ?_) #[true, true, false, true, true, false, false, false, false, false] rfl rfl (by kernel_rfl) (fun _ _ _ h => h) (Or.inl ⟨by rfl, ?_⟩) hHeld ?_ ?_
 rotate_left
 ·intro w' hs
  have b1 := blk_cell (blk_below HX.out hs) 1
  simp only [List.getElem?_toArray, List.getElem?_cons_succ, List.getElem?_cons_zero] at b1
  go_simp
  with_reducible rfl
 rotate_left
 ·simp only [Act.put, List.setIfInBounds_toArray, List.set_cons_zero, List.set_cons_succ, i64_w, i32_w]
  rfl
 have HH := Aside0.mk hHeld
 clear hHeld
 refine one_ (i := 2) (N := some 5) #[true, true, true, true, true, false, false, false, false, false] rfl rfl (by kernel_rfl) (by decide) (fun K hK => ?_)
 refine goes_ Try.func143 (by kernel_rfl) rfl #[.slice A x.f0.length c] (by rfl) rfl rfl (by simp only [List.map_toArray, List.map_cons, List.map_nil]; first | rfl | (go_simp; done)) ?_
 with_reducible refine (HV0.out _ (Kd.C_below HLO.out HH.out)).mono ?_
 rintro e_ w1 ⟨v0, rfl, hr, hb⟩
 refine ⟨_, rfl, ?_⟩
 obtain ⟨A2, c2, rfl⟩ := Kd.R_slice hr
 have HR0 := Aside0.mk (Kd.R_lower hr (show w.heap.size ≤ w8.heap.size from Nat.le_trans HWQ.out.size HH.out.size))
 have HG := Aside0.mk (below_step HH.out hb)
 clear hb hr HH
 obtain ⟨wA, hwA⟩ : ∃ wA, wA = w1 := ⟨_, rfl⟩
 rw [← hwA] at HR0 HG ⊢
 clear hwA
 refine hK.out _ _ HG.out (fun hHeld => ?_)
 clear hK K
 refine norm_ (a' := ?_) ?_ ?_
 rotate_left
 ·show Act.put _ (some 5) _ = _
  simp only [Act.put, List.setIfInBounds_toArray, List.set_cons_zero, List.set_cons_succ, i64_w, i32_w]
  rfl
 refine pl_ [6] ?_
 refine qP rfl rfl ?_
 refine pl0 ?_
 refine one_ (i := 5) (N := some 8) #[true, true, true, true, true, true, true, false, false, false] rfl rfl (by kernel_rfl) (by decide) (fun K hK => ?_)
 refine goes_ Try.func143 (by kernel_rfl) rfl #[.slice B x.f1.length d] (by rfl) rfl rfl (by simp only [List.map_toArray, List.map_cons, List.map_nil]; first | rfl | (go_simp; done)) ?_
 with_reducible refine (HV1.out _ (Kd.C_below HHI.out HG.out)).mono ?_
 rintro e_ w1 ⟨v1, rfl, hr, hb⟩
 refine ⟨_, rfl, ?_⟩
 obtain ⟨A3, c3, rfl⟩ := Kd.R_slice hr
 have HR1 := Aside0.mk (Kd.R_lower hr (show w.heap.size ≤ wA.heap.size from Nat.le_trans HWQ.out.size HG.out.size))
 have HR2 := Aside0.mk (Kd.R_below HR0.out hb)
 have HG2 := Aside0.mk (below_step HG.out hb)
 clear hb hr HG HR0
 refine hK.out _ _ HG2.out (fun hHeld => ?_)
 clear hK K
 refine norm_ (a' := ?_) ?_ ?_
 rotate_left
 ·show Act.put _ (some 8) _ = _
  simp only [Act.put, List.setIfInBounds_toArray, List.set_cons_zero, List.set_cons_succ, i64_w, i32_w]
  rfl
 have HX2 := Aside0.mk (blk_below HX.out HG2.out)
 have HZ2 := Aside0.mk (blk_below HZ.out HG2.out)
 clear hHeld HX HZ
 refine last_ (i := 7) (N := none) #[true, true, true, true, true, true, true, true, false, false] rfl rfl (by kernel_rfl) (by decide) (fun K hK => ?_)
 have b0 := blk_cell HX2.out 0
 simp only [List.getElem?_toArray, List.getElem?_cons_succ, List.getElem?_cons_zero] at b0
 have bf := blk_frozen HX2.out 0
 refine skip_ (w1 := ?_) (by rfl) rfl ?_ ?_
 rotate_left
 ·go_simp
  rfl
 refine hK.out _ _ ?_
 clear hK K
 clear b0 bf
 have HX3 := Aside0.mk (show (w1.setCell ⟨w.heap.size, 0, none⟩ (.slice A2 x.f0.length c2)).heap[w.heap.size]? = some (.cells #[.slice A2 x.f0.length c2, .slice B x.f1.length d, .int .i64 x.f2, .int .i64 x.f3] 94 (0, 0)) from blk_put HX2.out 0 _ rfl)
 have HZ3 := Aside0.mk (show (w1.setCell ⟨w.heap.size, 0, none⟩ (.slice A2 x.f0.length c2)).heap[w.heap.size + 1]? = some (.cells #[.slice none 0 0, .slice none 0 0, .int .i64 0, .int .i64 0] 94 (0, 0)) from blk_far HZ2.out (by simp) _)
 have HQ3 := Aside0.mk (show Below w.heap.size w (w1.setCell ⟨w.heap.size, 0, none⟩ (.slice A2 x.f0.length c2)) from below_set (below_step HWQ.out HG2.out) (Nat.le_refl _))
 have HS0 := Aside0.mk (show Kd.R k32 32 (w1.setCell ⟨w.heap.size, 0, none⟩ (.slice A2 x.f0.length c2)) w.heap.size (fun k => some k = (Value.slice A2 x.f0.length c2).ownBlock) (.slice A2 x.f0.length c2) x.f0 from Kd.R_set HR2.out HX2.out (by decide) 0 _)
 have HS1 := Aside0.mk (show Kd.R k32 32 (w1.setCell ⟨w.heap.size, 0, none⟩ (.slice A2 x.f0.length c2)) w.heap.size (fun k => some k = (Value.slice A3 x.f1.length c3).ownBlock) (.slice A3 x.f1.length c3) x.f1 from Kd.R_set HR1.out HX2.out (by decide) 0 _)
 generalize (w1.setCell ⟨w.heap.size, 0, none⟩ (.slice A2 x.f0.length c2)) = w3 at HX3 HZ3 HQ3 HS0 HS1 ⊢
 clear HX2 HZ2 HR1 HR2 HG2
 refine pl_ [8] ?_
 refine qP rfl rfl ?_
 refine pl0 ?_
 refine last_ (i := 9) (N := none) #[true, true, true, true, true, true, true, true, true, true] rfl rfl (by kernel_rfl) (by decide) (fun K hK => ?_)
 have b1 := blk_cell HX3.out 1
 simp only [List.getElem?_toArray, List.getElem?_cons_succ, List.getElem?_cons_zero] at b1
 have bf := blk_frozen HX3.out 1
 refine skip_ (w1 := ?_) (by rfl) rfl ?_ ?_
 rotate_left
 ·go_simp
  rfl
 refine hK.out _ _ ?_
 clear hK K
 clear b1 bf
 have HX4 := Aside0.mk (show (w3.setCell ⟨w.heap.size, 1, none⟩ (.slice A3 x.f1.length c3)).heap[w.heap.size]? = some (.cells #[.slice A2 x.f0.length c2, .slice A3 x.f1.length c3, .int .i64 x.f2, .int .i64 x.f3] 94 (0, 0)) from blk_put HX3.out 1 _ rfl)
 have HZ4 := Aside0.mk (show (w3.setCell ⟨w.heap.size, 1, none⟩ (.slice A3 x.f1.length c3)).heap[w.heap.size + 1]? = some (.cells #[.slice none 0 0, .slice none 0 0, .int .i64 0, .int .i64 0] 94 (0, 0)) from blk_far HZ3.out (by simp) _)
 have HQ4 := Aside0.mk (show Below w.heap.size w (w3.setCell ⟨w.heap.size, 1, none⟩ (.slice A3 x.f1.length c3)) from below_set HQ3.out (Nat.le_refl _))
 have HT0 := Aside0.mk (Kd.R_set HS0.out HX3.out (by decide) 1 (.slice A3 x.f1.length c3))
 have HT1 := Aside0.mk (Kd.R_set HS1.out HX3.out (by decide) 1 (.slice A3 x.f1.length c3))
 generalize (w3.setCell ⟨w.heap.size, 1, none⟩ (.slice A3 x.f1.length c3)) = w4 at HX4 HZ4 HQ4 HT0 HT1 ⊢
 clear HX3 HZ3 HS0 HS1 HQ3
 refine done_ (by kernel_rfl) ?_
 have b0 := blk_cell (HX4.out) 0
 have b1 := blk_cell (HX4.out) 1
 have b2 := blk_cell (HX4.out) 2
 have b3 := blk_cell (HX4.out) 3
 simp only [List.getElem?_toArray, List.getElem?_cons_succ, List.getElem?_cons_zero] at b0 b1 b2 b3
 have y0 := blk_cell HZ4.out 0
 have y1 := blk_cell HZ4.out 1
 have y2 := blk_cell HZ4.out 2
 have y3 := blk_cell HZ4.out 3
 have zf := blk_frozen HZ4.out
 simp only [List.getElem?_toArray, List.getElem?_cons_succ, List.getElem?_cons_zero] at y0 y1 y2 y3
 go_wp2
 refine bodyPost_ret (results_single rfl (.cell (w.heap.size + 1) 94 _ (0, 0) _ rfl (blk_set (blk_set (blk_set (blk_set HZ4.out 0 (.slice A2 x.f0.length c2)) 1 (.slice A3 x.f1.length c3)) 2 (.int .i64 x.f2)) 3 (.int .i64 x.f3)) Try.underlying94 rfl (by kernel_rfl) .nil)) rfl ⟨_, _, rfl, (Kd.R_set (Kd.R_set (Kd.R_set (Kd.R_set HT0.out HZ4.out (by decide) 0 _) (blk_set HZ4.out 0 (.slice A2 x.f0.length c2)) (by decide) 1 _) (blk_set (blk_set HZ4.out 0 (.slice A2 x.f0.length c2)) 1 (.slice A3 x.f1.length c3)) (by decide) 2 _) (blk_set (blk_set (blk_set HZ4.out 0 (.slice A2 x.f0.length c2)) 1 (.slice A3 x.f1.length c3)) 2 (.int .i64 x.f2)) (by decide) 3 _), (Kd.R_set (Kd.R_set (Kd.R_set (Kd.R_set HT1.out HZ4.out (by decide) 0 _) (blk_set HZ4.out 0 (.slice A2 x.f0.length c2)) (by decide) 1 _) (blk_set (blk_set HZ4.out 0 (.slice A2 x.f0.length c2)) 1 (.slice A3 x.f1.length c3)) (by decide) 2 _) (blk_set (blk_set (blk_set HZ4.out 0 (.slice A2 x.f0.length c2)) 1 (.slice A3 x.f1.length c3)) 2 (.int .i64 x.f2)) (by decide) 3 _), (below_set (below_set (below_set (below_set HQ4.out (Nat.le_succ _)) (Nat.le_succ _)) (Nat.le_succ _)) (Nat.le_succ _))⟩
def wiB (x : S94) (i : Nat) : Bool := wiV (lx x.f0 i) (lx x.f0 i) (lx x.f1 i)
def mayL (ws : List Int) (x : S94) : Int :=
 if x.f0.length = ws.length ∧ x.f1.length = ws.length then (if (allTo (fitW ws x.f0) ws.length && allTo (fitW ws x.f1) ws.length) = true then
  (if x.f2 < 0 then 7 else if 65535 < x.f2 then 7 else if allTo (wiB x) ws.length = true then 0 else 7) else 9) else 2
set_option maxHeartbeats 1000000 in
set_option maxRecDepth 100000 in
theorem may_len1 (w : World) (g : Nat) (v : Value) (E : Option Addr) (e : Nat) (ws : List Int) (m : Int) (x : S94) (A : Option Addr) (c : Nat) (B : Option Addr) (d : Nat) (hg : w.heap[g]? = some (.cells #[v, .slice E ws.length e, .int .i64 m] 163 (0, 0))) (h : ¬ x.f0.length = ws.length) :
 Calls Try.prog 106 #[.pointer (some ⟨g, 0, none⟩), .agg #[.slice A x.f0.length c, .slice B x.f1.length d, .int .i64 x.f2, .int .i64 x.f3]] w fun e_ w' => e_ = .returned (.int .i64 2) ∧ Below w.heap.size w w' := by
 have g1 : ((x.f0.length : Int) != (ws.length : Int)) = true := by simpa using (fun hh => h (by omega))
 have HX := Aside0.mk (blk_new w (.cells #[.slice A x.f0.length c, .slice B x.f1.length d, .int .i64 x.f2, .int .i64 x.f3] 94 (0, 0)))
 have HLB := Aside0.mk (blk_alloc hg (.cells #[.slice A x.f0.length c, .slice B x.f1.length d, .int .i64 x.f2, .int .i64 x.f3] 94 (0, 0)))
 have HWQ := Aside0.mk (below_alloc (Below.refl w.heap.size w) (.cells #[.slice A x.f0.length c, .slice B x.f1.length d, .int .i64 x.f2, .int .i64 x.f3] 94 (0, 0)))
 clear hg h
 go_enter Try.func106, Try.ntmps106
 go_wp2
 generalize w.alloc (.cells #[.slice A x.f0.length c, .slice B x.f1.length d, .int .i64 x.f2, .int .i64 x.f3] 94 (0, 0)) = wq at HX HLB HWQ ⊢
 refine start_ (n := 21) (S := fun w' => Below wq.heap.size wq w') (ds := []) #[false, false, false, false, false, false, false, false, false, false, false, false, false, false, false, false, false, false, false, false, false] (by kernel_rfl) rfl rfl (below_drew1 (Below.refl _ _)) (fun hHeld => ?_)
 generalize World.drew _ = w8 at hHeld ⊢
 refine pl_ [0, 3, 4, 5] ?_
 iterate 4 refine qP rfl rfl ?_
 refine pl0 ?_
 refine take_ (i := 1) (N := some 11) (v := ?_) (a' := ?_) #[true, true, false, true, true, true, false, false, false, false, false, false, false, false, false, false, false, false, false, false, false] rfl rfl (by kernel_rfl) (fun _ _ _ h => h) (Or.inl ⟨by rfl, ?_⟩) hHeld ?_ ?_
 rotate_left
 ·intro w' hs
  have b0 := blk_cell (blk_below HX.out hs) 0
  simp only [List.getElem?_toArray, List.getElem?_cons_succ, List.getElem?_cons_zero] at b0
  go_simp
  with_reducible rfl
 rotate_left
 ·simp only [Act.put, List.setIfInBounds_toArray, List.set_cons_zero, List.set_cons_succ, i64_w, i32_w]
  rfl
 refine take_ (i := 6) (N := some 16) (v := ?_) (a' := ?_) #[true, true, false, true, true, true, true, false, false, false, false, false, false, false, false, false, false, false, false, false, false] rfl rfl (by kernel_rfl) (fun _ _ _ h => h) (Or.inl ⟨by rfl, ?_⟩) hHeld ?_ ?_
 rotate_left
 ·intro w' hs
  have l1 := blk_cell (blk_below HLB.out hs) 1
  simp only [List.getElem?_toArray, List.getElem?_cons_succ, List.getElem?_cons_zero] at l1
  go_simp
  with_reducible rfl
 rotate_left
 ·simp only [Act.put, List.setIfInBounds_toArray, List.set_cons_zero, List.set_cons_succ, i64_w, i32_w]
  rfl
 refine pl_ [2, 7, 8, 9, 10, 11, 12, 13, 14, 15, 16, 17, 18, 19, 20] ?_
 iterate 4 refine qP rfl rfl ?_
 iterate 9 refine qU rfl rfl ?_
 iterate 2 refine qP rfl rfl ?_
 refine pl0 ?_
 refine done_ (by kernel_rfl) ?_
 have HB3 := Aside0.mk hHeld
 clear hHeld
 go_wp2
 go_ret
 exact ⟨rfl, below_step HWQ.out HB3.out⟩
set_option maxHeartbeats 1000000 in
set_option maxRecDepth 100000 in
theorem may_len2 (w : World) (g : Nat) (v : Value) (E : Option Addr) (e : Nat) (ws : List Int) (m : Int) (x : S94) (A : Option Addr) (c : Nat) (B : Option Addr) (d : Nat) (hg : w.heap[g]? = some (.cells #[v, .slice E ws.length e, .int .i64 m] 163 (0, 0))) (h : x.f0.length = ws.length) (h2 : ¬ x.f1.length = ws.length) :
 Calls Try.prog 106 #[.pointer (some ⟨g, 0, none⟩), .agg #[.slice A x.f0.length c, .slice B x.f1.length d, .int .i64 x.f2, .int .i64 x.f3]] w fun e_ w' => e_ = .returned (.int .i64 2) ∧ Below w.heap.size w w' := by
 have g1 : ((x.f0.length : Int) != (ws.length : Int)) = false := by simp [h]
 have g2 : ((x.f1.length : Int) != (ws.length : Int)) = true := by simpa using (fun hh => h2 (by omega))
 have HX := Aside0.mk (blk_new w (.cells #[.slice A x.f0.length c, .slice B x.f1.length d, .int .i64 x.f2, .int .i64 x.f3] 94 (0, 0)))
 have HLB := Aside0.mk (blk_alloc hg (.cells #[.slice A x.f0.length c, .slice B x.f1.length d, .int .i64 x.f2, .int .i64 x.f3] 94 (0, 0)))
 have HWQ := Aside0.mk (below_alloc (Below.refl w.heap.size w) (.cells #[.slice A x.f0.length c, .slice B x.f1.length d, .int .i64 x.f2, .int .i64 x.f3] 94 (0, 0)))
 clear hg h h2
 go_enter Try.func106, Try.ntmps106
 go_wp2
 generalize w.alloc (.cells #[.slice A x.f0.length c, .slice B x.f1.length d, .int .i64 x.f2, .int .i64 x.f3] 94 (0, 0)) = wq at HX HLB HWQ ⊢
 refine start_ (n := 21) (S := fun w' => Below wq.heap.size wq w') (ds := []) #[false, false, false, false, false, false, false, false, false, false, false, false, false, false, false, false, false, false, false, false, false] (by kernel_rfl) rfl rfl (below_drew1 (Below.refl _ _)) (fun hHeld => ?_)
 generalize World.drew _ = w8 at hHeld ⊢
 refine pl_ [0, 3, 4, 5] ?_
 iterate 4 refine qP rfl rfl ?_
 refine pl0 ?_
 refine take_ (i := 1) (N := some 11) (v := ?_) (a' := ?_) #[true, true, false, true, true, true, false, false, false, false, false, false, false, false, false, false, false, false, false, false, false] rfl rfl (by kernel_rfl) (fun _ _ _ h => h) (Or.inl ⟨by rfl, ?_⟩) hHeld ?_ ?_
 rotate_left
 ·intro w' hs
  have b0 := blk_cell (blk_below HX.out hs) 0
  simp only [List.getElem?_toArray, List.getElem?_cons_succ, List.getElem?_cons_zero] at b0
  go_simp
  with_reducible rfl
 rotate_left
 ·simp only [Act.put, List.setIfInBounds_toArray, List.set_cons_zero, List.set_cons_succ, i64_w, i32_w]
  rfl
 refine take_ (i := 6) (N := some 16) (v := ?_) (a' := ?_) #[true, true, false, true, true, true, true, false, false, false, false, false, false, false, false, false, false, false, false, false, false] rfl rfl (by kernel_rfl) (fun _ _ _ h => h) (Or.inl ⟨by rfl, ?_⟩) hHeld ?_ ?_
 rotate_left
 ·intro w' hs
  have l1 := blk_cell (blk_below HLB.out hs) 1
  simp only [List.getElem?_toArray, List.getElem?_cons_succ, List.getElem?_cons_zero] at l1
  go_simp
  with_reducible rfl
 rotate_left
 ·simp only [Act.put, List.setIfInBounds_toArray, List.set_cons_zero, List.set_cons_succ, i64_w, i32_w]
  rfl
 refine pl_ [2, 7, 8, 9, 10, 13, 14, 15] ?_
 iterate 8 refine qP rfl rfl ?_
 refine pl0 ?_
 refine take_ (i := 11) (N := some 21) (v := ?_) (a' := ?_) #[true, true, true, true, true, true, true, true, true, true, true, true, false, true, true, true, false, false, false, false, false] rfl rfl (by kernel_rfl) (fun _ _ _ h => h) (Or.inl ⟨by rfl, ?_⟩) hHeld ?_ ?_
 rotate_left
 ·intro w' hs
  have b1 := blk_cell (blk_below HX.out hs) 1
  simp only [List.getElem?_toArray, List.getElem?_cons_succ, List.getElem?_cons_zero] at b1
  go_simp
  with_reducible rfl
 rotate_left
 ·simp only [Act.put, List.setIfInBounds_toArray, List.set_cons_zero, List.set_cons_succ, i64_w, i32_w]
  rfl
 refine take_ (i := 16) (N := some 26) (v := ?_) (a' := ?_) #[true, true, true, true, true, true, true, true, true, true, true, true, false, true, true, true, true, false, false, false, false] rfl rfl (by kernel_rfl) (fun _ _ _ h => h) (Or.inl ⟨by rfl, ?_⟩) hHeld ?_ ?_
 rotate_left
 ·intro w' hs
  have l1 := blk_cell (blk_below HLB.out hs) 1
  simp only [List.getElem?_toArray, List.getElem?_cons_succ, List.getElem?_cons_zero] at l1
  go_simp
  with_reducible rfl
 rotate_left
 ·simp only [Act.put, List.setIfInBounds_toArray, List.set_cons_zero, List.set_cons_succ, i64_w, i32_w]
  rfl
 refine pl_ [12, 17, 18, 19, 20] ?_
 iterate 5 refine qP rfl rfl ?_
 refine pl0 ?_
 refine done_ (by kernel_rfl) ?_
 have HB3 := Aside0.mk hHeld
 clear hHeld
 go_wp2
 go_ret
 exact ⟨rfl, below_step HWQ.out HB3.out⟩
set_option maxHeartbeats 1000000 in
set_option maxRecDepth 100000 in
theorem may_go (w : World) (g : Nat) (v : Value) (E : Option Addr) (e : Nat) (ws : List Int) (m : Int) (x : S94) (A : Option Addr) (c : Nat) (B : Option Addr) (d : Nat) (hg : w.heap[g]? = some (.cells #[v, .slice E ws.length e, .int .i64 m] 163 (0, 0))) (h1 : x.f0.length = ws.length) (h2 : x.f1.length = ws.length) (hE : Kd.C (Kd.int .i64) w E ws.length ws) (hA : Kd.C k32 w A x.f0.length x.f0) (hB : Kd.C k32 w B x.f1.length x.f1) (hok0 : ∀ y ∈ x.f0, okV y) (hok1 : ∀ y ∈ x.f1, okV y) :
 Calls Try.prog 106 #[.pointer (some ⟨g, 0, none⟩), .agg #[.slice A x.f0.length c, .slice B x.f1.length d, .int .i64 x.f2, .int .i64 x.f3]] w fun e_ w' => e_ = .returned (.int .i64 (mayL ws x)) ∧ Below w.heap.size w w' := by
 have g1 : ((x.f0.length : Int) != (ws.length : Int)) = false := by simp [h1]
 have g2 : ((x.f1.length : Int) != (ws.length : Int)) = false := by simp [h2]
 have HE1 := Aside0.mk h1
 have HE2 := Aside0.mk h2
 have HO0 := Aside0.mk hok0
 have HO1 := Aside0.mk hok1
 obtain ⟨r, hr⟩ : ∃ r, r = mayL ws x := ⟨_, rfl⟩
 rw [← hr]
 have HR := Aside0.mk hr
 clear hr
 have HX := Aside0.mk (blk_new w (.cells #[.slice A x.f0.length c, .slice B x.f1.length d, .int .i64 x.f2, .int .i64 x.f3] 94 (0, 0)))
 have HLB := Aside0.mk (blk_alloc hg (.cells #[.slice A x.f0.length c, .slice B x.f1.length d, .int .i64 x.f2, .int .i64 x.f3] 94 (0, 0)))
 have HWQ := Aside0.mk (below_alloc (Below.refl w.heap.size w) (.cells #[.slice A x.f0.length c, .slice B x.f1.length d, .int .i64 x.f2, .int .i64 x.f3] 94 (0, 0)))
 have HWS := Aside0.mk (Kd.C_below hE HWQ.out)
 have HLO := Aside0.mk (Kd.C_below hA HWQ.out)
 have HHI := Aside0.mk (Kd.C_below hB HWQ.out)
 clear hg hE hA hB h1 h2 hok0 hok1
 go_enter Try.func106, Try.ntmps106
 go_wp2
 generalize w.alloc (.cells #[.slice A x.f0.length c, .slice B x.f1.length d, .int .i64 x.f2, .int .i64 x.f3] 94 (0, 0)) = wq at HX HLB HWQ HWS HLO HHI ⊢
 refine start_ (n := 21) (S := fun w' => Below wq.heap.size wq w') (ds := []) #[false, false, false, false, false, false, false, false, false, false, false, false, false, false, false, false, false, false, false, false, false] (by kernel_rfl) rfl rfl (below_drew1 (Below.refl _ _)) (fun hHeld => ?_)
 generalize World.drew _ = w8 at hHeld ⊢
 refine pl_ [0, 3, 4, 5] ?_
 iterate 4 refine qP rfl rfl ?_
 refine pl0 ?_
 refine take_ (i := 1) (N := some 11) (v := ?_) (a' := ?_) #[true, true, false, true, true, true, false, false, false, false, false, false, false, false, false, false, false, false, false, false, false] rfl rfl (by kernel_rfl) (fun _ _ _ h => h) (Or.inl ⟨by rfl, ?_⟩) hHeld ?_ ?_
 rotate_left
 ·intro w' hs
  have b0 := blk_cell (blk_below HX.out hs) 0
  simp only [List.getElem?_toArray, List.getElem?_cons_succ, List.getElem?_cons_zero] at b0
  go_simp
  with_reducible rfl
 rotate_left
 ·simp only [Act.put, List.setIfInBounds_toArray, List.set_cons_zero, List.set_cons_succ, i64_w, i32_w]
  rfl
 refine take_ (i := 6) (N := some 16) (v := ?_) (a' := ?_) #[true, true, false, true, true, true, true, false, false, false, false, false, false, false, false, false, false, false, false, false, false] rfl rfl (by kernel_rfl) (fun _ _ _ h => h) (Or.inl ⟨by rfl, ?_⟩) hHeld ?_ ?_
 rotate_left
 ·intro w' hs
  have l1 := blk_cell (blk_below HLB.out hs) 1
  simp only [List.getElem?_toArray, List.getElem?_cons_succ, List.getElem?_cons_zero] at l1
  go_simp
  with_reducible rfl
 rotate_left
 ·simp only [Act.put, List.setIfInBounds_toArray, List.set_cons_zero, List.set_cons_succ, i64_w, i32_w]
  rfl
 refine pl_ [2, 7, 8, 9, 10, 13, 14, 15] ?_
 iterate 8 refine qP rfl rfl ?_
 refine pl0 ?_
 refine take_ (i := 11) (N := some 21) (v := ?_) (a' := ?_) #[true, true, true, true, true, true, true, true, true, true, true, true, false, true, true, true, false, false, false, false, false] rfl rfl (by kernel_rfl) (fun _ _ _ h => h) (Or.inl ⟨by rfl, ?_⟩) hHeld ?_ ?_
 rotate_left
 ·intro w' hs
  have b1 := blk_cell (blk_below HX.out hs) 1
  simp only [List.getElem?_toArray, List.getElem?_cons_succ, List.getElem?_cons_zero] at b1
  go_simp
  with_reducible rfl
 rotate_left
 ·simp only [Act.put, List.setIfInBounds_toArray, List.set_cons_zero, List.set_cons_succ, i64_w, i32_w]
  rfl
 refine take_ (i := 16) (N := some 26) (v := ?_) (a' := ?_) #[true, true, true, true, true, true, true, true, true, true, true, true, false, true, true, true, true, false, false, false, false] rfl rfl (by kernel_rfl) (fun _ _ _ h => h) (Or.inl ⟨by rfl, ?_⟩) hHeld ?_ ?_
 rotate_left
 ·intro w' hs
  have l1 := blk_cell (blk_below HLB.out hs) 1
  simp only [List.getElem?_toArray, List.getElem?_cons_succ, List.getElem?_cons_zero] at l1
  go_simp
  with_reducible rfl
 rotate_left
 ·simp only [Act.put, List.setIfInBounds_toArray, List.set_cons_zero, List.set_cons_succ, i64_w, i32_w]
  rfl
 refine pl_ [12, 17, 18, 19, 20] ?_
 iterate 5 refine qP rfl rfl ?_
 refine pl0 ?_
 refine done_ (by kernel_rfl) ?_
 have HB3 := Aside0.mk hHeld
 clear hHeld
 clear g1 g2
 have HW1 := Aside0.mk (fun w1 (hb : Below wq.heap.size wq w1) => wide_calls w1 g v E e ws m A c x.f0 (blk_below HLB.out hb) (Kd.C_below HWS.out hb) (Kd.C_below HLO.out hb) HE1.out HO0.out)
 have HW2 := Aside0.mk (fun w1 (hb : Below wq.heap.size wq w1) => wide_calls w1 g v E e ws m B d x.f1 (blk_below HLB.out hb) (Kd.C_below HWS.out hb) (Kd.C_below HHI.out hb) HE2.out HO1.out)
 have b0 := blk_cell (blk_below HX.out HB3.out) 0
 have b1 := blk_cell (blk_below HX.out HB3.out) 1
 have b2 := blk_cell (blk_below HX.out HB3.out) 2
 have b3 := blk_cell (blk_below HX.out HB3.out) 3
 simp only [List.getElem?_toArray, List.getElem?_cons_succ, List.getElem?_cons_zero] at b0 b1 b2 b3
 cases e1 : allTo (fitW ws x.f0) ws.length with
 | false =>
  have HN1 := Aside0.mk e1
  have HRV := Aside0.mk (show r = 9 from by rw [HR.out]; unfold mayL; rw [if_pos ⟨HE1.out, HE2.out⟩]; rw [HN1.out, if_neg (by simp)])
  clear e1
  go_wp2_with (first | (go_at_call 137; with_reducible refine (HW1.out _ HB3.out).mono ?_; rintro e_ w4 ⟨rfl, hb⟩; rw [HN1.out]; have HB4 := Aside0.mk (below_step HB3.out hb); clear hb b0 b1 b2 b3; have b0 := blk_cell (blk_below HX.out HB4.out) 0; have b1 := blk_cell (blk_below HX.out HB4.out) 1; have b2 := blk_cell (blk_below HX.out HB4.out) 2; have b3 := blk_cell (blk_below HX.out HB4.out) 3; simp only [List.getElem?_toArray, List.getElem?_cons_succ, List.getElem?_cons_zero] at b0 b1 b2 b3))
  go_ret
  exact ⟨by rw [HRV.out]; rfl, below_step HWQ.out HB4.out⟩
 | true =>
  cases e2 : allTo (fitW ws x.f1) ws.length with
  | false =>
   have HN1 := Aside0.mk e1
   have HN2 := Aside0.mk e2
   have HRV := Aside0.mk (show r = 9 from by rw [HR.out]; unfold mayL; rw [if_pos ⟨HE1.out, HE2.out⟩]; rw [HN1.out, HN2.out, if_neg (by simp)])
   clear e1 e2
   go_wp2_with (first | (go_at_call 137; with_reducible refine (HW1.out _ HB3.out).mono ?_; rintro e_ w4 ⟨rfl, hb⟩; rw [HN1.out]; have HB4 := Aside0.mk (below_step HB3.out hb); clear hb b0 b1 b2 b3; have b0 := blk_cell (blk_below HX.out HB4.out) 0; have b1 := blk_cell (blk_below HX.out HB4.out) 1; have b2 := blk_cell (blk_below HX.out HB4.out) 2; have b3 := blk_cell (blk_below HX.out HB4.out) 3; simp only [List.getElem?_toArray, List.getElem?_cons_succ, List.getElem?_cons_zero] at b0 b1 b2 b3) | (go_at_call 137; with_reducible refine (HW2.out _ HB4.out).mono ?_; rintro e_ w5 ⟨rfl, hb⟩; rw [HN2.out]; have HB5 := Aside0.mk (below_step HB4.out hb); clear hb b0 b1 b2 b3; have b0 := blk_cell (blk_below HX.out HB5.out) 0; have b1 := blk_cell (blk_below HX.out HB5.out) 1; have b2 := blk_cell (blk_below HX.out HB5.out) 2; have b3 := blk_cell (blk_below HX.out HB5.out) 3; simp only [List.getElem?_toArray, List.getElem?_cons_succ, List.getElem?_cons_zero] at b0 b1 b2 b3))
   go_ret
   exact ⟨by rw [HRV.out]; rfl, below_step HWQ.out HB5.out⟩
  | true =>
   have HN1 := Aside0.mk e1
   have HN2 := Aside0.mk e2
   clear e1 e2
   by_cases p1 : x.f2 < 0
   ·have HRV := Aside0.mk (show r = 7 from by rw [HR.out]; unfold mayL; rw [if_pos ⟨HE1.out, HE2.out⟩]; rw [HN1.out, HN2.out, if_pos (by rfl)]; rw [if_pos p1])
    have p3 : decide (x.f2 < 0) = true := decide_eq_true p1
    clear p1
    go_wp2_with (first | (go_at_call 137; with_reducible refine (HW1.out _ HB3.out).mono ?_; rintro e_ w4 ⟨rfl, hb⟩; rw [HN1.out]; have HB4 := Aside0.mk (below_step HB3.out hb); clear hb b0 b1 b2 b3; have b0 := blk_cell (blk_below HX.out HB4.out) 0; have b1 := blk_cell (blk_below HX.out HB4.out) 1; have b2 := blk_cell (blk_below HX.out HB4.out) 2; have b3 := blk_cell (blk_below HX.out HB4.out) 3; simp only [List.getElem?_toArray, List.getElem?_cons_succ, List.getElem?_cons_zero] at b0 b1 b2 b3) | (go_at_call 137; with_reducible refine (HW2.out _ HB4.out).mono ?_; rintro e_ w5 ⟨rfl, hb⟩; rw [HN2.out]; have HB5 := Aside0.mk (below_step HB4.out hb); clear hb b0 b1 b2 b3; have b0 := blk_cell (blk_below HX.out HB5.out) 0; have b1 := blk_cell (blk_below HX.out HB5.out) 1; have b2 := blk_cell (blk_below HX.out HB5.out) 2; have b3 := blk_cell (blk_below HX.out HB5.out) 3; simp only [List.getElem?_toArray, List.getElem?_cons_succ, List.getElem?_cons_zero] at b0 b1 b2 b3))
    go_ret
    exact ⟨by rw [HRV.out]; rfl, below_step HWQ.out HB5.out⟩
   ·by_cases p2 : 65535 < x.f2
    ·have HRV := Aside0.mk (show r = 7 from by rw [HR.out]; unfold mayL; rw [if_pos ⟨HE1.out, HE2.out⟩]; rw [HN1.out, HN2.out, if_pos (by rfl)]; rw [if_neg p1, if_pos p2])
     have p3 : decide (x.f2 < 0) = false := decide_eq_false p1
     have p4 : decide (65535 < x.f2) = true := decide_eq_true p2
     clear p1 p2
     go_wp2_with (first | (go_at_call 137; with_reducible refine (HW1.out _ HB3.out).mono ?_; rintro e_ w4 ⟨rfl, hb⟩; rw [HN1.out]; have HB4 := Aside0.mk (below_step HB3.out hb); clear hb b0 b1 b2 b3; have b0 := blk_cell (blk_below HX.out HB4.out) 0; have b1 := blk_cell (blk_below HX.out HB4.out) 1; have b2 := blk_cell (blk_below HX.out HB4.out) 2; have b3 := blk_cell (blk_below HX.out HB4.out) 3; simp only [List.getElem?_toArray, List.getElem?_cons_succ, List.getElem?_cons_zero] at b0 b1 b2 b3) | (go_at_call 137; with_reducible refine (HW2.out _ HB4.out).mono ?_; rintro e_ w5 ⟨rfl, hb⟩; rw [HN2.out]; have HB5 := Aside0.mk (below_step HB4.out hb); clear hb b0 b1 b2 b3; have b0 := blk_cell (blk_below HX.out HB5.out) 0; have b1 := blk_cell (blk_below HX.out HB5.out) 1; have b2 := blk_cell (blk_below HX.out HB5.out) 2; have b3 := blk_cell (blk_below HX.out HB5.out) 3; simp only [List.getElem?_toArray, List.getElem?_cons_succ, List.getElem?_cons_zero] at b0 b1 b2 b3))
     go_ret
     exact ⟨by rw [HRV.out]; rfl, below_step HWQ.out HB5.out⟩
    ·have HRW := Aside0.mk (show r = if allTo (wiB x) ws.length = true then 0 else 7 from by rw [HR.out]; unfold mayL; rw [if_pos ⟨HE1.out, HE2.out⟩]; rw [HN1.out, HN2.out, if_pos (by rfl)]; rw [if_neg p1, if_neg p2])
     have p3 : decide (x.f2 < 0) = false := decide_eq_false p1
     have p4 : decide (65535 < x.f2) = false := decide_eq_false p2
     clear p1 p2
     go_wp2_with (first | (go_at_call 137; with_reducible refine (HW1.out _ HB3.out).mono ?_; rintro e_ w4 ⟨rfl, hb⟩; rw [HN1.out]; have HB4 := Aside0.mk (below_step HB3.out hb); clear hb b0 b1 b2 b3; have b0 := blk_cell (blk_below HX.out HB4.out) 0; have b1 := blk_cell (blk_below HX.out HB4.out) 1; have b2 := blk_cell (blk_below HX.out HB4.out) 2; have b3 := blk_cell (blk_below HX.out HB4.out) 3; simp only [List.getElem?_toArray, List.getElem?_cons_succ, List.getElem?_cons_zero] at b0 b1 b2 b3) | (go_at_call 137; with_reducible refine (HW2.out _ HB4.out).mono ?_; rintro e_ w5 ⟨rfl, hb⟩; rw [HN2.out]; have HB5 := Aside0.mk (below_step HB4.out hb); clear hb b0 b1 b2 b3; have b0 := blk_cell (blk_below HX.out HB5.out) 0; have b1 := blk_cell (blk_below HX.out HB5.out) 1; have b2 := blk_cell (blk_below HX.out HB5.out) 2; have b3 := blk_cell (blk_below HX.out HB5.out) 3; simp only [List.getElem?_toArray, List.getElem?_cons_succ, List.getElem?_cons_zero] at b0 b1 b2 b3))
     clear b0 b1 b2 b3 p3 p4
     go_loopw [55] (fun u55 w' => ∃ i : Nat, i ≤ x.f0.length ∧ u55 = .int .i64 i ∧ Aside0 (allTo (wiB x) i = true) ∧ Aside0 (Below wq.heap.size wq w')) (fun u55 _ => x.f0.length - (intOf u55).toNat)
     case atStart => exact ⟨0, Nat.zero_le _, rfl, ⟨allTo_zero _⟩, HB5⟩
     case round =>
      obtain ⟨i, hi_, rfl, HF, HB7⟩ := hrel
      by_cases hlt : i < x.f0.length
      ·have hmax := HLO.out.2.1
       have hl1 := HE1.out
       have hl2 := HE2.out
       have hi0 : 0 ≤ (i : Int) := by omega
       have hila : (i : Int) < (x.f0.length : Int) := by omega
       have hilb : (i : Int) < (x.f1.length : Int) := by omega
       have hlw : i < ws.length := by omega
       have hlb : i < x.f1.length := by omega
       clear hl1 hl2
       obtain ⟨da, hA, _⟩ := at_T32 HLO.out (i : Int) hi0 (by omega)
       subst hA
       obtain ⟨db, hB, _⟩ := at_T32 HHI.out (i : Int) hi0 (by omega)
       subst hB
       obtain ⟨p, hp⟩ : ∃ p, p = rd_T32 x.f0 (i : Int) := ⟨_, rfl⟩
       obtain ⟨q, hq⟩ : ∃ q, q = rd_T32 x.f1 (i : Int) := ⟨_, rfl⟩
       have HCX := Aside0.mk (show ∀ w', Below wq.heap.size wq w' → w'.cell? (da.add (i * 3)) = some (.int .i64 p.f0) ∧ w'.cell? ⟨(da.add (i * 3)).block, (da.add (i * 3)).off + 1, none⟩ = some (.int .u64 p.f1) ∧ w'.cell? ⟨(da.add (i * 3)).block, (da.add (i * 3)).off + 2, none⟩ = some (.int .u64 p.f2) from fun w' hb => by
        obtain ⟨ad2, e2, h2⟩ := at_T32 (Kd.C_below HLO.out hb) (i : Int) hi0 (by omega)
        injection e2 with e2
        subst e2
        rw [Int.toNat_natCast, show rd_T32 x.f0 (i : Int) = p from hp.symm] at h2
        exact h2)
       have HCY := Aside0.mk (show ∀ w', Below wq.heap.size wq w' → w'.cell? (db.add (i * 3)) = some (.int .i64 q.f0) ∧ w'.cell? ⟨(db.add (i * 3)).block, (db.add (i * 3)).off + 1, none⟩ = some (.int .u64 q.f1) ∧ w'.cell? ⟨(db.add (i * 3)).block, (db.add (i * 3)).off + 2, none⟩ = some (.int .u64 q.f2) from fun w' hb => by
        obtain ⟨ad2, e2, h2⟩ := at_T32 (Kd.C_below HHI.out hb) (i : Int) hi0 (by omega)
        injection e2 with e2
        subst e2
        rw [Int.toNat_natCast, show rd_T32 x.f1 (i : Int) = q from hq.symm] at h2
        exact h2)
       have hpo : okV p := by rw [hp]; exact lx_ok HO0.out hlt
       have hqo : okV q := by rw [hq]; exact lx_ok HO1.out hlb
       have hw := vec_Within_ok hpo hpo hqo
       have HWI := Aside0.mk (show wiB x i = wiV p p q from by unfold wiB lx; rw [← hp, ← hq])
       clear hp hq hpo hqo
       cases e3 : wiV p p q with
       | false =>
        have HWN := Aside0.mk (show vec_Within.f p.f0 p.f1 p.f2 p.f0 p.f1 p.f2 q.f0 q.f1 q.f2 = some false from by rw [hw, e3])
        have HRV := Aside0.mk (show r = 7 from by rw [HRW.out, if_neg (by rw [allTo_no hlw (HWI.out.trans e3)]; simp)])
        clear e3 hw
        go_wp2
        refine start_ (n := 17) (S := fun w' => Below wq.heap.size wq w') (ds := []) #[false, false, false, false, false, false, false, false, false, false, false, false, false, false, false, false, false] (by kernel_rfl) rfl rfl (below_drew1 HB7.out) (fun hHeld => ?_)
        clear HB7
        generalize World.drew _ = w8_ at hHeld ⊢
        refine pl_ [0, 2, 5, 7, 10, 12] ?_
        iterate 6 refine qP rfl rfl ?_
        refine pl0 ?_
        refine take_ (i := 1) (N := some 59) (v := ?_) (a' := ?_) #[true, true, true, false, false, true, false, true, false, false, true, false, true, false, false, false, false] rfl rfl (by kernel_rfl) (fun _ _ _ h => h) (Or.inl ⟨by rfl, ?_⟩) hHeld ?_ ?_
        rotate_left
        ·intro w' hs
         have b0 := blk_cell (blk_below HX.out hs) 0
         simp only [List.getElem?_toArray, List.getElem?_cons_succ, List.getElem?_cons_zero] at b0
         go_simp
         with_reducible rfl
        rotate_left
        ·simp only [Act.put, List.setIfInBounds_toArray, List.set_cons_zero, List.set_cons_succ, i64_w, i32_w]
         rfl
        refine pl_ [3] ?_
        refine qP rfl rfl ?_
        refine pl0 ?_
        refine take_ (i := 4) (N := some 62) (v := ?_) (a' := ?_) #[true, true, true, true, true, true, false, true, false, false, true, false, true, false, false, false, false] rfl rfl (by kernel_rfl) (fun _ _ _ h => h) (Or.inl ⟨by rfl, ?_⟩) hHeld ?_ ?_
        rotate_left
        ·intro w' hs
         obtain ⟨s0, s1, s2⟩ := HCX.out w' hs
         go_simp
         with_reducible rfl
        rotate_left
        ·simp only [Act.put, List.setIfInBounds_toArray, List.set_cons_zero, List.set_cons_succ, i64_w, i32_w]
         rfl
        refine take_ (i := 6) (N := some 64) (v := ?_) (a' := ?_) #[true, true, true, true, true, true, true, true, false, false, true, false, true, false, false, false, false] rfl rfl (by kernel_rfl) (fun _ _ _ h => h) (Or.inl ⟨by rfl, ?_⟩) hHeld ?_ ?_
        rotate_left
        ·intro w' hs
         have b0 := blk_cell (blk_below HX.out hs) 0
         simp only [List.getElem?_toArray, List.getElem?_cons_succ, List.getElem?_cons_zero] at b0
         go_simp
         with_reducible rfl
        rotate_left
        ·simp only [Act.put, List.setIfInBounds_toArray, List.set_cons_zero, List.set_cons_succ, i64_w, i32_w]
         rfl
        refine pl_ [8] ?_
        refine qP rfl rfl ?_
        refine pl0 ?_
        refine take_ (i := 9) (N := some 67) (v := ?_) (a' := ?_) #[true, true, true, true, true, true, true, true, true, true, true, false, true, false, false, false, false] rfl rfl (by kernel_rfl) (fun _ _ _ h => h) (Or.inl ⟨by rfl, ?_⟩) hHeld ?_ ?_
        rotate_left
        ·intro w' hs
         obtain ⟨s0, s1, s2⟩ := HCX.out w' hs
         go_simp
         with_reducible rfl
        rotate_left
        ·simp only [Act.put, List.setIfInBounds_toArray, List.set_cons_zero, List.set_cons_succ, i64_w, i32_w]
         rfl
        refine take_ (i := 11) (N := some 69) (v := ?_) (a' := ?_) #[true, true, true, true, true, true, true, true, true, true, true, true, true, false, false, false, false] rfl rfl (by kernel_rfl) (fun _ _ _ h => h) (Or.inl ⟨by rfl, ?_⟩) hHeld ?_ ?_
        rotate_left
        ·intro w' hs
         have b1 := blk_cell (blk_below HX.out hs) 1
         simp only [List.getElem?_toArray, List.getElem?_cons_succ, List.getElem?_cons_zero] at b1
         go_simp
         with_reducible rfl
        rotate_left
        ·simp only [Act.put, List.setIfInBounds_toArray, List.set_cons_zero, List.set_cons_succ, i64_w, i32_w]
         rfl
        refine pl_ [13] ?_
        refine qP rfl rfl ?_
        refine pl0 ?_
        refine take_ (i := 14) (N := some 72) (v := ?_) (a' := ?_) #[true, true, true, true, true, true, true, true, true, true, true, true, true, true, true, false, false] rfl rfl (by kernel_rfl) (fun _ _ _ h => h) (Or.inl ⟨by rfl, ?_⟩) hHeld ?_ ?_
        rotate_left
        ·intro w' hs
         obtain ⟨s0, s1, s2⟩ := HCY.out w' hs
         go_simp
         with_reducible rfl
        rotate_left
        ·simp only [Act.put, List.setIfInBounds_toArray, List.set_cons_zero, List.set_cons_succ, i64_w, i32_w]
         rfl
        have HH := Aside0.mk hHeld
        clear hHeld
        refine one_ (i := 15) (N := some 73) #[true, true, true, true, true, true, true, true, true, true, true, true, true, true, true, true, false] rfl rfl (by kernel_rfl) (by decide) (fun K hK => ?_)
        refine goes_ Try.func138 (by kernel_rfl) rfl #[.agg #[.int .i64 p.f0, .int .u64 p.f1, .int .u64 p.f2], .agg #[.int .i64 p.f0, .int .u64 p.f1, .int .u64 p.f2], .agg #[.int .i64 q.f0, .int .u64 q.f1, .int .u64 q.f2]] (by rfl) rfl rfl (by simp only [List.map_toArray, List.map_cons, List.map_nil]; first | rfl | (go_simp; done)) ?_
        with_reducible refine (vec_Within.calls p.f0 p.f1 p.f2 p.f0 p.f1 p.f2 q.f0 q.f1 q.f2 false _ HWN.out).mono ?_
        rintro e_ w1 ⟨rfl, hb⟩
        refine ⟨_, rfl, ?_⟩
        have HB8 := Aside0.mk (below_step HH.out hb)
        clear hb HH
        refine hK.out _ _ HB8.out (fun hHeld => ?_)
        clear hK K
        refine norm_ (a' := ?_) ?_ ?_
        rotate_left
        ·show Act.put _ (some 73) _ = _
         simp only [Act.put, List.setIfInBounds_toArray, List.set_cons_zero, List.set_cons_succ, i64_w, i32_w]
         rfl
        refine pl_ [16] ?_
        refine qP rfl rfl ?_
        refine pl0 ?_
        refine done_ (by kernel_rfl) ?_
        have HBC := Aside0.mk hHeld
        clear hHeld
        go_wp2
        go_ret
        exact ⟨by rw [HRV.out]; rfl, below_step HWQ.out HBC.out⟩
       | true =>
        have HWN := Aside0.mk (show vec_Within.f p.f0 p.f1 p.f2 p.f0 p.f1 p.f2 q.f0 q.f1 q.f2 = some true from by rw [hw, e3])
        have HF2 := Aside0.mk (allTo_succ HF.out (HWI.out.trans e3))
        clear e3 hw
        go_wp2
        refine start_ (n := 17) (S := fun w' => Below wq.heap.size wq w') (ds := []) #[false, false, false, false, false, false, false, false, false, false, false, false, false, false, false, false, false] (by kernel_rfl) rfl rfl (below_drew1 HB7.out) (fun hHeld => ?_)
        clear HB7
        generalize World.drew _ = w8_ at hHeld ⊢
        refine pl_ [0, 2, 5, 7, 10, 12] ?_
        iterate 6 refine qP rfl rfl ?_
        refine pl0 ?_
        refine take_ (i := 1) (N := some 59) (v := ?_) (a' := ?_) #[true, true, true, false, false, true, false, true, false, false, true, false, true, false, false, false, false] rfl rfl (by kernel_rfl) (fun _ _ _ h => h) (Or.inl ⟨by rfl, ?_⟩) hHeld ?_ ?_
        rotate_left
        ·intro w' hs
         have b0 := blk_cell (blk_below HX.out hs) 0
         simp only [List.getElem?_toArray, List.getElem?_cons_succ, List.getElem?_cons_zero] at b0
         go_simp
         with_reducible rfl
        rotate_left
        ·simp only [Act.put, List.setIfInBounds_toArray, List.set_cons_zero, List.set_cons_succ, i64_w, i32_w]
         rfl
        refine pl_ [3] ?_
        refine qP rfl rfl ?_
        refine pl0 ?_
        refine take_ (i := 4) (N := some 62) (v := ?_) (a' := ?_) #[true, true, true, true, true, true, false, true, false, false, true, false, true, false, false, false, false] rfl rfl (by kernel_rfl) (fun _ _ _ h => h) (Or.inl ⟨by rfl, ?_⟩) hHeld ?_ ?_
        rotate_left
        ·intro w' hs
         obtain ⟨s0, s1, s2⟩ := HCX.out w' hs
         go_simp
         with_reducible rfl
        rotate_left
        ·simp only [Act.put, List.setIfInBounds_toArray, List.set_cons_zero, List.set_cons_succ, i64_w, i32_w]
         rfl
        refine take_ (i := 6) (N := some 64) (v := ?_) (a' := ?_) #[true, true, true, true, true, true, true, true, false, false, true, false, true, false, false, false, false] rfl rfl (by kernel_rfl) (fun _ _ _ h => h) (Or.inl ⟨by rfl, ?_⟩) hHeld ?_ ?_
        rotate_left
        ·intro w' hs
         have b0 := blk_cell (blk_below HX.out hs) 0
         simp only [List.getElem?_toArray, List.getElem?_cons_succ, List.getElem?_cons_zero] at b0
         go_simp
         with_reducible rfl
        rotate_left
        ·simp only [Act.put, List.setIfInBounds_toArray, List.set_cons_zero, List.set_cons_succ, i64_w, i32_w]
         rfl
        refine pl_ [8] ?_
        refine qP rfl rfl ?_
        refine pl0 ?_
        refine take_ (i := 9) (N := some 67) (v := ?_) (a' := ?_) #[true, true, true, true, true, true, true, true, true, true, true, false, true, false, false, false, false] rfl rfl (by kernel_rfl) (fun _ _ _ h => h) (Or.inl ⟨by rfl, ?_⟩) hHeld ?_ ?_
        rotate_left
        ·intro w' hs
         obtain ⟨s0, s1, s2⟩ := HCX.out w' hs
         go_simp
         with_reducible rfl
        rotate_left
        ·simp only [Act.put, List.setIfInBounds_toArray, List.set_cons_zero, List.set_cons_succ, i64_w, i32_w]
         rfl
        refine take_ (i := 11) (N := some 69) (v := ?_) (a' := ?_) #[true, true, true, true, true, true, true, true, true, true, true, true, true, false, false, false, false] rfl rfl (by kernel_rfl) (fun _ _ _ h => h) (Or.inl ⟨by rfl, ?_⟩) hHeld ?_ ?_
        rotate_left
        ·intro w' hs
         have b1 := blk_cell (blk_below HX.out hs) 1
         simp only [List.getElem?_toArray, List.getElem?_cons_succ, List.getElem?_cons_zero] at b1
         go_simp
         with_reducible rfl
        rotate_left
        ·simp only [Act.put, List.setIfInBounds_toArray, List.set_cons_zero, List.set_cons_succ, i64_w, i32_w]
         rfl
        refine pl_ [13] ?_
        refine qP rfl rfl ?_
        refine pl0 ?_
        refine take_ (i := 14) (N := some 72) (v := ?_) (a' := ?_) #[true, true, true, true, true, true, true, true, true, true, true, true, true, true, true, false, false] rfl rfl (by kernel_rfl) (fun _ _ _ h => h) (Or.inl ⟨by rfl, ?_⟩) hHeld ?_ ?_
        rotate_left
        ·intro w' hs
         obtain ⟨s0, s1, s2⟩ := HCY.out w' hs
         go_simp
         with_reducible rfl
        rotate_left
        ·simp only [Act.put, List.setIfInBounds_toArray, List.set_cons_zero, List.set_cons_succ, i64_w, i32_w]
         rfl
        have HH := Aside0.mk hHeld
        clear hHeld
        refine one_ (i := 15) (N := some 73) #[true, true, true, true, true, true, true, true, true, true, true, true, true, true, true, true, false] rfl rfl (by kernel_rfl) (by decide) (fun K hK => ?_)
        refine goes_ Try.func138 (by kernel_rfl) rfl #[.agg #[.int .i64 p.f0, .int .u64 p.f1, .int .u64 p.f2], .agg #[.int .i64 p.f0, .int .u64 p.f1, .int .u64 p.f2], .agg #[.int .i64 q.f0, .int .u64 q.f1, .int .u64 q.f2]] (by rfl) rfl rfl (by simp only [List.map_toArray, List.map_cons, List.map_nil]; first | rfl | (go_simp; done)) ?_
        with_reducible refine (vec_Within.calls p.f0 p.f1 p.f2 p.f0 p.f1 p.f2 q.f0 q.f1 q.f2 true _ HWN.out).mono ?_
        rintro e_ w1 ⟨rfl, hb⟩
        refine ⟨_, rfl, ?_⟩
        have HB8 := Aside0.mk (below_step HH.out hb)
        clear hb HH
        refine hK.out _ _ HB8.out (fun hHeld => ?_)
        clear hK K
        refine norm_ (a' := ?_) ?_ ?_
        rotate_left
        ·show Act.put _ (some 73) _ = _
         simp only [Act.put, List.setIfInBounds_toArray, List.set_cons_zero, List.set_cons_succ, i64_w, i32_w]
         rfl
        refine pl_ [16] ?_
        refine qP rfl rfl ?_
        refine pl0 ?_
        refine done_ (by kernel_rfl) ?_
        have HBC := Aside0.mk hHeld
        clear hHeld
        go_wp2
        go_roundw
        case measure => first | (simp [intOf]; done) | (simp [intOf]; omega)
        case rel => exact ⟨i + 1, hlt, by go_num, HF2, HBC⟩
      ·have HRV := Aside0.mk (show r = 0 from by have h1 := HE1.out; rw [HRW.out, if_pos (by rw [show ws.length = i from by omega]; exact HF.out)])
       go_wp2
       go_ret
       exact ⟨by rw [HRV.out]; rfl, below_step HWQ.out HB7.out⟩
theorem may_calls (w : World) (g : Nat) (v : Value) (E : Option Addr) (e : Nat) (ws : List Int) (m : Int) (x : S94) (A : Option Addr) (c : Nat) (B : Option Addr) (d : Nat) (hg : w.heap[g]? = some (.cells #[v, .slice E ws.length e, .int .i64 m] 163 (0, 0))) (hE : Kd.C (Kd.int .i64) w E ws.length ws) (hA : Kd.C k32 w A x.f0.length x.f0) (hB : Kd.C k32 w B x.f1.length x.f1) (hok0 : ∀ y ∈ x.f0, okV y) (hok1 : ∀ y ∈ x.f1, okV y) :
 Calls Try.prog 106 #[.pointer (some ⟨g, 0, none⟩), .agg #[.slice A x.f0.length c, .slice B x.f1.length d, .int .i64 x.f2, .int .i64 x.f3]] w fun e_ w' => e_ = .returned (.int .i64 (mayL ws x)) ∧ Below w.heap.size w w' := by
 by_cases h1 : x.f0.length = ws.length
 ·by_cases h2 : x.f1.length = ws.length
  ·exact may_go w g v E e ws m x A c B d hg h1 h2 hE hA hB hok0 hok1
  ·rw [show mayL ws x = 2 from if_neg (fun h => h2 h.2)]
   exact may_len2 w g v E e ws m x A c B d hg h1 h2
 ·rw [show mayL ws x = 2 from if_neg (fun h => h1 h.1)]
  exact may_len1 w g v E e ws m x A c B d hg h1
end Go.Proofs.Ytfdbcnbakchcgaa.XQ
