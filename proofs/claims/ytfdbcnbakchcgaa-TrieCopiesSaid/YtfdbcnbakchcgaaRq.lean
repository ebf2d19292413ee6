import Derived.Test.YtfdbcnbakchcgaaRo
namespace Go.Proofs.Ytfdbcnbakchcgaa.XR
open Go.RowKit Go.Proofs.YtfdbcnbakchcgaaW.PrintWords Go.Proofs.YtfdbcnbakchcgaaW.PrintLast Go.Proofs.YtfdbcnbakchcgaaW.PrintMore
attribute [local go_sem] max2_int min2_int max_two min_two max_three min_three max_four min_four   -- for this text's walks alone
set_option linter.unusedVariables false
set_option linter.unusedSimpArgs false
theorem run_store_fnv (P : Program) (w : World) (a : Addr) (m : Mode) (f : Fn) (x y : Array Value) : (store a (.func f x y) m).run P w = stored P w a (.func f x y) m := run_store P w a _ m rfl
attribute [local go_sem] run_store_fnv
theorem List_nil (w : World) : Calls Try.prog 22 #[.pointer none] w fun e w' => e = .returned (.slice none 0 0) ∧ Below w.heap.size w w' := by
  have HW1 := Aside0.mk (below_alloc (below_alloc (Below.refl w.heap.size w) (.cells #[.pointer none] 24 (0, 0))) (.cells #[.slice none 0 0] 40 (0, 0)))
  go_enter Try.func22, Try.ntmps22
  go_wp2
  go_ret
  exact ⟨rfl, HW1.out⟩
set_option maxHeartbeats 1000000 in
set_option maxRecDepth 100000 in
theorem List_calls (w00 w : World) (g : Nat) (M : NM) (W : Nat) (m N : Int) (l : List TI) (hlen : ∀ y ∈ l, y.len ≤ W ∧ y.key < 2 ^ y.len) (h1 : 1 ≤ W) (h2 : W ≤ 128) (hs : SH M l) (hk : KT w00 w g M (W : Int) m N) (hl : (walkT l (W + 1) 0 0).length ≤ 100000) :
    Calls Try.prog 22 #[.pointer (some ⟨g, 0, none⟩)] w fun e w' => ∃ v, e = .returned v ∧ Kd.R k44 44 w' w.heap.size (fun k => some k = v.ownBlock) v ((walkT l (W + 1) 0 0).map (outT W)) ∧ Below w.heap.size w w' := by
  have e1 : (((w.alloc (.cells #[.pointer (some ⟨g, 0, none⟩)] 24 (0, 0))).alloc (.cells #[.slice none 0 0] 40 (0, 0))).alloc (.cells #[W75 w.heap.size (w.heap.size + 1) (w.heap.size + 1 + 1)] 128 (0, 0))).heap[w.heap.size]? = some (.cells #[.pointer (some ⟨g, 0, none⟩)] 24 (0, 0)) := blk_below (blk_below (blk_new w (.cells #[.pointer (some ⟨g, 0, none⟩)] 24 (0, 0))) (below_alloc (Below.refl _ _) (.cells #[.slice none 0 0] 40 (0, 0)))) (below_alloc (Below.refl _ _) (.cells #[W75 w.heap.size (w.heap.size + 1) (w.heap.size + 1 + 1)] 128 (0, 0)))
  have e2 : (((w.alloc (.cells #[.pointer (some ⟨g, 0, none⟩)] 24 (0, 0))).alloc (.cells #[.slice none 0 0] 40 (0, 0))).alloc (.cells #[W75 w.heap.size (w.heap.size + 1) (w.heap.size + 1 + 1)] 128 (0, 0))).heap[w.heap.size + 1]? = some (.cells #[.slice none 0 0] 40 (0, 0)) := by
    have := blk_below (blk_new (w.alloc (.cells #[.pointer (some ⟨g, 0, none⟩)] 24 (0, 0))) (.cells #[.slice none 0 0] 40 (0, 0))) (below_alloc (Below.refl _ _) (.cells #[W75 w.heap.size (w.heap.size + 1) (w.heap.size + 1 + 1)] 128 (0, 0)))
    simpa using this
  have e3 : (((w.alloc (.cells #[.pointer (some ⟨g, 0, none⟩)] 24 (0, 0))).alloc (.cells #[.slice none 0 0] 40 (0, 0))).alloc (.cells #[.nilFunc] 128 (0, 0))).heap[w.heap.size + 1 + 1]? = some (.cells #[.nilFunc] 128 (0, 0)) := by
    have := blk_new ((w.alloc (.cells #[.pointer (some ⟨g, 0, none⟩)] 24 (0, 0))).alloc (.cells #[.slice none 0 0] 40 (0, 0))) (.cells #[.nilFunc] 128 (0, 0))
    simpa using this
  have f3 : (((w.alloc (.cells #[.pointer (some ⟨g, 0, none⟩)] 24 (0, 0))).alloc (.cells #[.slice none 0 0] 40 (0, 0))).alloc (.cells #[W75 w.heap.size (w.heap.size + 1) (w.heap.size + 1 + 1)] 128 (0, 0))).heap[w.heap.size + 1 + 1]? = some (.cells #[W75 w.heap.size (w.heap.size + 1) (w.heap.size + 1 + 1)] 128 (0, 0)) := by
    have := blk_new ((w.alloc (.cells #[.pointer (some ⟨g, 0, none⟩)] 24 (0, 0))).alloc (.cells #[.slice none 0 0] 40 (0, 0))) (.cells #[W75 w.heap.size (w.heap.size + 1) (w.heap.size + 1 + 1)] 128 (0, 0))
    simpa using this
  have hb : Below w.heap.size w (((w.alloc (.cells #[.pointer (some ⟨g, 0, none⟩)] 24 (0, 0))).alloc (.cells #[.slice none 0 0] 40 (0, 0))).alloc (.cells #[W75 w.heap.size (w.heap.size + 1) (w.heap.size + 1 + 1)] 128 (0, 0))) := below_alloc (below_alloc (below_alloc (Below.refl w.heap.size w) (.cells #[.pointer (some ⟨g, 0, none⟩)] 24 (0, 0))) (.cells #[.slice none 0 0] 40 (0, 0))) (.cells #[W75 w.heap.size (w.heap.size + 1) (w.heap.size + 1 + 1)] 128 (0, 0))
  have HC := Aside0.mk (show CLs w00 w (((w.alloc (.cells #[.pointer (some ⟨g, 0, none⟩)] 24 (0, 0))).alloc (.cells #[.slice none 0 0] 40 (0, 0))).alloc (.cells #[W75 w.heap.size (w.heap.size + 1) (w.heap.size + 1 + 1)] 128 (0, 0))) g w.heap.size (w.heap.size + 1) (w.heap.size + 1 + 1) M W m N (.slice none 0 0) [] from
    ⟨hk, e1, f3, e2, Kd.R_nil _ _ _ _ _, hb, Nat.le_succ _⟩)
  have z0 := blk_cell e3 0
  simp only [List.getElem?_toArray, List.getElem?_cons_succ, List.getElem?_cons_zero] at z0
  have zf0 := blk_frozen e3 0
  have HU := Aside0.mk (walk_calls w00 w g w.heap.size (w.heap.size + 1) (w.heap.size + 1 + 1) M W m N l hlen h1 h2 hs (W + 1))
  have HL := Aside0.mk hl
  clear e1 e2 e3 f3 hb hlen hs hk hl
  go_enter Try.func22, Try.ntmps22
  go_wp2
  change Code.wp _ _ _ _ (((w.alloc (.cells #[.pointer (some ⟨g, 0, none⟩)] 24 (0, 0))).alloc (.cells #[.slice none 0 0] 40 (0, 0))).alloc (.cells #[W75 w.heap.size (w.heap.size + 1) (w.heap.size + 1 + 1)] 128 (0, 0)))
  generalize (((w.alloc (.cells #[.pointer (some ⟨g, 0, none⟩)] 24 (0, 0))).alloc (.cells #[.slice none 0 0] 40 (0, 0))).alloc (.cells #[W75 w.heap.size (w.heap.size + 1) (w.heap.size + 1 + 1)] 128 (0, 0))) = wz at HC ⊢
  refine start_ (n := 7) (S := fun w' => Below wz.heap.size wz w') (ds := [6]) #[false, false, false, false, false, false, false] (by kernel_rfl) rfl rfl (below_drew1 (Below.refl _ _)) (fun hHeld => ?_)
  generalize World.drew _ = wy at hHeld ⊢
  refine take_ (i := 0) (N := some 9) (v := ?_) (a' := ?_) #[true, false, false, false, false, false, false] rfl rfl (by kernel_rfl) (fun _ _ _ h => h) (Or.inl ⟨by rfl, ?_⟩) hHeld ?_ ?_
  rotate_left
  · intro w' hs
    have m0 := blk_cell (HC.out.step hs).bw 0
    simp only [List.getElem?_toArray, List.getElem?_cons_succ, List.getElem?_cons_zero] at m0
    go_simp
    with_reducible rfl
  rotate_left
  · simp only [Act.put, List.setIfInBounds_toArray, List.set_cons_zero, List.set_cons_succ, i64_w, i32_w]
    rfl
  refine take_ (i := 1) (N := some 10) (v := ?_) (a' := ?_) #[true, true, false, false, false, false, false] rfl rfl (by kernel_rfl) (fun _ _ _ h => h) (Or.inl ⟨by rfl, ?_⟩) hHeld ?_ ?_
  rotate_left
  · intro w' hs
    have m0 := blk_cell (HC.out.step hs).bb 0
    simp only [List.getElem?_toArray, List.getElem?_cons_succ, List.getElem?_cons_zero] at m0
    go_simp
    with_reducible rfl
  rotate_left
  · simp only [Act.put, List.setIfInBounds_toArray, List.set_cons_zero, List.set_cons_succ, i64_w, i32_w]
    rfl
  refine pure_ (i := 2) (N := some 11) (v := ?_) (a' := ?_) #[true, true, true, false, false, false, false] rfl rfl (by kernel_rfl) (fun _ _ _ h => h) (Or.inl ⟨by rfl, ?_⟩) ?_ ?_
  rotate_left
  · intro w'
    go_simp
    with_reducible rfl
  rotate_left
  · simp only [Act.put, List.setIfInBounds_toArray, List.set_cons_zero, List.set_cons_succ, i64_w, i32_w]
    rfl
  refine pure_ (i := 3) (N := some 12) (v := ?_) (a' := ?_) #[true, true, true, true, false, false, false] rfl rfl (by kernel_rfl) (fun _ _ _ h => h) (Or.inl ⟨by rfl, ?_⟩) ?_ ?_
  rotate_left
  · intro w'
    go_simp
    with_reducible rfl
  rotate_left
  · simp only [Act.put, List.setIfInBounds_toArray, List.set_cons_zero, List.set_cons_succ, i64_w, i32_w]
    rfl
  refine take_ (i := 4) (N := some 13) (v := ?_) (a' := ?_) #[true, true, true, true, true, false, false] rfl rfl (by kernel_rfl) (fun _ _ _ h => h) (Or.inl ⟨by rfl, ?_⟩) hHeld ?_ ?_
  rotate_left
  · intro w' hs
    have m0 := blk_cell (HC.out.step hs).ktw.blk 0
    simp only [List.getElem?_toArray, List.getElem?_cons_succ, List.getElem?_cons_zero] at m0
    go_simp
    with_reducible rfl
  rotate_left
  · simp only [Act.put, List.setIfInBounds_toArray, List.set_cons_zero, List.set_cons_succ, i64_w, i32_w]
    rfl
  refine pure_ (i := 5) (N := some 14) (v := ?_) (a' := ?_) #[true, true, true, true, true, true, false] rfl rfl (by kernel_rfl) (fun _ _ _ h => h) (Or.inl ⟨by rfl, ?_⟩) ?_ ?_
  rotate_left
  · intro w'
    go_simp
    with_reducible rfl
  rotate_left
  · simp only [Act.put, List.setIfInBounds_toArray, List.set_cons_zero, List.set_cons_succ, i64_w, i32_w]
    rfl
  have HH := Aside0.mk hHeld
  clear hHeld
  refine last_ (i := 6) (N := some 15) #[true, true, true, true, true, true, true] rfl rfl (by kernel_rfl) (by decide) (fun K hK => ?_)
  refine goesW_ Try.func75 (by kernel_rfl) rfl #[sonP M 0 0, .int .i64 0, .agg #[.int .u64 0, .int .u64 0], .pointer (some ⟨w.heap.size, 0, none⟩), .pointer (some ⟨w.heap.size + 1, 0, none⟩), .pointer (some ⟨w.heap.size + 1 + 1, 0, none⟩)] (by rfl) rfl rfl (by rfl) (by simp only [List.map_toArray, List.map_cons, List.map_nil]; rfl) ?_
  with_reducible refine (HU.out.use 0 0 0 0 0 _ (.slice none 0 0) [] rfl (Nat.zero_add _) (fun _ => by rw [Nat.zero_mul]; exact ⟨rfl, rfl⟩) (HC.out.step HH.out) (by rw [List.length_nil, Nat.zero_add]; exact HL.out)).mono ?_
  rintro e_ w4 ⟨rfl, v5, hc5, -, -⟩
  refine ⟨_, rfl, ?_⟩
  refine hK.out _ _ ?_
  clear hK K
  refine norm_ (a' := ?_) ?_ ?_
  rotate_left
  · show Act.put _ (some 15) _ = _
    simp only [Act.put, List.setIfInBounds_toArray, List.set_cons_zero, List.set_cons_succ, i64_w, i32_w]
    rfl
  have s0 := blk_cell hc5.bl 0
  simp only [List.getElem?_toArray, List.getElem?_cons_succ, List.getElem?_cons_zero] at s0
  have HC5 := Aside0.mk hc5
  clear hc5
  refine done_ (by kernel_rfl) ?_
  go_wp2
  go_ret
  exact ⟨_, rfl, HC5.out.row, HC5.out.bel⟩
end Go.Proofs.Ytfdbcnbakchcgaa.XR
