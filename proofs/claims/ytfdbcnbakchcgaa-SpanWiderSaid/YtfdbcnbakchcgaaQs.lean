import Derived.Test.YtfdbcnbakchcgaaQr
import Derived.Test.YtfdbcnbakchcgaaXQx0
import Derived.Deep.RegionLaw
namespace Go.Proofs.Ytfdbcnbakchcgaa.XQ
open Go.RowKit Go.Proofs.YtfdbcnbakchcgaaW.PrintWords Go.Proofs.YtfdbcnbakchcgaaW.PrintLast Go.Proofs.YtfdbcnbakchcgaaW.PrintMore
attribute [local go_sem] max2_int min2_int max_two min_two max_three min_three max_four min_four
set_option linter.unusedVariables false
set_option linter.unusedSimpArgs false
theorem qsinfo : (Try.prog.info? 94).map (fun i => (i.zero, i.size, i.bytes)) = some (some (.agg #[.slice none 0 0, .slice none 0 0, .int .i64 0, .int .i64 0]), 4, 64) := by kernel_rfl
theorem qshsz : (Try.prog.info? 94).map (·.size) = some 4 := by kernel_rfl
theorem qsopened {w : World} {base g c n : Nat} {cs : List Value} (h : w.ownsRow base 94 4 (.slice (some ⟨g, 0, none⟩) n c) n cs) : ∃ cur, w.heap[g]? = some (.cells cur 94 (0, 0)) ∧ base ≤ g ∧ n ≤ c ∧ c ≤ maxLen ∧ cur.size = c * 4 ∧ cs.length = n * 4 ∧ ∀ j v, cs[j]? = some v → w.cell? ⟨g, j, none⟩ = some v := by
 obtain ⟨hl, h⟩ := h
 rcases h with ⟨hv, _⟩ | ⟨g', cap, cur, hv, hb, hh, hnc, hcm, hcs, ht⟩
 ·cases hv
 injection hv with hv1 _ hv3
 injection hv1 with hv1
 injection hv1 with hv1
 subst hv1 hv3
 refine ⟨cur, hh, hb, hnc, hcm, hcs, hl, fun j v hj => ?_⟩
 rw [blk_cell hh j, ← hj, ← ht, List.getElem?_take, if_pos (by rw [← hl]; exact (List.getElem?_eq_some_iff.1 hj).1)]
 simp
theorem qsovl (w : World) (g c n i vb : Nat) (ys : List Value) (cur : Array Value) (hh : w.heap[g]? = some (.cells cur 94 (0, 0))) (hcur : cur.size ≠ 0) (hvb : w.heap[vb]? = some (.cells ys.toArray 94 (0, 0))) (hne : vb ≠ g) (lb cb o : Nat) :
 (callFunc 141 #[.slice (some ⟨vb, 0, none⟩) 1 1, .slice (some ⟨g, o, none⟩) lb cb]).run Try.prog w = .ok (.value (.bool false)) w := by
 rw [run_callFunc_extern Try.func141 (by kernel_rfl) (by kernel_rfl) (by kernel_rfl) (e := Extern.SlicesOverlaps.overlaps #[105, 105] #[4]) (by kernel_rfl),
  Lib.run_overlaps_apart w 105 4 94 Try.underlying105 4 Try.sizeOf94 ⟨vb, 0, none⟩ ⟨g, o, none⟩ 1 1 lb cb hne 94 94 ys.toArray.size cur.size (by simp [World.shape?, hvb]) (by simp [World.shape?, hh]) hcur (blk_frozen hvb 0) (blk_frozen hvb _)]
 rfl
set_option maxHeartbeats 400000 in
set_option maxRecDepth 100000 in
theorem qsins_end (w : World) (base g c n i vb : Nat) (cs ys : List Value) (hown : w.ownsRow base 94 4 (.slice (some ⟨g, 0, none⟩) n c) n cs) (hys : ys.length = 4) (h1 : ∀ u ∈ ys, u.oneCell' = true) (hc1 : ∀ u ∈ cs, u.oneCell' = true) (hvb : w.heap[vb]? = some (.cells ys.toArray 94 (0, 0))) (hne : vb ≠ g) (hn : n ≤ 1000) (hbase : base ≤ w.heap.size) :
 Calls Try.prog 110 #[(.slice (some ⟨g, 0, none⟩) n c), .int .i64 n, .slice (some ⟨vb, 0, none⟩) 1 1] w fun e w' => ∃ v', e = .returned v' ∧ w'.ownsRow base 94 4 v' (n + 1) (insC (n * 4) ys cs) ∧ w.grownBy w' ((.slice (some ⟨g, 0, none⟩) n c) : Value).ownBlock ∧ (v'.ownBlock = ((.slice (some ⟨g, 0, none⟩) n c) : Value).ownBlock ∨ ∃ b, v'.ownBlock = some b ∧ w.heap.size ≤ b) := by
 obtain ⟨cur, hh, hb, hnc, hcm, hcs, hl, hcell⟩ := qsopened hown
 have hO := Aside0.mk hown
 have hV := Aside0.mk (fun (j : Nat) (u : Value) (hj : ys[j]? = some u) => (show w.cell? ((⟨vb, 0, none⟩ : Addr).add j) = some u from by rw [add_plain, blk_cell hvb j]; simpa using hj))
 have hbs := hbase
 obtain ⟨i0, hi, hz0, hz1, hz2⟩ := info_parts qsinfo
 unfold maxLen at hcm
 have hm1 : n + 1 ≤ maxLen := by unfold maxLen; omega
 have HM := Aside0.mk hm1
 clear hown hh hcell hvb hcs hl hbase hm1
 have HTD : Aside0 (insC (n * 4) ys cs = cs ++ ys) := ⟨by have := hO.out.1; unfold insC; rw [List.take_of_length_le (by omega), List.drop_of_length_le (by omega), List.append_nil]⟩
 go_enter Try.func110, Try.ntmps110
 go_wp2_with (at_builtin; refine wpList_append_own_at _ rfl _ _ 105 rfl base 94 i0 _ 4 64 Try.underlying105 hi hz0 hz1 hz2 rfl (by decide) (.slice (some ⟨g, 0, none⟩) n c) n cs rfl hO.out ⟨vb, 0, none⟩ 1 1 ys rfl (by omega) hV.out h1 HM.out (by omega) hbs ?_; intro v' w1 hown1 hg1 _ hat1; have HO1 := Aside0.mk hown1; have HG1 := Aside0.mk hg1; have HA1 := Aside0.mk hat1; clear hown1 hg1 hat1)
 all_goals
  go_ret
  refine ⟨_, rfl, by rw [HTD.out]; exact HO1.out, HG1.out, ?_⟩
  rcases HA1.out with h | h
  ·exact .inl h
  ·exact .inr ⟨_, h, Nat.le_refl _⟩
set_option maxHeartbeats 400000 in
set_option maxRecDepth 100000 in
theorem qsins_nil (w : World) (base vb : Nat) (ys : List Value) (hys : ys.length = 4) (h1 : ∀ u ∈ ys, u.oneCell' = true) (hvb : w.heap[vb]? = some (.cells ys.toArray 94 (0, 0))) (hbase : base ≤ w.heap.size) :
 Calls Try.prog 110 #[.slice none 0 0, .int .i64 0, .slice (some ⟨vb, 0, none⟩) 1 1] w fun e w' => ∃ v', e = .returned v' ∧ w'.ownsRow base 94 4 v' 1 ys ∧ w.grownBy w' none ∧ (v'.ownBlock = none ∨ ∃ b, v'.ownBlock = some b ∧ w.heap.size ≤ b) := by
 have hV := Aside0.mk (fun (j : Nat) (u : Value) (hj : ys[j]? = some u) => (show w.cell? ((⟨vb, 0, none⟩ : Addr).add j) = some u from by rw [add_plain, blk_cell hvb j]; simpa using hj))
 have hbs := hbase
 obtain ⟨i0, hi, hz0, hz1, hz2⟩ := info_parts qsinfo
 clear hvb hbase
 go_enter Try.func110, Try.ntmps110
 go_wp2_with (at_builtin; refine wpList_append_own_at _ rfl _ _ 105 rfl base 94 i0 _ 4 64 Try.underlying105 hi hz0 hz1 hz2 rfl (by decide) (.slice none 0 0) 0 [] rfl (own_nil _ _ _ _) ⟨vb, 0, none⟩ 1 1 ys rfl (by omega) hV.out h1 (by decide) (by omega) hbs ?_; intro v' w1 hown1 hg1 _ hat1; have HO1 := Aside0.mk hown1; have HG1 := Aside0.mk hg1; have HA1 := Aside0.mk hat1; clear hown1 hg1 hat1)
 go_ret
 refine ⟨_, rfl, HO1.out, HG1.out, ?_⟩
 rcases HA1.out with h | h
 ·exact .inl h
 ·exact .inr ⟨_, h, Nat.le_refl _⟩
set_option maxHeartbeats 2000000 in
set_option maxRecDepth 100000 in
theorem qsins_shift (w : World) (base g c n i vb : Nat) (cs ys : List Value) (hown : w.ownsRow base 94 4 (.slice (some ⟨g, 0, none⟩) n c) n cs) (hys : ys.length = 4) (h1 : ∀ u ∈ ys, u.oneCell' = true) (hc1 : ∀ u ∈ cs, u.oneCell' = true) (hvb : w.heap[vb]? = some (.cells ys.toArray 94 (0, 0))) (hne : vb ≠ g) (hn : n ≤ 1000) (hi : i < n) (hroom : n + 1 ≤ c) :
 Calls Try.prog 110 #[(.slice (some ⟨g, 0, none⟩) n c), .int .i64 i, .slice (some ⟨vb, 0, none⟩) 1 1] w fun e w' => ∃ v', e = .returned v' ∧ w'.ownsRow base 94 4 v' (n + 1) (insC (i * 4) ys cs) ∧ w.grownBy w' ((.slice (some ⟨g, 0, none⟩) n c) : Value).ownBlock ∧ (v'.ownBlock = ((.slice (some ⟨g, 0, none⟩) n c) : Value).ownBlock ∨ ∃ b, v'.ownBlock = some b ∧ w.heap.size ≤ b) := by
 obtain ⟨cur, hh, hb, hnc, hcm, hcs, hl, hcell⟩ := qsopened hown
 have hov := qsovl w g c n i vb ys cur hh (by omega) hvb hne
 have hmi : (i + 1) * 4 ≤ n * 4 := Nat.mul_le_mul_right 4 (by omega)
 have hmc : (n + 1) * 4 ≤ c * 4 := Nat.mul_le_mul_right 4 hroom
 have hdl : (cs.drop (i * 4)).length = (n - i) * 4 := by rw [List.length_drop, hl]; omega
 have hin : i ≤ n := by omega
 unfold maxLen at hcm
 have hc63 : c ≤ 9223372036854775807 := hcm
 have hsp : ∀ j, j < c * 4 → (w.drew.cell? ⟨g, j, none⟩).isSome = true := fun j hj => isSome_row (w := w.drew) hh j (by omega)
 have hfz : ∀ j, w.drew.frozen? ⟨g, j, none⟩ = false := fun j => blk_frozen (w := w.drew) hh j
 have hcp1 : ∀ ty dc sc, (Builtin.copy_ #[105, 105] ty #[.slice (some ⟨g, (i + 1) * 4, none⟩) (n - i) dc, .slice (some ⟨g, i * 4, none⟩) (n + 1 - i) sc]).run Try.prog w.drew = .ok (goInt (n - i : Nat)) (w.drew.setCells g ((i + 1) * 4) (cs.drop (i * 4))) := fun ty dc sc => by
  have h := run_copyK (P := Try.prog) w.drew 105 105 ty 94 g ((i + 1) * 4) (n - i) dc ⟨g, i * 4, none⟩ (n + 1 - i) sc (cs.drop (i * 4)) 4 Try.underlying105 qshsz (by rw [hdl, show Nat.min (n + 1 - i) (n - i) = n - i from by simp only [Nat.min_def]; split <;> omega])
   (fun j v hj => by rw [add_at]; exact hcell _ v (by rwa [List.getElem?_drop] at hj))
   (fun j hj => hsp _ (by omega)) (fun j hj => hfz _) (fun v hv => hc1 v (List.mem_of_mem_drop hv))
  rw [show Nat.min (n + 1 - i) (n - i) = n - i from by simp only [Nat.min_def]; split <;> omega] at h
  exact h
 obtain ⟨W1, hW1⟩ : ∃ W1, W1 = w.drew.setCells g ((i + 1) * 4) (cs.drop (i * 4)) := ⟨_, rfl⟩
 have hsp1 : ∀ k, k < c * 4 → (W1.cell? ⟨g, k, none⟩).isSome = true := fun k hk => by
  rw [hW1]
  exact isSome_set g _ _ _ (fun j hj => hsp _ (by omega)) _ (hsp k hk)
 have hcp2 : ∀ ty dc, (Builtin.copy_ #[105, 105] ty #[.slice (some ⟨g, i * 4, none⟩) (n + 1 - i) dc, .slice (some ⟨vb, 0, none⟩) 1 1]).run Try.prog W1 = .ok (goInt (1 : Nat)) (W1.setCells g (i * 4) ys) := fun ty dc => by
  have h := run_copyK (P := Try.prog) W1 105 105 ty 94 g (i * 4) (n + 1 - i) dc ⟨vb, 0, none⟩ 1 1 ys 4 Try.underlying105 qshsz (by rw [hys, show Nat.min 1 (n + 1 - i) = 1 from by simp only [Nat.min_def]; split <;> omega])
   (fun j v hj => by
    rw [add_plain, hW1, World.cell?_setCells_out g _ _ _ _ (fun h _ => absurd h hne)]
    exact (blk_cell (w := w.drew) hvb j).trans (by simpa using hj))
   (fun j hj => hsp1 _ (by omega)) (fun j hj => by rw [hW1, World.frozen?_setCells]; exact hfz _) h1
  rw [show Nat.min 1 (n + 1 - i) = 1 from by simp only [Nat.min_def]; split <;> omega] at h
  exact h
 have HF := Aside0.mk (own_shift (W := w.drew) (W' := W1.setCells g (i * 4) ys) hown hroom hin hys (by rw [hW1]))
 have HG := Aside0.mk (show w.grownBy (W1.setCells g (i * 4) ys) (some g) from by
  have g1 : w.drew.grownBy W1 (some g) := by rw [hW1]; exact grown_setCells g _ _
  have g2 := grown_setCells (w := W1) g (i * 4) ys
  exact ⟨g2.os.trans g1.os, g2.tape.trans g1.tape, g2.output.trans g1.output, Nat.le_trans g1.size g2.size, fun k hk hne2 => (g2.block k (Nat.lt_of_lt_of_le hk g1.size) hne2).trans (g1.block k hk hne2)⟩)
 have HC1 := Aside0.mk hcp1
 have HC2 := Aside0.mk hcp2
 have HOV := Aside0.mk hov
 rw [← hW1] at HC1
 have hz2 : ¬ ((i : Int) = (n : Int)) := by omega
 have hw1 : IntKind.i64.wrap ((i : Int) + 1) = (i : Int) + 1 := by rw [IntKind.wrap_i64]; omega
 have hb1 : (0 : Int) ≤ (i : Int) + 1 := by omega
 have htn : ((i : Int) + 1).toNat = i + 1 := by omega
 have hb2 : ¬ (c = i + 1) := by omega
 have hb4 : ¬ (c = i) := by omega
 have hb3 : (i : Int) ≤ (n : Int) + 1 := by omega
 clear hown hh hcell hvb hcs hl hdl hcp1 hcp2 hW1 hov hsp hfz hsp1 hcm hmi hmc hb
 go_enter Try.func110, Try.ntmps110
 go_wp2_with (simp only [HOV.out])
 go_region_law (refine step_copyR rfl _ _ 105 105 rfl (.slice (some ⟨g, (i + 1) * 4, none⟩) (n - i) (c - (i + 1))) (.slice (some ⟨g, i * 4, none⟩) (n + 1 - i) (c - i)) (by simp [Act.eval, Act.put]) (by simp [Act.eval, Act.put]) (HC1.out 3 (c - (i + 1)) (c - i)) ?_)
 go_wp2_with (with_reducible refine wpList_copyR _ rfl (.tmp 80) (.tmp 81) 105 105 rfl (.slice (some ⟨g, i * 4, none⟩) (n + 1 - i) (c - i)) (.slice (some ⟨vb, 0, none⟩) 1 1) rfl rfl (HC2.out _ _) ?_)
 go_ret
 exact ⟨_, rfl, HF.out, HG.out, .inl rfl⟩
set_option maxHeartbeats 2000000 in
set_option maxRecDepth 100000 in
theorem qsins_grow (w : World) (base g c n i vb : Nat) (cs ys : List Value) (hown : w.ownsRow base 94 4 (.slice (some ⟨g, 0, none⟩) n c) n cs) (hys : ys.length = 4) (h1 : ∀ u ∈ ys, u.oneCell' = true) (hc1 : ∀ u ∈ cs, u.oneCell' = true) (hvb : w.heap[vb]? = some (.cells ys.toArray 94 (0, 0))) (hne : vb ≠ g) (hn : n ≤ 1000) (hi : i < n) (hroom : c < n + 1) (hbase : base ≤ w.heap.size) :
 Calls Try.prog 110 #[(.slice (some ⟨g, 0, none⟩) n c), .int .i64 i, .slice (some ⟨vb, 0, none⟩) 1 1] w fun e w' => ∃ v', e = .returned v' ∧ w'.ownsRow base 94 4 v' (n + 1) (insC (i * 4) ys cs) ∧ w.grownBy w' ((.slice (some ⟨g, 0, none⟩) n c) : Value).ownBlock ∧ (v'.ownBlock = ((.slice (some ⟨g, 0, none⟩) n c) : Value).ownBlock ∨ ∃ b, v'.ownBlock = some b ∧ w.heap.size ≤ b) := by
 obtain ⟨cur, hh, hb, hnc, hcm, hcs, hl, hcell⟩ := qsopened hown
 obtain ⟨i0, hi0, hz0, hzs, hzb⟩ := info_parts qsinfo
 have hmi : (i + 1) * 4 ≤ n * 4 := Nat.mul_le_mul_right 4 (by omega)
 have hdl : (cs.drop (i * 4)).length = (n - i) * 4 := by rw [List.length_drop, hl]; omega
 have hin : i ≤ n := by omega
 have hik : i + (n + 1 - i) = n + 1 := by omega
 have hkk : (n : Int) + 1 - (i : Int) = ((n + 1 - i : Nat) : Int) := by omega
 unfold maxLen at hcm
 have hbw : g < w.heap.size := blk_lt hh
 have hvw : vb < w.heap.size := blk_lt hvb
 have hold : (Builtin.firstCells i0.size i (.slice (some ⟨g, 0, none⟩) i c)).run Try.prog w.drew = .ok (cs.take (i * 4)).toArray w.drew := by
  rw [hzs]
  exact run_firstCells_some w.drew 4 i ⟨g, 0, none⟩ i c (cs.take (i * 4)) (by rw [List.length_take]; omega) (fun j v hj => by
   rw [add_plain]
   rw [List.getElem?_take] at hj
   split at hj
   ·exact hcell j v hj
   ·cases hj)
 have hrz : ∀ ty, (Builtin.append_ #[105, 3] ty #[.slice (some ⟨g, 0, none⟩) i c, .int .i64 ((n : Int) + 1 - (i : Int))]).run Try.prog w =
  .ok (.slice (some ⟨w.heap.size, 0, none⟩) (n + 1) (grownCap w (n + 1) c 94)) (w.drew.alloc (.cells ((cs.take (i * 4)).toArray ++ Builtin.zeroCells ((.agg #[.slice none 0 0, .slice none 0 0, .int .i64 0, .int .i64 0]) : Value).cells (n + 1 - i) ++ Builtin.zeroCells ((.agg #[.slice none 0 0, .slice none 0 0, .int .i64 0, .int .i64 0]) : Value).cells (grownCap w (n + 1) c 94 - (n + 1))) 94)) := fun ty => by
  have h := Lib.run_append_grow_zeros w 105 3 ty 94 i0 _ .i64 .i64 Try.underlying105 Try.underlying3 hi0 hz0 (some ⟨g, 0, none⟩) i c (cs.take (i * 4)) hold (n + 1 - i) (by omega) (by omega) (by omega) (by omega) (by rw [hzb]; omega) (by rw [hzb, hik]; exact growslice_fits hroom (by omega))
  rw [hik] at h
  rw [hkk]
  exact h
 obtain ⟨G, hG⟩ : ∃ G, G = grownCap w (n + 1) c 94 := ⟨_, rfl⟩
 obtain ⟨ROW, hROW⟩ : ∃ ROW : Array Value, ROW = (cs.take (i * 4)).toArray ++ Builtin.zeroCells ((.agg #[.slice none 0 0, .slice none 0 0, .int .i64 0, .int .i64 0]) : Value).cells (n + 1 - i) ++ Builtin.zeroCells ((.agg #[.slice none 0 0, .slice none 0 0, .int .i64 0, .int .i64 0]) : Value).cells (G - (n + 1)) := ⟨_, rfl⟩
 rw [← hG] at hrz
 rw [← hROW] at hrz
 have hGn : n + 1 ≤ G := by rw [hG]; exact grownCap_ge w _ _ _
 have hGmx : G ≤ maxLen := by rw [hG]; exact grownCap_le_maxLen w (n + 1) c 94 (by unfold maxLen; omega)
 have hRs : ROW.size = G * 4 := by
  have hzc : ((.agg #[.slice none 0 0, .slice none 0 0, .int .i64 0, .int .i64 0]) : Value).cells.size = 4 := rfl
  rw [hROW]
  simp only [Array.size_append, List.size_toArray, size_zeroCells, hzc, List.length_take, hl]
  omega
 have hRt : ROW.toList.take (i * 4) = cs.take (i * 4) := by
  rw [hROW, Array.append_assoc, Array.toList_append]
  exact List.take_left' (by simp only [List.length_take, hl]; omega)
 have hG63 : G ≤ 9223372036854775807 := by unfold maxLen at hGmx; omega
 obtain ⟨W1, hW1⟩ : ∃ W1, W1 = w.drew.alloc (.cells ROW 94) := ⟨_, rfl⟩
 rw [← hW1] at hrz
 have hRB : W1.heap[w.heap.size]? = some (.cells ROW 94 (0, 0)) := by rw [hW1]; exact blk_new w.drew _
 have hN : ∀ j, j < (n + 1) * 4 → (W1.cell? ⟨w.heap.size, j, none⟩).isSome = true := fun j hj => isSome_row hRB j (by rw [hRs]; have := Nat.mul_le_mul_right 4 hGn; omega)
 have hNf : ∀ j, W1.frozen? ⟨w.heap.size, j, none⟩ = false := fun j => blk_frozen hRB j
 have hOld : ∀ k, k < w.heap.size → W1.heap[k]? = w.heap[k]? := fun k hk => by rw [hW1]; exact (Below.heap_alloc w.drew _ k hk)
 have hcpA : ∀ ty dc, (Builtin.copy_ #[105, 105] ty #[.slice (some ⟨w.heap.size, i * 4, none⟩) (n + 1 - i) dc, .slice (some ⟨vb, 0, none⟩) 1 1]).run Try.prog W1 = .ok (goInt (1 : Nat)) (W1.setCells w.heap.size (i * 4) ys) := fun ty dc => by
  have h := run_copyK (P := Try.prog) W1 105 105 ty 94 w.heap.size (i * 4) (n + 1 - i) dc ⟨vb, 0, none⟩ 1 1 ys 4 Try.underlying105 qshsz (by rw [hys, show Nat.min 1 (n + 1 - i) = 1 from by simp only [Nat.min_def]; split <;> omega])
   (fun j v hj => by rw [add_plain, blk_cell ((hOld vb hvw).trans hvb) j]; simpa using hj)
   (fun j hj => hN _ (by omega)) (fun j hj => hNf _) h1
  rw [show Nat.min 1 (n + 1 - i) = 1 from by simp only [Nat.min_def]; split <;> omega] at h
  exact h
 obtain ⟨W2, hW2⟩ : ∃ W2, W2 = W1.setCells w.heap.size (i * 4) ys := ⟨_, rfl⟩
 rw [← hW2] at hcpA
 have hgN : g ≠ w.heap.size := by omega
 have hN2 : ∀ j, j < (n + 1) * 4 → (W2.cell? ⟨w.heap.size, j, none⟩).isSome = true := fun j hj => by rw [hW2]; exact isSome_set _ _ _ _ (fun t ht => hN _ (by omega)) _ (hN _ hj)
 have hcpB : ∀ ty dc sc, (Builtin.copy_ #[105, 105] ty #[.slice (some ⟨w.heap.size, (i + 1) * 4, none⟩) (n - i) dc, .slice (some ⟨g, i * 4, none⟩) (n - i) sc]).run Try.prog W2.drew = .ok (goInt (n - i : Nat)) (W2.drew.setCells w.heap.size ((i + 1) * 4) (cs.drop (i * 4))) := fun ty dc sc => by
  have h := run_copyK (P := Try.prog) W2.drew 105 105 ty 94 w.heap.size ((i + 1) * 4) (n - i) dc ⟨g, i * 4, none⟩ (n - i) sc (cs.drop (i * 4)) 4 Try.underlying105 qshsz (by rw [hdl, show Nat.min (n - i) (n - i) = n - i from by simp only [Nat.min_def]; split <;> omega])
   (fun j v hj => by
    rw [add_at]
    have e : W2.drew.cell? ⟨g, i * 4 + j, none⟩ = w.cell? ⟨g, i * 4 + j, none⟩ := by
     refine World.cell?_of_block ?_
     show W2.heap[g]? = w.heap[g]?
     rw [hW2, setCells_far _ _ g hgN, hOld g hbw]
    rw [e]
    exact hcell _ v (by rwa [List.getElem?_drop] at hj))
   (fun j hj => hN2 _ (by omega)) (fun j hj => by
    show W2.frozen? _ = false
    rw [hW2, World.frozen?_setCells]
    exact hNf _) (fun v hv => hc1 v (List.mem_of_mem_drop hv))
  rw [show Nat.min (n - i) (n - i) = n - i from by simp only [Nat.min_def]; split <;> omega] at h
  exact h
 obtain ⟨W3, hW3⟩ : ∃ W3, W3 = W2.drew.setCells w.heap.size ((i + 1) * 4) (cs.drop (i * 4)) := ⟨_, rfl⟩
 rw [← hW3] at hcpB
 have HF := Aside0.mk (own_grow (W := W1) (W' := W3) (e := 94) hbase hl hin hys hGn hGmx hRB hRs hRt (by
  rw [hW3, hW2]
  obtain ⟨c1, k1, k2, k3⟩ := setCells_row (e := 94) ys (i * 4) W1 ROW hRB (by rw [hRs]; have := Nat.mul_le_mul_right 4 hGn; omega)
  obtain ⟨c2, m1, m2, m3⟩ := setCells_row (e := 94) (cs.drop (i * 4)) ((i + 1) * 4) _ c1 k1 (by rw [k2, hRs, hdl]; have := Nat.mul_le_mul_right 4 hGn; omega)
  obtain ⟨c3, p1, p2, p3⟩ := setCells_row (e := 94) (cs.drop (i * 4)) ((i + 1) * 4) (W1.setCells w.heap.size (i * 4) ys).drew c1 k1 (by rw [k2, hRs, hdl]; have := Nat.mul_le_mul_right 4 hGn; omega)
  rw [m1, p1]
  congr 2
  exact Array.ext' (p3.trans m3.symm)))
 have HG := Aside0.mk (show w.grownBy W3 (some g) from by
  have g1 : W1.grownBy W2 (some w.heap.size) := by rw [hW2]; exact grown_setCells _ _ _
  have g2 : W2.drew.grownBy W3 (some w.heap.size) := by rw [hW3]; exact grown_setCells _ _ _
  have e1 : W1.os = w.os ∧ W1.tape = w.tape ∧ W1.output = w.output ∧ W1.heap.size = w.heap.size + 1 := by rw [hW1]; exact ⟨rfl, rfl, rfl, by simp⟩
  refine ⟨g2.os.trans (g1.os.trans e1.1), g2.tape.trans (g1.tape.trans e1.2.1), g2.output.trans (g1.output.trans e1.2.2.1), ?_, fun k hk _ => ?_⟩
  ·have := g1.size; have := g2.size; have h3 : W2.drew.heap.size = W2.heap.size := rfl; omega
  ·have hk1 : k < W1.heap.size := by omega
   have hk2 : k < W2.drew.heap.size := Nat.lt_of_lt_of_le hk1 g1.size
   have hkn : some k ≠ some w.heap.size := by simp; omega
   exact (g2.block k hk2 hkn).trans ((g1.block k hk1 hkn).trans (hOld k hk)))
 have HRZ := Aside0.mk hrz
 have HCA := Aside0.mk hcpA
 have HCB := Aside0.mk hcpB
 have hz2 : ¬ ((i : Int) = (n : Int)) := by omega
 have hz3 : (c : Int) < (n : Int) + 1 := by omega
 have hw1 : IntKind.i64.wrap ((i : Int) + 1) = (i : Int) + 1 := by rw [IntKind.wrap_i64]; omega
 have hb1 : (0 : Int) ≤ (i : Int) + 1 := by omega
 have htn : ((i : Int) + 1).toNat = i + 1 := by omega
 have hGi : ¬ (G = i) := by omega
 have hGim : ¬ (G = i + 1) := by omega
 have hci : ¬ (c = i) := by omega
 have hb3 : (i : Int) ≤ (n : Int) := by omega
 have hgl : g < w.heap.size := hbw
 clear hown hh hcell hvb hcs hl hdl hcpA hcpB hW1 hW2 hW3 hN hNf hN2 hOld hRB hRs hRt hROW hG hGmx hrz hold hkk hik hcm hmi hb hi0 hz0 hzs hzb hgN hbw
 go_enter Try.func110, Try.ntmps110
 go_wp2_with (first
  | (at_builtin; refine Lib.wpList_append_run _ rfl _ _ _ _ rfl _ _ rfl rfl _ _ (HRZ.out _) ?_)
  | (with_reducible refine wpList_copyR _ rfl (.tmp 43) (.tmp 44) 105 105 rfl (.slice (some ⟨w.heap.size, i * 4, none⟩) (n + 1 - i) (G - i)) (.slice (some ⟨vb, 0, none⟩) 1 1) rfl rfl (HCA.out _ _) ?_))
 go_region_law (refine step_copyR rfl _ _ 105 105 rfl (.slice (some ⟨w.heap.size, (i + 1) * 4, none⟩) (n - i) (G - (i + 1))) (.slice (some ⟨g, i * 4, none⟩) (n - i) (c - i)) (by simp [Act.eval, Act.put]) (by simp [Act.eval, Act.put]) (HCB.out 3 (G - (i + 1)) (c - i)) ?_)
 go_wp2
 go_ret
 exact ⟨_, rfl, HF.out, HG.out, .inr ⟨_, rfl, Nat.le_refl _⟩⟩
theorem qvinfo : (Try.prog.info? 32).map (fun i => (i.zero, i.size, i.bytes)) = some (some (.agg #[.int .i64 0, .int .u64 0, .int .u64 0]), 3, 24) := by kernel_rfl
set_option maxHeartbeats 1000000 in
set_option maxRecDepth 100000 in
theorem qvclone (A : Option Addr) (n c : Nat) (w : World) (news : List Value) (hl : news.length = n * 3) (h1 : ∀ u ∈ news, u.oneCell' = true) (hA : A = none → n = 0) (hcell : ∀ ad, A = some ad → ∀ j u, news[j]? = some u → w.cell? (ad.add j) = some u) (hn : n ≤ 1000) (hc : n ≤ c) :
 Calls Try.prog 143 #[.slice A n c] w fun e w' => ∃ v', e = .returned v' ∧ w'.ownsRow w.heap.size 32 3 v' n news ∧ Below w.heap.size w w' := by
 obtain ⟨i0, hi, hz0, hz1, hz2⟩ := info_parts qvinfo
 have hnil := fun (W : World) => Lib.run_eql_slice_nil (P := Try.prog) W 85 32 A n c 0 0 Try.underlying85
 cases A with
 | none =>
  obtain rfl := hA rfl
  have hnl : news = [] := List.eq_nil_of_length_eq_zero (by omega)
  subst hnl
  clear hcell
  go_enter Try.func143, Try.ntmps143
  go_wp2
  go_ret
  exact ⟨_, rfl, own_nil _ _ _ _, Below.refl _ _⟩
 | some ad =>
  have HC := Aside0.mk (fun j u hj => (below_alloc (Below.refl w.heap.size w) (.cells #[] 32 (0, 0))).cell (World.block_lt_of_cell? w _ (hcell ad rfl j u hj)) |>.trans (hcell ad rfl j u hj))
  have HO := Aside0.mk (show (w.alloc (.cells #[] 32 (0, 0))).ownsRow w.heap.size 32 3 (.slice (some ⟨w.heap.size, 0, none⟩) 0 0) 0 [] from ⟨rfl, .inr ⟨w.heap.size, 0, #[], rfl, Nat.le_refl _, blk_new w _, Nat.le_refl _, by decide, rfl, rfl⟩⟩)
  have HM := Aside0.mk (show 0 + n ≤ maxLen by unfold maxLen; omega)
  clear hcell
  go_enter Try.func143, Try.ntmps143
  go_wp2_with (at_builtin; refine wpList_append_own_at _ rfl _ _ 85 rfl w.heap.size 32 i0 _ 3 24 Try.underlying85 hi hz0 hz1 hz2 rfl (by decide) (.slice (some ⟨w.heap.size, 0, none⟩) 0 0) 0 [] rfl HO.out ad n c news rfl hl HC.out h1 HM.out (by omega) (by simp) ?_; intro v' w1 hown1 hg1 _ hat1; have HO1 := Aside0.mk hown1; have HG1 := Aside0.mk hg1; have HA1 := Aside0.mk hat1; clear hown1 hg1 hat1)
  go_ret
  refine ⟨_, rfl, by simpa using HO1.out, ?_⟩
  exact (below_alloc (Below.refl _ _) _).grown HG1.out (by simp) (fun k hk => by simp [Value.ownBlock] at hk; omega)
theorem qiinfo : (Try.prog.info? 3).map (fun i => (i.zero, i.size, i.bytes)) = some (some (.int .i64 0), 1, 8) := by kernel_rfl
set_option maxHeartbeats 1000000 in
set_option maxRecDepth 100000 in
theorem qiclone (A : Option Addr) (n c : Nat) (w : World) (news : List Value) (hl : news.length = n * 1) (h1 : ∀ u ∈ news, u.oneCell' = true) (hA : A = none → n = 0) (hcell : ∀ ad, A = some ad → ∀ j u, news[j]? = some u → w.cell? (ad.add j) = some u) (hn : n ≤ 1000) (hc : n ≤ c) :
 Calls Try.prog 105 #[.slice A n c] w fun e w' => ∃ v', e = .returned v' ∧ w'.ownsRow w.heap.size 3 1 v' n news ∧ Below w.heap.size w w' := by
 obtain ⟨i0, hi, hz0, hz1, hz2⟩ := info_parts qiinfo
 have hnil := fun (W : World) => Lib.run_eql_slice_nil (P := Try.prog) W 84 3 A n c 0 0 Try.underlying84
 cases A with
 | none =>
  obtain rfl := hA rfl
  have hnl : news = [] := List.eq_nil_of_length_eq_zero (by omega)
  subst hnl
  clear hcell
  go_enter Try.func105, Try.ntmps105
  go_wp2
  go_ret
  exact ⟨_, rfl, own_nil _ _ _ _, Below.refl _ _⟩
 | some ad =>
  have HC := Aside0.mk (fun j u hj => (below_alloc (Below.refl w.heap.size w) (.cells #[] 3 (0, 0))).cell (World.block_lt_of_cell? w _ (hcell ad rfl j u hj)) |>.trans (hcell ad rfl j u hj))
  have HO := Aside0.mk (show (w.alloc (.cells #[] 3 (0, 0))).ownsRow w.heap.size 3 1 (.slice (some ⟨w.heap.size, 0, none⟩) 0 0) 0 [] from ⟨rfl, .inr ⟨w.heap.size, 0, #[], rfl, Nat.le_refl _, blk_new w _, Nat.le_refl _, by decide, rfl, rfl⟩⟩)
  have HM := Aside0.mk (show 0 + n ≤ maxLen by unfold maxLen; omega)
  clear hcell
  go_enter Try.func105, Try.ntmps105
  go_wp2_with (at_builtin; refine wpList_append_own_at _ rfl _ _ 84 rfl w.heap.size 3 i0 _ 1 8 Try.underlying84 hi hz0 hz1 hz2 rfl (by decide) (.slice (some ⟨w.heap.size, 0, none⟩) 0 0) 0 [] rfl HO.out ad n c news rfl hl HC.out h1 HM.out (by omega) (by simp) ?_; intro v' w1 hown1 hg1 _ hat1; have HO1 := Aside0.mk hown1; have HG1 := Aside0.mk hg1; have HA1 := Aside0.mk hat1; clear hown1 hg1 hat1)
  go_ret
  refine ⟨_, rfl, by simpa using HO1.out, ?_⟩
  exact (below_alloc (Below.refl _ _) _).grown HG1.out (by simp) (fun k hk => by simp [Value.ownBlock] at hk; omega)
end Go.Proofs.Ytfdbcnbakchcgaa.XQ
