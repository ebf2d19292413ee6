import Derived.Test.YtfdbcnbakchcgaaSv
import Derived.Test.YtfdbcnbakchcgaaQe
namespace Go.Proofs.Ytfdbcnbakchcgaa.XQ
open Go.RowKit Go.Proofs.YtfdbcnbakchcgaaW.PrintWords Go.Proofs.YtfdbcnbakchcgaaW.PrintLast Go.Proofs.YtfdbcnbakchcgaaW.PrintMore
attribute [local go_sem] max2_int min2_int max_two min_two max_three min_three max_four min_four
set_option linter.unusedVariables false
set_option linter.unusedSimpArgs false
theorem R94_setN {w : World} {base : Nat} {ok : Nat → Prop} {g2 n c : Nat} {xs : List S94} (h : Kd.R k94 94 w base ok (.slice (some ⟨g2, 0, none⟩) n c) xs) (i : Nat) (hi : i < xs.length) (u : Int) :
 Kd.R k94 94 (w.setCell ⟨g2, i * 4 + 3, none⟩ (.int .i64 u)) base ok (.slice (some ⟨g2, 0, none⟩) n c) (xs.set i { rd_T94 xs (i : Int) with f3 := u }) := by
 obtain ⟨hn, _, _⟩ := Kd.R_reads' h
 obtain ⟨hok, inner, hown, hr⟩ := h
 rw [← hn] at hown
 obtain ⟨hl, hx⟩ := hown
 rcases hx with ⟨hv, _⟩ | ⟨g', cap, cur, hv, hb, hh, hnc, hcm, hcs, ht⟩
 ·cases hv
 injection hv with hv1 _ hv3
 injection hv1 with hv1
 injection hv1 with hv1
 subst hv1 hv3
 change inner.length = n * 4 at hl
 have hx : xs[i]? = some (rd_T94 xs (i : Int)) := by simp [rd_T94, List.getD_eq_getElem?_getD, hi]
 have hr2 := hr.imp_ (fun p q hp => k94.M_move (w1 := w.setCell ⟨g2, i * 4 + 3, none⟩ (.int .i64 u)) (fun k' hk' => Below.heap_setCell _ _ _ _ (fun he => hk'.2 (by rw [he]; rfl))) hp)
 have hM := hr2.2 i _ hx
 obtain ⟨v0, v1, hc8, hr0, hr1⟩ := k94_openM hM
 change (inner.drop (i * 4)).take 4 = _ at hc8
 have hin : (i + 1) * 4 ≤ n * 4 := Nat.mul_le_mul_right 4 (by omega)
 generalize rd_T94 xs (i : Int) = y at *
 have hset : inner.set (i * 4 + 3) (.int .i64 u) = inner.take (i * 4) ++ [v0, v1, .int .i64 y.f2, .int .i64 u] ++ inner.drop (i * 4 + 4) := by
  have hsplit : inner = inner.take (i * 4) ++ ([v0, v1, .int .i64 y.f2, .int .i64 y.f3] ++ inner.drop (i * 4 + 4)) := by
   rw [← hc8, ← List.drop_drop, List.take_append_drop, List.take_append_drop]
  have hlt : (inner.take (i * 4)).length = i * 4 := by rw [List.length_take]; omega
  conv => lhs; rw [hsplit]
  rw [List.set_append_right _ _ (by rw [hlt]; omega), hlt, show i * 4 + 3 - i * 4 = 3 by omega]
  simp
 refine ⟨hok, inner.set (i * 4 + 3) (.int .i64 u), ?_, ?_⟩
 ·rw [List.length_set, ← hn]
  refine ⟨by rw [List.length_set]; exact hl, .inr ⟨g2, c, cur.setIfInBounds (i * 4 + 3) (.int .i64 u), rfl, hb, blk_set hh _ _, hnc, hcm, by rw [Array.size_setIfInBounds]; exact hcs, ?_⟩⟩
  rw [Array.toList_setIfInBounds, List.take_set, ht]
 ·rw [hset]
  exact Kd.reps_set hr2 (i := i) hi (k94_mkM _ _ _ { y with f3 := u } hr0 hr1) rfl
set_option maxHeartbeats 1000000 in
set_option maxRecDepth 100000 in
theorem Set_ok (w0 w : World) (g : Nat) (v wv : Value) (xs : List S94) (ws : List Int) (m : Int) (x : S94) (A : Option Addr) (c : Nat) (B : Option Addr) (d : Nat) (h : LK w0 w g v wv xs ws m) (hA : Kd.C k32 w A x.f0.length x.f0) (hB : Kd.C k32 w B x.f1.length x.f1) (hok0 : ∀ y ∈ x.f0, okV y) (hok1 : ∀ y ∈ x.f1, okV y) (hm : mayL ws x = 0) (i : Nat) (hf : idxT (fun y => sameI y x) xs 0 = (i : Int)) (hi : i < xs.length) (hn : xs.length ≤ 1000) :
 Calls Try.prog 64 #[.pointer (some ⟨g, 0, none⟩), .agg #[.slice A x.f0.length c, .slice B x.f1.length d, .int .i64 x.f2, .int .i64 x.f3]] w fun e w' => e = .returned (.int .i64 0) ∧ LP w0 w w' g v v wv (xs.set i { rd_T94 xs (i : Int) with f3 := x.f3 }) ws m := by
 have HM := Aside0.mk hm
 have HF := Aside0.mk hf
 clear hm hf
 obtain ⟨g2, cX, rfl, hg20, hg21⟩ : ∃ g2 c, v = .slice (some ⟨g2, 0, none⟩) xs.length c ∧ w0.heap.size ≤ g2 ∧ g2 < w.heap.size := by
  obtain ⟨a, b, d, e, f, _⟩ := Kd.R_form h.row (by omega)
  exact ⟨a, b, d, e, f⟩
 have hgg : g2 ≠ g := h.row.1 g2 rfl
 obtain ⟨E, e, rfl⟩ := Kd.V_slice h.wid
 have HT0 := Aside0.mk (h.step (below_alloc (Below.refl _ _) (.cells #[.slice A x.f0.length c, .slice B x.f1.length d, .int .i64 x.f2, .int .i64 x.f3] 94 (0, 0))))
 have HC0 := Aside0.mk (show CB w.heap.size A c B d x (w.alloc (.cells #[.slice A x.f0.length c, .slice B x.f1.length d, .int .i64 x.f2, .int .i64 x.f3] 94 (0, 0))) from ⟨blk_new w _, Kd.C_alloc hA _, Kd.C_alloc hB _⟩)
 have HB0 := Aside0.mk (below_alloc (Below.refl w.heap.size w) (.cells #[.slice A x.f0.length c, .slice B x.f1.length d, .int .i64 x.f2, .int .i64 x.f3] 94 (0, 0)))
 have HK0 := Aside0.mk hok0
 have HK1 := Aside0.mk hok1
 have HW0 := Aside0.mk h
 clear h hA hB hok0 hok1
 have b0 := blk_cell HC0.out.blk 0
 have b1 := blk_cell HC0.out.blk 1
 have b2 := blk_cell HC0.out.blk 2
 have b3 := blk_cell HC0.out.blk 3
 have l0 := blk_cell HT0.out.blk 0
 have l1 := blk_cell HT0.out.blk 1
 have l2 := blk_cell HT0.out.blk 2
 simp only [List.getElem?_toArray, List.getElem?_cons_succ, List.getElem?_cons_zero] at b0 b1 b2 b3 l0 l1 l2
 go_enter Try.func64, Try.ntmps64
 go_wp2_with (first | (go_at_call 106; with_reducible refine (may_calls _ g _ E e ws m x A c B d HT0.out.blk (Kd.V_reads' HT0.out.wid).2.2 HC0.out.lo HC0.out.hi HK0.out HK1.out).mono ?_; rintro e_ w1 ⟨rfl, hb⟩; rw [HM.out]; have HT1 := Aside0.mk (HT0.out.step hb); have HC1 := Aside0.mk (HC0.out.step hb); have HB1 := Aside0.mk (below_step HB0.out hb); clear hb b0 b1 b2 b3 l0 l1 l2; have b0 := blk_cell HC1.out.blk 0; have b1 := blk_cell HC1.out.blk 1; have b2 := blk_cell HC1.out.blk 2; have b3 := blk_cell HC1.out.blk 3; have l0 := blk_cell HT1.out.blk 0; have l1 := blk_cell HT1.out.blk 1; have l2 := blk_cell HT1.out.blk 2; simp only [List.getElem?_toArray, List.getElem?_cons_succ, List.getElem?_cons_zero] at b0 b1 b2 b3 l0 l1 l2) | (go_at_call 107; with_reducible refine (find_calls w0 _ g _ _ xs ws m x A c B d HT1.out HC1.out.lo HC1.out.hi hn).mono ?_; rintro e_ w2 ⟨rfl, hb⟩; rw [HF.out]; have HT2 := Aside0.mk (HT1.out.step hb); have HC2 := Aside0.mk (HC1.out.step hb); have HB2 := Aside0.mk (below_step HB1.out hb); clear hb b0 b1 b2 b3 l0 l1 l2; have b0 := blk_cell HC2.out.blk 0; have b1 := blk_cell HC2.out.blk 1; have b2 := blk_cell HC2.out.blk 2; have b3 := blk_cell HC2.out.blk 3; have l0 := blk_cell HT2.out.blk 0; have l1 := blk_cell HT2.out.blk 1; have l2 := blk_cell HT2.out.blk 2; simp only [List.getElem?_toArray, List.getElem?_cons_succ, List.getElem?_cons_zero] at b0 b1 b2 b3 l0 l1 l2))
 obtain ⟨ad, a1, c1, a2, c2, hA, p0, p1, p2, p3, _⟩ := at_T94 (Kd.R_reads' HT2.out.row).2.2 (i : Int) (by omega) (by omega)
 cases hA
 rw [Int.toNat_natCast] at p3
 obtain ⟨cells0, hblk⟩ : ∃ cs, w2.heap[g2]? = some (.cells cs 94 (0, 0)) := by
  obtain ⟨a, b, d, e, f, cs, hcs⟩ := Kd.R_form HT2.out.row (by omega)
  injection d with d1
  injection d1 with d1
  injection d1 with d1
  subst d1
  exact ⟨cs, hcs⟩
 rw [add_plain] at p3
 have p3' : w2.cell? ⟨g2, i * 4 + 3, none⟩ = some (.int .i64 (rd_T94 xs (i : Int)).f3) := p3
 have HBL := Aside0.mk hblk
 have HP3 := Aside0.mk p3'
 clear p0 p1 p2 p3 p3' hblk
 have hi0 : 0 ≤ (i : Int) := by omega
 have hil : (i : Int) < (xs.length : Int) := by omega
 clear b0 b1 b2 b3 l0 l1 l2
 refine start_ (n := 10) (S := fun w' => w'.heap[w.heap.size]? = some (.cells #[.slice A x.f0.length c, .slice B x.f1.length d, .int .i64 x.f2, .int .i64 x.f3] 94 (0, 0)) ∧ w'.heap[g]? = some (.cells #[.slice (some ⟨g2, 0, none⟩) xs.length cX, .slice E ws.length e, .int .i64 m] 163 (0, 0))) (ds := [9]) #[false, false, false, false, false, false, false, false, false, false] (by kernel_rfl) rfl rfl ⟨blk_drew HC2.out.blk, blk_drew HT2.out.blk⟩ (fun hHeld => ?_)
 have HT3 := Aside0.mk (HT2.out.step (below_drew1 (Below.refl _ _)))
 have HC3 := Aside0.mk (HC2.out.step (below_drew1 (Below.refl _ _)))
 have HB3 := Aside0.mk (below_drew1 HB2.out)
 have HBL3 := Aside0.mk (blk_drew HBL.out)
 have HP4 := Aside0.mk (show w2.drew.cell? ⟨g2, i * 4 + 3, none⟩ = some (.int .i64 (rd_T94 xs (i : Int)).f3) from HP3.out)
 generalize World.drew _ = w3 at HT3 HC3 HB3 HBL3 HP4 hHeld ⊢
 refine pl_ [0, 1, 2, 4, 5] ?_
 iterate 5 refine qP rfl rfl ?_
 refine pl0 ?_
 refine take_ (i := 3) (N := some 21) (v := ?_) (a' := ?_) #[true, true, true, true, true, true, false, false, false, false] rfl rfl (by kernel_rfl) (fun _ _ _ h => h) (Or.inl ⟨by rfl, ?_⟩) hHeld ?_ ?_
 rotate_left
 ·intro w' hs
  have l0 := blk_cell hs.2 0
  simp only [List.getElem?_toArray, List.getElem?_cons_succ, List.getElem?_cons_zero] at l0
  go_simp
  with_reducible rfl
 rotate_left
 ·simp only [Act.put, List.setIfInBounds_toArray, List.set_cons_zero, List.set_cons_succ, i64_w, i32_w]
  rfl
 refine take_ (i := 6) (N := some 24) (v := ?_) (a' := ?_) #[true, true, true, true, true, true, true, false, false, false] rfl rfl (by kernel_rfl) (fun _ _ _ h => h) (Or.inl ⟨by rfl, ?_⟩) hHeld ?_ ?_
 rotate_left
 ·intro w' hs
  have b3 := blk_cell (hs.1) 3
  simp only [List.getElem?_toArray, List.getElem?_cons_succ, List.getElem?_cons_zero] at b3
  go_simp
  with_reducible rfl
 rotate_left
 ·simp only [Act.put, List.setIfInBounds_toArray, List.set_cons_zero, List.set_cons_succ, i64_w, i32_w]
  rfl
 refine pl_ [7, 8] ?_
 iterate 2 refine qP rfl rfl ?_
 refine pl0 ?_
 refine last_ (i := 9) (N := none) #[true, true, true, true, true, true, true, true, true, true] rfl rfl (by kernel_rfl) (by decide) (fun K hK => ?_)
 have q3 := HP4.out
 have qf := blk_frozen HBL3.out (i * 4 + 3)
 refine skip_ (w1 := ?_) (by rfl) rfl ?_ ?_
 rotate_left
 ·go_simp
  rfl
 refine hK.out _ _ ?_
 clear hK K
 refine done_ (by kernel_rfl) ?_
 go_wp2
 have hkp := (Kept.of_below HB3.out (fun k => k = g ∨ some k = (Value.slice (some ⟨g2, 0, none⟩) xs.length cX).ownBlock)).setCell (p := ⟨g2, i * 4 + 3, none⟩) (.inl (.inr rfl)) (Value.int .i64 x.f3)
 refine bodyPost_ret (by simp [results, Try.results64, go_sem]) rfl ⟨rfl, ⟨blk_far HT3.out.blk (fun q => hgg q.symm) _, R94_setN HT3.out.row i hi x.f3, V_beside HW0.out.wid hkp (.inl rfl), HW0.out.ge, ?_⟩, hkp, .inl rfl⟩
 exact HT3.out.below.setCell (p := ⟨g2, i * 4 + 3, none⟩) (Kd.R_base HT3.out.row g2 rfl) _
theorem del_at (w : World) (base : Nat) (ok : Nat → Prop) (g c n k : Nat) (xs : List S94) (hR : Kd.R k94 94 w base ok (.slice (some ⟨g, 0, none⟩) n c) xs) (hk : k < n) (hm : n ≤ 1000) :
 Calls Try.prog 120 #[.slice (some ⟨g, 0, none⟩) n c, .int .i64 k, .int .i64 ((k : Int) + 1)] w fun e w' => e = .returned (.slice (some ⟨g, 0, none⟩) (n - 1) c) ∧ Kd.R k94 94 w' base ok (.slice (some ⟨g, 0, none⟩) (n - 1) c) (xs.eraseIdx k) ∧ w.grownBy w' (some g) := by
 obtain ⟨m, rfl⟩ : ∃ m, n = m + 1 := ⟨n - 1, by omega⟩
 exact qsdel k94 rfl w base ok g c m k xs hR (by omega) (by omega)
set_option maxHeartbeats 1000000 in
set_option maxRecDepth 100000 in
theorem Drop_ok (w0 w : World) (g : Nat) (v wv : Value) (xs : List S94) (ws : List Int) (m : Int) (x : S94) (A : Option Addr) (c : Nat) (B : Option Addr) (d : Nat) (h : LK w0 w g v wv xs ws m) (hA : Kd.C k32 w A x.f0.length x.f0) (hB : Kd.C k32 w B x.f1.length x.f1) (hok0 : ∀ y ∈ x.f0, okV y) (hok1 : ∀ y ∈ x.f1, okV y) (hm : mayL ws x = 0) (i : Nat) (hf : idxT (fun y => sameI y x) xs 0 = (i : Int)) (hi : i < xs.length) (hn : xs.length ≤ 1000) :
 Calls Try.prog 65 #[.pointer (some ⟨g, 0, none⟩), .agg #[.slice A x.f0.length c, .slice B x.f1.length d, .int .i64 x.f2, .int .i64 x.f3]] w fun e w' => e = .returned (.int .i64 0) ∧ ∃ v1, LP w0 w w' g v v1 wv (xs.eraseIdx i) ws m := by
 have HM := Aside0.mk hm
 have HF := Aside0.mk hf
 clear hm hf
 obtain ⟨g2, cX, rfl, hg20, hg21⟩ : ∃ g2 c, v = .slice (some ⟨g2, 0, none⟩) xs.length c ∧ w0.heap.size ≤ g2 ∧ g2 < w.heap.size := by
  obtain ⟨a, b, d, e, f, _⟩ := Kd.R_form h.row (by omega)
  exact ⟨a, b, d, e, f⟩
 have hgg : g2 ≠ g := h.row.1 g2 rfl
 obtain ⟨E, e, rfl⟩ := Kd.V_slice h.wid
 have HT0 := Aside0.mk (h.step (below_alloc (Below.refl _ _) (.cells #[.slice A x.f0.length c, .slice B x.f1.length d, .int .i64 x.f2, .int .i64 x.f3] 94 (0, 0))))
 have HC0 := Aside0.mk (show CB w.heap.size A c B d x (w.alloc (.cells #[.slice A x.f0.length c, .slice B x.f1.length d, .int .i64 x.f2, .int .i64 x.f3] 94 (0, 0))) from ⟨blk_new w _, Kd.C_alloc hA _, Kd.C_alloc hB _⟩)
 have HB0 := Aside0.mk (below_alloc (Below.refl w.heap.size w) (.cells #[.slice A x.f0.length c, .slice B x.f1.length d, .int .i64 x.f2, .int .i64 x.f3] 94 (0, 0)))
 have HK0 := Aside0.mk hok0
 have HK1 := Aside0.mk hok1
 have HW0 := Aside0.mk h
 clear h hA hB hok0 hok1
 have b0 := blk_cell HC0.out.blk 0
 have b1 := blk_cell HC0.out.blk 1
 have b2 := blk_cell HC0.out.blk 2
 have b3 := blk_cell HC0.out.blk 3
 have l0 := blk_cell HT0.out.blk 0
 have l1 := blk_cell HT0.out.blk 1
 have l2 := blk_cell HT0.out.blk 2
 simp only [List.getElem?_toArray, List.getElem?_cons_succ, List.getElem?_cons_zero] at b0 b1 b2 b3 l0 l1 l2
 go_enter Try.func65, Try.ntmps65
 go_wp2_with (first | (go_at_call 106; with_reducible refine (may_calls _ g _ E e ws m x A c B d HT0.out.blk (Kd.V_reads' HT0.out.wid).2.2 HC0.out.lo HC0.out.hi HK0.out HK1.out).mono ?_; rintro e_ w1 ⟨rfl, hb⟩; rw [HM.out]; have HT1 := Aside0.mk (HT0.out.step hb); have HC1 := Aside0.mk (HC0.out.step hb); have HB1 := Aside0.mk (below_step HB0.out hb); clear hb b0 b1 b2 b3 l0 l1 l2; have b0 := blk_cell HC1.out.blk 0; have b1 := blk_cell HC1.out.blk 1; have b2 := blk_cell HC1.out.blk 2; have b3 := blk_cell HC1.out.blk 3; have l0 := blk_cell HT1.out.blk 0; have l1 := blk_cell HT1.out.blk 1; have l2 := blk_cell HT1.out.blk 2; simp only [List.getElem?_toArray, List.getElem?_cons_succ, List.getElem?_cons_zero] at b0 b1 b2 b3 l0 l1 l2) | (go_at_call 107; with_reducible refine (find_calls w0 _ g _ _ xs ws m x A c B d HT1.out HC1.out.lo HC1.out.hi hn).mono ?_; rintro e_ w2 ⟨rfl, hb⟩; rw [HF.out]; have HT2 := Aside0.mk (HT1.out.step hb); have HC2 := Aside0.mk (HC1.out.step hb); have HB2 := Aside0.mk (below_step HB1.out hb); clear hb b0 b1 b2 b3 l0 l1 l2; have b0 := blk_cell HC2.out.blk 0; have b1 := blk_cell HC2.out.blk 1; have b2 := blk_cell HC2.out.blk 2; have b3 := blk_cell HC2.out.blk 3; have l0 := blk_cell HT2.out.blk 0; have l1 := blk_cell HT2.out.blk 1; have l2 := blk_cell HT2.out.blk 2; simp only [List.getElem?_toArray, List.getElem?_cons_succ, List.getElem?_cons_zero] at b0 b1 b2 b3 l0 l1 l2) | (go_at_call 120; refine (del_at _ w0.heap.size (fun k => k ≠ g) g2 cX xs.length i xs HT2.out.row hi hn).mono ?_; rintro e_ w3 ⟨rfl, hR, hgr⟩; have HR3 := Aside0.mk hR; have HGR := Aside0.mk hgr; have HBK := Aside0.mk ((hgr.block g HT2.out.lt (fun q => hgg (by injection q with q; exact q.symm))).trans HT2.out.blk); clear hR hgr b0 b1 b2 b3 l0 l1 l2; have l0 := blk_cell HBK.out 0; have l1 := blk_cell HBK.out 1; have l2 := blk_cell HBK.out 2; have lf := blk_frozen HBK.out; simp only [List.getElem?_toArray, List.getElem?_cons_succ, List.getElem?_cons_zero] at l0 l1 l2))
 have hkp := (Kept.of_grown HGR.out (Kept.of_below HB2.out (fun k => k = g ∨ some k = (Value.slice (some ⟨g2, 0, none⟩) xs.length cX).ownBlock)) (fun k hk => .inl (.inr hk.symm))).setCell (p := ⟨g, 0, none⟩) (.inl (.inl rfl)) (Value.slice (some ⟨g2, 0, none⟩) (xs.length - 1) cX)
 refine bodyPost_ret (by simp [results, Try.results65, go_sem]) rfl ⟨rfl, _, ⟨⟨blk_put HBK.out 0 _ rfl, Kd.R_far HR3.out (p := ⟨g, 0, none⟩) (fun k hk => hk) _, V_beside HW0.out.wid hkp (.inl rfl), HW0.out.ge, ?_⟩, hkp, .inl rfl⟩⟩
 exact below_set (HT2.out.below.grown HGR.out (below_size HT2.out.below) (fun k hk => Kd.R_base HT2.out.row k hk)) HW0.out.ge
set_option maxHeartbeats 1000000 in
set_option maxRecDepth 100000 in
theorem Len_nil (w : World) : Calls Try.prog 59 #[.pointer none] w fun e w' => e = .returned (.int .i64 0) ∧ w' = w := by
 go_enter Try.func59, Try.ntmps59
 go_wp2
 go_ret
 exact ⟨rfl, rfl⟩
set_option maxHeartbeats 1000000 in
set_option maxRecDepth 100000 in
theorem List_nil (w : World) : Calls Try.prog 61 #[.pointer none] w fun e w' => e = .returned (.slice none 0 0) ∧ w' = w := by
 go_enter Try.func61, Try.ntmps61
 go_wp2
 go_ret
 exact ⟨rfl, rfl⟩
set_option maxHeartbeats 1000000 in
set_option maxRecDepth 100000 in
theorem Copy_nil (w : World) : Calls Try.prog 66 #[.pointer none] w fun e w' => e = .returned (.pointer none) ∧ w' = w := by
 go_enter Try.func66, Try.ntmps66
 go_wp2
 go_ret
 exact ⟨rfl, rfl⟩
set_option maxHeartbeats 1000000 in
set_option maxRecDepth 100000 in
theorem Get_nil (A : Option Addr) (n c : Nat) (w : World) : Calls Try.prog 56 #[.pointer none, .slice A n c] w fun e w' => e = .returned (.tuple #[.int .i64 0, .int .i64 0, .bool false]) ∧ w' = w := by
 go_enter Try.func56, Try.ntmps56
 go_wp2
 go_ret3
 exact ⟨rfl, rfl⟩
def getA (p : S94 → Bool) (xs : List S94) : Int × Int × Bool := match xs.find? p with | none => (0, 0, false) | some y => (y.f3, y.f2, true)
theorem rd94 (xs : List S94) (i : Nat) (hi : i < xs.length) : rd_T94 xs (i : Int) = xs[i] := by simp [rd_T94, List.getD_eq_getElem?_getD, hi]
theorem getA_hit (p : S94 → Bool) (xs : List S94) (i : Nat) (hi : i < xs.length) (h : ∀ j, j < i → p (rd_T94 xs (j : Int)) = false) (hp : p (rd_T94 xs (i : Int)) = true) : getA p xs = ((rd_T94 xs (i : Int)).f3, (rd_T94 xs (i : Int)).f2, true) := by
 unfold getA
 have hx : xs = xs.take i ++ xs[i] :: xs.drop (i + 1) := by rw [← List.drop_eq_getElem_cons hi, List.take_append_drop]
 have hr := rd94 xs i hi
 have hn : (xs.take i).find? p = none := List.find?_eq_none.2 (fun y hy => by
  obtain ⟨j, hj, rfl⟩ := List.mem_iff_getElem.1 hy
  have hj2 : j < i ∧ j < xs.length := by rw [List.length_take] at hj; omega
  have := h j hj2.1
  rw [rd94 xs j hj2.2] at this
  rw [List.getElem_take, this]; simp)
 have hf : xs.find? p = some xs[i] := by
  conv => lhs; rw [hx]
  rw [List.find?_append, hn, Option.none_or, List.find?_cons_of_pos (by rw [← hr]; exact hp)]
 rw [hf, hr]
theorem getA_miss (p : S94 → Bool) (xs : List S94) (h : ∀ j, j < xs.length → p (rd_T94 xs (j : Int)) = false) : getA p xs = (0, 0, false) := by
 unfold getA
 rw [List.find?_eq_none.2 (fun y hy => by
  obtain ⟨j, hj, rfl⟩ := List.mem_iff_getElem.1 hy
  have := h j hj
  rw [rd94 xs j hj] at this
  rw [this]; simp)]
def meetL (key : List S32) (y : S94) : Bool := allTo (fun i => wiV (lx key i) (lx y.f0 i) (lx y.f1 i)) key.length
def okL (n : Nat) (y : S94) : Prop := y.f0.length = n ∧ y.f1.length = n ∧ (∀ z ∈ y.f0, okV z) ∧ (∀ z ∈ y.f1, okV z)
theorem meets_eq (key : List S32) (y : S94) (hk : ∀ z ∈ key, okV z) (hy : okL key.length y) (hm : key.length ≤ 1000) : span_meets.f 2000 key y.f0 y.f1 y.f2 y.f3 = some (meetL key y) := by
 unfold span_meets.f
 have go : ∀ (d i k : Nat), i + d = key.length → d < k → allTo (fun i => wiV (lx key i) (lx y.f0 i) (lx y.f1 i)) i = true → span_meets.l0 k key (key.length : Int) (i : Int) y.f0 y.f1 y.f2 y.f3 = some (meetL key y) := by
  intro d
  induction d with
  | zero =>
   intro i k h1 h2 h3
   obtain ⟨k, rfl⟩ : ∃ q, k = q + 1 := ⟨k - 1, by omega⟩
   obtain rfl : i = key.length := by omega
   unfold span_meets.l0
   rw [if_neg (by omega)]
   unfold meetL
   rw [h3]
  | succ d ih =>
   intro i k h1 h2 h3
   obtain ⟨k, rfl⟩ : ∃ q, k = q + 1 := ⟨k - 1, by omega⟩
   have hi : i < key.length := by omega
   have e0 := hy.1
   have e1 := hy.2.1
   have hw := vec_Within_ok (lx_ok hk hi) (lx_ok hy.2.2.1 (show i < y.f0.length by omega)) (lx_ok hy.2.2.2 (show i < y.f1.length by omega))
   unfold lx at hw
   have hs : wrap64 ((i : Int) + 1) = ((i + 1 : Nat) : Int) := by unfold wrap64; omega
   unfold span_meets.l0
   rw [if_pos (by omega)]
   repeat (first | rw [if_pos (by omega)] | rw [hw] | rw [Option.bind_some])
   cases hb : wiV (rd_T32 key (i : Int)) (rd_T32 y.f0 (i : Int)) (rd_T32 y.f1 (i : Int)) with
   | true =>
    rw [if_pos rfl, hs]
    exact ih (i + 1) k (by omega) (by omega) (allTo_succ h3 hb)
   | false =>
    rw [if_neg (by simp)]
    unfold meetL
    rw [allTo_no hi (p := fun i => wiV (lx key i) (lx y.f0 i) (lx y.f1 i)) hb]
 exact go key.length 0 2000 (by omega) (by omega) (allTo_zero _)
set_option maxHeartbeats 1000000 in
set_option maxRecDepth 100000 in
theorem Get_len (w0 w : World) (g : Nat) (v wv : Value) (xs : List S94) (ws : List Int) (m : Int) (A : Option Addr) (c : Nat) (key : List S32) (h : LK w0 w g v wv xs ws m) (hl : ¬ key.length = ws.length) :
 Calls Try.prog 56 #[.pointer (some ⟨g, 0, none⟩), .slice A key.length c] w fun e_ w' => e_ = .returned (.tuple #[.int .i64 0, .int .i64 0, .bool false]) ∧ Below w.heap.size w w' := by
 obtain ⟨AX, cX, rfl⟩ := Kd.R_slice h.row
 obtain ⟨E, e, rfl⟩ := Kd.V_slice h.wid
 have HB := Aside0.mk (Below.refl w.heap.size w)
 have g1 : ((key.length : Int) != (ws.length : Int)) = true := by simpa using (fun hh => hl (by omega))
 have l0 := blk_cell h.blk 0
 have l1 := blk_cell h.blk 1
 simp only [List.getElem?_toArray, List.getElem?_cons_succ, List.getElem?_cons_zero] at l0 l1
 clear h hl
 go_enter Try.func56, Try.ntmps56
 go_wp2
 go_ret3
 exact ⟨rfl, HB.out⟩
set_option maxHeartbeats 1000000 in
set_option maxRecDepth 100000 in
theorem Get_go (w0 w : World) (g : Nat) (v wv : Value) (xs : List S94) (ws : List Int) (m : Int) (A : Option Addr) (c : Nat) (key : List S32) (h : LK w0 w g v wv xs ws m) (hA : Kd.C k32 w A key.length key) (hc : key.length ≤ c) (hok : ∀ z ∈ key, okV z) (hl : key.length = ws.length) (hx : ∀ y ∈ xs, okL ws.length y) (hn : xs.length ≤ 1000) (hkm : key.length ≤ 1000) :
 Calls Try.prog 56 #[.pointer (some ⟨g, 0, none⟩), .slice A key.length c] w fun e_ w' => e_ = .returned (.tuple #[.int .i64 (getA (meetL key) xs).1, .int .i64 (getA (meetL key) xs).2.1, .bool (getA (meetL key) xs).2.2]) ∧ Below w.heap.size w w' := by
 obtain ⟨AX, cX, rfl⟩ := Kd.R_slice h.row
 obtain ⟨E, e, rfl⟩ := Kd.V_slice h.wid
 have HT := Aside0.mk h
 have HK := Aside0.mk hA
 have HKO := Aside0.mk hok
 have HOK := Aside0.mk hx
 have HN := Aside0.mk hn
 have HCL := Aside0.mk hc
 have HLK := Aside0.mk hl
 have HMX := Aside0.mk (show key.length ≤ 1000 from hkm)
 have g1 : ((key.length : Int) != (ws.length : Int)) = false := by simp [hl]
 have l0 := blk_cell h.blk 0
 have l1 := blk_cell h.blk 1
 simp only [List.getElem?_toArray, List.getElem?_cons_succ, List.getElem?_cons_zero] at l0 l1
 clear h hA hok hx hl hc hn hkm
 go_enter Try.func56, Try.ntmps56
 go_wp2
 clear l0 l1 g1
 go_loopw [26] (fun u26 w' => ∃ i : Nat, i ≤ xs.length ∧ u26 = .int .i64 i ∧ Aside0 (∀ j, j < i → meetL key (rd_T94 xs (j : Int)) = false) ∧ Aside0 (Below w.heap.size w w')) (fun u26 _ => xs.length - (intOf u26).toNat)
 case atStart => exact ⟨0, Nat.zero_le _, rfl, ⟨fun j hj => by omega⟩, ⟨Below.refl _ _⟩⟩
 case round =>
  obtain ⟨i, hi, rfl, HNO, HB7⟩ := hrel
  by_cases hlt : i < xs.length
  ·have hn := HN.out
   have hi0 : 0 ≤ (i : Int) := by omega
   have hil : (i : Int) < (xs.length : Int) := by omega
   have HT1 := Aside0.mk (HT.out.step HB7.out)
   obtain ⟨ad, A1, c1, B1, d1, hA, p0, p1, p2, p3, hx0, hL1, hx1, hM1⟩ := at_T94 (Kd.R_reads' HT1.out.row).2.2 (i : Int) (by omega) (by omega)
   subst hA
   rw [Int.toNat_natCast] at p0 p1 p2 p3
   have hmem : rd_T94 xs (i : Int) ∈ xs := by rw [rd94 xs i hlt]; exact List.getElem_mem hlt
   have HME := Aside0.mk (meets_eq key (rd_T94 xs (i : Int)) HKO.out (by rw [HLK.out]; exact HOK.out _ hmem) HMX.out)
   have HHIT := Aside0.mk (getA_hit (meetL key) xs i hlt HNO.out)
   have HNX := Aside0.mk (fun (hq : meetL key (rd_T94 xs (i : Int)) = false) (j : Nat) (hj : j < i + 1) => (show meetL key (rd_T94 xs (j : Int)) = false from by
    rcases Nat.lt_or_ge j i with q | q
    ·exact HNO.out j q
    ·obtain rfl : j = i := by omega
     exact hq))
   clear hmem
   generalize rd_T94 xs (i : Int) = y at *
   have HY := Aside0.mk (blk_new wr (.cells #[.slice A1 y.f0.length c1, .slice B1 y.f1.length d1, .int .i64 y.f2, .int .i64 y.f3] 94 (0, 0)))
   have HB8 := Aside0.mk (below_alloc HB7.out (.cells #[.slice A1 y.f0.length c1, .slice B1 y.f1.length d1, .int .i64 y.f2, .int .i64 y.f3] 94 (0, 0)))
   have HL1 := Aside0.mk (Kd.C_alloc hL1 (.cells #[.slice A1 y.f0.length c1, .slice B1 y.f1.length d1, .int .i64 y.f2, .int .i64 y.f3] 94 (0, 0)))
   have HM1 := Aside0.mk (Kd.C_alloc hM1 (.cells #[.slice A1 y.f0.length c1, .slice B1 y.f1.length d1, .int .i64 y.f2, .int .i64 y.f3] 94 (0, 0)))
   have HX0 := Aside0.mk hx0
   have HX1 := Aside0.mk hx1
   have HKW := Aside0.mk (Kd.C_below HK.out HB8.out)
   clear hL1 hM1 hx0 hx1
   cases hpy : meetL key y with
   | false =>
    rw [hpy] at HME
    have HMV := Aside0.mk HME.out
    have HNO2 := Aside0.mk (HNX.out hpy)
    clear hpy HME
    go_wp2_with (first | (go_at_call 112; with_reducible refine (span_meets.calls 2000 A c key A1 c1 y.f0 B1 d1 y.f1 y.f2 y.f3 false _ HKW.out HCL.out HL1.out HX0.out HM1.out HX1.out HMV.out).mono ?_; rintro e_ w1 ⟨rfl, hb⟩; have HB9 := Aside0.mk (below_step HB8.out hb); have HY2 := Aside0.mk (blk_below HY.out hb); clear hb))
    go_roundw
    case measure => first | (simp [intOf]; done) | (simp [intOf]; omega)
    case rel => exact ⟨i + 1, hlt, by go_num, HNO2, HB9⟩
   | true =>
    rw [hpy] at HME
    have HMV := Aside0.mk HME.out
    have HA := Aside0.mk (HHIT.out hpy)
    clear hpy HME
    go_wp2_with (first | (go_at_call 112; with_reducible refine (span_meets.calls 2000 A c key A1 c1 y.f0 B1 d1 y.f1 y.f2 y.f3 true _ HKW.out HCL.out HL1.out HX0.out HM1.out HX1.out HMV.out).mono ?_; rintro e_ w1 ⟨rfl, hb⟩; have HB9 := Aside0.mk (below_step HB8.out hb); have HY2 := Aside0.mk (blk_below HY.out hb); clear hb))
    refine start_ (n := 7) (S := fun w' => Below w1.heap.size w1 w') (ds := []) #[false, false, false, false, false, false, false] (by kernel_rfl) rfl rfl (below_drew1 (Below.refl _ _)) (fun hHeld => ?_)
    generalize World.drew _ = w8 at hHeld ⊢
    refine pl_ [0, 2] ?_
    iterate 2 refine qP rfl rfl ?_
    refine pl0 ?_
    refine take_ (i := 1) (N := some 34) (v := ?_) (a' := ?_) #[true, true, true, false, false, false, false] rfl rfl (by kernel_rfl) (fun _ _ _ h => h) (Or.inl ⟨by rfl, ?_⟩) hHeld ?_ ?_
    rotate_left
    ·intro w' hs
     have y3 := blk_cell (blk_below HY2.out hs) 3
     simp only [List.getElem?_toArray, List.getElem?_cons_succ, List.getElem?_cons_zero] at y3
     go_simp
     with_reducible rfl
    rotate_left
    ·simp only [Act.put, List.setIfInBounds_toArray, List.set_cons_zero, List.set_cons_succ, i64_w, i32_w]
     rfl
    refine take_ (i := 3) (N := some 36) (v := ?_) (a' := ?_) #[true, true, true, true, false, false, false] rfl rfl (by kernel_rfl) (fun _ _ _ h => h) (Or.inl ⟨by rfl, ?_⟩) hHeld ?_ ?_
    rotate_left
    ·intro w' hs
     have y2 := blk_cell (blk_below HY2.out hs) 2
     simp only [List.getElem?_toArray, List.getElem?_cons_succ, List.getElem?_cons_zero] at y2
     go_simp
     with_reducible rfl
    rotate_left
    ·simp only [Act.put, List.setIfInBounds_toArray, List.set_cons_zero, List.set_cons_succ, i64_w, i32_w]
     rfl
    refine pl_ [4, 5, 6] ?_
    iterate 3 refine qP rfl rfl ?_
    refine pl0 ?_
    refine done_ (by kernel_rfl) ?_
    have HBC := Aside0.mk (below_step HB9.out hHeld)
    clear hHeld
    go_wp2
    go_ret3
    exact ⟨by rw [HA.out]; rfl, HBC.out⟩
  ·have hie : i = xs.length := by omega
   subst hie
   have HA := Aside0.mk (getA_miss (meetL key) xs HNO.out)
   go_wp2
   go_ret3
   exact ⟨by rw [HA.out]; rfl, HB7.out⟩
end Go.Proofs.Ytfdbcnbakchcgaa.XQ
