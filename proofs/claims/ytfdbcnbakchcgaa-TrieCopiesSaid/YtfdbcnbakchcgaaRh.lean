import Derived.Test.YtfdbcnbakchcgaaSr
import Derived.Test.YtfdbcnbakchcgaaRg
namespace Go.Proofs.Ytfdbcnbakchcgaa.XR
open Go.RowKit Go.Proofs.YtfdbcnbakchcgaaW.PrintWords Go.Proofs.YtfdbcnbakchcgaaW.PrintLast Go.Proofs.YtfdbcnbakchcgaaW.PrintMore
attribute [local go_sem] max2_int min2_int max_two min_two max_three min_three max_four min_four   -- for this text's walks alone
set_option linter.unusedVariables false
set_option linter.unusedSimpArgs false
set_option maxHeartbeats 1000000 in
set_option maxRecDepth 100000 in
theorem tPut_twice (w0 w : World) (g : Nat) (M : NM) (l : List TI) (W X : Nat) (m N n : Int) (h : KT w0 w g M (W : Int) m N) (hs : SH M l) (h1 : 1 ≤ W) (h2 : W ≤ 128) (hX : X < 2 ^ 128) (j : Nat) (hj : j ≤ W) (hXW : X < 2 ^ W) (hc : mayP W (W : Int) X (j : Int) = 0) (b : Nat) (n0 : Int) (hm : M j (preN W X j) = some (b, true, n0)) :
 Calls Try.prog 28 #[.pointer (some ⟨g, 0, none⟩), .agg #[.int .i64 (W : Int), .int .u64 (hiW X), .int .u64 (loW X)], .int .i64 (j : Int), .int .i64 n] w fun e w' => e = .returned (.int .i64 6) ∧ Below w.heap.size w w' := by
 have HC := Aside0.mk hc
 have HXW := Aside0.mk hXW
 have HJ := Aside0.mk hj
 have HK1 := Aside0.mk (h.step (below_alloc (Below.refl _ _) (.cells #[.int .i64 (W : Int), .int .u64 (hiW X), .int .u64 (loW X)] 32 (0, 0))))
 have HX1 := Aside0.mk (blk_new w (.cells #[.int .i64 (W : Int), .int .u64 (hiW X), .int .u64 (loW X)] 32 (0, 0)))
 have HW1 := Aside0.mk (below_alloc (Below.refl w.heap.size w) (.cells #[.int .i64 (W : Int), .int .u64 (hiW X), .int .u64 (loW X)] 32 (0, 0)))
 have HS := Aside0.mk hs
 have H1 := Aside0.mk h1
 have H2 := Aside0.mk h2
 have HX8 := Aside0.mk hX
 have HPT := Aside0.mk (ptr_some hm)
 have HM := Aside0.mk hm
 clear h hs h1 h2 hX hc hXW hj hm
 go_enter Try.func28, Try.ntmps28
 have x0 := blk_cell HX1.out 0
 have x1 := blk_cell HX1.out 1
 have x2 := blk_cell HX1.out 2
 simp only [List.getElem?_toArray, List.getElem?_cons_succ, List.getElem?_cons_zero] at x0 x1 x2
 go_wp2_with (first | (go_at_call 82; with_reducible refine (tmay_calls w0 _ g M W X (W : Int) m N (j : Int) HK1.out H1.out H2.out HX8.out).mono ?_; rintro e_ w2 ⟨rfl, hb⟩; rw [HC.out]; have HB2 := Aside0.mk hb; clear hb x0 x1 x2; have x0 := blk_cell (blk_below HX1.out HB2.out) 0; have x1 := blk_cell (blk_below HX1.out HB2.out) 1; have x2 := blk_cell (blk_below HX1.out HB2.out) 2; simp only [List.getElem?_toArray, List.getElem?_cons_succ, List.getElem?_cons_zero] at x0 x1 x2) | (go_at_call 83; with_reducible refine (find_calls w0 _ g M l W X j m N (HK1.out.step HB2.out) HS.out H1.out H2.out HXW.out HJ.out).mono ?_; rintro e_ w3 ⟨rfl, hb⟩; rw [HPT.out]; have HB3 := Aside0.mk (below_step HB2.out hb); clear hb x0 x1 x2; have HN := Aside0.mk ((HK1.out.step HB3.out).nt.cell j _ b true n0 HM.out); have c2 := blk_cell HN.out 2; simp only [List.getElem?_toArray, List.getElem?_cons_succ, List.getElem?_cons_zero] at c2))
 go_ret
 exact ⟨rfl, below_step HW1.out HB3.out⟩
set_option maxHeartbeats 1000000 in
set_option maxRecDepth 100000 in
theorem tPut_full (w0 w : World) (g : Nat) (M : NM) (l : List TI) (W X : Nat) (m N n : Int) (h : KT w0 w g M (W : Int) m N) (hs : SH M l) (h1 : 1 ≤ W) (h2 : W ≤ 128) (hX : X < 2 ^ 128) (j : Nat) (hj : j ≤ W) (hXW : X < 2 ^ W) (hc : mayP W (W : Int) X (j : Int) = 0) (hm : M j (preN W X j) = none ∨ ∃ b n0, M j (preN W X j) = some (b, false, n0)) (hN : N = m) :
 Calls Try.prog 28 #[.pointer (some ⟨g, 0, none⟩), .agg #[.int .i64 (W : Int), .int .u64 (hiW X), .int .u64 (loW X)], .int .i64 (j : Int), .int .i64 n] w fun e w' => e = .returned (.int .i64 8) ∧ Below w.heap.size w w' := by
 have HC := Aside0.mk hc
 have HXW := Aside0.mk hXW
 have HJ := Aside0.mk hj
 have HK1 := Aside0.mk (h.step (below_alloc (Below.refl _ _) (.cells #[.int .i64 (W : Int), .int .u64 (hiW X), .int .u64 (loW X)] 32 (0, 0))))
 have HX1 := Aside0.mk (blk_new w (.cells #[.int .i64 (W : Int), .int .u64 (hiW X), .int .u64 (loW X)] 32 (0, 0)))
 have HW1 := Aside0.mk (below_alloc (Below.refl w.heap.size w) (.cells #[.int .i64 (W : Int), .int .u64 (hiW X), .int .u64 (loW X)] 32 (0, 0)))
 have HS := Aside0.mk hs
 have H1 := Aside0.mk h1
 have H2 := Aside0.mk h2
 have HX8 := Aside0.mk hX
 have heq : (N == m) = true := by simpa using hN
 clear hN
 have HMM := Aside0.mk hm
 rcases HMM.out with hm2 | ⟨b, n0, hm2⟩
 ·have HPT := Aside0.mk (ptr_none hm2)
  have HM := Aside0.mk hm2
  clear hm2
  clear HMM h hs h1 h2 hX hc hXW hj hm
  go_enter Try.func28, Try.ntmps28
  have x0 := blk_cell HX1.out 0
  have x1 := blk_cell HX1.out 1
  have x2 := blk_cell HX1.out 2
  simp only [List.getElem?_toArray, List.getElem?_cons_succ, List.getElem?_cons_zero] at x0 x1 x2
  go_wp2_with (first | (go_at_call 82; with_reducible refine (tmay_calls w0 _ g M W X (W : Int) m N (j : Int) HK1.out H1.out H2.out HX8.out).mono ?_; rintro e_ w2 ⟨rfl, hb⟩; rw [HC.out]; have HB2 := Aside0.mk hb; clear hb x0 x1 x2; have x0 := blk_cell (blk_below HX1.out HB2.out) 0; have x1 := blk_cell (blk_below HX1.out HB2.out) 1; have x2 := blk_cell (blk_below HX1.out HB2.out) 2; simp only [List.getElem?_toArray, List.getElem?_cons_succ, List.getElem?_cons_zero] at x0 x1 x2) | (go_at_call 83; with_reducible refine (find_calls w0 _ g M l W X j m N (HK1.out.step HB2.out) HS.out H1.out H2.out HXW.out HJ.out).mono ?_; rintro e_ w3 ⟨rfl, hb⟩; rw [HPT.out]; have HB3 := Aside0.mk (below_step HB2.out hb); clear hb x0 x1 x2; try (have HN := Aside0.mk ((HK1.out.step HB3.out).nt.cell j _ b false n0 HM.out); have c2 := blk_cell HN.out 2; simp only [List.getElem?_toArray, List.getElem?_cons_succ, List.getElem?_cons_zero] at c2)))
  generalize w.alloc (.cells #[.int .i64 (W : Int), .int .u64 (hiW X), .int .u64 (loW X)] 32 (0, 0)) = wq at HK1 HX1 HW1 HB2 HB3 ⊢
  try clear c2
  try clear HN
  clear HB2
  refine start_ (n := 10) (S := fun w' => Below wq.heap.size wq w') (ds := []) #[false, false, false, false, false, false, false, false, false, false] (by kernel_rfl) rfl rfl (below_drew1 HB3.out) (fun hHeld => ?_)
  clear HB3
  generalize World.drew _ = w3_ at hHeld ⊢
  refine pl_ [0, 1, 2, 4, 5, 6] ?_
  iterate 6 refine pP rfl rfl (by kernel_rfl) (fun _ _ _ h => h) (by rfl) (by intro w'; go_simp; with_reducible rfl) (by simp only [Act.put, z1, z2, z3, i64_w, i32_w]; rfl) ?_
  refine pl0 ?_
  refine take_ (i := 3) (N := some 37) (v := ?_) (a' := ?_) #[true, true, true, true, true, true, true, false, false, false] rfl rfl (by kernel_rfl) (fun _ _ _ h => h) (Or.inl ⟨by rfl, ?_⟩) hHeld ?_ ?_
  rotate_left
  ·intro w' hs
   have m3 := blk_cell (HK1.out.step hs).blk 3
   simp only [List.getElem?_toArray, List.getElem?_cons_succ, List.getElem?_cons_zero] at m3
   go_simp
   with_reducible rfl
  rotate_left
  ·simp only [Act.put, List.setIfInBounds_toArray, List.set_cons_zero, List.set_cons_succ, i64_w, i32_w]
   rfl
  refine take_ (i := 7) (N := some 41) (v := ?_) (a' := ?_) #[true, true, true, true, true, true, true, true, false, false] rfl rfl (by kernel_rfl) (fun _ _ _ h => h) (Or.inl ⟨by rfl, ?_⟩) hHeld ?_ ?_
  rotate_left
  ·intro w' hs
   have m2 := blk_cell (HK1.out.step hs).blk 2
   simp only [List.getElem?_toArray, List.getElem?_cons_succ, List.getElem?_cons_zero] at m2
   go_simp
   with_reducible rfl
  rotate_left
  ·simp only [Act.put, List.setIfInBounds_toArray, List.set_cons_zero, List.set_cons_succ, i64_w, i32_w]
   rfl
  refine pl_ [8, 9] ?_
  iterate 2 refine pP rfl rfl (by kernel_rfl) (fun _ _ _ h => h) (by rfl) (by intro w'; go_simp; with_reducible rfl) (by simp only [Act.put, z1, z2, z3, i64_w, i32_w]; rfl) ?_
  refine pl0 ?_
  refine done_ (by kernel_rfl) ?_
  have HB4 := Aside0.mk hHeld
  clear hHeld
  go_wp2
  go_ret
  exact ⟨rfl, below_step HW1.out HB4.out⟩
 ·have HPT := Aside0.mk (ptr_some hm2)
  have HM := Aside0.mk hm2
  clear hm2
  clear HMM h hs h1 h2 hX hc hXW hj hm
  go_enter Try.func28, Try.ntmps28
  have x0 := blk_cell HX1.out 0
  have x1 := blk_cell HX1.out 1
  have x2 := blk_cell HX1.out 2
  simp only [List.getElem?_toArray, List.getElem?_cons_succ, List.getElem?_cons_zero] at x0 x1 x2
  go_wp2_with (first | (go_at_call 82; with_reducible refine (tmay_calls w0 _ g M W X (W : Int) m N (j : Int) HK1.out H1.out H2.out HX8.out).mono ?_; rintro e_ w2 ⟨rfl, hb⟩; rw [HC.out]; have HB2 := Aside0.mk hb; clear hb x0 x1 x2; have x0 := blk_cell (blk_below HX1.out HB2.out) 0; have x1 := blk_cell (blk_below HX1.out HB2.out) 1; have x2 := blk_cell (blk_below HX1.out HB2.out) 2; simp only [List.getElem?_toArray, List.getElem?_cons_succ, List.getElem?_cons_zero] at x0 x1 x2) | (go_at_call 83; with_reducible refine (find_calls w0 _ g M l W X j m N (HK1.out.step HB2.out) HS.out H1.out H2.out HXW.out HJ.out).mono ?_; rintro e_ w3 ⟨rfl, hb⟩; rw [HPT.out]; have HB3 := Aside0.mk (below_step HB2.out hb); clear hb x0 x1 x2; try (have HN := Aside0.mk ((HK1.out.step HB3.out).nt.cell j _ b false n0 HM.out); have c2 := blk_cell HN.out 2; simp only [List.getElem?_toArray, List.getElem?_cons_succ, List.getElem?_cons_zero] at c2)))
  generalize w.alloc (.cells #[.int .i64 (W : Int), .int .u64 (hiW X), .int .u64 (loW X)] 32 (0, 0)) = wq at HK1 HX1 HW1 HB2 HB3 ⊢
  try clear c2
  try clear HN
  clear HB2
  refine start_ (n := 10) (S := fun w' => Below wq.heap.size wq w') (ds := []) #[false, false, false, false, false, false, false, false, false, false] (by kernel_rfl) rfl rfl (below_drew1 HB3.out) (fun hHeld => ?_)
  clear HB3
  generalize World.drew _ = w3_ at hHeld ⊢
  refine pl_ [0, 1, 2, 4, 5, 6] ?_
  iterate 6 refine pP rfl rfl (by kernel_rfl) (fun _ _ _ h => h) (by rfl) (by intro w'; go_simp; with_reducible rfl) (by simp only [Act.put, z1, z2, z3, i64_w, i32_w]; rfl) ?_
  refine pl0 ?_
  refine take_ (i := 3) (N := some 37) (v := ?_) (a' := ?_) #[true, true, true, true, true, true, true, false, false, false] rfl rfl (by kernel_rfl) (fun _ _ _ h => h) (Or.inl ⟨by rfl, ?_⟩) hHeld ?_ ?_
  rotate_left
  ·intro w' hs
   have m3 := blk_cell (HK1.out.step hs).blk 3
   simp only [List.getElem?_toArray, List.getElem?_cons_succ, List.getElem?_cons_zero] at m3
   go_simp
   with_reducible rfl
  rotate_left
  ·simp only [Act.put, List.setIfInBounds_toArray, List.set_cons_zero, List.set_cons_succ, i64_w, i32_w]
   rfl
  refine take_ (i := 7) (N := some 41) (v := ?_) (a' := ?_) #[true, true, true, true, true, true, true, true, false, false] rfl rfl (by kernel_rfl) (fun _ _ _ h => h) (Or.inl ⟨by rfl, ?_⟩) hHeld ?_ ?_
  rotate_left
  ·intro w' hs
   have m2 := blk_cell (HK1.out.step hs).blk 2
   simp only [List.getElem?_toArray, List.getElem?_cons_succ, List.getElem?_cons_zero] at m2
   go_simp
   with_reducible rfl
  rotate_left
  ·simp only [Act.put, List.setIfInBounds_toArray, List.set_cons_zero, List.set_cons_succ, i64_w, i32_w]
   rfl
  refine pl_ [8, 9] ?_
  iterate 2 refine pP rfl rfl (by kernel_rfl) (fun _ _ _ h => h) (by rfl) (by intro w'; go_simp; with_reducible rfl) (by simp only [Act.put, z1, z2, z3, i64_w, i32_w]; rfl) ?_
  refine pl0 ?_
  refine done_ (by kernel_rfl) ?_
  have HB4 := Aside0.mk hHeld
  clear hHeld
  go_wp2
  go_ret
  exact ⟨rfl, below_step HW1.out HB4.out⟩
theorem KT.lt {w0 w : World} {g : Nat} {M : NM} {W m N : Int} (h : KT w0 w g M W m N) : g < w.heap.size := blk_lt h.blk
/-- The trie while a prefix is put. -/
structure PGr (w0 w w1 : World) (g : Nat) (M M1 : NM) (l : List TI) (x : TI) (i : Nat) (W m N : Int) (o : Array Value) : Prop where
 kt : KT w0 w1 g M1 W m N
 gr : ∀ p q, (M1 p q).map (·.2) = growT l x i p q
 old : ∀ q, isN M1 q → isN M q ∨ w.heap.size ≤ q
 kp : Kept w w1 (SKm g M)
 bx : w1.heap[w.heap.size]? = some (.cells o 32 (0, 0))
theorem PGr.step {w0 w w1 w2 : World} {g : Nat} {M M1 : NM} {l : List TI} {x : TI} {i : Nat} {W m N : Int} {o : Array Value} (h : PGr w0 w w1 g M M1 l x i W m N o) (hb : Below w1.heap.size w1 w2) : PGr w0 w w2 g M M1 l x i W m N o :=
 ⟨h.kt.step hb, h.gr, h.old, h.kp.below hb, blk_below h.bx hb⟩
theorem PGr.node {w0 w w1 : World} {g : Nat} {M M1 : NM} {l : List TI} {x : TI} {i : Nat} {W m N : Int} {o : Array Value} (h : PGr w0 w w1 g M M1 l x i W m N o) {k : Nat} (ho : onP x i k) : ∃ b, M1 i k = some (b, (lookT l i k).1, (lookT l i k).2) := by
 have h1 := h.gr i k
 rw [growT_at ho (Nat.le_refl _)] at h1
 cases hm : M1 i k with
 | none => rw [hm] at h1; cases h1
 | some t =>
  obtain ⟨b, y⟩ := t
  rw [hm] at h1
  injection h1 with h1
  exact ⟨b, by rw [← h1]⟩
/-- A son there already. -/
theorem PGr.have_ {w0 w w1 : World} {g : Nat} {M M1 : NM} {l : List TI} {x : TI} {i : Nat} {W m N : Int} {o : Array Value} (h : PGr w0 w w1 g M M1 l x i W m N o) {k : Nat} (ho : onP x (i + 1) k) (hm : M1 (i + 1) k ≠ none) : PGr w0 w w1 g M M1 l x (i + 1) W m N o := by
 refine ⟨h.kt, fun p q => ?_, h.old, h.kp, h.bx⟩
 rw [growT_old ho ?_]
 ·exact h.gr p q
 ·intro hn
  have h1 := h.gr (i + 1) k
  rw [growT_low (Nat.lt_succ_self i), hn] at h1
  exact hm (Option.map_eq_none_iff.1 h1)
/-- A new son. -/
theorem PGr.new_ {w0 w w1 : World} {g : Nat} {M M1 : NM} {l : List TI} {x : TI} {i : Nat} {W m N : Int} {o : Array Value} (h : PGr w0 w w1 g M M1 l x i W m N o) {k s b : Nat} {hh : Bool} {nn : Int} (hb : M1 i k = some (b, hh, nn)) (hs : s < 2) (ho : onP x (i + 1) (2 * k + s)) (hm : M1 (i + 1) (2 * k + s) = none) (hgb : b ≠ g) :
 PGr w0 w ((w1.alloc (.cells #[.pointer none, .pointer none, .bool false, .int .i64 0] 116 (0, 0))).setCell ⟨b, s, none⟩ (.pointer (some ⟨w1.heap.size, 0, none⟩))) g M (setM M1 (i + 1) (2 * k + s) (some (w1.heap.size, false, 0))) l x (i + 1) W m N o := by
 have hlow : ∀ p q, i < p → (M1 p q).map (·.2) = nodeAt l p q := fun p q hp => by rw [h.gr p q, growT_low hp]
 have hn1 : nodeAt l (i + 1) (2 * k + s) = none := by rw [← hlow _ _ (Nat.lt_succ_self i), hm]; rfl
 have hdn : ∀ c, c / 2 = 2 * k + s → M1 (i + 2) c = none := fun c hc => by
  have h2 : nodeAt l (i + 2) c = none := nodeAt_none_up (by rw [hc]; exact hn1)
  rw [← hlow _ _ (by omega)] at h2
  exact Option.map_eq_none_iff.1 h2
 have hbl : b < w1.heap.size := h.kt.nt.lt ⟨_, _, _, hb, rfl⟩
 have hba : Below w1.heap.size w1 (w1.alloc (.cells #[.pointer none, .pointer none, .bool false, .int .i64 0] 116 (0, 0))) := below_alloc (Below.refl _ _) _
 have hcell := h.kt.nt.cell _ _ _ _ _ hb
 have hca := blk_below hcell hba
 have hz : (w1.alloc (.cells #[.pointer none, .pointer none, .bool false, .int .i64 0] 116 (0, 0))).heap.size = w1.heap.size + 1 := by simp
 have hnb : ((w1.alloc (.cells #[.pointer none, .pointer none, .bool false, .int .i64 0] 116 (0, 0))).setCell ⟨b, s, none⟩ (.pointer (some ⟨w1.heap.size, 0, none⟩))).heap[b]? = some (nodeO (setM M1 (i + 1) (2 * k + s) (some (w1.heap.size, false, 0))) i k hh nn) := by
  rcases (by omega : s = 0 ∨ s = 1) with rfl | rfl
  ·refine blk_put hca 0 _ ?_
   unfold sonP
   rw [show setM M1 (i + 1) (2 * k + 0) (some (w1.heap.size, false, 0)) (i + 1) (2 * k) = some (w1.heap.size, false, 0) from if_pos ⟨rfl, rfl⟩, setM_off _ _ _ _ (by omega)]; rfl
  ·refine blk_put hca 1 _ ?_
   unfold sonP
   rw [show setM M1 (i + 1) (2 * k + 1) (some (w1.heap.size, false, 0)) (i + 1) (2 * k + 1) = some (w1.heap.size, false, 0) from if_pos ⟨rfl, rfl⟩, setM_off _ _ _ _ (by omega)]; rfl
 have ho1 : ∀ q, q ≠ b → q < w1.heap.size → ((w1.alloc (.cells #[.pointer none, .pointer none, .bool false, .int .i64 0] 116 (0, 0))).setCell ⟨b, s, none⟩ (.pointer (some ⟨w1.heap.size, 0, none⟩))).heap[q]? = w1.heap[q]? := fun q hq hl => (far_set _ b s _ q hq).trans (hba.block q hl)
 have hg := h.kt.lt
 have hnt := h.kt.nt.son hb hs hm (Nat.le_refl _) h.kt.below.size (hdn _ (by omega)) (hdn _ (by omega)) hnb ((far_set _ b s _ _ (by omega)).trans (blk_new w1 _)) ho1
 refine ⟨⟨?_, hnt, h.kt.ge, ?_⟩, fun p q => ?_, fun q hq => ?_, ?_, ?_⟩
 ·rw [show sonP (setM M1 (i + 1) (2 * k + s) (some (w1.heap.size, false, 0))) 0 0 = sonP M1 0 0 from by unfold sonP; rw [setM_off _ _ _ _ (by omega)]]
  exact (ho1 g (Ne.symm hgb) hg).trans h.kt.blk
 ·exact (below_alloc h.kt.below _).setCell (p := ⟨b, s, none⟩) (h.kt.nt.ge _ _ _ hb) _
 ·rw [growT_new ho hn1]
  by_cases e : p = i + 1 ∧ q = 2 * k + s
  ·obtain ⟨rfl, rfl⟩ := e; rw [setM_at, if_pos ⟨rfl, rfl⟩]; rfl
  ·rw [setM_off _ _ _ _ e, if_neg e]; exact h.gr p q
 ·obtain ⟨a, c, t, ht, rfl⟩ := hq
  by_cases e : a = i + 1 ∧ c = 2 * k + s
  ·obtain ⟨rfl, rfl⟩ := e; rw [setM_at] at ht; injection ht with ht; subst ht; exact .inr h.kp.1
  ·rw [setM_off _ _ _ _ e] at ht; exact h.old _ ⟨a, c, t, ht, rfl⟩
 ·refine (h.kp.alloc _).setCell (p := ⟨b, s, none⟩) ?_ _
  rcases h.old b ⟨_, _, _, hb, rfl⟩ with e | e
  ·exact .inl (.inr e)
  ·exact .inr e
 ·exact (ho1 _ (blk_ne h.bx hcell (by decide)) (blk_lt h.bx)).trans h.bx
set_option maxHeartbeats 1000000 in
set_option maxRecDepth 100000 in
theorem tPut_ok (w0 w : World) (g : Nat) (M : NM) (l : List TI) (W X : Nat) (m N n : Int) (h : KT w0 w g M (W : Int) m N) (hs : SH M l) (h1 : 1 ≤ W) (h2 : W ≤ 128) (hX : X < 2 ^ 128) (j : Nat) (hj : j ≤ W) (hXW : X < 2 ^ W) (hc : mayP W (W : Int) X (j : Int) = 0) (hm : M j (preN W X j) = none ∨ ∃ b n0, M j (preN W X j) = some (b, false, n0)) (hN : N ≠ m) (hno : l.any (fun y => sameP y (⟨j, preN W X j, n⟩ : TI)) = false) (hN2 : 0 ≤ N ∧ N ≤ 1000) :
 Calls Try.prog 28 #[.pointer (some ⟨g, 0, none⟩), .agg #[.int .i64 (W : Int), .int .u64 (hiW X), .int .u64 (loW X)], .int .i64 (j : Int), .int .i64 n] w fun e w' => e = .returned (.int .i64 0) ∧ ∃ M', KT w0 w' g M' (W : Int) m (N + 1) ∧ SH M' (l ++ [(⟨j, preN W X j, n⟩ : TI)]) ∧ Kept w w' (SKm g M) := by
 have HC := Aside0.mk hc
 have HXW := Aside0.mk hXW
 have HJ := Aside0.mk hj
 have HK1 := Aside0.mk (h.step (below_alloc (Below.refl _ _) (.cells #[.int .i64 (W : Int), .int .u64 (hiW X), .int .u64 (loW X)] 32 (0, 0))))
 have HX1 := Aside0.mk (blk_new w (.cells #[.int .i64 (W : Int), .int .u64 (hiW X), .int .u64 (loW X)] 32 (0, 0)))
 have HW1 := Aside0.mk (below_alloc (Below.refl w.heap.size w) (.cells #[.int .i64 (W : Int), .int .u64 (hiW X), .int .u64 (loW X)] 32 (0, 0)))
 have HS := Aside0.mk hs
 have H1 := Aside0.mk h1
 have H2 := Aside0.mk h2
 have HX8 := Aside0.mk hX
 have hnm : (N == m) = false := by simpa using hN
 have HNO := Aside0.mk hno
 have HP0 := Aside0.mk (preN_zero W X hXW)
 have HKEY := Aside0.mk (key_lt W X j hj hXW)
 have HW64 := Aside0.mk (show wrap64 (N + 1) = N + 1 from wrap64_id _ (by omega) (by omega))
 have HMM := Aside0.mk hm
 rcases HMM.out with hm2 | ⟨b, n0, hm2⟩
 ·have HPT := Aside0.mk (ptr_none hm2)
  have HM := Aside0.mk hm2
  clear hm2
  clear HMM h hs h1 h2 hX hc hXW hj hm hN hno hN2
  go_enter Try.func28, Try.ntmps28
  have x0 := blk_cell HX1.out 0
  have x1 := blk_cell HX1.out 1
  have x2 := blk_cell HX1.out 2
  simp only [List.getElem?_toArray, List.getElem?_cons_succ, List.getElem?_cons_zero] at x0 x1 x2
  go_wp2_with (first | (go_at_call 82; with_reducible refine (tmay_calls w0 _ g M W X (W : Int) m N (j : Int) HK1.out H1.out H2.out HX8.out).mono ?_; rintro e_ w2 ⟨rfl, hb⟩; rw [HC.out]; have HB2 := Aside0.mk hb; clear hb x0 x1 x2; have x0 := blk_cell (blk_below HX1.out HB2.out) 0; have x1 := blk_cell (blk_below HX1.out HB2.out) 1; have x2 := blk_cell (blk_below HX1.out HB2.out) 2; simp only [List.getElem?_toArray, List.getElem?_cons_succ, List.getElem?_cons_zero] at x0 x1 x2) | (go_at_call 83; with_reducible refine (find_calls w0 _ g M l W X j m N (HK1.out.step HB2.out) HS.out H1.out H2.out HXW.out HJ.out).mono ?_; rintro e_ w3 ⟨rfl, hb⟩; rw [HPT.out]; have HB3 := Aside0.mk (below_step HB2.out hb); clear hb x0 x1 x2; try (have HN := Aside0.mk ((HK1.out.step HB3.out).nt.cell j _ b false n0 HM.out); have c2 := blk_cell HN.out 2; simp only [List.getElem?_toArray, List.getElem?_cons_succ, List.getElem?_cons_zero] at c2)))
  generalize w.alloc (.cells #[.int .i64 (W : Int), .int .u64 (hiW X), .int .u64 (loW X)] 32 (0, 0)) = wq at HK1 HX1 HW1 HB2 HB3 ⊢
  try clear c2
  try clear HN
  clear HB2
  refine start_ (n := 10) (S := fun w' => Below wq.heap.size wq w') (ds := []) #[false, false, false, false, false, false, false, false, false, false] (by kernel_rfl) rfl rfl (below_drew1 HB3.out) (fun hHeld => ?_)
  clear HB3
  generalize World.drew _ = w3_ at hHeld ⊢
  refine pl_ [0, 1, 2, 4, 5, 6] ?_
  iterate 6 refine pP rfl rfl (by kernel_rfl) (fun _ _ _ h => h) (by rfl) (by intro w'; go_simp; with_reducible rfl) (by simp only [Act.put, z1, z2, z3, i64_w, i32_w]; rfl) ?_
  refine pl0 ?_
  refine take_ (i := 3) (N := some 37) (v := ?_) (a' := ?_) #[true, true, true, true, true, true, true, false, false, false] rfl rfl (by kernel_rfl) (fun _ _ _ h => h) (Or.inl ⟨by rfl, ?_⟩) hHeld ?_ ?_
  rotate_left
  ·intro w' hs
   have m3 := blk_cell (HK1.out.step hs).blk 3
   simp only [List.getElem?_toArray, List.getElem?_cons_succ, List.getElem?_cons_zero] at m3
   go_simp
   with_reducible rfl
  rotate_left
  ·simp only [Act.put, List.setIfInBounds_toArray, List.set_cons_zero, List.set_cons_succ, i64_w, i32_w]
   rfl
  refine take_ (i := 7) (N := some 41) (v := ?_) (a' := ?_) #[true, true, true, true, true, true, true, true, false, false] rfl rfl (by kernel_rfl) (fun _ _ _ h => h) (Or.inl ⟨by rfl, ?_⟩) hHeld ?_ ?_
  rotate_left
  ·intro w' hs
   have m2 := blk_cell (HK1.out.step hs).blk 2
   simp only [List.getElem?_toArray, List.getElem?_cons_succ, List.getElem?_cons_zero] at m2
   go_simp
   with_reducible rfl
  rotate_left
  ·simp only [Act.put, List.setIfInBounds_toArray, List.set_cons_zero, List.set_cons_succ, i64_w, i32_w]
   rfl
  refine pl_ [8, 9] ?_
  iterate 2 refine pP rfl rfl (by kernel_rfl) (fun _ _ _ h => h) (by rfl) (by intro w'; go_simp; with_reducible rfl) (by simp only [Act.put, z1, z2, z3, i64_w, i32_w]; rfl) ?_
  refine pl0 ?_
  refine done_ (by kernel_rfl) ?_
  have HB4 := Aside0.mk hHeld
  clear hHeld
  have c0 := blk_cell (HK1.out.step HB4.out).blk 0
  simp only [List.getElem?_toArray, List.getElem?_cons_succ, List.getElem?_cons_zero] at c0
  go_wp2
  clear c0
  obtain ⟨w5, hw5⟩ : ∃ w5, w5 = w3_ := ⟨_, rfl⟩
  rw [← hw5] at HB4 ⊢
  clear hw5
  have HPG := Aside0.mk (show PGr w0 w w5 g M M l (⟨j, preN W X j, n⟩ : TI) 0 (W : Int) m N #[.int .i64 (W : Int), .int .u64 (hiW X), .int .u64 (loW X)] from ⟨HK1.out.step HB4.out, fun p q => by rw [growT_zero l (⟨j, preN W X j, n⟩ : TI) HKEY.out]; exact HS.out p q, fun q hq => .inl hq, Kept.of_below (below_step HW1.out HB4.out) _, blk_below HX1.out HB4.out⟩)
  clear HB4 HK1 HX1
  go_loopw [10, 48] (fun u10 u48 w' => ∃ (i : Nat) (M1 : NM), i ≤ j ∧ u48 = .int .i64 i ∧ u10 = sonP M1 i (preN W X i) ∧ Aside0 (PGr w0 w w' g M M1 l (⟨j, preN W X j, n⟩ : TI) i (W : Int) m N #[.int .i64 (W : Int), .int .u64 (hiW X), .int .u64 (loW X)])) (fun _ u48 _ => j - (intOf u48).toNat)
  case atStart => exact ⟨0, M, Nat.zero_le _, rfl, by rw [HP0.out], HPG⟩
  case round =>
   obtain ⟨i, M1, hi, rfl, rfl, HG⟩ := hrel
   clear HPG
   have hjw := HJ.out
   have hw128 := H2.out
   have HOP := Aside0.mk (onP_pre W X j i n hjw hi)
   obtain ⟨b1, hm1⟩ := HG.out.node HOP.out
   obtain ⟨h1, n1, hlk⟩ : ∃ h1 n1, lookT l i (preN W X i) = (h1, n1) := ⟨_, _, rfl⟩
   rw [hlk] at hm1
   clear hlk
   rw [ptr_some hm1]
   have HM1 := Aside0.mk hm1
   have HGB := Aside0.mk (show b1 ≠ g from fun e => HG.out.kt.ne ⟨_, _, _, hm1, e⟩)
   by_cases hlt : i < j
   ·have hib : i + 1 ≤ W := by omega
    obtain ⟨s, hsv⟩ : ∃ s, s = bitN W X i := ⟨_, rfl⟩
    have HBIT := Aside0.mk (show trie_bit.f (W : Int) (hiW X) (loW X) (i : Int) = some ((s : Nat) : Int) from by rw [hsv]; exact trie_bit_eq W X i H1.out H2.out HX8.out hib)
    have hs2 : s < 2 := by rw [hsv]; exact bitN_lt W X i
    have hpx : preN W X (i + 1) = 2 * preN W X i + s := by rw [hsv]; exact preN_succ W X i hib
    have HPX := Aside0.mk hpx
    have HS2 := Aside0.mk hs2
    have HO1 := Aside0.mk (onP_pre W X j (i + 1) n hjw hlt)
    have hs0 : 0 ≤ (s : Int) := by omega
    have hs1 : (s : Int) < 2 := by omega
    have x0 := blk_cell HG.out.bx 0
    have x1 := blk_cell HG.out.bx 1
    have x2 := blk_cell HG.out.bx 2
    simp only [List.getElem?_toArray, List.getElem?_cons_succ, List.getElem?_cons_zero] at x0 x1 x2
    clear hsv hpx hs2 hm1
    cases hq : M1 (i + 1) (2 * preN W X i + s) with
    | none =>
     have HSP := Aside0.mk (ptr_none hq)
     have HQ := Aside0.mk hq
     clear hq
     go_upto_region 16 with (first | (go_at_call 74; with_reducible refine (trie_bit.calls (W : Int) (hiW X) (loW X) (i : Int) (s : Int) _ HBIT.out).mono ?_; rintro e_ w6 ⟨rfl, hb⟩; have HG6 := Aside0.mk (HG.out.step hb); clear hb x0 x1 x2; have cs := son_cell HG6.out.kt.nt HM1.out HS2.out; rw [HSP.out] at cs; have fs := blk_frozen (HG6.out.kt.nt.cell _ _ _ _ _ HM1.out) s; have HG6a := Aside0.mk (HG6.out.step (below_alloc (Below.refl _ _) (.cells #[.pointer none, .pointer none, .bool false, .int .i64 0] 116 (0, 0)))); have ct := son_cell HG6a.out.kt.nt HM1.out HS2.out; rw [HSP.out] at ct; have ft := blk_frozen (HG6a.out.kt.nt.cell _ _ _ _ _ HM1.out) s))
     have HG7 := Aside0.mk (HG6.out.new_ HM1.out HS2.out (by rw [← HPX.out]; exact HO1.out) HQ.out HGB.out)
     generalize (w6.alloc (.cells #[.pointer none, .pointer none, .bool false, .int .i64 0] 116 (0, 0))).setCell ⟨b1, s, none⟩ (.pointer (some ⟨w6.heap.size, 0, none⟩)) = w7 at HG7 ⊢
     have HM2 := Aside0.mk (show setM M1 (i + 1) (2 * preN W X i + s) (some (w6.heap.size, false, 0)) i (preN W X i) = some (b1, h1, n1) from by rw [setM_off _ _ _ _ (by omega)]; exact HM1.out)
     clear cs fs ct ft HG6a
     have cs := son_cell HG7.out.kt.nt HM2.out HS2.out
     rw [ptr_some (setM_at M1 (i + 1) (2 * preN W X i + s) (some (w6.heap.size, false, 0)))] at cs
     go_wp2
     go_roundw
     case measure => first | (simp [intOf]; done) | (simp [intOf]; omega)
     case rel => exact ⟨i + 1, _, hlt, by go_num, by rw [HPX.out]; unfold sonP; rw [setM_at]; rfl, HG7⟩
    | some t =>
     obtain ⟨b3, h3, n3⟩ := t
     have HSP := Aside0.mk (ptr_some hq)
     have HQ := Aside0.mk hq
     clear hq
     go_wp2_with (first | (go_at_call 74; with_reducible refine (trie_bit.calls (W : Int) (hiW X) (loW X) (i : Int) (s : Int) _ HBIT.out).mono ?_; rintro e_ w6 ⟨rfl, hb⟩; have HG6 := Aside0.mk (HG.out.step hb); clear hb x0 x1 x2; have cs := son_cell HG6.out.kt.nt HM1.out HS2.out; rw [HSP.out] at cs; have fs := blk_frozen (HG6.out.kt.nt.cell _ _ _ _ _ HM1.out) s; have HG6a := Aside0.mk (HG6.out.step (below_alloc (Below.refl _ _) (.cells #[.pointer none, .pointer none, .bool false, .int .i64 0] 116 (0, 0)))); have ct := son_cell HG6a.out.kt.nt HM1.out HS2.out; rw [HSP.out] at ct; have ft := blk_frozen (HG6a.out.kt.nt.cell _ _ _ _ _ HM1.out) s))
     have HG7 := Aside0.mk (HG6.out.have_ HO1.out (by rw [HPX.out, HQ.out]; simp))
     go_roundw
     case measure => first | (simp [intOf]; done) | (simp [intOf]; omega)
     case rel => exact ⟨i + 1, M1, hlt, by go_num, by rw [HPX.out, HSP.out], HG7⟩
   ·have hie : i = j := by omega
    have HNB := Aside0.mk (HG.out.kt.nt.cell _ _ _ _ _ HM1.out)
    have c2 := blk_cell HNB.out 2
    have c3 := blk_cell HNB.out 3
    simp only [List.getElem?_toArray, List.getElem?_cons_succ, List.getElem?_cons_zero] at c2 c3
    have f2 := blk_frozen HNB.out 2
    have f3 := blk_frozen HNB.out 3
    have g3 := blk_cell HG.out.kt.blk 3
    simp only [List.getElem?_toArray, List.getElem?_cons_succ, List.getElem?_cons_zero] at g3
    have gf := blk_frozen HG.out.kt.blk 3
    have hgb := HGB.out
    have hbg := Ne.symm hgb
    clear hm1
    go_wp2
    go_ret
    subst hie
    have hk8 := (HG.out.kt.mark HM1.out true n (node_num (node_here HNB.out true) n) (fun q hq => (far_set _ b1 3 _ q hq).trans (far_set _ b1 2 _ q hq)) ((HG.out.kt.below.setCell (p := ⟨b1, 2, none⟩) (HG.out.kt.nt.ge _ _ _ HM1.out) _).setCell (p := ⟨b1, 3, none⟩) (HG.out.kt.nt.ge _ _ _ HM1.out) _))
    refine ⟨rfl, setM M1 i (preN W X i) (some (b1, true, n)), ⟨?_, ?_, hk8.ge, hk8.below.setCell (p := ⟨g, 3, none⟩) hk8.ge _⟩, ?_, ?_⟩
    ·rw [HW64.out]; exact blk_put hk8.blk 3 _ rfl
    ·exact hk8.nt.move (fun q hq => far_set _ g 3 _ q (fun e => hk8.ne (by rw [← e]; exact hq)))
    ·intro p q
     rw [growT_end l ⟨i, preN W X i, n⟩ HNO.out]
     by_cases e : p = i ∧ q = preN W X i
     ·obtain ⟨rfl, rfl⟩ := e; rw [setM_at, if_pos ⟨rfl, rfl⟩]; rfl
     ·rw [setM_off _ _ _ _ e, if_neg e]; exact HG.out.gr p q
    ·have h6 : SKm g M b1 ∨ w.heap.size ≤ b1 := by
      rcases HG.out.old b1 ⟨_, _, _, HM1.out, rfl⟩ with e | e
      ·exact .inl (.inr e)
      ·exact .inr e
     have h7 := ((HG.out.kp.setCell (p := ⟨b1, 2, none⟩) h6 (.bool true)).setCell (p := ⟨b1, 3, none⟩) h6 (.int .i64 n))
     exact h7.setCell (p := ⟨g, 3, none⟩) (.inl (.inl rfl)) _
 ·have HPT := Aside0.mk (ptr_some hm2)
  have HM := Aside0.mk hm2
  clear hm2
  clear HMM h hs h1 h2 hX hc hXW hj hm hN hno hN2
  go_enter Try.func28, Try.ntmps28
  have x0 := blk_cell HX1.out 0
  have x1 := blk_cell HX1.out 1
  have x2 := blk_cell HX1.out 2
  simp only [List.getElem?_toArray, List.getElem?_cons_succ, List.getElem?_cons_zero] at x0 x1 x2
  go_wp2_with (first | (go_at_call 82; with_reducible refine (tmay_calls w0 _ g M W X (W : Int) m N (j : Int) HK1.out H1.out H2.out HX8.out).mono ?_; rintro e_ w2 ⟨rfl, hb⟩; rw [HC.out]; have HB2 := Aside0.mk hb; clear hb x0 x1 x2; have x0 := blk_cell (blk_below HX1.out HB2.out) 0; have x1 := blk_cell (blk_below HX1.out HB2.out) 1; have x2 := blk_cell (blk_below HX1.out HB2.out) 2; simp only [List.getElem?_toArray, List.getElem?_cons_succ, List.getElem?_cons_zero] at x0 x1 x2) | (go_at_call 83; with_reducible refine (find_calls w0 _ g M l W X j m N (HK1.out.step HB2.out) HS.out H1.out H2.out HXW.out HJ.out).mono ?_; rintro e_ w3 ⟨rfl, hb⟩; rw [HPT.out]; have HB3 := Aside0.mk (below_step HB2.out hb); clear hb x0 x1 x2; try (have HN := Aside0.mk ((HK1.out.step HB3.out).nt.cell j _ b false n0 HM.out); have c2 := blk_cell HN.out 2; simp only [List.getElem?_toArray, List.getElem?_cons_succ, List.getElem?_cons_zero] at c2)))
  generalize w.alloc (.cells #[.int .i64 (W : Int), .int .u64 (hiW X), .int .u64 (loW X)] 32 (0, 0)) = wq at HK1 HX1 HW1 HB2 HB3 ⊢
  try clear c2
  try clear HN
  clear HB2
  refine start_ (n := 10) (S := fun w' => Below wq.heap.size wq w') (ds := []) #[false, false, false, false, false, false, false, false, false, false] (by kernel_rfl) rfl rfl (below_drew1 HB3.out) (fun hHeld => ?_)
  clear HB3
  generalize World.drew _ = w3_ at hHeld ⊢
  refine pl_ [0, 1, 2, 4, 5, 6] ?_
  iterate 6 refine pP rfl rfl (by kernel_rfl) (fun _ _ _ h => h) (by rfl) (by intro w'; go_simp; with_reducible rfl) (by simp only [Act.put, z1, z2, z3, i64_w, i32_w]; rfl) ?_
  refine pl0 ?_
  refine take_ (i := 3) (N := some 37) (v := ?_) (a' := ?_) #[true, true, true, true, true, true, true, false, false, false] rfl rfl (by kernel_rfl) (fun _ _ _ h => h) (Or.inl ⟨by rfl, ?_⟩) hHeld ?_ ?_
  rotate_left
  ·intro w' hs
   have m3 := blk_cell (HK1.out.step hs).blk 3
   simp only [List.getElem?_toArray, List.getElem?_cons_succ, List.getElem?_cons_zero] at m3
   go_simp
   with_reducible rfl
  rotate_left
  ·simp only [Act.put, List.setIfInBounds_toArray, List.set_cons_zero, List.set_cons_succ, i64_w, i32_w]
   rfl
  refine take_ (i := 7) (N := some 41) (v := ?_) (a' := ?_) #[true, true, true, true, true, true, true, true, false, false] rfl rfl (by kernel_rfl) (fun _ _ _ h => h) (Or.inl ⟨by rfl, ?_⟩) hHeld ?_ ?_
  rotate_left
  ·intro w' hs
   have m2 := blk_cell (HK1.out.step hs).blk 2
   simp only [List.getElem?_toArray, List.getElem?_cons_succ, List.getElem?_cons_zero] at m2
   go_simp
   with_reducible rfl
  rotate_left
  ·simp only [Act.put, List.setIfInBounds_toArray, List.set_cons_zero, List.set_cons_succ, i64_w, i32_w]
   rfl
  refine pl_ [8, 9] ?_
  iterate 2 refine pP rfl rfl (by kernel_rfl) (fun _ _ _ h => h) (by rfl) (by intro w'; go_simp; with_reducible rfl) (by simp only [Act.put, z1, z2, z3, i64_w, i32_w]; rfl) ?_
  refine pl0 ?_
  refine done_ (by kernel_rfl) ?_
  have HB4 := Aside0.mk hHeld
  clear hHeld
  have c0 := blk_cell (HK1.out.step HB4.out).blk 0
  simp only [List.getElem?_toArray, List.getElem?_cons_succ, List.getElem?_cons_zero] at c0
  go_wp2
  clear c0
  obtain ⟨w5, hw5⟩ : ∃ w5, w5 = w3_ := ⟨_, rfl⟩
  rw [← hw5] at HB4 ⊢
  clear hw5
  have HPG := Aside0.mk (show PGr w0 w w5 g M M l (⟨j, preN W X j, n⟩ : TI) 0 (W : Int) m N #[.int .i64 (W : Int), .int .u64 (hiW X), .int .u64 (loW X)] from ⟨HK1.out.step HB4.out, fun p q => by rw [growT_zero l (⟨j, preN W X j, n⟩ : TI) HKEY.out]; exact HS.out p q, fun q hq => .inl hq, Kept.of_below (below_step HW1.out HB4.out) _, blk_below HX1.out HB4.out⟩)
  clear HB4 HK1 HX1
  go_loopw [10, 48] (fun u10 u48 w' => ∃ (i : Nat) (M1 : NM), i ≤ j ∧ u48 = .int .i64 i ∧ u10 = sonP M1 i (preN W X i) ∧ Aside0 (PGr w0 w w' g M M1 l (⟨j, preN W X j, n⟩ : TI) i (W : Int) m N #[.int .i64 (W : Int), .int .u64 (hiW X), .int .u64 (loW X)])) (fun _ u48 _ => j - (intOf u48).toNat)
  case atStart => exact ⟨0, M, Nat.zero_le _, rfl, by rw [HP0.out], HPG⟩
  case round =>
   obtain ⟨i, M1, hi, rfl, rfl, HG⟩ := hrel
   clear HPG
   have hjw := HJ.out
   have hw128 := H2.out
   have HOP := Aside0.mk (onP_pre W X j i n hjw hi)
   obtain ⟨b1, hm1⟩ := HG.out.node HOP.out
   obtain ⟨h1, n1, hlk⟩ : ∃ h1 n1, lookT l i (preN W X i) = (h1, n1) := ⟨_, _, rfl⟩
   rw [hlk] at hm1
   clear hlk
   rw [ptr_some hm1]
   have HM1 := Aside0.mk hm1
   have HGB := Aside0.mk (show b1 ≠ g from fun e => HG.out.kt.ne ⟨_, _, _, hm1, e⟩)
   by_cases hlt : i < j
   ·have hib : i + 1 ≤ W := by omega
    obtain ⟨s, hsv⟩ : ∃ s, s = bitN W X i := ⟨_, rfl⟩
    have HBIT := Aside0.mk (show trie_bit.f (W : Int) (hiW X) (loW X) (i : Int) = some ((s : Nat) : Int) from by rw [hsv]; exact trie_bit_eq W X i H1.out H2.out HX8.out hib)
    have hs2 : s < 2 := by rw [hsv]; exact bitN_lt W X i
    have hpx : preN W X (i + 1) = 2 * preN W X i + s := by rw [hsv]; exact preN_succ W X i hib
    have HPX := Aside0.mk hpx
    have HS2 := Aside0.mk hs2
    have HO1 := Aside0.mk (onP_pre W X j (i + 1) n hjw hlt)
    have hs0 : 0 ≤ (s : Int) := by omega
    have hs1 : (s : Int) < 2 := by omega
    have x0 := blk_cell HG.out.bx 0
    have x1 := blk_cell HG.out.bx 1
    have x2 := blk_cell HG.out.bx 2
    simp only [List.getElem?_toArray, List.getElem?_cons_succ, List.getElem?_cons_zero] at x0 x1 x2
    clear hsv hpx hs2 hm1
    cases hq : M1 (i + 1) (2 * preN W X i + s) with
    | none =>
     have HSP := Aside0.mk (ptr_none hq)
     have HQ := Aside0.mk hq
     clear hq
     go_upto_region 16 with (first | (go_at_call 74; with_reducible refine (trie_bit.calls (W : Int) (hiW X) (loW X) (i : Int) (s : Int) _ HBIT.out).mono ?_; rintro e_ w6 ⟨rfl, hb⟩; have HG6 := Aside0.mk (HG.out.step hb); clear hb x0 x1 x2; have cs := son_cell HG6.out.kt.nt HM1.out HS2.out; rw [HSP.out] at cs; have fs := blk_frozen (HG6.out.kt.nt.cell _ _ _ _ _ HM1.out) s; have HG6a := Aside0.mk (HG6.out.step (below_alloc (Below.refl _ _) (.cells #[.pointer none, .pointer none, .bool false, .int .i64 0] 116 (0, 0)))); have ct := son_cell HG6a.out.kt.nt HM1.out HS2.out; rw [HSP.out] at ct; have ft := blk_frozen (HG6a.out.kt.nt.cell _ _ _ _ _ HM1.out) s))
     have HG7 := Aside0.mk (HG6.out.new_ HM1.out HS2.out (by rw [← HPX.out]; exact HO1.out) HQ.out HGB.out)
     generalize (w6.alloc (.cells #[.pointer none, .pointer none, .bool false, .int .i64 0] 116 (0, 0))).setCell ⟨b1, s, none⟩ (.pointer (some ⟨w6.heap.size, 0, none⟩)) = w7 at HG7 ⊢
     have HM2 := Aside0.mk (show setM M1 (i + 1) (2 * preN W X i + s) (some (w6.heap.size, false, 0)) i (preN W X i) = some (b1, h1, n1) from by rw [setM_off _ _ _ _ (by omega)]; exact HM1.out)
     clear cs fs ct ft HG6a
     have cs := son_cell HG7.out.kt.nt HM2.out HS2.out
     rw [ptr_some (setM_at M1 (i + 1) (2 * preN W X i + s) (some (w6.heap.size, false, 0)))] at cs
     go_wp2
     go_roundw
     case measure => first | (simp [intOf]; done) | (simp [intOf]; omega)
     case rel => exact ⟨i + 1, _, hlt, by go_num, by rw [HPX.out]; unfold sonP; rw [setM_at]; rfl, HG7⟩
    | some t =>
     obtain ⟨b3, h3, n3⟩ := t
     have HSP := Aside0.mk (ptr_some hq)
     have HQ := Aside0.mk hq
     clear hq
     go_wp2_with (first | (go_at_call 74; with_reducible refine (trie_bit.calls (W : Int) (hiW X) (loW X) (i : Int) (s : Int) _ HBIT.out).mono ?_; rintro e_ w6 ⟨rfl, hb⟩; have HG6 := Aside0.mk (HG.out.step hb); clear hb x0 x1 x2; have cs := son_cell HG6.out.kt.nt HM1.out HS2.out; rw [HSP.out] at cs; have fs := blk_frozen (HG6.out.kt.nt.cell _ _ _ _ _ HM1.out) s; have HG6a := Aside0.mk (HG6.out.step (below_alloc (Below.refl _ _) (.cells #[.pointer none, .pointer none, .bool false, .int .i64 0] 116 (0, 0)))); have ct := son_cell HG6a.out.kt.nt HM1.out HS2.out; rw [HSP.out] at ct; have ft := blk_frozen (HG6a.out.kt.nt.cell _ _ _ _ _ HM1.out) s))
     have HG7 := Aside0.mk (HG6.out.have_ HO1.out (by rw [HPX.out, HQ.out]; simp))
     go_roundw
     case measure => first | (simp [intOf]; done) | (simp [intOf]; omega)
     case rel => exact ⟨i + 1, M1, hlt, by go_num, by rw [HPX.out, HSP.out], HG7⟩
   ·have hie : i = j := by omega
    have HNB := Aside0.mk (HG.out.kt.nt.cell _ _ _ _ _ HM1.out)
    have c2 := blk_cell HNB.out 2
    have c3 := blk_cell HNB.out 3
    simp only [List.getElem?_toArray, List.getElem?_cons_succ, List.getElem?_cons_zero] at c2 c3
    have f2 := blk_frozen HNB.out 2
    have f3 := blk_frozen HNB.out 3
    have g3 := blk_cell HG.out.kt.blk 3
    simp only [List.getElem?_toArray, List.getElem?_cons_succ, List.getElem?_cons_zero] at g3
    have gf := blk_frozen HG.out.kt.blk 3
    have hgb := HGB.out
    have hbg := Ne.symm hgb
    clear hm1
    go_wp2
    go_ret
    subst hie
    have hk8 := (HG.out.kt.mark HM1.out true n (node_num (node_here HNB.out true) n) (fun q hq => (far_set _ b1 3 _ q hq).trans (far_set _ b1 2 _ q hq)) ((HG.out.kt.below.setCell (p := ⟨b1, 2, none⟩) (HG.out.kt.nt.ge _ _ _ HM1.out) _).setCell (p := ⟨b1, 3, none⟩) (HG.out.kt.nt.ge _ _ _ HM1.out) _))
    refine ⟨rfl, setM M1 i (preN W X i) (some (b1, true, n)), ⟨?_, ?_, hk8.ge, hk8.below.setCell (p := ⟨g, 3, none⟩) hk8.ge _⟩, ?_, ?_⟩
    ·rw [HW64.out]; exact blk_put hk8.blk 3 _ rfl
    ·exact hk8.nt.move (fun q hq => far_set _ g 3 _ q (fun e => hk8.ne (by rw [← e]; exact hq)))
    ·intro p q
     rw [growT_end l ⟨i, preN W X i, n⟩ HNO.out]
     by_cases e : p = i ∧ q = preN W X i
     ·obtain ⟨rfl, rfl⟩ := e; rw [setM_at, if_pos ⟨rfl, rfl⟩]; rfl
     ·rw [setM_off _ _ _ _ e, if_neg e]; exact HG.out.gr p q
    ·have h6 : SKm g M b1 ∨ w.heap.size ≤ b1 := by
      rcases HG.out.old b1 ⟨_, _, _, HM1.out, rfl⟩ with e | e
      ·exact .inl (.inr e)
      ·exact .inr e
     have h7 := ((HG.out.kp.setCell (p := ⟨b1, 2, none⟩) h6 (.bool true)).setCell (p := ⟨b1, 3, none⟩) h6 (.int .i64 n))
     exact h7.setCell (p := ⟨g, 3, none⟩) (.inl (.inl rfl)) _
/-- What Put answers. -/
def putEt (c m N : Int) (l : List TI) (x : TI) : Int := if c ≠ 0 then c else if l.any (fun y => sameP y x) = true then 6 else if N = m then 8 else 0
theorem tPut_calls (w0 w : World) (g : Nat) (M : NM) (l : List TI) (W X : Nat) (k0 m N lg n : Int) (h : KT w0 w g M (W : Int) m N) (hs : SH M l) (h1 : 1 ≤ W) (h2 : W ≤ 128) (hX : X < 2 ^ 128) (hN2 : 0 ≤ N ∧ N ≤ 1000) :
 Calls Try.prog 28 #[.pointer (some ⟨g, 0, none⟩), .agg #[.int .i64 k0, .int .u64 (hiW X), .int .u64 (loW X)], .int .i64 lg, .int .i64 n] w fun e w' => e = .returned (.int .i64 (putEt (mayP W k0 X lg) m N l ⟨lg.toNat, preN W X lg.toNat, n⟩)) ∧
  ∃ M', KT w0 w' g M' (W : Int) m (if putEt (mayP W k0 X lg) m N l ⟨lg.toNat, preN W X lg.toNat, n⟩ = 0 then N + 1 else N) ∧ SH M' (if putEt (mayP W k0 X lg) m N l ⟨lg.toNat, preN W X lg.toNat, n⟩ = 0 then l ++ [⟨lg.toNat, preN W X lg.toNat, n⟩] else l) ∧ Kept w w' (SKm g M) := by
 by_cases hc : mayP W k0 X lg = 0
 ·obtain ⟨rfl, hXW, j, rfl, hj, _⟩ := mayP_zero hc
  rw [Int.toNat_natCast, hc]
  have hl := lookT_any l ⟨j, preN W X j, n⟩
  have go : (M j (preN W X j) = none ∨ ∃ b n0, M j (preN W X j) = some (b, false, n0)) → l.any (fun y => sameP y ⟨j, preN W X j, n⟩) = false → _ := fun hm e0 => (show Calls Try.prog 28 #[.pointer (some ⟨g, 0, none⟩), .agg #[.int .i64 (W : Int), .int .u64 (hiW X), .int .u64 (loW X)], .int .i64 (j : Int), .int .i64 n] w fun e w' => e = .returned (.int .i64 (putEt 0 m N l ⟨j, preN W X j, n⟩)) ∧
   ∃ M', KT w0 w' g M' (W : Int) m (if putEt 0 m N l ⟨j, preN W X j, n⟩ = 0 then N + 1 else N) ∧ SH M' (if putEt 0 m N l ⟨j, preN W X j, n⟩ = 0 then l ++ [⟨j, preN W X j, n⟩] else l) ∧ Kept w w' (SKm g M) from by
   by_cases hNm : N = m
   ·refine (tPut_full w0 w g M l W X m N n h hs h1 h2 hX j hj hXW hc hm hNm).mono ?_
    rintro e_ w' ⟨rfl, hb⟩
    have e5 : putEt 0 m N l ⟨j, preN W X j, n⟩ = 8 := by unfold putEt; rw [if_neg (by simp), e0, if_neg (by simp), if_pos hNm]
    rw [e5]
    exact ⟨rfl, M, by rw [if_neg (by decide)]; exact h.step hb, by rw [if_neg (by decide)]; exact hs, Kept.of_below hb _⟩
   ·refine (tPut_ok w0 w g M l W X m N n h hs h1 h2 hX j hj hXW hc hm hNm e0 hN2).mono ?_
    rintro e_ w' ⟨rfl, M1, hk, hs1, hkp⟩
    have e5 : putEt 0 m N l ⟨j, preN W X j, n⟩ = 0 := by unfold putEt; rw [if_neg (by simp), e0, if_neg (by simp), if_neg hNm]
    rw [e5]
    exact ⟨rfl, M1, by rw [if_pos rfl]; exact hk, by rw [if_pos rfl]; exact hs1, hkp⟩)
  cases hm : M j (preN W X j) with
  | none => exact go (.inl hm) (by rw [← hl, lookT_none ((hs.no _ _).1 hm)])
  | some t =>
   obtain ⟨b, x, n0⟩ := t
   have hy := hs.yes hm
   cases x with
   | false => exact go (.inr ⟨b, n0, hm⟩) (by rw [← hl]; show (lookT l j (preN W X j)).1 = false; rw [← hy])
   | true =>
    have e0 : l.any (fun y => sameP y ⟨j, preN W X j, n⟩) = true := by
     rw [← hl]; show (lookT l j (preN W X j)).1 = true; rw [← hy]
    refine (tPut_twice w0 w g M l W X m N n h hs h1 h2 hX j hj hXW hc b n0 hm).mono ?_
    rintro e_ w' ⟨rfl, hb⟩
    have e5 : putEt 0 m N l ⟨j, preN W X j, n⟩ = 6 := by unfold putEt; rw [if_neg (by simp), e0, if_pos rfl]
    rw [e5]
    exact ⟨rfl, M, by rw [if_neg (by decide)]; exact h.step hb, by rw [if_neg (by decide)]; exact hs, Kept.of_below hb _⟩
 ·have e5 : putEt (mayP W k0 X lg) m N l ⟨lg.toNat, preN W X lg.toNat, n⟩ = mayP W k0 X lg := by unfold putEt; rw [if_pos hc]
  rw [e5]
  refine (tPut_err w0 w g M l W X k0 m N lg n h hs h1 h2 hX hc).mono ?_
  rintro e_ w' ⟨rfl, hb⟩
  exact ⟨rfl, M, by rw [if_neg hc]; exact h.step hb, by rw [if_neg hc]; exact hs, Kept.of_below hb _⟩
end Go.Proofs.Ytfdbcnbakchcgaa.XR
