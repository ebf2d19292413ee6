import Derived.Test.YtfdbcnbakchcgaaSr
import Derived.Test.YtfdbcnbakchcgaaRb
namespace Go.Proofs.Ytfdbcnbakchcgaa.XR
open Go.RowKit Go.Proofs.YtfdbcnbakchcgaaW.PrintWords Go.Proofs.YtfdbcnbakchcgaaW.PrintLast Go.Proofs.YtfdbcnbakchcgaaW.PrintMore
attribute [local go_sem] max2_int min2_int max_two min_two max_three min_three max_four min_four   -- for this text's walks alone
set_option linter.unusedVariables false
set_option linter.unusedSimpArgs false
set_option maxHeartbeats 1000000 in
set_option maxRecDepth 100000 in
theorem tNew_ok (W m : Int) (w : World) (h1 : 1 ≤ W) (h2 : W ≤ 128) (h3 : 1 ≤ m) (h4 : m ≤ 256) :
 Calls Try.prog 16 #[.int .i64 W, .int .i64 m] w fun e w' => e = .returned (.pointer (some ⟨w.heap.size + 1, 0, none⟩)) ∧ w' = (w.alloc (.cells #[.pointer none, .pointer none, .bool false, .int .i64 0] 116 (0, 0))).alloc (.cells #[.pointer (some ⟨w.heap.size, 0, none⟩), .int .i64 W, .int .i64 m, .int .i64 0] 118 (0, 0)) := by
 have e1 : decide (W < 1) = false := by simp; omega
 have e2 : decide (128 < W) = false := by simp; omega
 have e3 : decide (m < 1) = false := by simp; omega
 have e4 : decide (256 < m) = false := by simp; omega
 go_enter Try.func16, Try.ntmps16
 go_wp2
 go_ret
 exact ⟨rfl, rfl⟩
/-- A trie just made. -/
def newM (b : Nat) : NM := setM (fun _ _ => none) 0 0 (some (b, false, 0))
theorem KT_new (w : World) (W m : Int) : KT w ((w.alloc (.cells #[.pointer none, .pointer none, .bool false, .int .i64 0] 116 (0, 0))).alloc (.cells #[.pointer (some ⟨w.heap.size, 0, none⟩), .int .i64 W, .int .i64 m, .int .i64 0] 118 (0, 0))) (w.heap.size + 1) (newM w.heap.size) W m 0 := by
 have hb := blk_alloc (blk_new w (.cells #[.pointer none, .pointer none, .bool false, .int .i64 0] 116 (0, 0))) (.cells #[.pointer (some ⟨w.heap.size, 0, none⟩), .int .i64 W, .int .i64 m, .int .i64 0] 118 (0, 0))
 have hz : (w.alloc (.cells #[.pointer none, .pointer none, .bool false, .int .i64 0] 116 (0, 0))).heap.size = w.heap.size + 1 := by simp
 have hg := blk_new (w.alloc (.cells #[.pointer none, .pointer none, .bool false, .int .i64 0] 116 (0, 0))) (.cells #[.pointer (some ⟨w.heap.size, 0, none⟩), .int .i64 W, .int .i64 m, .int .i64 0] 118 (0, 0))
 rw [hz] at hg
 have only : ∀ i k t, newM w.heap.size i k = some t → (i = 0 ∧ k = 0) ∧ t = (w.heap.size, false, 0) := by
  intro i k t ht
  by_cases e : i = 0 ∧ k = 0
  ·obtain ⟨rfl, rfl⟩ := e; unfold newM at ht; rw [setM_at] at ht; injection ht with ht; exact ⟨⟨rfl, rfl⟩, ht.symm⟩
  ·unfold newM at ht; rw [setM_off _ _ _ _ e] at ht; cases ht
 refine ⟨hg, ⟨fun i k b h n hm => ?_, fun i k i' k' t t' h1 h2 _ => ?_, fun i k t ht => ?_⟩, by omega, below_alloc (below_alloc (Below.refl _ _) _) _⟩
 ·obtain ⟨⟨rfl, rfl⟩, e⟩ := only _ _ _ hm
  injection e with e1 e2; injection e2 with e2 e3; subst e1 e2 e3
  exact hb
 ·obtain ⟨⟨rfl, rfl⟩, _⟩ := only _ _ _ h1
  obtain ⟨⟨rfl, rfl⟩, _⟩ := only _ _ _ h2
  exact ⟨rfl, rfl⟩
 ·obtain ⟨_, rfl⟩ := only _ _ _ ht; exact Nat.le_refl _
theorem SH_new (b : Nat) : SH (newM b) [] := by
 intro i k
 unfold newM nodeAt
 by_cases e : i = 0 ∧ k = 0
 ·obtain ⟨rfl, rfl⟩ := e; rw [setM_at, if_pos (.inl ⟨rfl, rfl⟩)]; rfl
 ·rw [setM_off _ _ _ _ e, if_neg]
  ·rfl
  ·rintro (h | h)
   ·exact e h
   ·simp [nodeIn] at h
set_option maxHeartbeats 1000000 in
set_option maxRecDepth 100000 in
theorem tLen_nil (w : World) : Calls Try.prog 19 #[.pointer none] w fun e w' => e = .returned (.int .i64 0) ∧ w' = w := by
 go_enter Try.func19, Try.ntmps19
 go_wp2
 go_ret
 exact ⟨rfl, rfl⟩
theorem preN_zero (W X : Nat) (h : X < 2 ^ W) : preN W X 0 = 0 := by unfold preN; rw [Nat.sub_zero]; exact Nat.div_eq_of_lt h
theorem son_cell {w : World} {base : Nat} {M : NM} (h : NT w base M) {i k b s : Nat} {x : Bool} {n : Int} (hm : M i k = some (b, x, n)) (hs : s < 2) : w.cell? ⟨b, s, none⟩ = some (sonP M (i + 1) (2 * k + s)) := by
 have hc := h.cell i k b x n hm
 rcases (by omega : s = 0 ∨ s = 1) with rfl | rfl
 ·exact blk_cell hc 0
 ·exact blk_cell hc 1
theorem ptr_some {M : NM} {i k b : Nat} {x : Bool} {n : Int} (hm : M i k = some (b, x, n)) : sonP M i k = .pointer (some ⟨b, 0, none⟩) := by unfold sonP; rw [hm]; rfl
theorem ptr_none {M : NM} {i k : Nat} (hm : M i k = none) : sonP M i k = .pointer none := by unfold sonP; rw [hm]; rfl
set_option maxHeartbeats 1000000 in
set_option maxRecDepth 100000 in
theorem find_calls (w0 w : World) (g : Nat) (M : NM) (l : List TI) (W X long : Nat) (m N : Int) (h : KT w0 w g M (W : Int) m N) (hs : SH M l) (h1 : 1 ≤ W) (h2 : W ≤ 128) (hX : X < 2 ^ W) (hl : long ≤ W) :
 Calls Try.prog 83 #[.pointer (some ⟨g, 0, none⟩), .agg #[.int .i64 (W : Int), .int .u64 (hiW X), .int .u64 (loW X)], .int .i64 (long : Int)] w fun e w' => e = .returned (sonP M long (preN W X long)) ∧ Below w.heap.size w w' := by
 have HK1 := Aside0.mk (h.step (below_alloc (Below.refl _ _) (.cells #[.int .i64 (W : Int), .int .u64 (hiW X), .int .u64 (loW X)] 32 (0, 0))))
 have HX1 := Aside0.mk (blk_new w (.cells #[.int .i64 (W : Int), .int .u64 (hiW X), .int .u64 (loW X)] 32 (0, 0)))
 have HW1 := Aside0.mk (below_alloc (Below.refl w.heap.size w) (.cells #[.int .i64 (W : Int), .int .u64 (hiW X), .int .u64 (loW X)] 32 (0, 0)))
 have HS := Aside0.mk hs
 have H1 := Aside0.mk h1
 have H2 := Aside0.mk h2
 have HX8 := Aside0.mk (show X < 2 ^ 128 from Nat.lt_of_lt_of_le hX (pow_le128 h2))
 have HP0 := Aside0.mk (preN_zero W X hX)
 have HL := Aside0.mk hl
 have c0 := blk_cell HK1.out.blk 0
 simp only [List.getElem?_toArray, List.getElem?_cons_succ, List.getElem?_cons_zero] at c0
 clear h hs h1 h2 hX hl
 go_enter Try.func83, Try.ntmps83
 go_wp2
 generalize w.alloc (.cells #[.int .i64 (W : Int), .int .u64 (hiW X), .int .u64 (loW X)] 32 (0, 0)) = wq at HK1 HX1 HW1 c0 ⊢
 clear c0
 go_loopw [7, 8] (fun u7 u8 w' => ∃ i : Nat, i ≤ long ∧ u8 = .int .i64 i ∧ u7 = sonP M i (preN W X i) ∧ Aside0 (Below wq.heap.size wq w')) (fun _ u8 _ => long - (intOf u8).toNat)
 case atStart => exact ⟨0, Nat.zero_le _, rfl, by rw [HP0.out], ⟨Below.refl _ _⟩⟩
 case round =>
  obtain ⟨i, hi, rfl, rfl, HB⟩ := hrel
  have hlw := HL.out
  have hw128 := H2.out
  by_cases hlt : i < long
  ·cases hm : M i (preN W X i) with
   | none =>
    have hres := HS.out.down W X hm long hi hlw
    rw [ptr_none hm]
    have HR := Aside0.mk (ptr_none hres)
    clear hm hres
    go_wp2
    go_ret
    exact ⟨by rw [HR.out]; rfl, below_step HW1.out HB.out⟩
   | some t =>
    obtain ⟨b, x, n⟩ := t
    rw [ptr_some hm]
    have hib : i + 1 ≤ W := by omega
    obtain ⟨s, hsv⟩ : ∃ s, s = bitN W X i := ⟨_, rfl⟩
    have HBIT := Aside0.mk (show trie_bit.f (W : Int) (hiW X) (loW X) (i : Int) = some ((s : Nat) : Int) from by rw [hsv]; exact trie_bit_eq W X i H1.out H2.out HX8.out hib)
    have hs2 : s < 2 := by rw [hsv]; exact bitN_lt W X i
    have hpx : preN W X (i + 1) = 2 * preN W X i + s := by rw [hsv]; exact preN_succ W X i hib
    have HPX := Aside0.mk hpx
    have HSON := Aside0.mk (show ∀ w', Below wq.heap.size wq w' → w'.cell? ⟨b, s, none⟩ = some (sonP M (i + 1) (preN W X (i + 1))) from fun w' hb => by rw [hpx]; exact son_cell (HK1.out.step hb).nt hm hs2)
    have hs0 : 0 ≤ (s : Int) := by omega
    have hs1 : (s : Int) < 2 := by omega
    clear hsv hpx hm hs2
    go_wp2
    refine start_ (n := 9) (S := fun w' => Below wq.heap.size wq w') (ds := []) #[false, false, false, false, false, false, false, false, false] (by kernel_rfl) rfl rfl (below_drew1 HB.out) (fun hHeld => ?_)
    clear HB
    generalize World.drew _ = w5 at hHeld ⊢
    refine pl_ [0, 2, 4, 5] ?_
    iterate 4 refine pP rfl rfl (by kernel_rfl) (fun _ _ _ h => h) (by rfl) (by intro w'; go_simp; with_reducible rfl) (by simp only [Act.put, z1, z2, z3, i64_w, i32_w]; rfl) ?_
    refine pl0 ?_
    refine take_ (i := 1) (N := some 23) (v := ?_) (a' := ?_) #[true, true, true, false, true, true, false, false, false] rfl rfl (by kernel_rfl) (fun _ _ _ h => h) (Or.inl ⟨by rfl, ?_⟩) hHeld ?_ ?_
    rotate_left
    ·intro w' hs
     have m0 := blk_cell (blk_below HX1.out hs) 0
     have m1 := blk_cell (blk_below HX1.out hs) 1
     have m2 := blk_cell (blk_below HX1.out hs) 2
     simp only [List.getElem?_toArray, List.getElem?_cons_succ, List.getElem?_cons_zero] at m0 m1 m2
     go_simp
     with_reducible rfl
    rotate_left
    ·simp only [Act.put, List.setIfInBounds_toArray, List.set_cons_zero, List.set_cons_succ, i64_w, i32_w]
     rfl
    have HH := Aside0.mk hHeld
    clear hHeld
    refine one_ (i := 3) (N := some 25) #[true, true, true, true, true, true, false, false, false] rfl rfl (by kernel_rfl) (by decide) (fun K hK => ?_)
    refine goes_ Try.func74 (by kernel_rfl) rfl #[.agg #[.int .i64 (W : Int), .int .u64 (hiW X), .int .u64 (loW X)], .int .i64 (i : Int)] (by rfl) rfl rfl (by simp only [List.map_toArray, List.map_cons, List.map_nil]; rfl) ?_
    with_reducible refine (trie_bit.calls (W : Int) (hiW X) (loW X) (i : Int) (s : Int) _ HBIT.out).mono ?_
    rintro e_ w1 ⟨rfl, hb⟩
    refine ⟨_, rfl, ?_⟩
    have HB8 := Aside0.mk (below_step HH.out hb)
    clear hb HH
    refine hK.out _ _ HB8.out (fun hHeld => ?_)
    clear hK K
    refine norm_ (a' := ?_) ?_ ?_
    rotate_left
    ·show Act.put _ (some 25) _ = _
     simp only [Act.put, List.setIfInBounds_toArray, List.set_cons_zero, List.set_cons_succ, i64_w, i32_w]
     rfl
    refine pl_ [6] ?_
    refine pP rfl rfl (by kernel_rfl) (fun _ _ _ h => h) (by rfl) (by intro w'; go_simp; with_reducible rfl) (by simp only [Act.put, z1, z2, z3, i64_w, i32_w]; rfl) ?_
    refine pl0 ?_
    refine take_ (i := 7) (N := some 29) (v := ?_) (a' := ?_) #[true, true, true, true, true, true, true, true, false] rfl rfl (by kernel_rfl) (fun _ _ _ h => h) (Or.inl ⟨by rfl, ?_⟩) hHeld ?_ ?_
    rotate_left
    ·intro w' hs
     have m0 := HSON.out w' hs
     go_simp
     with_reducible rfl
    rotate_left
    ·simp only [Act.put, List.setIfInBounds_toArray, List.set_cons_zero, List.set_cons_succ, i64_w, i32_w]
     rfl
    refine pl_ [8] ?_
    refine pP rfl rfl (by kernel_rfl) (fun _ _ _ h => h) (by rfl) (by intro w'; go_simp; with_reducible rfl) (by simp only [Act.put, z1, z2, z3, i64_w, i32_w]; rfl) ?_
    refine pl0 ?_
    refine done_ (by kernel_rfl) ?_
    go_wp2
    go_roundw
    case measure => first | (simp [intOf]; done) | (simp [intOf]; omega)
    case rel => exact ⟨i + 1, hlt, by go_num, rfl, HB8⟩
  ·have hie : i = long := by omega
   subst hie
   go_wp2
   go_ret
   exact ⟨rfl, below_step HW1.out HB.out⟩
/-- What Get answers, of the longest that is met. -/
def trip (o : Option (Nat × Int)) : Int × Int × Bool := match o with
 | none => (0, 0, false)
 | some t => (t.2, (t.1 : Int), true)
theorem bestTo_hit {l : List TI} {W X i : Nat} {n : Int} (h : lookT l i (preN W X i) = (true, n)) : bestTo l W X (i + 1) = some (i, n) := by
 unfold bestTo
 rw [show X / 2 ^ (W - i) = preN W X i from rfl, h, if_pos rfl]
theorem bestTo_miss {l : List TI} {W X i : Nat} {n : Int} (h : lookT l i (preN W X i) = (false, n)) : bestTo l W X (i + 1) = bestTo l W X i := by
 show (if (lookT l i (preN W X i)).1 = true then _ else _) = _
 rw [h, if_neg (by simp)]
set_option maxHeartbeats 1000000 in
set_option maxRecDepth 100000 in
theorem tGet_nil (a b c : Int) (w : World) : Calls Try.prog 21 #[.pointer none, .agg #[.int .i64 a, .int .u64 b, .int .u64 c]] w fun e w' => e = .returned (.tuple #[.int .i64 0, .int .i64 0, .bool false]) ∧ Below w.heap.size w w' := by
 go_enter Try.func21, Try.ntmps21
 go_wp2
 have HX1 := Aside0.mk (below_alloc (Below.refl w.heap.size w) (.cells #[.int .i64 a, .int .u64 b, .int .u64 c] 32 (0, 0)))
 generalize w.alloc (.cells #[.int .i64 a, .int .u64 b, .int .u64 c] 32 (0, 0)) = wq at HX1 ⊢
 refine start_ (n := 16) (S := fun w' => True) (ds := []) #[false, false, false, false, false, false, false, false, false, false, false, false, false, false, false, false] (by kernel_rfl) rfl rfl trivial (fun hHeld => ?_)
 have HX2 := Aside0.mk (below_drew1 HX1.out)
 clear HX1
 generalize World.drew _ = w2 at HX2 ⊢
 refine pl_ [0, 1, 2, 3, 4, 5, 6, 7, 8, 9, 10, 11, 12, 13, 14, 15] ?_
 iterate 3 refine pP rfl rfl (by kernel_rfl) (fun _ _ _ h => h) (by rfl) (by intro w'; go_simp; with_reducible rfl) (by simp only [Act.put, z1, z2, z3, i64_w, i32_w]; rfl) ?_
 iterate 3 refine pU rfl rfl (by kernel_rfl) (fun _ _ _ h => h) (by rfl) (by simp only [Act.put, z1, z2, z3, i64_w, i32_w]; rfl) ?_
 iterate 2 refine pP rfl rfl (by kernel_rfl) (fun _ _ _ h => h) (by rfl) (by intro w'; go_simp; with_reducible rfl) (by simp only [Act.put, z1, z2, z3, i64_w, i32_w]; rfl) ?_
 iterate 7 refine pU rfl rfl (by kernel_rfl) (fun _ _ _ h => h) (by rfl) (by simp only [Act.put, z1, z2, z3, i64_w, i32_w]; rfl) ?_
 refine pP rfl rfl (by kernel_rfl) (fun _ _ _ h => h) (by rfl) (by intro w'; go_simp; with_reducible rfl) (by simp only [Act.put, z1, z2, z3, i64_w, i32_w]; rfl) ?_
 refine pl0 ?_
 refine done_ (by kernel_rfl) ?_
 go_wp2
 go_ret3
 exact ⟨rfl, HX2.out⟩
set_option maxHeartbeats 1000000 in
set_option maxRecDepth 100000 in
theorem tGet_bad1 (w0 w : World) (g : Nat) (M : NM) (l : List TI) (W X : Nat) (k0 m N : Int) (h : KT w0 w g M (W : Int) m N) (hX : X < 2 ^ 128) (hm : vmay k0 X = false) :
 Calls Try.prog 21 #[.pointer (some ⟨g, 0, none⟩), .agg #[.int .i64 k0, .int .u64 (hiW X), .int .u64 (loW X)]] w fun e w' => e = .returned (.tuple #[.int .i64 0, .int .i64 0, .bool false]) ∧ Below w.heap.size w w' := by
 have HK1 := Aside0.mk (h.step (below_alloc (Below.refl _ _) (.cells #[.int .i64 k0, .int .u64 (hiW X), .int .u64 (loW X)] 32 (0, 0))))
 have HX1 := Aside0.mk (blk_new w (.cells #[.int .i64 k0, .int .u64 (hiW X), .int .u64 (loW X)] 32 (0, 0)))
 have HW1 := Aside0.mk (below_alloc (Below.refl w.heap.size w) (.cells #[.int .i64 k0, .int .u64 (hiW X), .int .u64 (loW X)] 32 (0, 0)))
 have HMAY := Aside0.mk (show vec_May.f k0 (hiW X) (loW X) = some false from by rw [vec_May_eq k0 X hX, hm])
 clear h hX hm
 go_enter Try.func21, Try.ntmps21
 go_wp2
 generalize w.alloc (.cells #[.int .i64 k0, .int .u64 (hiW X), .int .u64 (loW X)] 32 (0, 0)) = wq at HK1 HX1 HW1 ⊢
 refine start_ (n := 16) (S := fun w' => Below wq.heap.size wq w') (ds := []) #[false, false, false, false, false, false, false, false, false, false, false, false, false, false, false, false] (by kernel_rfl) rfl rfl (below_drew1 (Below.refl _ _)) (fun hHeld => ?_)
 generalize World.drew _ = w2 at hHeld ⊢
 refine pl_ [0, 1, 2] ?_
 iterate 3 refine pP rfl rfl (by kernel_rfl) (fun _ _ _ h => h) (by rfl) (by intro w'; go_simp; with_reducible rfl) (by simp only [Act.put, z1, z2, z3, i64_w, i32_w]; rfl) ?_
 refine pl0 ?_
 refine take_ (i := 3) (N := some 15) (v := ?_) (a' := ?_) #[true, true, true, true, false, false, false, false, false, false, false, false, false, false, false, false] rfl rfl (by kernel_rfl) (fun _ _ _ h => h) (Or.inl ⟨by rfl, ?_⟩) hHeld ?_ ?_
 rotate_left
 ·intro w' hs
  have m0 := blk_cell (blk_below HX1.out hs) 0
  have m1 := blk_cell (blk_below HX1.out hs) 1
  have m2 := blk_cell (blk_below HX1.out hs) 2
  simp only [List.getElem?_toArray, List.getElem?_cons_succ, List.getElem?_cons_zero] at m0 m1 m2
  go_simp
  with_reducible rfl
 rotate_left
 ·simp only [Act.put, List.setIfInBounds_toArray, List.set_cons_zero, List.set_cons_succ, i64_w, i32_w]
  rfl
 have HH := Aside0.mk hHeld
 clear hHeld
 refine one_ (i := 4) (N := some 16) #[true, true, true, true, true, false, false, false, false, false, false, false, false, false, false, false] rfl rfl (by kernel_rfl) (by decide) (fun K hK => ?_)
 refine goes_ Try.func73 (by kernel_rfl) rfl #[.agg #[.int .i64 k0, .int .u64 (hiW X), .int .u64 (loW X)]] (by rfl) rfl rfl (by simp only [List.map_toArray, List.map_cons, List.map_nil]; rfl) ?_
 with_reducible refine (vec_May.calls k0 (hiW X) (loW X) false _ HMAY.out).mono ?_
 rintro e_ w1 ⟨rfl, hb⟩
 refine ⟨_, rfl, ?_⟩
 have HB8 := Aside0.mk (below_step HH.out hb)
 clear hb HH
 refine hK.out _ _ HB8.out (fun hHeld => ?_)
 clear hK K
 refine norm_ (a' := ?_) ?_ ?_
 rotate_left
 ·show Act.put _ (some 16) _ = _
  simp only [Act.put, List.setIfInBounds_toArray, List.set_cons_zero, List.set_cons_succ, i64_w, i32_w]
  rfl
 refine pl_ [5, 6, 7, 8, 9, 10, 11, 12, 13, 14, 15] ?_
 iterate 3 refine pP rfl rfl (by kernel_rfl) (fun _ _ _ h => h) (by rfl) (by intro w'; go_simp; with_reducible rfl) (by simp only [Act.put, z1, z2, z3, i64_w, i32_w]; rfl) ?_
 iterate 7 refine pU rfl rfl (by kernel_rfl) (fun _ _ _ h => h) (by rfl) (by simp only [Act.put, z1, z2, z3, i64_w, i32_w]; rfl) ?_
 refine pP rfl rfl (by kernel_rfl) (fun _ _ _ h => h) (by rfl) (by intro w'; go_simp; with_reducible rfl) (by simp only [Act.put, z1, z2, z3, i64_w, i32_w]; rfl) ?_
 refine pl0 ?_
 refine done_ (by kernel_rfl) ?_
 go_wp2
 go_ret3
 exact ⟨rfl, below_step HW1.out HB8.out⟩
set_option maxHeartbeats 1000000 in
set_option maxRecDepth 100000 in
theorem tGet_bad2 (w0 w : World) (g : Nat) (M : NM) (l : List TI) (W X : Nat) (k0 m N : Int) (h : KT w0 w g M (W : Int) m N) (hX : X < 2 ^ 128) (hm : vmay k0 X = true) (hw : (k0 != (W : Int)) = true) :
 Calls Try.prog 21 #[.pointer (some ⟨g, 0, none⟩), .agg #[.int .i64 k0, .int .u64 (hiW X), .int .u64 (loW X)]] w fun e w' => e = .returned (.tuple #[.int .i64 0, .int .i64 0, .bool false]) ∧ Below w.heap.size w w' := by
 have HK1 := Aside0.mk (h.step (below_alloc (Below.refl _ _) (.cells #[.int .i64 k0, .int .u64 (hiW X), .int .u64 (loW X)] 32 (0, 0))))
 have HX1 := Aside0.mk (blk_new w (.cells #[.int .i64 k0, .int .u64 (hiW X), .int .u64 (loW X)] 32 (0, 0)))
 have HW1 := Aside0.mk (below_alloc (Below.refl w.heap.size w) (.cells #[.int .i64 k0, .int .u64 (hiW X), .int .u64 (loW X)] 32 (0, 0)))
 have HMAY := Aside0.mk (show vec_May.f k0 (hiW X) (loW X) = some true from by rw [vec_May_eq k0 X hX, hm])
 clear h hX hm
 go_enter Try.func21, Try.ntmps21
 go_wp2
 generalize w.alloc (.cells #[.int .i64 k0, .int .u64 (hiW X), .int .u64 (loW X)] 32 (0, 0)) = wq at HK1 HX1 HW1 ⊢
 refine start_ (n := 16) (S := fun w' => Below wq.heap.size wq w') (ds := []) #[false, false, false, false, false, false, false, false, false, false, false, false, false, false, false, false] (by kernel_rfl) rfl rfl (below_drew1 (Below.refl _ _)) (fun hHeld => ?_)
 generalize World.drew _ = w2 at hHeld ⊢
 refine pl_ [0, 1, 2] ?_
 iterate 3 refine pP rfl rfl (by kernel_rfl) (fun _ _ _ h => h) (by rfl) (by intro w'; go_simp; with_reducible rfl) (by simp only [Act.put, z1, z2, z3, i64_w, i32_w]; rfl) ?_
 refine pl0 ?_
 refine take_ (i := 3) (N := some 15) (v := ?_) (a' := ?_) #[true, true, true, true, false, false, false, false, false, false, false, false, false, false, false, false] rfl rfl (by kernel_rfl) (fun _ _ _ h => h) (Or.inl ⟨by rfl, ?_⟩) hHeld ?_ ?_
 rotate_left
 ·intro w' hs
  have m0 := blk_cell (blk_below HX1.out hs) 0
  have m1 := blk_cell (blk_below HX1.out hs) 1
  have m2 := blk_cell (blk_below HX1.out hs) 2
  simp only [List.getElem?_toArray, List.getElem?_cons_succ, List.getElem?_cons_zero] at m0 m1 m2
  go_simp
  with_reducible rfl
 rotate_left
 ·simp only [Act.put, List.setIfInBounds_toArray, List.set_cons_zero, List.set_cons_succ, i64_w, i32_w]
  rfl
 have HH := Aside0.mk hHeld
 clear hHeld
 refine one_ (i := 4) (N := some 16) #[true, true, true, true, true, false, false, false, false, false, false, false, false, false, false, false] rfl rfl (by kernel_rfl) (by decide) (fun K hK => ?_)
 refine goes_ Try.func73 (by kernel_rfl) rfl #[.agg #[.int .i64 k0, .int .u64 (hiW X), .int .u64 (loW X)]] (by rfl) rfl rfl (by simp only [List.map_toArray, List.map_cons, List.map_nil]; rfl) ?_
 with_reducible refine (vec_May.calls k0 (hiW X) (loW X) true _ HMAY.out).mono ?_
 rintro e_ w1 ⟨rfl, hb⟩
 refine ⟨_, rfl, ?_⟩
 have HB8 := Aside0.mk (below_step HH.out hb)
 clear hb HH
 refine hK.out _ _ HB8.out (fun hHeld => ?_)
 clear hK K
 refine norm_ (a' := ?_) ?_ ?_
 rotate_left
 ·show Act.put _ (some 16) _ = _
  simp only [Act.put, List.setIfInBounds_toArray, List.set_cons_zero, List.set_cons_succ, i64_w, i32_w]
  rfl
 refine pl_ [5, 6, 7, 8, 10, 11, 12] ?_
 iterate 7 refine pP rfl rfl (by kernel_rfl) (fun _ _ _ h => h) (by rfl) (by intro w'; go_simp; with_reducible rfl) (by simp only [Act.put, z1, z2, z3, i64_w, i32_w]; rfl) ?_
 refine pl0 ?_
 refine take_ (i := 9) (N := some 21) (v := ?_) (a' := ?_) #[true, true, true, true, true, true, true, true, true, true, true, true, true, false, false, false] rfl rfl (by kernel_rfl) (fun _ _ _ h => h) (Or.inl ⟨by rfl, ?_⟩) hHeld ?_ ?_
 rotate_left
 ·intro w' hs
  have m0 := blk_cell (blk_below HX1.out hs) 0
  simp only [List.getElem?_toArray, List.getElem?_cons_succ, List.getElem?_cons_zero] at m0
  go_simp
  with_reducible rfl
 rotate_left
 ·simp only [Act.put, List.setIfInBounds_toArray, List.set_cons_zero, List.set_cons_succ, i64_w, i32_w]
  rfl
 refine take_ (i := 13) (N := some 25) (v := ?_) (a' := ?_) #[true, true, true, true, true, true, true, true, true, true, true, true, true, true, false, false] rfl rfl (by kernel_rfl) (fun _ _ _ h => h) (Or.inl ⟨by rfl, ?_⟩) hHeld ?_ ?_
 rotate_left
 ·intro w' hs
  have m1 := blk_cell (HK1.out.step hs).blk 1
  simp only [List.getElem?_toArray, List.getElem?_cons_succ, List.getElem?_cons_zero] at m1
  go_simp
  with_reducible rfl
 rotate_left
 ·simp only [Act.put, List.setIfInBounds_toArray, List.set_cons_zero, List.set_cons_succ, i64_w, i32_w]
  rfl
 refine pl_ [14, 15] ?_
 iterate 2 refine pP rfl rfl (by kernel_rfl) (fun _ _ _ h => h) (by rfl) (by intro w'; go_simp; with_reducible rfl) (by simp only [Act.put, z1, z2, z3, i64_w, i32_w]; rfl) ?_
 refine pl0 ?_
 refine done_ (by kernel_rfl) ?_
 go_wp2
 go_ret3
 exact ⟨rfl, below_step HW1.out HB8.out⟩
set_option maxHeartbeats 1000000 in
set_option maxRecDepth 100000 in
theorem tGet_ok (w0 w : World) (g : Nat) (M : NM) (l : List TI) (W X : Nat) (k0 m N : Int) (h : KT w0 w g M (W : Int) m N) (hs : SH M l) (h1 : 1 ≤ W) (h2 : W ≤ 128) (hX : X < 2 ^ W) (hk : k0 = (W : Int)) :
 Calls Try.prog 21 #[.pointer (some ⟨g, 0, none⟩), .agg #[.int .i64 k0, .int .u64 (hiW X), .int .u64 (loW X)]] w fun e w' => e = .returned (.tuple #[.int .i64 (trip (bestTo l W X (W + 1))).1, .int .i64 (trip (bestTo l W X (W + 1))).2.1, .bool (trip (bestTo l W X (W + 1))).2.2]) ∧ Below w.heap.size w w' := by
 subst hk
 have hw : ((W : Int) != (W : Int)) = false := by simp
 have HX8 := Aside0.mk (show X < 2 ^ 128 from Nat.lt_of_lt_of_le hX (pow_le128 h2))
 have HMAY := Aside0.mk (show vec_May.f (W : Int) (hiW X) (loW X) = some true from by rw [vec_May_eq _ X HX8.out]; unfold vmay; rw [decide_eq_true (by rw [Int.toNat_natCast]; exact ⟨by omega, by omega, hX⟩)])
 have HS := Aside0.mk hs
 have H1 := Aside0.mk h1
 have H2 := Aside0.mk h2
 have HP0 := Aside0.mk (preN_zero W X hX)
 have HXW := Aside0.mk hX
 have HK1 := Aside0.mk (h.step (below_alloc (Below.refl _ _) (.cells #[.int .i64 (W : Int), .int .u64 (hiW X), .int .u64 (loW X)] 32 (0, 0))))
 have HX1 := Aside0.mk (blk_new w (.cells #[.int .i64 (W : Int), .int .u64 (hiW X), .int .u64 (loW X)] 32 (0, 0)))
 have HW1 := Aside0.mk (below_alloc (Below.refl w.heap.size w) (.cells #[.int .i64 (W : Int), .int .u64 (hiW X), .int .u64 (loW X)] 32 (0, 0)))
 clear h hs h1 h2 hX
 go_enter Try.func21, Try.ntmps21
 go_wp2
 generalize w.alloc (.cells #[.int .i64 (W : Int), .int .u64 (hiW X), .int .u64 (loW X)] 32 (0, 0)) = wq at HK1 HX1 HW1 ⊢
 refine start_ (n := 16) (S := fun w' => Below wq.heap.size wq w') (ds := []) #[false, false, false, false, false, false, false, false, false, false, false, false, false, false, false, false] (by kernel_rfl) rfl rfl (below_drew1 (Below.refl _ _)) (fun hHeld => ?_)
 generalize World.drew _ = w2 at hHeld ⊢
 refine pl_ [0, 1, 2] ?_
 iterate 3 refine pP rfl rfl (by kernel_rfl) (fun _ _ _ h => h) (by rfl) (by intro w'; go_simp; with_reducible rfl) (by simp only [Act.put, z1, z2, z3, i64_w, i32_w]; rfl) ?_
 refine pl0 ?_
 refine take_ (i := 3) (N := some 15) (v := ?_) (a' := ?_) #[true, true, true, true, false, false, false, false, false, false, false, false, false, false, false, false] rfl rfl (by kernel_rfl) (fun _ _ _ h => h) (Or.inl ⟨by rfl, ?_⟩) hHeld ?_ ?_
 rotate_left
 ·intro w' hs
  have m0 := blk_cell (blk_below HX1.out hs) 0
  have m1 := blk_cell (blk_below HX1.out hs) 1
  have m2 := blk_cell (blk_below HX1.out hs) 2
  simp only [List.getElem?_toArray, List.getElem?_cons_succ, List.getElem?_cons_zero] at m0 m1 m2
  go_simp
  with_reducible rfl
 rotate_left
 ·simp only [Act.put, List.setIfInBounds_toArray, List.set_cons_zero, List.set_cons_succ, i64_w, i32_w]
  rfl
 have HH := Aside0.mk hHeld
 clear hHeld
 refine one_ (i := 4) (N := some 16) #[true, true, true, true, true, false, false, false, false, false, false, false, false, false, false, false] rfl rfl (by kernel_rfl) (by decide) (fun K hK => ?_)
 refine goes_ Try.func73 (by kernel_rfl) rfl #[.agg #[.int .i64 (W : Int), .int .u64 (hiW X), .int .u64 (loW X)]] (by rfl) rfl rfl (by simp only [List.map_toArray, List.map_cons, List.map_nil]; rfl) ?_
 with_reducible refine (vec_May.calls (W : Int) (hiW X) (loW X) true _ HMAY.out).mono ?_
 rintro e_ w1 ⟨rfl, hb⟩
 refine ⟨_, rfl, ?_⟩
 have HB8 := Aside0.mk (below_step HH.out hb)
 clear hb HH
 refine hK.out _ _ HB8.out (fun hHeld => ?_)
 clear hK K
 refine norm_ (a' := ?_) ?_ ?_
 rotate_left
 ·show Act.put _ (some 16) _ = _
  simp only [Act.put, List.setIfInBounds_toArray, List.set_cons_zero, List.set_cons_succ, i64_w, i32_w]
  rfl
 refine pl_ [5, 6, 7, 8, 10, 11, 12] ?_
 iterate 7 refine pP rfl rfl (by kernel_rfl) (fun _ _ _ h => h) (by rfl) (by intro w'; go_simp; with_reducible rfl) (by simp only [Act.put, z1, z2, z3, i64_w, i32_w]; rfl) ?_
 refine pl0 ?_
 refine take_ (i := 9) (N := some 21) (v := ?_) (a' := ?_) #[true, true, true, true, true, true, true, true, true, true, true, true, true, false, false, false] rfl rfl (by kernel_rfl) (fun _ _ _ h => h) (Or.inl ⟨by rfl, ?_⟩) hHeld ?_ ?_
 rotate_left
 ·intro w' hs
  have m0 := blk_cell (blk_below HX1.out hs) 0
  simp only [List.getElem?_toArray, List.getElem?_cons_succ, List.getElem?_cons_zero] at m0
  go_simp
  with_reducible rfl
 rotate_left
 ·simp only [Act.put, List.setIfInBounds_toArray, List.set_cons_zero, List.set_cons_succ, i64_w, i32_w]
  rfl
 refine take_ (i := 13) (N := some 25) (v := ?_) (a' := ?_) #[true, true, true, true, true, true, true, true, true, true, true, true, true, true, false, false] rfl rfl (by kernel_rfl) (fun _ _ _ h => h) (Or.inl ⟨by rfl, ?_⟩) hHeld ?_ ?_
 rotate_left
 ·intro w' hs
  have m1 := blk_cell (HK1.out.step hs).blk 1
  simp only [List.getElem?_toArray, List.getElem?_cons_succ, List.getElem?_cons_zero] at m1
  go_simp
  with_reducible rfl
 rotate_left
 ·simp only [Act.put, List.setIfInBounds_toArray, List.set_cons_zero, List.set_cons_succ, i64_w, i32_w]
  rfl
 refine pl_ [14, 15] ?_
 iterate 2 refine pP rfl rfl (by kernel_rfl) (fun _ _ _ h => h) (by rfl) (by intro w'; go_simp; with_reducible rfl) (by simp only [Act.put, z1, z2, z3, i64_w, i32_w]; rfl) ?_
 refine pl0 ?_
 refine done_ (by kernel_rfl) ?_
 have c0 := blk_cell (HK1.out.step HB8.out).blk 0
 have c1 := blk_cell (HK1.out.step HB8.out).blk 1
 simp only [List.getElem?_toArray, List.getElem?_cons_succ, List.getElem?_cons_zero] at c0 c1
 go_wp2
 clear c0 c1
 go_loopw [7, 8, 9, 10, 11] (fun u7 u8 u9 u10 u11 w' => ∃ i : Nat, i ≤ W ∧ u11 = .int .i64 i ∧ u10 = sonP M i (preN W X i) ∧ u7 = .int .i64 (trip (bestTo l W X i)).1 ∧ u8 = .int .i64 (trip (bestTo l W X i)).2.1 ∧ u9 = .bool (trip (bestTo l W X i)).2.2 ∧ Aside0 (Below wq.heap.size wq w')) (fun _ _ _ _ u11 _ => W - (intOf u11).toNat)
 case atStart => exact ⟨0, Nat.zero_le _, rfl, by rw [HP0.out], rfl, rfl, rfl, HB8⟩
 case round =>
  obtain ⟨i, hi, rfl, rfl, rfl, rfl, rfl, HB⟩ := hrel
  have hw128 := H2.out
  clear HB8
  cases hm : M i (preN W X i) with
  | none =>
   have hstop := bestTo_stop l W X HXW.out i hi ((HS.out.no _ _).1 hm) (W + 1) (by omega) (Nat.le_refl _)
   rw [ptr_none hm, ← hstop]
   clear hm hstop
   go_wp2
   go_ret3
   exact ⟨rfl, below_step HW1.out HB.out⟩
  | some t =>
   obtain ⟨b, x, n⟩ := t
   rw [ptr_some hm]
   have hlk := HS.out.yes hm
   have HN2 := Aside0.mk ((HK1.out.step HB.out).nt.cell i _ b x n hm)
   have c2 := blk_cell HN2.out 2
   have c3 := blk_cell HN2.out 3
   have c1 := blk_cell (HK1.out.step HB.out).blk 1
   simp only [List.getElem?_toArray, List.getElem?_cons_succ, List.getElem?_cons_zero] at c1 c2 c3
   have HNX := Aside0.mk (show ∃ ga gb gc, trip (bestTo l W X (i + 1)) = (ga, gb, gc) ∧ (x = true → ga = n ∧ gb = (i : Int) ∧ gc = true) ∧ (x = false → trip (bestTo l W X i) = (ga, gb, gc)) from by
    cases x with
    | true => exact ⟨_, _, _, by rw [bestTo_hit hlk.symm]; rfl, fun _ => ⟨rfl, rfl, rfl⟩, fun h => by cases h⟩
    | false => exact ⟨(trip (bestTo l W X i)).1, (trip (bestTo l W X i)).2.1, (trip (bestTo l W X i)).2.2, by rw [bestTo_miss hlk.symm], (fun h => by cases h), fun _ => rfl⟩)
   obtain ⟨ga, gb, gc, hg1, hg2, hg3⟩ := HNX.out
   have HG1 := Aside0.mk hg1
   clear hg1 HNX hlk
   cases x with
   | true =>
    obtain ⟨rfl, rfl, rfl⟩ := hg2 rfl
    clear hg2 hg3
    by_cases hlt : i < W
    ·have hne : ((i : Int) == (W : Int)) = false := by simp; omega
     have hib : i + 1 ≤ W := by omega
     obtain ⟨s, hsv⟩ : ∃ s, s = bitN W X i := ⟨_, rfl⟩
     have HBIT := Aside0.mk (show trie_bit.f (W : Int) (hiW X) (loW X) (i : Int) = some ((s : Nat) : Int) from by rw [hsv]; exact trie_bit_eq W X i H1.out H2.out HX8.out hib)
     have hs2 : s < 2 := by rw [hsv]; exact bitN_lt W X i
     have hpx : preN W X (i + 1) = 2 * preN W X i + s := by rw [hsv]; exact preN_succ W X i hib
     have HPX := Aside0.mk hpx
     have HSON := Aside0.mk (show ∀ w', Below wq.heap.size wq w' → w'.cell? ⟨b, s, none⟩ = some (sonP M (i + 1) (preN W X (i + 1))) from fun w' hb => by rw [hpx]; exact son_cell (HK1.out.step hb).nt hm hs2)
     have hs0 : 0 ≤ (s : Int) := by omega
     have hs1 : (s : Int) < 2 := by omega
     clear hsv hpx hm hs2
     go_wp2
     refine start_ (n := 9) (S := fun w' => Below wq.heap.size wq w') (ds := []) #[false, false, false, false, false, false, false, false, false] (by kernel_rfl) rfl rfl (below_drew1 HB.out) (fun hHeld => ?_)
     clear HB
     generalize World.drew _ = w5 at hHeld ⊢
     refine pl_ [0, 2, 4, 5] ?_
     iterate 4 refine pP rfl rfl (by kernel_rfl) (fun _ _ _ h => h) (by rfl) (by intro w'; go_simp; with_reducible rfl) (by simp only [Act.put, z1, z2, z3, i64_w, i32_w]; rfl) ?_
     refine pl0 ?_
     refine take_ (i := 1) (N := some 52) (v := ?_) (a' := ?_) #[true, true, true, false, true, true, false, false, false] rfl rfl (by kernel_rfl) (fun _ _ _ h => h) (Or.inl ⟨by rfl, ?_⟩) hHeld ?_ ?_
     rotate_left
     ·intro w' hs
      have m0 := blk_cell (blk_below HX1.out hs) 0
      have m1 := blk_cell (blk_below HX1.out hs) 1
      have m2 := blk_cell (blk_below HX1.out hs) 2
      simp only [List.getElem?_toArray, List.getElem?_cons_succ, List.getElem?_cons_zero] at m0 m1 m2
      go_simp
      with_reducible rfl
     rotate_left
     ·simp only [Act.put, List.setIfInBounds_toArray, List.set_cons_zero, List.set_cons_succ, i64_w, i32_w]
      rfl
     have HH := Aside0.mk hHeld
     clear hHeld
     refine one_ (i := 3) (N := some 54) #[true, true, true, true, true, true, false, false, false] rfl rfl (by kernel_rfl) (by decide) (fun K hK => ?_)
     refine goes_ Try.func74 (by kernel_rfl) rfl #[.agg #[.int .i64 (W : Int), .int .u64 (hiW X), .int .u64 (loW X)], .int .i64 (i : Int)] (by rfl) rfl rfl (by simp only [List.map_toArray, List.map_cons, List.map_nil]; rfl) ?_
     with_reducible refine (trie_bit.calls (W : Int) (hiW X) (loW X) (i : Int) (s : Int) _ HBIT.out).mono ?_
     rintro e_ w1 ⟨rfl, hb⟩
     refine ⟨_, rfl, ?_⟩
     have HB8 := Aside0.mk (below_step HH.out hb)
     clear hb HH
     refine hK.out _ _ HB8.out (fun hHeld => ?_)
     clear hK K
     refine norm_ (a' := ?_) ?_ ?_
     rotate_left
     ·show Act.put _ (some 54) _ = _
      simp only [Act.put, List.setIfInBounds_toArray, List.set_cons_zero, List.set_cons_succ, i64_w, i32_w]
      rfl
     refine pl_ [6] ?_
     refine pP rfl rfl (by kernel_rfl) (fun _ _ _ h => h) (by rfl) (by intro w'; go_simp; with_reducible rfl) (by simp only [Act.put, z1, z2, z3, i64_w, i32_w]; rfl) ?_
     refine pl0 ?_
     refine take_ (i := 7) (N := some 58) (v := ?_) (a' := ?_) #[true, true, true, true, true, true, true, true, false] rfl rfl (by kernel_rfl) (fun _ _ _ h => h) (Or.inl ⟨by rfl, ?_⟩) hHeld ?_ ?_
     rotate_left
     ·intro w' hs
      have m0 := HSON.out w' hs
      go_simp
      with_reducible rfl
     rotate_left
     ·simp only [Act.put, List.setIfInBounds_toArray, List.set_cons_zero, List.set_cons_succ, i64_w, i32_w]
      rfl
     refine pl_ [8] ?_
     refine pP rfl rfl (by kernel_rfl) (fun _ _ _ h => h) (by rfl) (by intro w'; go_simp; with_reducible rfl) (by simp only [Act.put, z1, z2, z3, i64_w, i32_w]; rfl) ?_
     refine pl0 ?_
     refine done_ (by kernel_rfl) ?_
     go_wp2
     go_roundw
     case measure => first | (simp [intOf]; done) | (simp [intOf]; omega)
     case rel => exact ⟨i + 1, hlt, by go_num, rfl, by rw [HG1.out], by rw [HG1.out], by rw [HG1.out], HB8⟩
    ·have hie : i = W := by omega
     have heq : ((i : Int) == (W : Int)) = true := by rw [hie]; simp
     have HIE := Aside0.mk hie
     clear hm hie
     go_wp2
     go_ret3
     exact ⟨by have e := HG1.out; rw [show i + 1 = W + 1 from by rw [HIE.out]] at e; rw [e]; rfl, below_step HW1.out HB.out⟩
   | false =>
    rw [hg3 rfl]
    clear hg2 hg3
    by_cases hlt : i < W
    ·have hne : ((i : Int) == (W : Int)) = false := by simp; omega
     have hib : i + 1 ≤ W := by omega
     obtain ⟨s, hsv⟩ : ∃ s, s = bitN W X i := ⟨_, rfl⟩
     have HBIT := Aside0.mk (show trie_bit.f (W : Int) (hiW X) (loW X) (i : Int) = some ((s : Nat) : Int) from by rw [hsv]; exact trie_bit_eq W X i H1.out H2.out HX8.out hib)
     have hs2 : s < 2 := by rw [hsv]; exact bitN_lt W X i
     have hpx : preN W X (i + 1) = 2 * preN W X i + s := by rw [hsv]; exact preN_succ W X i hib
     have HPX := Aside0.mk hpx
     have HSON := Aside0.mk (show ∀ w', Below wq.heap.size wq w' → w'.cell? ⟨b, s, none⟩ = some (sonP M (i + 1) (preN W X (i + 1))) from fun w' hb => by rw [hpx]; exact son_cell (HK1.out.step hb).nt hm hs2)
     have hs0 : 0 ≤ (s : Int) := by omega
     have hs1 : (s : Int) < 2 := by omega
     clear hsv hpx hm hs2
     go_wp2
     refine start_ (n := 9) (S := fun w' => Below wq.heap.size wq w') (ds := []) #[false, false, false, false, false, false, false, false, false] (by kernel_rfl) rfl rfl (below_drew1 HB.out) (fun hHeld => ?_)
     clear HB
     generalize World.drew _ = w5 at hHeld ⊢
     refine pl_ [0, 2, 4, 5] ?_
     iterate 4 refine pP rfl rfl (by kernel_rfl) (fun _ _ _ h => h) (by rfl) (by intro w'; go_simp; with_reducible rfl) (by simp only [Act.put, z1, z2, z3, i64_w, i32_w]; rfl) ?_
     refine pl0 ?_
     refine take_ (i := 1) (N := some 52) (v := ?_) (a' := ?_) #[true, true, true, false, true, true, false, false, false] rfl rfl (by kernel_rfl) (fun _ _ _ h => h) (Or.inl ⟨by rfl, ?_⟩) hHeld ?_ ?_
     rotate_left
     ·intro w' hs
      have m0 := blk_cell (blk_below HX1.out hs) 0
      have m1 := blk_cell (blk_below HX1.out hs) 1
      have m2 := blk_cell (blk_below HX1.out hs) 2
      simp only [List.getElem?_toArray, List.getElem?_cons_succ, List.getElem?_cons_zero] at m0 m1 m2
      go_simp
      with_reducible rfl
     rotate_left
     ·simp only [Act.put, List.setIfInBounds_toArray, List.set_cons_zero, List.set_cons_succ, i64_w, i32_w]
      rfl
     have HH := Aside0.mk hHeld
     clear hHeld
     refine one_ (i := 3) (N := some 54) #[true, true, true, true, true, true, false, false, false] rfl rfl (by kernel_rfl) (by decide) (fun K hK => ?_)
     refine goes_ Try.func74 (by kernel_rfl) rfl #[.agg #[.int .i64 (W : Int), .int .u64 (hiW X), .int .u64 (loW X)], .int .i64 (i : Int)] (by rfl) rfl rfl (by simp only [List.map_toArray, List.map_cons, List.map_nil]; rfl) ?_
     with_reducible refine (trie_bit.calls (W : Int) (hiW X) (loW X) (i : Int) (s : Int) _ HBIT.out).mono ?_
     rintro e_ w1 ⟨rfl, hb⟩
     refine ⟨_, rfl, ?_⟩
     have HB8 := Aside0.mk (below_step HH.out hb)
     clear hb HH
     refine hK.out _ _ HB8.out (fun hHeld => ?_)
     clear hK K
     refine norm_ (a' := ?_) ?_ ?_
     rotate_left
     ·show Act.put _ (some 54) _ = _
      simp only [Act.put, List.setIfInBounds_toArray, List.set_cons_zero, List.set_cons_succ, i64_w, i32_w]
      rfl
     refine pl_ [6] ?_
     refine pP rfl rfl (by kernel_rfl) (fun _ _ _ h => h) (by rfl) (by intro w'; go_simp; with_reducible rfl) (by simp only [Act.put, z1, z2, z3, i64_w, i32_w]; rfl) ?_
     refine pl0 ?_
     refine take_ (i := 7) (N := some 58) (v := ?_) (a' := ?_) #[true, true, true, true, true, true, true, true, false] rfl rfl (by kernel_rfl) (fun _ _ _ h => h) (Or.inl ⟨by rfl, ?_⟩) hHeld ?_ ?_
     rotate_left
     ·intro w' hs
      have m0 := HSON.out w' hs
      go_simp
      with_reducible rfl
     rotate_left
     ·simp only [Act.put, List.setIfInBounds_toArray, List.set_cons_zero, List.set_cons_succ, i64_w, i32_w]
      rfl
     refine pl_ [8] ?_
     refine pP rfl rfl (by kernel_rfl) (fun _ _ _ h => h) (by rfl) (by intro w'; go_simp; with_reducible rfl) (by simp only [Act.put, z1, z2, z3, i64_w, i32_w]; rfl) ?_
     refine pl0 ?_
     refine done_ (by kernel_rfl) ?_
     go_wp2
     go_roundw
     case measure => first | (simp [intOf]; done) | (simp [intOf]; omega)
     case rel => exact ⟨i + 1, hlt, by go_num, rfl, by rw [HG1.out], by rw [HG1.out], by rw [HG1.out], HB8⟩
    ·have hie : i = W := by omega
     have heq : ((i : Int) == (W : Int)) = true := by rw [hie]; simp
     have HIE := Aside0.mk hie
     clear hm hie
     go_wp2
     go_ret3
     exact ⟨by have e := HG1.out; rw [show i + 1 = W + 1 from by rw [HIE.out]] at e; rw [e]; rfl, below_step HW1.out HB.out⟩
end Go.Proofs.Ytfdbcnbakchcgaa.XR
