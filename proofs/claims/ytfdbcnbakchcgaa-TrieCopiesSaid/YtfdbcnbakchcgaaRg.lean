import Derived.Test.YtfdbcnbakchcgaaSr
import Derived.Test.YtfdbcnbakchcgaaRf
namespace Go.Proofs.Ytfdbcnbakchcgaa.XR
open Go.RowKit Go.Proofs.YtfdbcnbakchcgaaW.PrintWords Go.Proofs.YtfdbcnbakchcgaaW.PrintLast Go.Proofs.YtfdbcnbakchcgaaW.PrintMore
attribute [local go_sem] max2_int min2_int max_two min_two max_three min_three max_four min_four   -- for this text's walks alone
set_option linter.unusedVariables false
set_option linter.unusedSimpArgs false
theorem key_lt (W X j : Nat) (hj : j ≤ W) (hX : X < 2 ^ W) : preN W X j < 2 ^ j := by
 unfold preN
 rw [Nat.div_lt_iff_lt_mul (Nat.two_pow_pos _), ← Nat.pow_add, show j + (W - j) = W by omega]
 exact hX
set_option maxHeartbeats 1000000 in
set_option maxRecDepth 100000 in
theorem tDrop_no1 (w0 w : World) (g : Nat) (M : NM) (l : List TI) (W X : Nat) (m N : Int) (h : KT w0 w g M (W : Int) m N) (hs : SH M l) (h1 : 1 ≤ W) (h2 : W ≤ 128) (hX : X < 2 ^ 128) (j : Nat) (hj : j ≤ W) (hXW : X < 2 ^ W) (hc : mayP W (W : Int) X (j : Int) = 0) (hm : M j (preN W X j) = none) :
 Calls Try.prog 29 #[.pointer (some ⟨g, 0, none⟩), .agg #[.int .i64 (W : Int), .int .u64 (hiW X), .int .u64 (loW X)], .int .i64 (j : Int)] w fun e w' => e = .returned (.int .i64 5) ∧ Below w.heap.size w w' := by
 have HC := Aside0.mk hc
 have HXW := Aside0.mk hXW
 have HJ := Aside0.mk hj
 have HK1 := Aside0.mk (h.step (below_alloc (Below.refl _ _) (.cells #[.int .i64 (W : Int), .int .u64 (hiW X), .int .u64 (loW X)] 32 (0, 0))))
 have HX1 := Aside0.mk (blk_new w (.cells #[.int .i64 (W : Int), .int .u64 (hiW X), .int .u64 (loW X)] 32 (0, 0)))
 have HW1 := Aside0.mk (below_alloc (Below.refl w.heap.size w) (.cells #[.int .i64 (W : Int), .int .u64 (hiW X), .int .u64 (loW X)] 32 (0, 0)))
 have HS := Aside0.mk hs
 have H1 := Aside0.mk h1
 have H2 := Aside0.mk h2
 have HX8 := Aside0.mk hX
 have HPT := Aside0.mk (ptr_none hm)
 clear h hs h1 h2 hX hc hXW hj hm
 go_enter Try.func29, Try.ntmps29
 have x0 := blk_cell HX1.out 0
 have x1 := blk_cell HX1.out 1
 have x2 := blk_cell HX1.out 2
 simp only [List.getElem?_toArray, List.getElem?_cons_succ, List.getElem?_cons_zero] at x0 x1 x2
 go_wp2_with (first | (go_at_call 82; with_reducible refine (tmay_calls w0 _ g M W X (W : Int) m N (j : Int) HK1.out H1.out H2.out HX8.out).mono ?_; rintro e_ w2 ⟨rfl, hb⟩; rw [HC.out]; have HB2 := Aside0.mk hb; clear hb x0 x1 x2; have x0 := blk_cell (blk_below HX1.out HB2.out) 0; have x1 := blk_cell (blk_below HX1.out HB2.out) 1; have x2 := blk_cell (blk_below HX1.out HB2.out) 2; simp only [List.getElem?_toArray, List.getElem?_cons_succ, List.getElem?_cons_zero] at x0 x1 x2) | (go_at_call 83; with_reducible refine (find_calls w0 _ g M l W X j m N (HK1.out.step HB2.out) HS.out H1.out H2.out HXW.out HJ.out).mono ?_; rintro e_ w3 ⟨rfl, hb⟩; rw [HPT.out]; have HB3 := Aside0.mk (below_step HB2.out hb); clear hb x0 x1 x2; skip))
 go_ret
 exact ⟨rfl, below_step HW1.out HB3.out⟩
set_option maxHeartbeats 1000000 in
set_option maxRecDepth 100000 in
theorem tDrop_no2 (w0 w : World) (g : Nat) (M : NM) (l : List TI) (W X : Nat) (m N : Int) (h : KT w0 w g M (W : Int) m N) (hs : SH M l) (h1 : 1 ≤ W) (h2 : W ≤ 128) (hX : X < 2 ^ 128) (j : Nat) (hj : j ≤ W) (hXW : X < 2 ^ W) (hc : mayP W (W : Int) X (j : Int) = 0) (b : Nat) (n0 : Int) (hm : M j (preN W X j) = some (b, false, n0)) :
 Calls Try.prog 29 #[.pointer (some ⟨g, 0, none⟩), .agg #[.int .i64 (W : Int), .int .u64 (hiW X), .int .u64 (loW X)], .int .i64 (j : Int)] w fun e w' => e = .returned (.int .i64 5) ∧ Below w.heap.size w w' := by
 have HC := Aside0.mk hc
 have HXW := Aside0.mk hXW
 have HJ := Aside0.mk hj
 have HK1 := Aside0.mk (h.step (below_alloc (Below.refl _ _) (.cells #[.int .i64 (W : Int), .int .u64 (hiW X), .int .u64 (loW X)] 32 (0, 0))))
 have HX1 := Aside0.mk (blk_new w (.cells #[.int .i64 (W : Int), .int .u64 (hiW X), .int .u64 (loW X)] 32 (0, 0)))
 have HW1 := Aside0.mk (below_alloc (Below.refl w.heap.size w) (.cells #[.int .i64 (W : Int), .int .u64 (hiW X), .int .u64 (loW X)] 32 (0, 0)))
 have HS := Aside0.mk hs
 have H1 := Aside0.mk h1
 have H2 := Aside0.mk h2
 have HX8 := Aside0.mk hX
 have HPT := Aside0.mk (ptr_some hm)
 have HM := Aside0.mk hm
 clear h hs h1 h2 hX hc hXW hj hm
 go_enter Try.func29, Try.ntmps29
 have x0 := blk_cell HX1.out 0
 have x1 := blk_cell HX1.out 1
 have x2 := blk_cell HX1.out 2
 simp only [List.getElem?_toArray, List.getElem?_cons_succ, List.getElem?_cons_zero] at x0 x1 x2
 go_wp2_with (first | (go_at_call 82; with_reducible refine (tmay_calls w0 _ g M W X (W : Int) m N (j : Int) HK1.out H1.out H2.out HX8.out).mono ?_; rintro e_ w2 ⟨rfl, hb⟩; rw [HC.out]; have HB2 := Aside0.mk hb; clear hb x0 x1 x2; have x0 := blk_cell (blk_below HX1.out HB2.out) 0; have x1 := blk_cell (blk_below HX1.out HB2.out) 1; have x2 := blk_cell (blk_below HX1.out HB2.out) 2; simp only [List.getElem?_toArray, List.getElem?_cons_succ, List.getElem?_cons_zero] at x0 x1 x2) | (go_at_call 83; with_reducible refine (find_calls w0 _ g M l W X j m N (HK1.out.step HB2.out) HS.out H1.out H2.out HXW.out HJ.out).mono ?_; rintro e_ w3 ⟨rfl, hb⟩; rw [HPT.out]; have HB3 := Aside0.mk (below_step HB2.out hb); clear hb x0 x1 x2; have HN := Aside0.mk ((HK1.out.step HB3.out).nt.cell j _ b false n0 HM.out); have c2 := blk_cell HN.out 2; simp only [List.getElem?_toArray, List.getElem?_cons_succ, List.getElem?_cons_zero] at c2))
 go_ret
 exact ⟨rfl, below_step HW1.out HB3.out⟩
set_option maxHeartbeats 1000000 in
set_option maxRecDepth 100000 in
theorem tDrop_ok (w0 w : World) (g : Nat) (M : NM) (l : List TI) (W X : Nat) (m N : Int) (h : KT w0 w g M (W : Int) m N) (hs : SH M l) (h1 : 1 ≤ W) (h2 : W ≤ 128) (hX : X < 2 ^ 128) (j : Nat) (hj : j ≤ W) (hXW : X < 2 ^ W) (hc : mayP W (W : Int) X (j : Int) = 0) (b : Nat) (n0 xn : Int) (hm : M j (preN W X j) = some (b, true, n0)) (hx : l.any (fun y => sameP y (⟨j, preN W X j, xn⟩ : TI)) = true) (hN : 0 ≤ N ∧ N ≤ 1000) :
 Calls Try.prog 29 #[.pointer (some ⟨g, 0, none⟩), .agg #[.int .i64 (W : Int), .int .u64 (hiW X), .int .u64 (loW X)], .int .i64 (j : Int)] w fun e w' => e = .returned (.int .i64 0) ∧ ∃ M', KT w0 w' g M' (W : Int) m (N - 1) ∧ SH M' (delT (⟨j, preN W X j, xn⟩ : TI) l) ∧ Kept w w' (SKm g M) := by
 have HC := Aside0.mk hc
 have HXW := Aside0.mk hXW
 have HJ := Aside0.mk hj
 have HK1 := Aside0.mk (h.step (below_alloc (Below.refl _ _) (.cells #[.int .i64 (W : Int), .int .u64 (hiW X), .int .u64 (loW X)] 32 (0, 0))))
 have HX1 := Aside0.mk (blk_new w (.cells #[.int .i64 (W : Int), .int .u64 (hiW X), .int .u64 (loW X)] 32 (0, 0)))
 have HW1 := Aside0.mk (below_alloc (Below.refl w.heap.size w) (.cells #[.int .i64 (W : Int), .int .u64 (hiW X), .int .u64 (loW X)] 32 (0, 0)))
 have HS := Aside0.mk hs
 have H1 := Aside0.mk h1
 have H2 := Aside0.mk h2
 have HX8 := Aside0.mk hX
 obtain ⟨b0, hh0, nn0, hm0⟩ : ∃ b0 hh0 nn0, M 0 0 = some (b0, hh0, nn0) := by
  cases hq : M 0 0 with
  | none => have := (hs.no _ _).1 hq; unfold nodeAt at this; rw [if_pos (.inl ⟨rfl, rfl⟩)] at this; cases this
  | some t => exact ⟨t.1, t.2.1, t.2.2, rfl⟩
 have HM0 := Aside0.mk hm0
 have HXX := Aside0.mk hx
 have HNN := Aside0.mk hN
 have HKEY := Aside0.mk (key_lt W X j hj hXW)
 have HOP := Aside0.mk (onP_pre W X j 0 xn hj (Nat.zero_le _))
 have HP0 := Aside0.mk (preN_zero W X hXW)
 have HPR := Aside0.mk (fun (w : World) (M : NM) (b : Nat) (hh : Bool) (n : Int) (hn : NT w w0.heap.size M) (hs : SH M l) (hm : M 0 0 = some (b, hh, n)) => prune_calls w0.heap.size l W X j xn h1 h2 hX hj hx j 0 (by omega) 0 rfl w M b hh n hn hs (by rw [preN_zero W X hXW]; exact hm))
 have hw1 : wrap64 (N - 1) = N - 1 := wrap64_id _ (by omega) (by omega)
 have HW64 := Aside0.mk hw1
 have HPT := Aside0.mk (ptr_some hm)
 have HPT0 := Aside0.mk (ptr_some hm0)
 have HM := Aside0.mk hm
 clear h hs h1 h2 hX hc hXW hj hm hm0 hx hN hw1
 go_enter Try.func29, Try.ntmps29
 have x0 := blk_cell HX1.out 0
 have x1 := blk_cell HX1.out 1
 have x2 := blk_cell HX1.out 2
 simp only [List.getElem?_toArray, List.getElem?_cons_succ, List.getElem?_cons_zero] at x0 x1 x2
 go_wp2_with (first | (go_at_call 82; with_reducible refine (tmay_calls w0 _ g M W X (W : Int) m N (j : Int) HK1.out H1.out H2.out HX8.out).mono ?_; rintro e_ w2 ⟨rfl, hb⟩; rw [HC.out]; have HB2 := Aside0.mk hb; clear hb x0 x1 x2; have x0 := blk_cell (blk_below HX1.out HB2.out) 0; have x1 := blk_cell (blk_below HX1.out HB2.out) 1; have x2 := blk_cell (blk_below HX1.out HB2.out) 2; simp only [List.getElem?_toArray, List.getElem?_cons_succ, List.getElem?_cons_zero] at x0 x1 x2) | (go_at_call 83; with_reducible refine (find_calls w0 _ g M l W X j m N (HK1.out.step HB2.out) HS.out H1.out H2.out HXW.out HJ.out).mono ?_; rintro e_ w3 ⟨rfl, hb⟩; rw [HPT.out]; have HB3 := Aside0.mk (below_step HB2.out hb); clear hb x0 x1 x2; have HN := Aside0.mk ((HK1.out.step HB3.out).nt.cell j _ b true n0 HM.out); have c2 := blk_cell HN.out 2; simp only [List.getElem?_toArray, List.getElem?_cons_succ, List.getElem?_cons_zero] at c2))
 generalize w.alloc (.cells #[.int .i64 (W : Int), .int .u64 (hiW X), .int .u64 (loW X)] 32 (0, 0)) = wq at HK1 HX1 HW1 HB2 HB3 ⊢
 clear HB2 c2 HN
 refine start_ (n := 7) (S := fun w' => Below wq.heap.size wq w') (ds := [6]) #[false, false, false, false, false, false, false] (by kernel_rfl) rfl rfl (below_drew1 HB3.out) (fun hHeld => ?_)
 clear HB3
 generalize World.drew _ = w3_ at hHeld ⊢
 refine pl_ [0, 1, 2, 5] ?_
 iterate 4 refine pP rfl rfl (by kernel_rfl) (fun _ _ _ h => h) (by rfl) (by intro w'; go_simp; with_reducible rfl) (by simp only [Act.put, z1, z2, z3, i64_w, i32_w]; rfl) ?_
 refine pl0 ?_
 refine take_ (i := 3) (N := some 32) (v := ?_) (a' := ?_) #[true, true, true, true, false, true, false] rfl rfl (by kernel_rfl) (fun _ _ _ h => h) (Or.inl ⟨by rfl, ?_⟩) hHeld ?_ ?_
 rotate_left
 ·intro w' hs
  have m0 := blk_cell (HK1.out.step hs).blk 0
  simp only [List.getElem?_toArray, List.getElem?_cons_succ, List.getElem?_cons_zero] at m0
  rw [HPT0.out] at m0
  go_simp
  with_reducible rfl
 rotate_left
 ·simp only [Act.put, List.setIfInBounds_toArray, List.set_cons_zero, List.set_cons_succ, i64_w, i32_w]
  rfl
 refine take_ (i := 4) (N := some 33) (v := ?_) (a' := ?_) #[true, true, true, true, true, true, false] rfl rfl (by kernel_rfl) (fun _ _ _ h => h) (Or.inl ⟨by rfl, ?_⟩) hHeld ?_ ?_
 rotate_left
 ·intro w' hs
  have m0 := blk_cell (blk_below HX1.out hs) 0
  have m1 := blk_cell (blk_below HX1.out hs) 1
  have m2 := blk_cell (blk_below HX1.out hs) 2
  simp only [List.getElem?_toArray, List.getElem?_cons_succ, List.getElem?_cons_zero] at m0 m1 m2
  go_simp
  with_reducible rfl
 rotate_left
 ·simp only [Act.put, List.setIfInBounds_toArray, List.set_cons_zero, List.set_cons_succ, i64_w, i32_w]
  rfl
 have HH := Aside0.mk hHeld
 clear hHeld
 refine last_ (i := 6) (N := some 35) #[true, true, true, true, true, true, true] rfl rfl (by kernel_rfl) (by decide) (fun K hK => ?_)
 refine goes_ Try.func84 (by kernel_rfl) rfl #[.pointer (some ⟨b0, 0, none⟩), .agg #[.int .i64 (W : Int), .int .u64 (hiW X), .int .u64 (loW X)], .int .i64 0, .int .i64 (j : Int)] (by rfl) rfl rfl (by simp only [List.map_toArray, List.map_cons, List.map_nil]; rfl) ?_
 with_reducible refine (HPR.out _ M b0 hh0 nn0 (HK1.out.step HH.out).nt HS.out HM0.out).mono ?_
 rintro e_ w4 ⟨rfl, M1, hn1, hp1, hold, hkp, hbl⟩
 refine ⟨_, rfl, ?_⟩
 have HN4 := Aside0.mk hn1
 have HP4 := Aside0.mk hp1
 have HO4 := Aside0.mk hold
 have HG4 := Aside0.mk (blk_kept (HK1.out.step HH.out).blk hkp (HK1.out.step HH.out).ne)
 have HBL := Aside0.mk ((HK1.out.step HH.out).below.trans hbl)
 clear hbl
 have HK4 := Aside0.mk ((Kept.of_below (below_step HW1.out HH.out) (isN M)).then_ hkp (fun k hk => .inl hk))
 have HQ4 := Aside0.mk (HK1.out.step HH.out)
 have HKP := Aside0.mk hkp
 clear hn1 hp1 hold hkp
 refine hK.out _ _ ?_
 clear hK K
 refine norm_ (a' := ?_) ?_ ?_
 rotate_left
 ·show Act.put _ (some 35) _ = _
  simp only [Act.put, List.setIfInBounds_toArray, List.set_cons_zero, List.set_cons_succ, i64_w, i32_w]
  rfl
 refine done_ (by kernel_rfl) ?_
 have c3 := blk_cell HG4.out 3
 simp only [List.getElem?_toArray, List.getElem?_cons_succ, List.getElem?_cons_zero] at c3
 have f3 := blk_frozen HG4.out 3
 go_wp2
 go_ret
 have hroot : sonP M1 0 0 = sonP M 0 0 := by
  have hop := HOP.out
  rw [HP0.out] at hop
  obtain ⟨b2, hb2⟩ := cutT_node HP4.out hop (Nat.le_refl 0)
  obtain ⟨t0, ht0, ht1⟩ := HO4.out _ _ _ hb2
  unfold sonP
  rw [hb2, ht0]
  unfold ptrN
  simp only [Option.map_some]
  rw [ht1]
 have hisn : ∀ q, isN M1 q → isN M q := by
  rintro q ⟨a, c, t, ht, rfl⟩
  obtain ⟨t0, ht0, ht1⟩ := HO4.out _ _ _ ht
  exact ⟨a, c, t0, ht0, ht1⟩
 refine ⟨rfl, M1, ⟨?_, ?_, HQ4.out.ge, HBL.out.setCell (p := ⟨g, 3, none⟩) HQ4.out.ge _⟩, ?_, ?_⟩
 ·rw [hroot, HW64.out]; exact blk_put HG4.out 3 _ rfl
 ·exact HN4.out.move (fun q hq => far_set _ g 3 _ q (fun e => HQ4.out.ne (by rw [← e]; exact hisn q hq)))
 ·exact fun a c => (HP4.out a c).trans (cutT_end (x := (⟨j, preN W X j, xn⟩ : TI)) (HKEY.out) a c)
 ·have h6 : Kept w w4 (SKm g M) := HK4.out.mono (fun k hk => Or.inr hk)
  exact h6.setCell (p := ⟨g, 3, none⟩) (.inl (.inl rfl)) _
theorem tDrop_calls (w0 w : World) (g : Nat) (M : NM) (l : List TI) (W X : Nat) (k0 m N lg xn : Int) (h : KT w0 w g M (W : Int) m N) (hs : SH M l) (h1 : 1 ≤ W) (h2 : W ≤ 128) (hX : X < 2 ^ 128) (hN : 0 ≤ N ∧ N ≤ 1000) :
 Calls Try.prog 29 #[.pointer (some ⟨g, 0, none⟩), .agg #[.int .i64 k0, .int .u64 (hiW X), .int .u64 (loW X)], .int .i64 lg] w fun e w' => e = .returned (.int .i64 (setEt (mayP W k0 X lg) l ⟨lg.toNat, preN W X lg.toNat, xn⟩)) ∧
  ∃ M', KT w0 w' g M' (W : Int) m (if setEt (mayP W k0 X lg) l ⟨lg.toNat, preN W X lg.toNat, xn⟩ = 0 then N - 1 else N) ∧ SH M' (if setEt (mayP W k0 X lg) l ⟨lg.toNat, preN W X lg.toNat, xn⟩ = 0 then delT ⟨lg.toNat, preN W X lg.toNat, xn⟩ l else l) ∧ Kept w w' (SKm g M) := by
 by_cases hc : mayP W k0 X lg = 0
 ·obtain ⟨rfl, hXW, j, rfl, hj, _⟩ := mayP_zero hc
  rw [Int.toNat_natCast, hc]
  have hl := lookT_any l ⟨j, preN W X j, xn⟩
  cases hm : M j (preN W X j) with
  | none =>
   have e0 : l.any (fun y => sameP y ⟨j, preN W X j, xn⟩) = false := by
    rw [← hl, lookT_none ((hs.no _ _).1 hm)]
   refine (tDrop_no1 w0 w g M l W X m N h hs h1 h2 hX j hj hXW hc hm).mono ?_
   rintro e_ w' ⟨rfl, hb⟩
   have e5 : setEt 0 l ⟨j, preN W X j, xn⟩ = 5 := by unfold setEt; rw [if_neg (by simp), e0, if_neg (by simp)]
   rw [e5]
   exact ⟨rfl, M, by rw [if_neg (by decide)]; exact h.step hb, by rw [if_neg (by decide)]; exact hs, Kept.of_below hb _⟩
  | some t =>
   obtain ⟨b, x, n0⟩ := t
   have hy := hs.yes hm
   cases x with
   | false =>
    have e0 : l.any (fun y => sameP y ⟨j, preN W X j, xn⟩) = false := by
     rw [← hl]; show (lookT l j (preN W X j)).1 = false; rw [← hy]
    refine (tDrop_no2 w0 w g M l W X m N h hs h1 h2 hX j hj hXW hc b n0 hm).mono ?_
    rintro e_ w' ⟨rfl, hb⟩
    have e5 : setEt 0 l ⟨j, preN W X j, xn⟩ = 5 := by unfold setEt; rw [if_neg (by simp), e0, if_neg (by simp)]
    rw [e5]
    exact ⟨rfl, M, by rw [if_neg (by decide)]; exact h.step hb, by rw [if_neg (by decide)]; exact hs, Kept.of_below hb _⟩
   | true =>
    have e0 : l.any (fun y => sameP y ⟨j, preN W X j, xn⟩) = true := by
     rw [← hl]; show (lookT l j (preN W X j)).1 = true; rw [← hy]
    refine (tDrop_ok w0 w g M l W X m N h hs h1 h2 hX j hj hXW hc b n0 xn hm e0 hN).mono ?_
    rintro e_ w' ⟨rfl, M1, hk, hs1, hkp⟩
    have e5 : setEt 0 l ⟨j, preN W X j, xn⟩ = 0 := by unfold setEt; rw [if_neg (by simp), e0, if_pos rfl]
    rw [e5]
    exact ⟨rfl, M1, by rw [if_pos rfl]; exact hk, by rw [if_pos rfl]; exact hs1, hkp⟩
 ·have e5 : setEt (mayP W k0 X lg) l ⟨lg.toNat, preN W X lg.toNat, xn⟩ = mayP W k0 X lg := by unfold setEt; rw [if_pos hc]
  rw [e5]
  refine (tDrop_err w0 w g M l W X k0 m N lg h hs h1 h2 hX hc).mono ?_
  rintro e_ w' ⟨rfl, hb⟩
  exact ⟨rfl, M, by rw [if_neg hc]; exact h.step hb, by rw [if_neg hc]; exact hs, Kept.of_below hb _⟩
end Go.Proofs.Ytfdbcnbakchcgaa.XR
