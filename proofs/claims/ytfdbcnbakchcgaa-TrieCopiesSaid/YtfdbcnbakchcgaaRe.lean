import Derived.Test.YtfdbcnbakchcgaaRd
namespace Go.Proofs.Ytfdbcnbakchcgaa.XR
open Go.RowKit Go.Proofs.YtfdbcnbakchcgaaW.PrintWords Go.Proofs.YtfdbcnbakchcgaaW.PrintLast Go.Proofs.YtfdbcnbakchcgaaW.PrintMore
attribute [local go_sem] max2_int min2_int max_two min_two max_three min_three max_four min_four   -- for this text's walks alone
set_option linter.unusedVariables false
set_option linter.unusedSimpArgs false
/-- The blocks that a step writes. -/
def SKm (g : Nat) (M : NM) (k : Nat) : Prop := k = g ∨ isN M k
theorem sonP_mark {M : NM} {i k b : Nat} {h0 h1 : Bool} {n0 n1 : Int} (hm : M i k = some (b, h0, n0)) (a c : Nat) : sonP (setM M i k (some (b, h1, n1))) a c = sonP M a c := by
 unfold sonP
 by_cases e : a = i ∧ c = k
 ·obtain ⟨rfl, rfl⟩ := e; rw [setM_at, hm]; rfl
 ·rw [setM_off _ _ _ _ e]
theorem KT.mark {w0 w w1 : World} {g : Nat} {M : NM} {W m N : Int} (h : KT w0 w g M W m N) {i k b : Nat} {h0 : Bool} {n0 : Int} (hm : M i k = some (b, h0, n0)) (h1 : Bool) (n1 : Int)
 (hb : w1.heap[b]? = some (nodeO M i k h1 n1)) (ho : ∀ q, q ≠ b → w1.heap[q]? = w.heap[q]?) (hB : Below w0.heap.size w0 w1) : KT w0 w1 g (setM M i k (some (b, h1, n1))) W m N := by
 refine ⟨?_, h.nt.mark hm h1 n1 hb (fun q hq _ => ho q hq), h.ge, hB⟩
 rw [sonP_mark hm, ho g (fun e => h.ne ⟨i, k, _, hm, e.symm⟩)]
 exact h.blk
theorem KT.node {w0 w : World} {g : Nat} {M : NM} {W m N : Int} (h : KT w0 w g M W m N) {i k b : Nat} {h0 : Bool} {n0 : Int} (hm : M i k = some (b, h0, n0)) : w0.heap.size ≤ b := h.nt.ge i k _ hm
theorem node_here {w : World} {M : NM} {i k b : Nat} {h0 : Bool} {n0 : Int} (h : w.heap[b]? = some (nodeO M i k h0 n0)) (h1 : Bool) : (w.setCell ⟨b, 2, none⟩ (.bool h1)).heap[b]? = some (nodeO M i k h1 n0) := blk_put h 2 _ rfl
theorem node_num {w : World} {M : NM} {i k b : Nat} {h0 : Bool} {n0 : Int} (h : w.heap[b]? = some (nodeO M i k h0 n0)) (n1 : Int) : (w.setCell ⟨b, 3, none⟩ (.int .i64 n1)).heap[b]? = some (nodeO M i k h0 n1) := blk_put h 3 _ rfl
theorem far_set (w : World) (b j : Nat) (u : Value) (q : Nat) (hq : q ≠ b) : (w.setCell ⟨b, j, none⟩ u).heap[q]? = w.heap[q]? := Below.heap_setCell w ⟨b, j, none⟩ u q hq
theorem KT.kept_num {w0 w : World} {g : Nat} {M : NM} {W m N : Int} (h : KT w0 w g M W m N) {i k b : Nat} {h0 : Bool} {n0 : Int} (hm : M i k = some (b, h0, n0)) (n1 : Int) : KT w0 (w.setCell ⟨b, 3, none⟩ (.int .i64 n1)) g (setM M i k (some (b, h0, n1))) W m N :=
 h.mark hm h0 n1 (node_num (h.nt.cell i k b h0 n0 hm) n1) (fun q hq => far_set w b 3 _ q hq) (h.below.setCell (p := ⟨b, 3, none⟩) (h.node hm) _)
/-- What Set answers. -/
def setEt (c : Int) (l : List TI) (x : TI) : Int := if c ≠ 0 then c else if l.any (fun y => sameP y x) = true then 0 else 5
theorem SH.upd {M : NM} {l : List TI} (h : SH M l) {i k b : Nat} {n0 n : Int} (hm : M i k = some (b, true, n0)) (hx : l.any (fun y => sameP y ⟨i, k, n⟩) = true) : SH (setM M i k (some (b, true, n))) (updT ⟨i, k, n⟩ l) := by
 intro a c
 rw [nodeAt_upd l ⟨i, k, n⟩ hx]
 by_cases e : a = i ∧ c = k
 ·obtain ⟨rfl, rfl⟩ := e; rw [setM_at, if_pos ⟨rfl, rfl⟩]; rfl
 ·rw [setM_off _ _ _ _ e, if_neg e]; exact h a c
theorem mayP_zero {W : Nat} {a : Int} {X : Nat} {n : Int} (h : mayP W a X n = 0) : a = (W : Int) ∧ X < 2 ^ W ∧ ∃ j : Nat, n = (j : Int) ∧ j ≤ W ∧ X &&& maskN W j = X := by
 by_cases c1 : vmay a X = true ∧ a = (W : Int)
 ·rw [mayP_yes c1] at h
  by_cases c2 : 0 ≤ n ∧ n ≤ (W : Int)
  ·rw [if_pos c2] at h
   by_cases c3 : X &&& maskN W n.toNat = X
   ·have hv := (vmay_lt c1.1).2.2
    rw [c1.2, Int.toNat_natCast] at hv
    exact ⟨c1.2, hv, n.toNat, by omega, by omega, c3⟩
   ·rw [if_neg c3] at h; cases h
  ·rw [if_neg c2] at h; cases h
 ·rw [mayP_no c1] at h; cases h
set_option maxHeartbeats 1000000 in
set_option maxRecDepth 100000 in
theorem tSet_err (w0 w : World) (g : Nat) (M : NM) (l : List TI) (W X : Nat) (k0 m N lg n : Int) (h : KT w0 w g M (W : Int) m N) (hs : SH M l) (h1 : 1 ≤ W) (h2 : W ≤ 128) (hX : X < 2 ^ 128) (hc : mayP W k0 X lg ≠ 0) :
 Calls Try.prog 30 #[.pointer (some ⟨g, 0, none⟩), .agg #[.int .i64 k0, .int .u64 (hiW X), .int .u64 (loW X)], .int .i64 lg, .int .i64 n] w fun e w' => e = .returned (.int .i64 (mayP W k0 X lg)) ∧ Below w.heap.size w w' := by
 obtain ⟨c, hcc⟩ : ∃ c, mayP W k0 X lg = c := ⟨_, rfl⟩
 rw [hcc] at hc ⊢
 have HC := Aside0.mk hcc
 have hne : (c != 0) = true := by simpa using hc
 have HK1 := Aside0.mk (h.step (below_alloc (Below.refl _ _) (.cells #[.int .i64 k0, .int .u64 (hiW X), .int .u64 (loW X)] 32 (0, 0))))
 have HX1 := Aside0.mk (blk_new w (.cells #[.int .i64 k0, .int .u64 (hiW X), .int .u64 (loW X)] 32 (0, 0)))
 have HW1 := Aside0.mk (below_alloc (Below.refl w.heap.size w) (.cells #[.int .i64 k0, .int .u64 (hiW X), .int .u64 (loW X)] 32 (0, 0)))
 have HS := Aside0.mk hs
 have H1 := Aside0.mk h1
 have H2 := Aside0.mk h2
 have HX8 := Aside0.mk hX
 clear h hs h1 h2 hX hcc hc
 go_enter Try.func30, Try.ntmps30
 have x0 := blk_cell HX1.out 0
 have x1 := blk_cell HX1.out 1
 have x2 := blk_cell HX1.out 2
 simp only [List.getElem?_toArray, List.getElem?_cons_succ, List.getElem?_cons_zero] at x0 x1 x2
 go_wp2_with (first | (go_at_call 82; with_reducible refine (tmay_calls w0 _ g M W X k0 m N lg HK1.out H1.out H2.out HX8.out).mono ?_; rintro e_ w2 ⟨rfl, hb⟩; rw [HC.out]; have HB2 := Aside0.mk hb; clear hb x0 x1 x2; have x0 := blk_cell (blk_below HX1.out HB2.out) 0; have x1 := blk_cell (blk_below HX1.out HB2.out) 1; have x2 := blk_cell (blk_below HX1.out HB2.out) 2; simp only [List.getElem?_toArray, List.getElem?_cons_succ, List.getElem?_cons_zero] at x0 x1 x2))
 go_ret
 exact ⟨rfl, below_step HW1.out HB2.out⟩
set_option maxHeartbeats 1000000 in
set_option maxRecDepth 100000 in
theorem tPut_err (w0 w : World) (g : Nat) (M : NM) (l : List TI) (W X : Nat) (k0 m N lg n : Int) (h : KT w0 w g M (W : Int) m N) (hs : SH M l) (h1 : 1 ≤ W) (h2 : W ≤ 128) (hX : X < 2 ^ 128) (hc : mayP W k0 X lg ≠ 0) :
 Calls Try.prog 28 #[.pointer (some ⟨g, 0, none⟩), .agg #[.int .i64 k0, .int .u64 (hiW X), .int .u64 (loW X)], .int .i64 lg, .int .i64 n] w fun e w' => e = .returned (.int .i64 (mayP W k0 X lg)) ∧ Below w.heap.size w w' := by
 obtain ⟨c, hcc⟩ : ∃ c, mayP W k0 X lg = c := ⟨_, rfl⟩
 rw [hcc] at hc ⊢
 have HC := Aside0.mk hcc
 have hne : (c != 0) = true := by simpa using hc
 have HK1 := Aside0.mk (h.step (below_alloc (Below.refl _ _) (.cells #[.int .i64 k0, .int .u64 (hiW X), .int .u64 (loW X)] 32 (0, 0))))
 have HX1 := Aside0.mk (blk_new w (.cells #[.int .i64 k0, .int .u64 (hiW X), .int .u64 (loW X)] 32 (0, 0)))
 have HW1 := Aside0.mk (below_alloc (Below.refl w.heap.size w) (.cells #[.int .i64 k0, .int .u64 (hiW X), .int .u64 (loW X)] 32 (0, 0)))
 have HS := Aside0.mk hs
 have H1 := Aside0.mk h1
 have H2 := Aside0.mk h2
 have HX8 := Aside0.mk hX
 clear h hs h1 h2 hX hcc hc
 go_enter Try.func28, Try.ntmps28
 have x0 := blk_cell HX1.out 0
 have x1 := blk_cell HX1.out 1
 have x2 := blk_cell HX1.out 2
 simp only [List.getElem?_toArray, List.getElem?_cons_succ, List.getElem?_cons_zero] at x0 x1 x2
 go_wp2_with (first | (go_at_call 82; with_reducible refine (tmay_calls w0 _ g M W X k0 m N lg HK1.out H1.out H2.out HX8.out).mono ?_; rintro e_ w2 ⟨rfl, hb⟩; rw [HC.out]; have HB2 := Aside0.mk hb; clear hb x0 x1 x2; have x0 := blk_cell (blk_below HX1.out HB2.out) 0; have x1 := blk_cell (blk_below HX1.out HB2.out) 1; have x2 := blk_cell (blk_below HX1.out HB2.out) 2; simp only [List.getElem?_toArray, List.getElem?_cons_succ, List.getElem?_cons_zero] at x0 x1 x2))
 go_ret
 exact ⟨rfl, below_step HW1.out HB2.out⟩
set_option maxHeartbeats 1000000 in
set_option maxRecDepth 100000 in
theorem tDrop_err (w0 w : World) (g : Nat) (M : NM) (l : List TI) (W X : Nat) (k0 m N lg : Int) (h : KT w0 w g M (W : Int) m N) (hs : SH M l) (h1 : 1 ≤ W) (h2 : W ≤ 128) (hX : X < 2 ^ 128) (hc : mayP W k0 X lg ≠ 0) :
 Calls Try.prog 29 #[.pointer (some ⟨g, 0, none⟩), .agg #[.int .i64 k0, .int .u64 (hiW X), .int .u64 (loW X)], .int .i64 lg] w fun e w' => e = .returned (.int .i64 (mayP W k0 X lg)) ∧ Below w.heap.size w w' := by
 obtain ⟨c, hcc⟩ : ∃ c, mayP W k0 X lg = c := ⟨_, rfl⟩
 rw [hcc] at hc ⊢
 have HC := Aside0.mk hcc
 have hne : (c != 0) = true := by simpa using hc
 have HK1 := Aside0.mk (h.step (below_alloc (Below.refl _ _) (.cells #[.int .i64 k0, .int .u64 (hiW X), .int .u64 (loW X)] 32 (0, 0))))
 have HX1 := Aside0.mk (blk_new w (.cells #[.int .i64 k0, .int .u64 (hiW X), .int .u64 (loW X)] 32 (0, 0)))
 have HW1 := Aside0.mk (below_alloc (Below.refl w.heap.size w) (.cells #[.int .i64 k0, .int .u64 (hiW X), .int .u64 (loW X)] 32 (0, 0)))
 have HS := Aside0.mk hs
 have H1 := Aside0.mk h1
 have H2 := Aside0.mk h2
 have HX8 := Aside0.mk hX
 clear h hs h1 h2 hX hcc hc
 go_enter Try.func29, Try.ntmps29
 have x0 := blk_cell HX1.out 0
 have x1 := blk_cell HX1.out 1
 have x2 := blk_cell HX1.out 2
 simp only [List.getElem?_toArray, List.getElem?_cons_succ, List.getElem?_cons_zero] at x0 x1 x2
 go_wp2_with (first | (go_at_call 82; with_reducible refine (tmay_calls w0 _ g M W X k0 m N lg HK1.out H1.out H2.out HX8.out).mono ?_; rintro e_ w2 ⟨rfl, hb⟩; rw [HC.out]; have HB2 := Aside0.mk hb; clear hb x0 x1 x2; have x0 := blk_cell (blk_below HX1.out HB2.out) 0; have x1 := blk_cell (blk_below HX1.out HB2.out) 1; have x2 := blk_cell (blk_below HX1.out HB2.out) 2; simp only [List.getElem?_toArray, List.getElem?_cons_succ, List.getElem?_cons_zero] at x0 x1 x2))
 go_ret
 exact ⟨rfl, below_step HW1.out HB2.out⟩
set_option maxHeartbeats 1000000 in
set_option maxRecDepth 100000 in
theorem tSet_no1 (w0 w : World) (g : Nat) (M : NM) (l : List TI) (W X : Nat) (m N n : Int) (h : KT w0 w g M (W : Int) m N) (hs : SH M l) (h1 : 1 ≤ W) (h2 : W ≤ 128) (hX : X < 2 ^ 128) (j : Nat) (hj : j ≤ W) (hXW : X < 2 ^ W) (hc : mayP W (W : Int) X (j : Int) = 0) (hm : M j (preN W X j) = none) :
 Calls Try.prog 30 #[.pointer (some ⟨g, 0, none⟩), .agg #[.int .i64 (W : Int), .int .u64 (hiW X), .int .u64 (loW X)], .int .i64 (j : Int), .int .i64 n] w fun e w' => e = .returned (.int .i64 5) ∧ Below w.heap.size w w' := by
 have HC := Aside0.mk hc
 have HXW := Aside0.mk hXW
 have HJ := Aside0.mk hj
 have HK1 := Aside0.mk (h.step (below_alloc (Below.refl _ _) (.cells #[.int .i64 (W : Int), .int .u64 (hiW X), .int .u64 (loW X)] 32 (0, 0))))
 have HX1 := Aside0.mk (blk_new w (.cells #[.int .i64 (W : Int), .int .u64 (hiW X), .int .u64 (loW X)] 32 (0, 0)))
 have HW1 := Aside0.mk (below_alloc (Below.refl w.heap.size w) (.cells #[.int .i64 (W : Int), .int .u64 (hiW X), .int .u64 (loW X)] 32 (0, 0)))
 have HS := Aside0.mk hs
 have H1 := Aside0.mk h1
 have H2 := Aside0.mk h2
 have HX8 := Aside0.mk hX
 have HPT := Aside0.mk (ptr_none hm)
 clear h hs h1 h2 hX hc hXW hj hm
 go_enter Try.func30, Try.ntmps30
 have x0 := blk_cell HX1.out 0
 have x1 := blk_cell HX1.out 1
 have x2 := blk_cell HX1.out 2
 simp only [List.getElem?_toArray, List.getElem?_cons_succ, List.getElem?_cons_zero] at x0 x1 x2
 go_wp2_with (first | (go_at_call 82; with_reducible refine (tmay_calls w0 _ g M W X (W : Int) m N (j : Int) HK1.out H1.out H2.out HX8.out).mono ?_; rintro e_ w2 ⟨rfl, hb⟩; rw [HC.out]; have HB2 := Aside0.mk hb; clear hb x0 x1 x2; have x0 := blk_cell (blk_below HX1.out HB2.out) 0; have x1 := blk_cell (blk_below HX1.out HB2.out) 1; have x2 := blk_cell (blk_below HX1.out HB2.out) 2; simp only [List.getElem?_toArray, List.getElem?_cons_succ, List.getElem?_cons_zero] at x0 x1 x2) | (go_at_call 83; with_reducible refine (find_calls w0 _ g M l W X j m N (HK1.out.step HB2.out) HS.out H1.out H2.out HXW.out HJ.out).mono ?_; rintro e_ w3 ⟨rfl, hb⟩; rw [HPT.out]; have HB3 := Aside0.mk (below_step HB2.out hb); clear hb x0 x1 x2; skip))
 go_ret
 exact ⟨rfl, below_step HW1.out HB3.out⟩
set_option maxHeartbeats 1000000 in
set_option maxRecDepth 100000 in
theorem tSet_no2 (w0 w : World) (g : Nat) (M : NM) (l : List TI) (W X : Nat) (m N n : Int) (h : KT w0 w g M (W : Int) m N) (hs : SH M l) (h1 : 1 ≤ W) (h2 : W ≤ 128) (hX : X < 2 ^ 128) (j : Nat) (hj : j ≤ W) (hXW : X < 2 ^ W) (hc : mayP W (W : Int) X (j : Int) = 0) (b : Nat) (n0 : Int) (hm : M j (preN W X j) = some (b, false, n0)) :
 Calls Try.prog 30 #[.pointer (some ⟨g, 0, none⟩), .agg #[.int .i64 (W : Int), .int .u64 (hiW X), .int .u64 (loW X)], .int .i64 (j : Int), .int .i64 n] w fun e w' => e = .returned (.int .i64 5) ∧ Below w.heap.size w w' := by
 have HC := Aside0.mk hc
 have HXW := Aside0.mk hXW
 have HJ := Aside0.mk hj
 have HK1 := Aside0.mk (h.step (below_alloc (Below.refl _ _) (.cells #[.int .i64 (W : Int), .int .u64 (hiW X), .int .u64 (loW X)] 32 (0, 0))))
 have HX1 := Aside0.mk (blk_new w (.cells #[.int .i64 (W : Int), .int .u64 (hiW X), .int .u64 (loW X)] 32 (0, 0)))
 have HW1 := Aside0.mk (below_alloc (Below.refl w.heap.size w) (.cells #[.int .i64 (W : Int), .int .u64 (hiW X), .int .u64 (loW X)] 32 (0, 0)))
 have HS := Aside0.mk hs
 have H1 := Aside0.mk h1
 have H2 := Aside0.mk h2
 have HX8 := Aside0.mk hX
 have HPT := Aside0.mk (ptr_some hm)
 have HM := Aside0.mk hm
 clear h hs h1 h2 hX hc hXW hj hm
 go_enter Try.func30, Try.ntmps30
 have x0 := blk_cell HX1.out 0
 have x1 := blk_cell HX1.out 1
 have x2 := blk_cell HX1.out 2
 simp only [List.getElem?_toArray, List.getElem?_cons_succ, List.getElem?_cons_zero] at x0 x1 x2
 go_wp2_with (first | (go_at_call 82; with_reducible refine (tmay_calls w0 _ g M W X (W : Int) m N (j : Int) HK1.out H1.out H2.out HX8.out).mono ?_; rintro e_ w2 ⟨rfl, hb⟩; rw [HC.out]; have HB2 := Aside0.mk hb; clear hb x0 x1 x2; have x0 := blk_cell (blk_below HX1.out HB2.out) 0; have x1 := blk_cell (blk_below HX1.out HB2.out) 1; have x2 := blk_cell (blk_below HX1.out HB2.out) 2; simp only [List.getElem?_toArray, List.getElem?_cons_succ, List.getElem?_cons_zero] at x0 x1 x2) | (go_at_call 83; with_reducible refine (find_calls w0 _ g M l W X j m N (HK1.out.step HB2.out) HS.out H1.out H2.out HXW.out HJ.out).mono ?_; rintro e_ w3 ⟨rfl, hb⟩; rw [HPT.out]; have HB3 := Aside0.mk (below_step HB2.out hb); clear hb x0 x1 x2; have HN := Aside0.mk ((HK1.out.step HB3.out).nt.cell j _ b false n0 HM.out); have c2 := blk_cell HN.out 2; simp only [List.getElem?_toArray, List.getElem?_cons_succ, List.getElem?_cons_zero] at c2))
 go_ret
 exact ⟨rfl, below_step HW1.out HB3.out⟩
set_option maxHeartbeats 1000000 in
set_option maxRecDepth 100000 in
theorem tSet_ok (w0 w : World) (g : Nat) (M : NM) (l : List TI) (W X : Nat) (m N n : Int) (h : KT w0 w g M (W : Int) m N) (hs : SH M l) (h1 : 1 ≤ W) (h2 : W ≤ 128) (hX : X < 2 ^ 128) (j : Nat) (hj : j ≤ W) (hXW : X < 2 ^ W) (hc : mayP W (W : Int) X (j : Int) = 0) (b : Nat) (n0 : Int) (hm : M j (preN W X j) = some (b, true, n0)) :
 Calls Try.prog 30 #[.pointer (some ⟨g, 0, none⟩), .agg #[.int .i64 (W : Int), .int .u64 (hiW X), .int .u64 (loW X)], .int .i64 (j : Int), .int .i64 n] w fun e w' => e = .returned (.int .i64 0) ∧ KT w0 w' g (setM M j (preN W X j) (some (b, true, n))) (W : Int) m N ∧ Kept w w' (SKm g M) := by
 have HC := Aside0.mk hc
 have HXW := Aside0.mk hXW
 have HJ := Aside0.mk hj
 have HK1 := Aside0.mk (h.step (below_alloc (Below.refl _ _) (.cells #[.int .i64 (W : Int), .int .u64 (hiW X), .int .u64 (loW X)] 32 (0, 0))))
 have HX1 := Aside0.mk (blk_new w (.cells #[.int .i64 (W : Int), .int .u64 (hiW X), .int .u64 (loW X)] 32 (0, 0)))
 have HW1 := Aside0.mk (below_alloc (Below.refl w.heap.size w) (.cells #[.int .i64 (W : Int), .int .u64 (hiW X), .int .u64 (loW X)] 32 (0, 0)))
 have HS := Aside0.mk hs
 have H1 := Aside0.mk h1
 have H2 := Aside0.mk h2
 have HX8 := Aside0.mk hX
 have HPT := Aside0.mk (ptr_some hm)
 have HM := Aside0.mk hm
 clear h hs h1 h2 hX hc hXW hj hm
 go_enter Try.func30, Try.ntmps30
 have x0 := blk_cell HX1.out 0
 have x1 := blk_cell HX1.out 1
 have x2 := blk_cell HX1.out 2
 simp only [List.getElem?_toArray, List.getElem?_cons_succ, List.getElem?_cons_zero] at x0 x1 x2
 go_wp2_with (first | (go_at_call 82; with_reducible refine (tmay_calls w0 _ g M W X (W : Int) m N (j : Int) HK1.out H1.out H2.out HX8.out).mono ?_; rintro e_ w2 ⟨rfl, hb⟩; rw [HC.out]; have HB2 := Aside0.mk hb; clear hb x0 x1 x2; have x0 := blk_cell (blk_below HX1.out HB2.out) 0; have x1 := blk_cell (blk_below HX1.out HB2.out) 1; have x2 := blk_cell (blk_below HX1.out HB2.out) 2; simp only [List.getElem?_toArray, List.getElem?_cons_succ, List.getElem?_cons_zero] at x0 x1 x2) | (go_at_call 83; with_reducible refine (find_calls w0 _ g M l W X j m N (HK1.out.step HB2.out) HS.out H1.out H2.out HXW.out HJ.out).mono ?_; rintro e_ w3 ⟨rfl, hb⟩; rw [HPT.out]; have HB3 := Aside0.mk (below_step HB2.out hb); clear hb x0 x1 x2; have HN := Aside0.mk ((HK1.out.step HB3.out).nt.cell j _ b true n0 HM.out); have c2 := blk_cell HN.out 2; have c3 := blk_cell HN.out 3; simp only [List.getElem?_toArray, List.getElem?_cons_succ, List.getElem?_cons_zero] at c2 c3; have f3 := blk_frozen HN.out 3))
 go_ret
 exact ⟨rfl, (HK1.out.step HB3.out).kept_num HM.out n, (Kept.of_below (below_step HW1.out HB3.out) _).setCell (p := ⟨b, 3, none⟩) (.inl (.inr ⟨j, _, _, HM.out, rfl⟩)) _⟩
theorem tSet_calls (w0 w : World) (g : Nat) (M : NM) (l : List TI) (W X : Nat) (k0 m N lg n : Int) (h : KT w0 w g M (W : Int) m N) (hs : SH M l) (h1 : 1 ≤ W) (h2 : W ≤ 128) (hX : X < 2 ^ 128) :
 Calls Try.prog 30 #[.pointer (some ⟨g, 0, none⟩), .agg #[.int .i64 k0, .int .u64 (hiW X), .int .u64 (loW X)], .int .i64 lg, .int .i64 n] w fun e w' => e = .returned (.int .i64 (setEt (mayP W k0 X lg) l ⟨lg.toNat, preN W X lg.toNat, n⟩)) ∧
  ∃ M', KT w0 w' g M' (W : Int) m N ∧ SH M' (if setEt (mayP W k0 X lg) l ⟨lg.toNat, preN W X lg.toNat, n⟩ = 0 then updT ⟨lg.toNat, preN W X lg.toNat, n⟩ l else l) ∧ Kept w w' (SKm g M) := by
 by_cases hc : mayP W k0 X lg = 0
 ·obtain ⟨rfl, hXW, j, rfl, hj, _⟩ := mayP_zero hc
  rw [Int.toNat_natCast, hc]
  have hl := lookT_any l ⟨j, preN W X j, n⟩
  cases hm : M j (preN W X j) with
  | none =>
   have e0 : l.any (fun y => sameP y ⟨j, preN W X j, n⟩) = false := by
    rw [← hl, lookT_none ((hs.no _ _).1 hm)]
   refine (tSet_no1 w0 w g M l W X m N n h hs h1 h2 hX j hj hXW hc hm).mono ?_
   rintro e_ w' ⟨rfl, hb⟩
   have e5 : setEt 0 l ⟨j, preN W X j, n⟩ = 5 := by unfold setEt; rw [if_neg (by simp), e0, if_neg (by simp)]
   rw [e5]
   exact ⟨rfl, M, h.step hb, by rw [if_neg (by decide)]; exact hs, Kept.of_below hb _⟩
  | some t =>
   obtain ⟨b, x, n0⟩ := t
   have hy := hs.yes hm
   cases x with
   | false =>
    have e0 : l.any (fun y => sameP y ⟨j, preN W X j, n⟩) = false := by
     rw [← hl]; show (lookT l j (preN W X j)).1 = false; rw [← hy]
    refine (tSet_no2 w0 w g M l W X m N n h hs h1 h2 hX j hj hXW hc b n0 hm).mono ?_
    rintro e_ w' ⟨rfl, hb⟩
    have e5 : setEt 0 l ⟨j, preN W X j, n⟩ = 5 := by unfold setEt; rw [if_neg (by simp), e0, if_neg (by simp)]
    rw [e5]
    exact ⟨rfl, M, h.step hb, by rw [if_neg (by decide)]; exact hs, Kept.of_below hb _⟩
   | true =>
    have e0 : l.any (fun y => sameP y ⟨j, preN W X j, n⟩) = true := by
     rw [← hl]; show (lookT l j (preN W X j)).1 = true; rw [← hy]
    refine (tSet_ok w0 w g M l W X m N n h hs h1 h2 hX j hj hXW hc b n0 hm).mono ?_
    rintro e_ w' ⟨rfl, hk, hkp⟩
    have e5 : setEt 0 l ⟨j, preN W X j, n⟩ = 0 := by unfold setEt; rw [if_neg (by simp), e0, if_pos rfl]
    rw [e5]
    exact ⟨rfl, _, hk, by rw [if_pos rfl]; exact hs.upd hm e0, hkp⟩
 ·have e5 : setEt (mayP W k0 X lg) l ⟨lg.toNat, preN W X lg.toNat, n⟩ = mayP W k0 X lg := by unfold setEt; rw [if_pos hc]
  rw [e5]
  refine (tSet_err w0 w g M l W X k0 m N lg n h hs h1 h2 hX hc).mono ?_
  rintro e_ w' ⟨rfl, hb⟩
  exact ⟨rfl, M, h.step hb, by rw [if_neg hc]; exact hs, Kept.of_below hb _⟩
end Go.Proofs.Ytfdbcnbakchcgaa.XR
