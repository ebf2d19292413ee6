import Derived.Test.YtfdbcnbakchcgaaSr
import Derived.Test.YtfdbcnbakchcgaaRw
namespace Go.Proofs.Ytfdbcnbakchcgaa.XR
open Go.RowKit Go.Proofs.YtfdbcnbakchcgaaW.PrintWords Go.Proofs.YtfdbcnbakchcgaaW.PrintLast Go.Proofs.YtfdbcnbakchcgaaW.PrintMore
attribute [local go_sem] max2_int min2_int max_two min_two max_three min_three max_four min_four   -- for this text's walks alone
set_option linter.unusedVariables false
set_option linter.unusedSimpArgs false
/-- A place below another. -/
def undT (i k a b : Nat) : Prop := i ≤ a ∧ b / 2 ^ (a - i) = k
structure CPd (w w' : World) (M M1 : NM) (i k : Nat) : Prop where
 same : ∀ a b, undT i k a b → (M1 a b).map (·.2) = (M a b).map (·.2)
 out : ∀ a b, ¬ undT i k a b → M1 a b = none
 nt : NT w' w.heap.size M1
theorem CPd.step {w w1 w2 : World} {M M1 : NM} {i k : Nat} (h : CPd w w1 M M1 i k) (hb : Below w1.heap.size w1 w2) : CPd w w2 M M1 i k := ⟨h.same, h.out, h.nt.step hb⟩
theorem CPd.none {w w' : World} {M : NM} {i k : Nat} (h : ∀ a b, undT i k a b → M a b = none) : CPd w w' M (fun _ _ => none) i k :=
 ⟨fun a b e => by rw [h a b e], fun _ _ _ => rfl, ⟨(fun a b c d e f => by cases f), (fun a b c d t t1 f => by cases f), (fun a b t f => by cases f)⟩⟩
theorem und_son {i k a b s : Nat} (hs : s < 2) (h : undT (i + 1) (2 * k + s) a b) : undT i k a b := ⟨by have := h.1; omega, by rw [div_step _ _ _ h.1, h.2]; omega⟩
theorem und_deep {i k a b s : Nat} (hs : s < 2) (h : undT i k a b) : undT i k (a + 1) (2 * b + s) := ⟨by have := h.1; omega, by rw [show a + 1 - i = (a - i) + 1 by have := h.1; omega, Nat.pow_succ', ← Nat.div_div_eq_div_mul, show (2 * b + s) / 2 = b by omega]; exact h.2⟩
theorem und_cases {i k a b : Nat} (h : undT i k a b) : (a = i ∧ b = k) ∨ undT (i + 1) (2 * k + 0) a b ∨ undT (i + 1) (2 * k + 1) a b := by
 obtain ⟨h1, h2⟩ := h
 by_cases e : a = i
 ·left
  subst e
  rw [Nat.sub_self, Nat.pow_zero, Nat.div_one] at h2
  exact ⟨rfl, h2⟩
 ·right
  rw [div_step _ _ _ (by omega)] at h2
  rcases Nat.mod_two_eq_zero_or_one (b / 2 ^ (a - (i + 1))) with c | c
  ·left; exact ⟨by omega, by omega⟩
  ·right; exact ⟨by omega, by omega⟩
theorem und_apart {i k a b : Nat} (h0 : undT (i + 1) (2 * k + 0) a b) (h1 : undT (i + 1) (2 * k + 1) a b) : False := by have := h0.2; have := h1.2; omega
theorem und_top {i k s : Nat} (h : undT (i + 1) (2 * k + s) i k) : False := by have := h.1; omega
/-- Two copies and a node. -/
def mrgM (M1 M2 : NM) (i k : Nat) (t : Nat × Bool × Int) : NM := fun a b => if a = i ∧ b = k then some t else match M1 a b with
 | some x => some x
 | none => M2 a b
theorem mrg_top (M1 M2 : NM) (i k : Nat) (t : Nat × Bool × Int) : mrgM M1 M2 i k t i k = some t := if_pos ⟨rfl, rfl⟩
theorem mrg_off (M1 M2 : NM) (i k : Nat) (t : Nat × Bool × Int) {a b : Nat} (h : ¬ (a = i ∧ b = k)) : mrgM M1 M2 i k t a b = match M1 a b with
 | some x => some x
 | none => M2 a b := if_neg h
theorem mrg_left {w w1 w2 w3 : World} {M M1 M2 : NM} {i k : Nat} {t : Nat × Bool × Int} (h1 : CPd w w1 M M1 (i + 1) (2 * k + 0)) (h2 : CPd w2 w3 M M2 (i + 1) (2 * k + 1)) {a b : Nat} (h : undT (i + 1) (2 * k + 0) a b) : mrgM M1 M2 i k t a b = M1 a b := by
 rw [mrg_off _ _ _ _ _ (by rintro ⟨rfl, rfl⟩; exact und_top h), h2.out a b (fun e => und_apart h e)]
 cases M1 a b <;> rfl
theorem mrg_right {w w1 w2 w3 : World} {M M1 M2 : NM} {i k : Nat} {t : Nat × Bool × Int} (h1 : CPd w w1 M M1 (i + 1) (2 * k + 0)) (h2 : CPd w2 w3 M M2 (i + 1) (2 * k + 1)) {a b : Nat} (h : undT (i + 1) (2 * k + 1) a b) : mrgM M1 M2 i k t a b = M2 a b := by
 rw [mrg_off _ _ _ _ _ (by rintro ⟨rfl, rfl⟩; exact und_top h), h1.out a b (fun e => und_apart e h)]
theorem mrg_out {w w1 w2 w3 : World} {M M1 M2 : NM} {i k : Nat} {t : Nat × Bool × Int} (h1 : CPd w w1 M M1 (i + 1) (2 * k + 0)) (h2 : CPd w2 w3 M M2 (i + 1) (2 * k + 1)) {a b : Nat} (h : ¬ undT i k a b) : mrgM M1 M2 i k t a b = none := by
 rw [mrg_off _ _ _ _ _ (by rintro ⟨rfl, rfl⟩; exact h ⟨Nat.le_refl _, by simp⟩), h1.out a b (fun e => h (und_son (by decide) e)), h2.out a b (fun e => h (und_son (by decide) e))]
theorem NT.base {w : World} {b b1 : Nat} {M : NM} (h : NT w b M) (hb : b1 ≤ b) : NT w b1 M := ⟨h.cell, h.inj, fun i k t e => Nat.le_trans hb (h.ge i k t e)⟩
theorem CPd.merge {w wx w1 w2 w3 w4 : World} {M M1 M2 : NM} {i k c : Nat} {h : Bool} {n : Int} (hm : (M i k).map (·.2) = some (h, n)) (h1 : CPd wx w1 M M1 (i + 1) (2 * k + 0)) (h2 : CPd w2 w3 M M2 (i + 1) (2 * k + 1))
 (e1 : w.heap.size ≤ w1.heap.size) (e2 : w1.heap.size ≤ w2.heap.size) (e3 : w2.heap.size ≤ w3.heap.size) (e4 : w3.heap.size ≤ c) (b1 : NT w4 w.heap.size M1) (b2 : NT w4 w2.heap.size M2)
 (hc : w4.heap[c]? = some (.cells #[sonP M1 (i + 1) (2 * k), sonP M2 (i + 1) (2 * k + 1), .bool h, .int .i64 n] 116 (0, 0))) : CPd w w4 M (mrgM M1 M2 i k (c, h, n)) i k := by
 have cs : ∀ a b t, mrgM M1 M2 i k (c, h, n) a b = some t → (a = i ∧ b = k ∧ t = (c, h, n)) ∨ (undT (i + 1) (2 * k + 0) a b ∧ M1 a b = some t) ∨ (undT (i + 1) (2 * k + 1) a b ∧ M2 a b = some t) := by
  intro a b t ht
  by_cases e : undT i k a b
  ·rcases und_cases e with ⟨rfl, rfl⟩ | e | e
   ·rw [mrg_top] at ht; injection ht with ht; exact .inl ⟨rfl, rfl, ht.symm⟩
   ·rw [mrg_left h1 h2 e] at ht; exact .inr (.inl ⟨e, ht⟩)
   ·rw [mrg_right h1 h2 e] at ht; exact .inr (.inr ⟨e, ht⟩)
  ·rw [mrg_out h1 h2 e] at ht; cases ht
 have lt1 : ∀ a b t, M1 a b = some t → t.1 < w1.heap.size := fun a b t ht => h1.nt.lt ⟨a, b, t, ht, rfl⟩
 have lt2 : ∀ a b t, M2 a b = some t → t.1 < w3.heap.size := fun a b t ht => h2.nt.lt ⟨a, b, t, ht, rfl⟩
 refine ⟨fun a b e => ?_, fun a b e => mrg_out h1 h2 e, ⟨fun a b g x y ht => ?_, fun a b a' b' t t' ht ht' e => ?_, fun a b t ht => ?_⟩⟩
 ·rcases und_cases e with ⟨rfl, rfl⟩ | e | e
  ·rw [mrg_top, hm]; rfl
  ·rw [mrg_left h1 h2 e]; exact h1.same a b e
  ·rw [mrg_right h1 h2 e]; exact h2.same a b e
 ·rcases cs a b _ ht with ⟨rfl, rfl, hq⟩ | ⟨e, ht⟩ | ⟨e, ht⟩
  ·injection hq with q1 q2; injection q2 with q2 q3; subst q1 q2 q3
   rw [hc]
   unfold nodeO sonP
   rw [mrg_left h1 h2 (a := a + 1) (b := 2 * b) ⟨Nat.le_refl _, by simp⟩, mrg_right h1 h2 (a := a + 1) (b := 2 * b + 1) ⟨Nat.le_refl _, by simp⟩]
  ·rw [b1.cell a b g x y ht]
   unfold nodeO sonP
   rw [mrg_left h1 h2 (show undT (i + 1) (2 * k + 0) (a + 1) (2 * b) from und_deep (s := 0) (by decide) e), mrg_left h1 h2 (und_deep (s := 1) (by decide) e)]
  ·rw [b2.cell a b g x y ht]
   unfold nodeO sonP
   rw [mrg_right h1 h2 (show undT (i + 1) (2 * k + 1) (a + 1) (2 * b) from und_deep (s := 0) (by decide) e), mrg_right h1 h2 (und_deep (s := 1) (by decide) e)]
 ·rcases cs a b _ ht with ⟨rfl, rfl, rfl⟩ | ⟨q, hu⟩ | ⟨q, hu⟩ <;> rcases cs a' b' _ ht' with ⟨rfl, rfl, rfl⟩ | ⟨q', hu'⟩ | ⟨q', hu'⟩
  ·exact ⟨rfl, rfl⟩
  ·have := lt1 _ _ _ hu'; simp only at e; omega
  ·have := lt2 _ _ _ hu'; simp only at e; omega
  ·have := lt1 _ _ _ hu; simp only at e; omega
  ·exact b1.inj _ _ _ _ _ _ hu hu' e
  ·have := lt1 _ _ _ hu; have := b2.ge _ _ _ hu'; omega
  ·have := lt2 _ _ _ hu; simp only at e; omega
  ·have := lt1 _ _ _ hu'; have := b2.ge _ _ _ hu; omega
  ·exact b2.inj _ _ _ _ _ _ hu hu' e
 ·rcases cs a b _ ht with ⟨_, _, rfl⟩ | ⟨_, ht⟩ | ⟨_, ht⟩
  ·simp only; omega
  ·exact b1.ge _ _ _ ht
  ·have := b2.ge _ _ _ ht; omega
set_option maxHeartbeats 1000000 in
set_option maxRecDepth 100000 in
theorem copied_nil (w : World) : Calls Try.prog 85 #[.pointer none] w fun e w' => e = .returned (.pointer none) ∧ Below w.heap.size w w' := by
 have HB := Aside0.mk (Below.refl w.heap.size w)
 go_enter Try.func85, Try.ntmps85
 go_wp2
 go_ret
 exact ⟨rfl, HB.out⟩
set_option maxHeartbeats 1000000 in
set_option maxRecDepth 100000 in
theorem copied_node (w00 w0 w : World) (g : Nat) (M : NM) (W m N : Int) (hk : KT w00 w0 g M W m N) (i k b : Nat) (h : Bool) (n : Int) (hm : M i k = some (b, h, n)) (hb : Below w0.heap.size w0 w)
 (h1 : ∀ w, Below w0.heap.size w0 w → Calls Try.prog 85 #[sonP M (i + 1) (2 * k)] w fun e w' => ∃ M1, e = .returned (sonP M1 (i + 1) (2 * k)) ∧ CPd w w' M M1 (i + 1) (2 * k) ∧ Below w.heap.size w w')
 (h2 : ∀ w, Below w0.heap.size w0 w → Calls Try.prog 85 #[sonP M (i + 1) (2 * k + 1)] w fun e w' => ∃ M1, e = .returned (sonP M1 (i + 1) (2 * k + 1)) ∧ CPd w w' M M1 (i + 1) (2 * k + 1) ∧ Below w.heap.size w w') :
 Calls Try.prog 85 #[.pointer (some ⟨b, 0, none⟩)] w fun e w' => ∃ M1, e = .returned (sonP M1 i k) ∧ CPd w w' M M1 i k ∧ Below w.heap.size w w' := by
 have HM := Aside0.mk hm
 have HK := Aside0.mk hk
 have HB := Aside0.mk hb
 have H1 := Aside0.mk h1
 have H2 := Aside0.mk h2
 have HN := Aside0.mk (fun w' (hs : Below w.heap.size w w') => (hk.step (below_step hb hs)).nt.cell _ _ _ _ _ hm)
 clear hm hk hb h1 h2
 go_enter Try.func85, Try.ntmps85
 go_wp2
 refine start_ (n := 24) (S := fun w' => Below w.heap.size w w') (ds := []) #[false, false, false, false, false, false, false, false, false, false, false, false, false, false, false, false, false, false, false, false, false, false, false, false] (by kernel_rfl) rfl rfl (below_drew1 (Below.refl _ _)) (fun hHeld => ?_)
 generalize World.drew _ = w3 at hHeld ⊢
 refine pl_ [0, 1, 2, 3, 6, 7, 8, 9, 13, 14, 15, 17, 18, 19] ?_
 iterate 14 refine pP rfl rfl (by kernel_rfl) (fun _ _ _ h => h) (by rfl) (by intro w'; go_simp; with_reducible rfl) (by simp only [Act.put, z1, z2, z3, i64_w, i32_w]; rfl) ?_
 refine pl0 ?_
 refine take_ (i := 4) (N := some 9) (v := ?_) (a' := ?_) #[true, true, true, true, true, false, true, true, true, true, false, false, false, true, true, true, false, true, true, true, false, false, false, false] rfl rfl (by kernel_rfl) (fun _ _ _ h => h) (Or.inl ⟨by rfl, ?_⟩) hHeld ?_ ?_
 rotate_left
 ·intro w' hs
  have m0 := son_cell ((HK.out.step (below_step HB.out hs)).nt) HM.out (show 0 < 2 by decide)
  rw [Nat.add_zero] at m0
  go_simp
  with_reducible rfl
 rotate_left
 ·simp only [Act.put, List.setIfInBounds_toArray, List.set_cons_zero, List.set_cons_succ, i64_w, i32_w]
  rfl
 refine take_ (i := 10) (N := some 15) (v := ?_) (a' := ?_) #[true, true, true, true, true, false, true, true, true, true, true, false, false, true, true, true, false, true, true, true, false, false, false, false] rfl rfl (by kernel_rfl) (fun _ _ _ h => h) (Or.inl ⟨by rfl, ?_⟩) hHeld ?_ ?_
 rotate_left
 ·intro w' hs
  have m0 := son_cell ((HK.out.step (below_step HB.out hs)).nt) HM.out (show 1 < 2 by decide)
  go_simp
  with_reducible rfl
 rotate_left
 ·simp only [Act.put, List.setIfInBounds_toArray, List.set_cons_zero, List.set_cons_succ, i64_w, i32_w]
  rfl
 refine take_ (i := 16) (N := some 21) (v := ?_) (a' := ?_) #[true, true, true, true, true, false, true, true, true, true, true, false, false, true, true, true, true, true, true, true, false, false, false, false] rfl rfl (by kernel_rfl) (fun _ _ _ h => h) (Or.inl ⟨by rfl, ?_⟩) hHeld ?_ ?_
 rotate_left
 ·intro w' hs
  have m2 := blk_cell (HN.out _ hs) 2
  simp only [List.getElem?_toArray, List.getElem?_cons_succ, List.getElem?_cons_zero] at m2
  go_simp
  with_reducible rfl
 rotate_left
 ·simp only [Act.put, List.setIfInBounds_toArray, List.set_cons_zero, List.set_cons_succ, i64_w, i32_w]
  rfl
 refine take_ (i := 20) (N := some 25) (v := ?_) (a' := ?_) #[true, true, true, true, true, false, true, true, true, true, true, false, false, true, true, true, true, true, true, true, true, false, false, false] rfl rfl (by kernel_rfl) (fun _ _ _ h => h) (Or.inl ⟨by rfl, ?_⟩) hHeld ?_ ?_
 rotate_left
 ·intro w' hs
  have m3 := blk_cell (HN.out _ hs) 3
  simp only [List.getElem?_toArray, List.getElem?_cons_succ, List.getElem?_cons_zero] at m3
  go_simp
  with_reducible rfl
 rotate_left
 ·simp only [Act.put, List.setIfInBounds_toArray, List.set_cons_zero, List.set_cons_succ, i64_w, i32_w]
  rfl
 have HH := Aside0.mk hHeld
 clear hHeld
 refine one_ (i := 5) (N := some 10) #[true, true, true, true, true, true, true, true, true, true, true, false, false, true, true, true, true, true, true, true, true, false, false, false] rfl rfl (by kernel_rfl) (by decide) (fun K hK => ?_)
 refine goes_ Try.func85 (by kernel_rfl) rfl #[sonP M (i + 1) (2 * k)] (by rfl) rfl rfl (by simp only [List.map_toArray, List.map_cons, List.map_nil]; rfl) ?_
 with_reducible refine (H1.out _ (below_step HB.out HH.out)).mono ?_
 rintro e_ w1 ⟨M1, rfl, hc1, hb⟩
 refine ⟨_, rfl, ?_⟩
 obtain ⟨o1, ho1⟩ : ∃ o, sonP M1 (i + 1) (2 * k) = .pointer o := ⟨_, rfl⟩
 rw [ho1]
 have HO1 := Aside0.mk ho1
 clear ho1
 have HC1 := Aside0.mk hc1
 have HB1 := Aside0.mk hb
 have HG := Aside0.mk (below_step HH.out hb)
 clear hb hc1
 obtain ⟨wA, hwA⟩ : ∃ wA, wA = w1 := ⟨_, rfl⟩
 rw [← hwA] at HC1 HB1 HG ⊢
 clear hwA
 refine hK.out _ _ HG.out (fun hHeld => ?_)
 clear hK K
 refine norm_ (a' := ?_) ?_ ?_
 rotate_left
 ·show Act.put _ (some 10) _ = _
  simp only [Act.put, List.setIfInBounds_toArray, List.set_cons_zero, List.set_cons_succ, i64_w, i32_w]
  rfl
 refine one_ (i := 11) (N := some 16) #[true, true, true, true, true, true, true, true, true, true, true, true, false, true, true, true, true, true, true, true, true, false, false, false] rfl rfl (by kernel_rfl) (by decide) (fun K hK => ?_)
 refine goes_ Try.func85 (by kernel_rfl) rfl #[sonP M (i + 1) (2 * k + 1)] (by rfl) rfl rfl (by simp only [List.map_toArray, List.map_cons, List.map_nil]; rfl) ?_
 with_reducible refine (H2.out _ (below_step HB.out HG.out)).mono ?_
 rintro e_ w1 ⟨M2, rfl, hc2, hb⟩
 refine ⟨_, rfl, ?_⟩
 obtain ⟨o2, ho2⟩ : ∃ o, sonP M2 (i + 1) (2 * k + 1) = .pointer o := ⟨_, rfl⟩
 rw [ho2]
 have HO2 := Aside0.mk ho2
 clear ho2
 have HC2 := Aside0.mk hc2
 have HB2 := Aside0.mk hb
 have HG2 := Aside0.mk (below_step HG.out hb)
 clear hb hc2
 refine hK.out _ _ HG2.out (fun hHeld => ?_)
 clear hK K
 refine norm_ (a' := ?_) ?_ ?_
 rotate_left
 ·show Act.put _ (some 16) _ = _
  simp only [Act.put, List.setIfInBounds_toArray, List.set_cons_zero, List.set_cons_succ, i64_w, i32_w]
  rfl
 refine pl_ [12, 21] ?_
 iterate 2 refine pP rfl rfl (by kernel_rfl) (fun _ _ _ h => h) (by rfl) (by intro w'; go_simp; with_reducible rfl) (by simp only [Act.put, z1, z2, z3, i64_w, i32_w]; rfl) ?_
 refine pl0 ?_
 skip
 refine one_ (i := 22) (N := some 27) #[true, true, true, true, true, true, true, true, true, true, true, true, true, true, true, true, true, true, true, true, true, true, true, false] rfl rfl (by kernel_rfl) (by decide) (fun K hK => ?_)
 refine value_ (w1 := ?_) (v := ?_) (by rfl) rfl ?_ ?_
 rotate_left 2
 ·go_simp
  constructor
  ·rfl
  ·rfl
 have HA := Aside0.mk (below_alloc HG2.out (.cells #[.pointer o1, .pointer o2, .bool h, .int .i64 n] 116 (0, 0)))
 refine hK.out _ _ HA.out (fun hHeld => ?_)
 clear hK K hHeld
 refine norm_ (a' := ?_) ?_ ?_
 rotate_left
 ·show Act.put _ (some 27) _ = _
  simp only [Act.put, List.setIfInBounds_toArray, List.set_cons_zero, List.set_cons_succ, i64_w, i32_w]
  rfl
 refine pl_ [23] ?_
 refine pP rfl rfl (by kernel_rfl) (fun _ _ _ h => h) (by rfl) (by intro w'; go_simp; with_reducible rfl) (by simp only [Act.put, z1, z2, z3, i64_w, i32_w]; rfl) ?_
 refine pl0 ?_
 refine done_ (by kernel_rfl) ?_
 go_wp2
 go_ret
 have hs1 : w.heap.size ≤ wA.heap.size := Nat.le_trans HH.out.size HB1.out.size
 refine ⟨mrgM M1 M2 i k (w1.heap.size, h, n), ?_, CPd.merge (w1 := wA) (w2 := wA) (w3 := w1) (by rw [HM.out]; rfl) HC1.out HC2.out hs1 (Nat.le_refl _) HB2.out.size (Nat.le_refl _) ((HC1.out.nt.step (below_alloc HB2.out _)).base HH.out.size) (HC2.out.nt.step (below_alloc (Below.refl _ _) _)) (by rw [HO1.out, HO2.out]; exact blk_new w1 _), HA.out⟩
 unfold sonP
 rw [mrg_top]
 rfl
theorem copied_calls (w00 w0 : World) (g : Nat) (M : NM) (W : Nat) (m N : Int) (l : List TI) (hk : KT w00 w0 g M (W : Int) m N) (hs : SH M l) (hf : fitT W l) : ∀ (d i k : Nat), i + d = W + 1 → ∀ w, Below w0.heap.size w0 w →
 Calls Try.prog 85 #[sonP M i k] w fun e w' => ∃ M1, e = .returned (sonP M1 i k) ∧ CPd w w' M M1 i k ∧ Below w.heap.size w w' := by
 have nil : ∀ i k w, M i k = none → Calls Try.prog 85 #[sonP M i k] w fun e w' => ∃ M1, e = .returned (sonP M1 i k) ∧ CPd w w' M M1 i k ∧ Below w.heap.size w w' := by
  intro i k w hm
  unfold sonP
  rw [hm, show ptrN none = .pointer none from rfl]
  refine (copied_nil w).mono ?_
  rintro e w' ⟨rfl, hb⟩
  refine ⟨fun _ _ => none, rfl, CPd.none (fun a b e => (hs.no a b).2 (nodeAt_anc a b e.1 ?_)), hb⟩
  rw [e.2]
  exact (hs.no i k).1 hm
 intro d
 induction d with
 | zero =>
  intro i k hd w hb
  exact nil i k w ((hs.no i k).2 (nodeAt_deep hf (by omega)))
 | succ d ih =>
  intro i k hd w hb
  cases hm : M i k with
  | none => exact nil i k w hm
  | some t =>
   obtain ⟨b, here, n0⟩ := t
   rw [show sonP M i k = .pointer (some ⟨b, 0, none⟩) from by unfold sonP; rw [hm]; rfl]
   exact copied_node w00 w0 w g M W m N hk i k b here n0 hm hb (ih (i + 1) (2 * k) (by omega)) (ih (i + 1) (2 * k + 1) (by omega))
theorem tCopy_nil (w : World) : Calls Try.prog 31 #[.pointer none] w fun e w' => e = .returned (.pointer none) ∧ Below w.heap.size w w' := by
 have HB := Aside0.mk (Below.refl w.heap.size w)
 go_enter Try.func31, Try.ntmps31
 go_wp2
 go_ret
 exact ⟨rfl, HB.out⟩
theorem SH_copied {w w' : World} {M M1 : NM} {W : Nat} {l : List TI} (hs : SH M l) (hf : fitT W l) (h : CPd w w' M M1 0 0) : SH M1 l := by
 intro a b
 by_cases e : undT 0 0 a b
 ·rw [h.same a b e]; exact hs a b
 ·rw [h.out a b e]
  by_cases c : nodeAt l a b = none
  ·rw [c]; rfl
  ·exact absurd ⟨Nat.zero_le _, by rw [Nat.sub_zero]; exact Nat.div_eq_of_lt (nodeAt_key hf c)⟩ e
set_option maxHeartbeats 1000000 in
set_option maxRecDepth 100000 in
theorem tCopy_calls (w00 w : World) (g : Nat) (M : NM) (W : Nat) (m N : Int) (l : List TI) (hk : KT w00 w g M (W : Int) m N) (hs : SH M l) (hf : fitT W l) :
 Calls Try.prog 31 #[.pointer (some ⟨g, 0, none⟩)] w fun e w' => ∃ gc M1, e = .returned (.pointer (some ⟨gc, 0, none⟩)) ∧ KT w w' gc M1 (W : Int) m N ∧ SH M1 l := by
 have HK := Aside0.mk hk
 have HC := Aside0.mk (copied_calls w00 w g M W m N l hk hs hf (W + 1) 0 0 (Nat.zero_add _))
 have HSC := Aside0.mk (fun w1 w2 M1 (h : CPd w1 w2 M M1 0 0) => SH_copied hs hf h)
 clear hk hs hf
 go_enter Try.func31, Try.ntmps31
 go_wp2
 refine start_ (n := 20) (S := fun w' => Below w.heap.size w w') (ds := []) #[false, false, false, false, false, false, false, false, false, false, false, false, false, false, false, false, false, false, false, false] (by kernel_rfl) rfl rfl (below_drew1 (Below.refl _ _)) (fun hHeld => ?_)
 generalize World.drew _ = w3 at hHeld ⊢
 refine pl_ [0, 1, 2, 5, 6, 7, 9, 10, 11, 13, 14, 15] ?_
 iterate 12 refine pP rfl rfl (by kernel_rfl) (fun _ _ _ h => h) (by rfl) (by intro w'; go_simp; with_reducible rfl) (by simp only [Act.put, z1, z2, z3, i64_w, i32_w]; rfl) ?_
 refine pl0 ?_
 refine take_ (i := 3) (N := some 8) (v := ?_) (a' := ?_) #[true, true, true, true, false, true, true, true, false, true, true, true, false, true, true, true, false, false, false, false] rfl rfl (by kernel_rfl) (fun _ _ _ h => h) (Or.inl ⟨by rfl, ?_⟩) hHeld ?_ ?_
 rotate_left
 ·intro w' hs
  have m0 := blk_cell ((HK.out.step hs).blk) 0
  simp only [List.getElem?_toArray, List.getElem?_cons_succ, List.getElem?_cons_zero] at m0
  go_simp
  with_reducible rfl
 rotate_left
 ·simp only [Act.put, List.setIfInBounds_toArray, List.set_cons_zero, List.set_cons_succ, i64_w, i32_w]
  rfl
 refine take_ (i := 8) (N := some 13) (v := ?_) (a' := ?_) #[true, true, true, true, false, true, true, true, true, true, true, true, false, true, true, true, false, false, false, false] rfl rfl (by kernel_rfl) (fun _ _ _ h => h) (Or.inl ⟨by rfl, ?_⟩) hHeld ?_ ?_
 rotate_left
 ·intro w' hs
  have m1 := blk_cell ((HK.out.step hs).blk) 1
  simp only [List.getElem?_toArray, List.getElem?_cons_succ, List.getElem?_cons_zero] at m1
  go_simp
  with_reducible rfl
 rotate_left
 ·simp only [Act.put, List.setIfInBounds_toArray, List.set_cons_zero, List.set_cons_succ, i64_w, i32_w]
  rfl
 refine take_ (i := 12) (N := some 17) (v := ?_) (a' := ?_) #[true, true, true, true, false, true, true, true, true, true, true, true, true, true, true, true, false, false, false, false] rfl rfl (by kernel_rfl) (fun _ _ _ h => h) (Or.inl ⟨by rfl, ?_⟩) hHeld ?_ ?_
 rotate_left
 ·intro w' hs
  have m2 := blk_cell ((HK.out.step hs).blk) 2
  simp only [List.getElem?_toArray, List.getElem?_cons_succ, List.getElem?_cons_zero] at m2
  go_simp
  with_reducible rfl
 rotate_left
 ·simp only [Act.put, List.setIfInBounds_toArray, List.set_cons_zero, List.set_cons_succ, i64_w, i32_w]
  rfl
 refine take_ (i := 16) (N := some 21) (v := ?_) (a' := ?_) #[true, true, true, true, false, true, true, true, true, true, true, true, true, true, true, true, true, false, false, false] rfl rfl (by kernel_rfl) (fun _ _ _ h => h) (Or.inl ⟨by rfl, ?_⟩) hHeld ?_ ?_
 rotate_left
 ·intro w' hs
  have m3 := blk_cell ((HK.out.step hs).blk) 3
  simp only [List.getElem?_toArray, List.getElem?_cons_succ, List.getElem?_cons_zero] at m3
  go_simp
  with_reducible rfl
 rotate_left
 ·simp only [Act.put, List.setIfInBounds_toArray, List.set_cons_zero, List.set_cons_succ, i64_w, i32_w]
  rfl
 have HH := Aside0.mk hHeld
 clear hHeld
 refine one_ (i := 4) (N := some 9) #[true, true, true, true, true, true, true, true, true, true, true, true, true, true, true, true, true, false, false, false] rfl rfl (by kernel_rfl) (by decide) (fun K hK => ?_)
 refine goes_ Try.func85 (by kernel_rfl) rfl #[sonP M 0 0] (by rfl) rfl rfl (by simp only [List.map_toArray, List.map_cons, List.map_nil]; rfl) ?_
 with_reducible refine (HC.out _ HH.out).mono ?_
 rintro e_ w1 ⟨M1, rfl, hc1, hb⟩
 refine ⟨_, rfl, ?_⟩
 obtain ⟨o1, ho1⟩ : ∃ o, sonP M1 0 0 = .pointer o := ⟨_, rfl⟩
 rw [ho1]
 have HO1 := Aside0.mk ho1
 clear ho1
 have HC1 := Aside0.mk hc1
 have HB1 := Aside0.mk hb
 have HG := Aside0.mk (below_step HH.out hb)
 clear hb hc1
 refine hK.out _ _ HG.out (fun hHeld => ?_)
 clear hK K
 refine norm_ (a' := ?_) ?_ ?_
 rotate_left
 ·show Act.put _ (some 9) _ = _
  simp only [Act.put, List.setIfInBounds_toArray, List.set_cons_zero, List.set_cons_succ, i64_w, i32_w]
  rfl
 refine pl_ [17] ?_
 refine pP rfl rfl (by kernel_rfl) (fun _ _ _ h => h) (by rfl) (by intro w'; go_simp; with_reducible rfl) (by simp only [Act.put, z1, z2, z3, i64_w, i32_w]; rfl) ?_
 refine pl0 ?_
 refine one_ (i := 18) (N := some 23) #[true, true, true, true, true, true, true, true, true, true, true, true, true, true, true, true, true, true, true, false] rfl rfl (by kernel_rfl) (by decide) (fun K hK => ?_)
 refine value_ (w1 := ?_) (v := ?_) (by rfl) rfl ?_ ?_
 rotate_left 2
 ·go_simp
  constructor
  ·rfl
  ·rfl
 have HA := Aside0.mk (below_alloc HG.out (.cells #[.pointer o1, .int .i64 (W : Int), .int .i64 m, .int .i64 N] 118 (0, 0)))
 refine hK.out _ _ HA.out (fun hHeld => ?_)
 clear hK K hHeld
 refine norm_ (a' := ?_) ?_ ?_
 rotate_left
 ·show Act.put _ (some 23) _ = _
  simp only [Act.put, List.setIfInBounds_toArray, List.set_cons_zero, List.set_cons_succ, i64_w, i32_w]
  rfl
 refine pl_ [19] ?_
 refine pP rfl rfl (by kernel_rfl) (fun _ _ _ h => h) (by rfl) (by intro w'; go_simp; with_reducible rfl) (by simp only [Act.put, z1, z2, z3, i64_w, i32_w]; rfl) ?_
 refine pl0 ?_
 refine done_ (by kernel_rfl) ?_
 go_wp2
 go_ret
 exact ⟨w1.heap.size, M1, rfl, ⟨by rw [HO1.out]; exact blk_new w1 _, (HC1.out.nt.step (below_alloc (Below.refl _ _) _)).base HH.out.size, HG.out.size, HA.out⟩, HSC.out _ _ _ HC1.out⟩
end Go.Proofs.Ytfdbcnbakchcgaa.XR
