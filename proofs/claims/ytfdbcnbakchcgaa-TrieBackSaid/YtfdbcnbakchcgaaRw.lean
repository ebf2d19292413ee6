import Derived.Test.YtfdbcnbakchcgaaSr
import Derived.Test.YtfdbcnbakchcgaaRu
namespace Go.Proofs.Ytfdbcnbakchcgaa.XR
open Go.RowKit Go.Proofs.YtfdbcnbakchcgaaW.PrintWords Go.Proofs.YtfdbcnbakchcgaaW.PrintLast Go.Proofs.YtfdbcnbakchcgaaW.PrintMore
attribute [local go_sem] max2_int min2_int max_two min_two max_three min_three max_four min_four   -- for this text's walks alone
set_option linter.unusedVariables false
set_option linter.unusedSimpArgs false
def nodesT (l : List TI) : Nat → Nat → Nat → List (Nat × Nat)
 | 0, _, _ => []
 | d + 1, i, k => if nodeAt l i k = none then [] else (i, k) :: (nodesT l d (i + 1) (2 * k) ++ nodesT l d (i + 1) (2 * k + 1))
theorem nodes_length (l : List TI) : ∀ d i k, (nodesT l d i k).length = countT l d i k
 | 0, i, k => rfl
 | d + 1, i, k => by
  unfold nodesT countT
  by_cases c : nodeAt l i k = none
  ·rw [if_pos c, if_pos c]; rfl
  ·rw [if_neg c, if_neg c, List.length_cons, List.length_append, nodes_length l d, nodes_length l d]; omega
theorem nodeAt_anc {l : List TI} {i : Nat} : ∀ (a b : Nat), i ≤ a → nodeAt l i (b / 2 ^ (a - i)) = none → nodeAt l a b = none := by
 intro a
 induction a with
 | zero =>
  intro b h1 h2
  rw [show i = 0 by omega, Nat.sub_self, Nat.pow_zero, Nat.div_one] at h2
  exact h2
 | succ a ih =>
  intro b h1 h2
  by_cases e : i = a + 1
  ·rw [e, Nat.sub_self, Nat.pow_zero, Nat.div_one] at h2; exact h2
  ·refine nodeAt_none_up (ih (b / 2) (by omega) ?_)
   rw [Nat.div_div_eq_div_mul, ← Nat.pow_succ', show (a - i).succ = a + 1 - i by omega]
   exact h2
theorem mem_nodes (l : List TI) (a b : Nat) : ∀ d i k, (a, b) ∈ nodesT l d i k ↔ i ≤ a ∧ a < i + d ∧ b / 2 ^ (a - i) = k ∧ ¬ nodeAt l a b = none
 | 0, i, k => by
  unfold nodesT
  constructor
  ·intro h; cases h
  ·rintro ⟨h1, h2, _⟩; omega
 | d + 1, i, k => by
  have h0 := mem_nodes l a b d (i + 1) (2 * k)
  have h1 := mem_nodes l a b d (i + 1) (2 * k + 1)
  unfold nodesT
  by_cases c : nodeAt l i k = none
  ·rw [if_pos c]
   constructor
   ·intro h; cases h
   ·rintro ⟨e1, _, e3, e4⟩
    exact absurd (nodeAt_anc a b e1 (by rw [e3]; exact c)) e4
  ·rw [if_neg c, List.mem_cons, List.mem_append, h0, h1]
   constructor
   ·rintro (h | h | h)
    ·injection h with h2 h3
     subst h2 h3
     exact ⟨Nat.le_refl _, by omega, by simp, c⟩
    ·obtain ⟨a1, a2, a3, a4⟩ := h
     exact ⟨by omega, by omega, by rw [div_step _ _ _ a1, a3]; omega, a4⟩
    ·obtain ⟨a1, a2, a3, a4⟩ := h
     exact ⟨by omega, by omega, by rw [div_step _ _ _ a1, a3]; omega, a4⟩
   ·rintro ⟨e1, e2, e3, e4⟩
    by_cases e : a = i
    ·left
     subst e
     rw [Nat.sub_self, Nat.pow_zero, Nat.div_one] at e3
     rw [e3]
    ·right
     rw [div_step _ _ _ (by omega)] at e3
     rcases Nat.mod_two_eq_zero_or_one (b / 2 ^ (a - (i + 1))) with c2 | c2
     ·left; exact ⟨by omega, by omega, by omega, e4⟩
     ·right; exact ⟨by omega, by omega, by omega, e4⟩
theorem nodes_nodup (l : List TI) : ∀ d i k, (nodesT l d i k).Nodup
 | 0, i, k => List.Pairwise.nil
 | d + 1, i, k => by
  unfold nodesT
  by_cases c : nodeAt l i k = none
  ·rw [if_pos c]; exact List.Pairwise.nil
  ·rw [if_neg c, List.nodup_cons, List.nodup_append]
   refine ⟨fun h => ?_, nodes_nodup l d _ _, nodes_nodup l d _ _, fun x hx y hy e => ?_⟩
   ·rw [List.mem_append, mem_nodes, mem_nodes] at h
    omega
   ·subst e
    obtain ⟨a, b⟩ := x
    have e1 := ((mem_nodes l a b _ _ _).1 hx).2.2.1
    have e2 := ((mem_nodes l a b _ _ _).1 hy).2.2.1
    omega
/-- All beginnings of all prefixes. -/
def beginsT (l : List TI) : List (Nat × Nat) := (0, 0) :: l.flatMap fun y => (List.range (y.len + 1)).map fun j => (j, y.key / 2 ^ (y.len - j))
theorem mem_begins {l : List TI} {a b : Nat} (h : ¬ nodeAt l a b = none) : (a, b) ∈ beginsT l := by
 unfold nodeAt at h
 split at h
 case isTrue c =>
  unfold beginsT
  rcases c with ⟨e1, e2⟩ | c
  ·subst e1 e2; exact List.mem_cons_self
  ·obtain ⟨y, hy, e1, e2⟩ := (nodeIn_iff l a b).1 c
   refine List.mem_cons_of_mem _ (List.mem_flatMap.2 ⟨y, hy, List.mem_map.2 ⟨a, List.mem_range.2 (by omega), ?_⟩⟩)
   rw [e2]
 case isFalse => exact absurd rfl h
theorem begins_length (W : Nat) : ∀ l : List TI, fitT W l → (beginsT l).length ≤ 1 + l.length * (W + 1)
 | [], _ => by simp [beginsT]
 | y :: l, h => by
  have h1 := begins_length W l (fun z hz => h z (List.mem_cons_of_mem _ hz))
  have h2 := (h y List.mem_cons_self).1
  unfold beginsT at h1 ⊢
  rw [List.length_cons] at h1 ⊢
  rw [List.flatMap_cons, List.length_append, List.length_map, List.length_range, List.length_cons, Nat.succ_mul]
  omega
theorem count_le {l : List TI} {W : Nat} (h : fitT W l) (d i k : Nat) : countT l d i k ≤ 1 + l.length * (W + 1) := by
 rw [← nodes_length]
 refine Nat.le_trans (List.Nodup.length_le_of_subset (nodes_nodup l d i k) (fun x hx => ?_)) (begins_length W l h)
 obtain ⟨a, b⟩ := x
 exact mem_begins ((mem_nodes l a b d i k).1 hx).2.2.2
theorem count_mono {l l1 : List TI} (h : ∀ a b, ¬ nodeAt l a b = none → ¬ nodeAt l1 a b = none) (d i k : Nat) : countT l d i k ≤ countT l1 d i k := by
 rw [← nodes_length, ← nodes_length]
 refine List.Nodup.length_le_of_subset (nodes_nodup l d i k) (fun x hx => ?_)
 obtain ⟨a, b⟩ := x
 obtain ⟨h1, h2, h3, h4⟩ := (mem_nodes l a b d i k).1 hx
 exact (mem_nodes l1 a b d i k).2 ⟨h1, h2, h3, h a b h4⟩
set_option maxHeartbeats 1000000 in
set_option maxRecDepth 100000 in
theorem count_nil (w : World) : Calls Try.prog 80 #[.pointer none] w fun e w' => e = .returned (.int .i64 0) ∧ Below w.heap.size w w' := by
 have HB := Aside0.mk (Below.refl w.heap.size w)
 go_enter Try.func80, Try.ntmps80
 go_wp2
 go_ret
 exact ⟨rfl, HB.out⟩
set_option maxHeartbeats 1000000 in
set_option maxRecDepth 100000 in
theorem count_node (w00 w0 w : World) (g : Nat) (M : NM) (W m N : Int) (hk : KT w00 w0 g M W m N) (i k b : Nat) (h : Bool) (n : Int) (hm : M i k = some (b, h, n)) (c1 c2 : Nat) (hc : 1 + c1 + c2 ≤ 1000000) (hb : Below w0.heap.size w0 w)
 (h1 : ∀ w, Below w0.heap.size w0 w → Calls Try.prog 80 #[sonP M (i + 1) (2 * k)] w fun e w' => e = .returned (.int .i64 (c1 : Int)) ∧ Below w.heap.size w w')
 (h2 : ∀ w, Below w0.heap.size w0 w → Calls Try.prog 80 #[sonP M (i + 1) (2 * k + 1)] w fun e w' => e = .returned (.int .i64 (c2 : Int)) ∧ Below w.heap.size w w') :
 Calls Try.prog 80 #[.pointer (some ⟨b, 0, none⟩)] w fun e w' => e = .returned (.int .i64 ((1 + c1 + c2 : Nat) : Int)) ∧ Below w.heap.size w w' := by
 have HM := Aside0.mk hm
 have HK := Aside0.mk hk
 have HB := Aside0.mk hb
 have H1 := Aside0.mk h1
 have H2 := Aside0.mk h2
 have HW0 := Aside0.mk (show wrap64 (1 + (c1 : Int)) = ((1 + c1 : Nat) : Int) from by rw [wrap64_id _ (by omega) (by omega)]; rfl)
 have HW := Aside0.mk (show wrap64 (wrap64 (1 + (c1 : Int)) + (c2 : Int)) = ((1 + c1 + c2 : Nat) : Int) from by rw [wrap64_id (1 + (c1 : Int)) (by omega) (by omega), wrap64_id _ (by omega) (by omega)]; rfl)
 clear hm hk hb h1 h2 hc
 go_enter Try.func80, Try.ntmps80
 go_wp2
 refine start_ (n := 15) (S := fun w' => Below w.heap.size w w') (ds := []) #[false, false, false, false, false, false, false, false, false, false, false, false, false, false, false] (by kernel_rfl) rfl rfl (below_drew1 (Below.refl _ _)) (fun hHeld => ?_)
 generalize World.drew _ = w3 at hHeld ⊢
 refine pl_ [0, 1, 2, 3, 7, 8, 9, 10] ?_
 iterate 8 refine pP rfl rfl (by kernel_rfl) (fun _ _ _ h => h) (by rfl) (by intro w'; go_simp; with_reducible rfl) (by simp only [Act.put, z1, z2, z3, i64_w, i32_w]; rfl) ?_
 refine pl0 ?_
 refine take_ (i := 4) (N := some 9) (v := ?_) (a' := ?_) #[true, true, true, true, true, false, false, true, true, true, true, false, false, false, false] rfl rfl (by kernel_rfl) (fun _ _ _ h => h) (Or.inl ⟨by rfl, ?_⟩) hHeld ?_ ?_
 rotate_left
 ·intro w' hs
  have m0 := son_cell ((HK.out.step (below_step HB.out hs)).nt) HM.out (show 0 < 2 by decide)
  rw [Nat.add_zero] at m0
  go_simp
  with_reducible rfl
 rotate_left
 ·simp only [Act.put, List.setIfInBounds_toArray, List.set_cons_zero, List.set_cons_succ, i64_w, i32_w]
  rfl
 refine take_ (i := 11) (N := some 16) (v := ?_) (a' := ?_) #[true, true, true, true, true, false, false, true, true, true, true, true, false, false, false] rfl rfl (by kernel_rfl) (fun _ _ _ h => h) (Or.inl ⟨by rfl, ?_⟩) hHeld ?_ ?_
 rotate_left
 ·intro w' hs
  have m0 := son_cell ((HK.out.step (below_step HB.out hs)).nt) HM.out (show 1 < 2 by decide)
  go_simp
  with_reducible rfl
 rotate_left
 ·simp only [Act.put, List.setIfInBounds_toArray, List.set_cons_zero, List.set_cons_succ, i64_w, i32_w]
  rfl
 have HH := Aside0.mk hHeld
 clear hHeld
 refine one_ (i := 5) (N := some 10) #[true, true, true, true, true, true, false, true, true, true, true, true, false, false, false] rfl rfl (by kernel_rfl) (by decide) (fun K hK => ?_)
 refine goes_ Try.func80 (by kernel_rfl) rfl #[sonP M (i + 1) (2 * k)] (by rfl) rfl rfl (by simp only [List.map_toArray, List.map_cons, List.map_nil]; rfl) ?_
 with_reducible refine (H1.out _ (below_step HB.out HH.out)).mono ?_
 rintro e_ w1 ⟨rfl, hb⟩
 refine ⟨_, rfl, ?_⟩
 have HG := Aside0.mk (below_step HH.out hb)
 clear hb HH
 refine hK.out _ _ HG.out (fun hHeld => ?_)
 clear hK K
 refine norm_ (a' := ?_) ?_ ?_
 rotate_left
 ·show Act.put _ (some 10) _ = _
  simp only [Act.put, List.setIfInBounds_toArray, List.set_cons_zero, List.set_cons_succ, i64_w, i32_w]
  rfl
 refine pl_ [6] ?_
 refine pP rfl rfl (by kernel_rfl) (fun _ _ _ h => h) (by rfl) (by intro w'; go_simp; with_reducible rfl) (by simp only [Act.put, z1, z2, z3, i64_w, i32_w]; rfl) ?_
 refine pl0 ?_
 refine one_ (i := 12) (N := some 17) #[true, true, true, true, true, true, true, true, true, true, true, true, true, false, false] rfl rfl (by kernel_rfl) (by decide) (fun K hK => ?_)
 refine goes_ Try.func80 (by kernel_rfl) rfl #[sonP M (i + 1) (2 * k + 1)] (by rfl) rfl rfl (by simp only [List.map_toArray, List.map_cons, List.map_nil]; rfl) ?_
 with_reducible refine (H2.out _ (below_step HB.out HG.out)).mono ?_
 rintro e_ w1 ⟨rfl, hb⟩
 refine ⟨_, rfl, ?_⟩
 have HH := Aside0.mk (below_step HG.out hb)
 clear hb HG
 refine hK.out _ _ HH.out (fun hHeld => ?_)
 clear hK K
 refine norm_ (a' := ?_) ?_ ?_
 rotate_left
 ·show Act.put _ (some 17) _ = _
  simp only [Act.put, List.setIfInBounds_toArray, List.set_cons_zero, List.set_cons_succ, i64_w, i32_w]
  rfl
 refine pl_ [13, 14] ?_
 iterate 2 refine pP rfl rfl (by kernel_rfl) (fun _ _ _ h => h) (by rfl) (by intro w'; go_simp; with_reducible rfl) (by simp only [Act.put, z1, z2, z3, i64_w, i32_w]; rfl) ?_
 refine pl0 ?_
 refine done_ (by kernel_rfl) ?_
 go_wp2
 go_ret
 rw [HW.out]
 exact ⟨rfl, HH.out⟩
theorem count_calls (w00 w0 : World) (g : Nat) (M : NM) (W : Nat) (m N : Int) (l : List TI) (hk : KT w00 w0 g M (W : Int) m N) (hs : SH M l) (hf : fitT W l) (hl : l.length ≤ 1000) (hW : W ≤ 128) : ∀ (d i k : Nat), i + d = W + 1 → ∀ w, Below w0.heap.size w0 w →
 Calls Try.prog 80 #[sonP M i k] w fun e w' => e = .returned (.int .i64 (countT l d i k : Int)) ∧ Below w.heap.size w w'
 | 0, i, k, hd, w, hb => by
  have hm : M i k = none := (hs.no i k).2 (nodeAt_deep hf (by omega))
  unfold sonP
  rw [hm, show ptrN none = .pointer none from rfl]
  exact count_nil w
 | d + 1, i, k, hd, w, hb => by
  cases hm : M i k with
  | none =>
   rw [countT_none ((hs.no i k).1 hm)]
   unfold sonP
   rw [hm, show ptrN none = .pointer none from rfl]
   exact count_nil w
  | some t =>
   obtain ⟨b, here, n0⟩ := t
   have hne : ¬ nodeAt l i k = none := by rw [← hs.no, hm]; simp
   have eP : sonP M i k = .pointer (some ⟨b, 0, none⟩) := by unfold sonP; rw [hm]; rfl
   have eC : countT l (d + 1) i k = 1 + countT l d (i + 1) (2 * k) + countT l d (i + 1) (2 * k + 1) := by rw [countT, if_neg hne]
   have hle := count_le hf (d + 1) i k
   have hmul : l.length * (W + 1) ≤ 1000 * 129 := Nat.mul_le_mul hl (by omega)
   rw [eC] at hle
   rw [eP, eC]
   exact count_node w00 w0 w g M W m N hk i k b here n0 hm _ _ (by omega) hb (count_calls w00 w0 g M W m N l hk hs hf hl hW d (i + 1) (2 * k) (by omega)) (count_calls w00 w0 g M W m N l hk hs hf hl hW d (i + 1) (2 * k + 1) (by omega))
set_option maxHeartbeats 1000000 in
set_option maxRecDepth 100000 in
theorem tNodes_calls (w00 w : World) (g : Nat) (M : NM) (W : Nat) (m N : Int) (l : List TI) (hk : KT w00 w g M (W : Int) m N) (hs : SH M l) (hf : fitT W l) (hl : l.length ≤ 1000) (hW : W ≤ 128) :
 Calls Try.prog 24 #[.pointer (some ⟨g, 0, none⟩)] w fun e w' => e = .returned (.int .i64 (countT l (W + 1) 0 0 : Int)) ∧ Below w.heap.size w w' := by
 have r0 := blk_cell hk.blk 0
 simp only [List.getElem?_toArray, List.getElem?_cons_succ, List.getElem?_cons_zero] at r0
 have HC := Aside0.mk (count_calls w00 w g M W m N l hk hs hf hl hW (W + 1) 0 0 (Nat.zero_add _) w (Below.refl _ _))
 clear hk hs hf hl hW
 go_enter Try.func24, Try.ntmps24
 go_wp2_with (first | (go_at_call 80; with_reducible refine (HC.out).mono ?_; rintro e_ w1 ⟨rfl, hb⟩; have HB := Aside0.mk hb; clear hb))
 go_ret
 exact ⟨rfl, HB.out⟩
end Go.Proofs.Ytfdbcnbakchcgaa.XR
