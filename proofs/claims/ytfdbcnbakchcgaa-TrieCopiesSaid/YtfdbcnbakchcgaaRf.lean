import Derived.Test.YtfdbcnbakchcgaaSr
import Derived.Test.YtfdbcnbakchcgaaRe
import Derived.Test.YtfdbcnbakchcgaaWEqStruct
namespace Go.Proofs.Ytfdbcnbakchcgaa.XR
open Go.RowKit Go.Proofs.YtfdbcnbakchcgaaW.PrintWords Go.Proofs.YtfdbcnbakchcgaaW.PrintLast Go.Proofs.YtfdbcnbakchcgaaW.PrintMore
attribute [local go_sem] max2_int min2_int max_two min_two max_three min_three max_four min_four   -- for this text's walks alone
set_option linter.unusedVariables false
set_option linter.unusedSimpArgs false
set_option maxRecDepth 100000 in
theorem eqP_none (d : Nat) (w : World) (o : Option (Nat × Bool × Int)) : (Op.equalIn (d + 1) 113 (ptrN o) (.pointer none)).run Try.prog w = .ok o.isNone w := by
 cases o <;> (unfold ptrN; simp only [Option.map_none, Option.map_some, Op.equalIn, Sem.run_bind, run_underlying Try.underlying113, Result.andThen_ok]; first | (go_simp; done) | (go_simp; rfl) | (simp; done))
set_option maxRecDepth 100000 in
theorem eqI_two (d : Nat) (w : World) (o1 o2 : Option (Nat × Bool × Int)) : (Op.equalIn (d + 2) 114 (.agg #[ptrN o1, ptrN o2]) (.agg #[.pointer none, .pointer none])).run Try.prog w = .ok (o1.isNone && o2.isNone) w := by
 obtain ⟨i, hi⟩ : ∃ i, Try.prog.info? 113 = some i := Option.isSome_iff_exists.1 (by kernel_rfl)
 rw [run_equalIn_array (P := Try.prog) w (d + 1) _ _ Try.underlying114 hi]
 have hc : Try.prog.cellsOf 113 = 1 := by kernel_rfl
 have h1 := fun w => eqP_none d w o1
 have h2 := fun w => eqP_none d w o2
 rw [hc]
 generalize ptrN o1 = p1 at *
 generalize ptrN o2 = p2 at *
 simp only [List.range, List.range.loop, Op.eqItems]
 go_simp
 cases o1 <;> cases o2 <;> simp
theorem below_mono {B B1 : Nat} {w W : World} (h : Below B w W) (hb : B1 ≤ B) : Below B1 w W := ⟨h.os, h.tape, h.output, h.size, fun i hi => h.block i (by omega)⟩
/-- No node has moved. -/
def oldN (M1 M : NM) : Prop := ∀ i k t, M1 i k = some t → ∃ t0, M i k = some t0 ∧ t0.1 = t.1
theorem useless_eq {l : List TI} {x : TI} {M' : NM} {a k : Nat} (hp : ∀ i k, (M' i k).map (·.2) = cutT l x a i k) : (!(lookT (delT x l) a k).1 && ((M' (a + 1) (2 * k)).isNone && (M' (a + 1) (2 * k + 1)).isNone)) = !(nodeIn (delT x l) a k) := by
 have h0 : ∀ c, (M' (a + 1) c).isNone = !(nodeIn (delT x l) (a + 1) c) := by
  intro c
  have h1 := hp (a + 1) c
  rw [cutT_low (Nat.lt_succ_self a)] at h1
  have h2 := nodeAt_iff (delT x l) (a + 1) c (Nat.succ_pos a)
  cases hm : M' (a + 1) c with
  | none =>
   rw [hm] at h1
   rw [h2.1 h1.symm]; rfl
  | some t =>
   rw [hm] at h1
   cases hn : nodeIn (delT x l) (a + 1) c with
   | false => rw [h2.2 hn] at h1; cases h1
   | true => rfl
 rw [h0, h0]
 have hs := nodeIn_split (delT x l) a k
 cases h1 : (lookT (delT x l) a k).1 <;> cases h2 : nodeIn (delT x l) (a + 1) (2 * k) <;> cases h3 : nodeIn (delT x l) (a + 1) (2 * k + 1) <;> rw [h1, h2, h3] at hs <;> simp at hs <;> rw [hs] <;> rfl
theorem onP_pre (W X long i : Nat) (n : Int) (hl : long ≤ W) (hi : i ≤ long) : onP ⟨long, preN W X long, n⟩ i (preN W X i) := by
 refine ⟨hi, ?_⟩
 unfold preN
 show X / 2 ^ (W - i) = X / 2 ^ (W - long) / 2 ^ (long - i)
 rw [Nat.div_div_eq_div_mul, ← Nat.pow_add, show W - long + (long - i) = W - i by omega]
theorem cutT_node {l : List TI} {x : TI} {M' : NM} {a i k : Nat} (hp : ∀ i k, (M' i k).map (·.2) = cutT l x a i k) (ho : onP x i k) (hi : i ≤ a) : ∃ b, M' i k = some (b, (lookT (delT x l) i k).1, (lookT (delT x l) i k).2) := by
 have h := hp i k
 rw [cutT_at ho hi] at h
 cases hm : M' i k with
 | none => rw [hm] at h; cases h
 | some t =>
  obtain ⟨b, y⟩ := t
  rw [hm] at h
  injection h with h
  exact ⟨b, by rw [← h]⟩
set_option maxHeartbeats 1000000 in
set_option maxRecDepth 100000 in
theorem prune_end (base : Nat) (l : List TI) (W X long : Nat) (xn : Int) (h1 : 1 ≤ W) (h2 : W ≤ 128) (hlw : long ≤ W) (hx : l.any (fun y => sameP y (⟨long, preN W X long, xn⟩ : TI)) = true) (w : World) (M : NM) (b : Nat) (hh : Bool) (n : Int) (hn : NT w base M) (hs : SH M l) (hm : M long (preN W X long) = some (b, hh, n)) :
 Calls Try.prog 84 #[.pointer (some ⟨b, 0, none⟩), .agg #[.int .i64 (W : Int), .int .u64 (hiW X), .int .u64 (loW X)], .int .i64 (long : Int), .int .i64 (long : Int)] w fun e w' => e = .returned (.bool (!(nodeIn (delT (⟨long, preN W X long, xn⟩ : TI) l) long (preN W X long)))) ∧ ∃ M', NT w' base M' ∧ (∀ p q, (M' p q).map (·.2) = cutT l (⟨long, preN W X long, xn⟩ : TI) long p q) ∧ oldN M' M ∧ Kept w w' (isN M) ∧ Below base w w' := by
 have HN1 := Aside0.mk (hn.step (below_alloc (Below.refl _ _) (.cells #[.int .i64 (W : Int), .int .u64 (hiW X), .int .u64 (loW X)] 32 (0, 0))))
 have HW1 := Aside0.mk (below_alloc (Below.refl w.heap.size w) (.cells #[.int .i64 (W : Int), .int .u64 (hiW X), .int .u64 (loW X)] 32 (0, 0)))
 have HM := Aside0.mk hm
 have HBS := Aside0.mk (show base ≤ w.heap.size from by have := hn.ge _ _ _ hm; have := hn.lt ⟨_, _, _, hm, rfl⟩; simp only at *; omega)
 have HPP := Aside0.mk (show ∀ i k, (setM M long (preN W X long) (some (b, false, 0)) i k).map (·.2) = cutT l (⟨long, preN W X long, xn⟩ : TI) long i k from fun i k => by
  rw [show cutT l (⟨long, preN W X long, xn⟩ : TI) long i k = _ from cutT_top hx i k]
  by_cases e : i = long ∧ k = preN W X long
  ·obtain ⟨rfl, rfl⟩ := e; rw [setM_at, if_pos ⟨rfl, rfl⟩]; rfl
  ·rw [setM_off _ _ _ _ e, if_neg e]; exact hs i k)
 have HUS := Aside0.mk (useless_eq (a := long) (k := preN W X long) HPP.out)
 have hlk : (lookT (delT (⟨long, preN W X long, xn⟩ : TI) l) long (preN W X long)).1 = false := by rw [lookT_del, if_pos ⟨rfl, rfl⟩]
 rw [hlk, Bool.not_false, Bool.true_and] at HUS
 rw [setM_off _ _ _ _ (show ¬ (long + 1 = long ∧ 2 * preN W X long = preN W X long) by omega), setM_off _ _ _ _ (show ¬ (long + 1 = long ∧ 2 * preN W X long + 1 = preN W X long) by omega)] at HUS
 obtain ⟨bz, hbz⟩ : ∃ bz, nodeIn (delT (⟨long, preN W X long, xn⟩ : TI) l) long (preN W X long) = bz := ⟨_, rfl⟩
 rw [hbz] at HUS ⊢
 have HQ := fun w => (show (Op.equalIn 10000 114 (.agg #[sonP M (long + 1) (2 * preN W X long), sonP M (long + 1) (2 * preN W X long + 1)]) (.agg #[.pointer none, .pointer none])).run Try.prog w = .ok (!bz) w from by rw [← HUS.out]; exact eqI_two 9998 w _ _)
 clear hlk hn hs hm hx hbz HUS
 have HN2 := Aside0.mk (HN1.out.cell _ _ _ _ _ HM.out)
 have c0 := blk_cell HN2.out 0
 have c1 := blk_cell HN2.out 1
 have c2 := blk_cell HN2.out 2
 have c3 := blk_cell HN2.out 3
 simp only [List.getElem?_toArray, List.getElem?_cons_succ, List.getElem?_cons_zero] at c0 c1 c2 c3
 have f2 := blk_frozen HN2.out 2
 have f3 := blk_frozen HN2.out 3
 go_enter Try.func84, Try.ntmps84
 go_wp2
 go_ret
 refine ⟨rfl, setM M long (preN W X long) (some (b, false, 0)), ?_, HPP.out, ?_, ?_, ?_⟩
 ·exact HN1.out.mark HM.out false 0 (node_num (node_here HN2.out false) 0) (fun q hq _ => (far_set _ b 3 _ q hq).trans (far_set _ b 2 _ q hq))
 ·intro i k t ht
  by_cases e : i = long ∧ k = preN W X long
  ·obtain ⟨rfl, rfl⟩ := e; rw [setM_at] at ht; injection ht with ht; subst ht; exact ⟨_, HM.out, rfl⟩
  ·rw [setM_off _ _ _ _ e] at ht; exact ⟨t, ht, rfl⟩
 ·exact ((Kept.of_below HW1.out _).setCell (p := ⟨b, 2, none⟩) (.inl ⟨_, _, _, HM.out, rfl⟩) _).setCell (p := ⟨b, 3, none⟩) (.inl ⟨_, _, _, HM.out, rfl⟩) _
 ·exact ((below_mono HW1.out HBS.out).setCell (p := ⟨b, 2, none⟩) (HN1.out.ge _ _ _ HM.out) _).setCell (p := ⟨b, 3, none⟩) (HN1.out.ge _ _ _ HM.out) _
set_option maxHeartbeats 1000000 in
set_option maxRecDepth 100000 in
theorem prune_step (base : Nat) (l : List TI) (W X long : Nat) (xn : Int) (h1 : 1 ≤ W) (h2 : W ≤ 128) (hX : X < 2 ^ 128) (hlw : long ≤ W) (hx : l.any (fun y => sameP y (⟨long, preN W X long, xn⟩ : TI)) = true) (i : Nat) (hi : i < long)
 (IH : ∀ (ai : Int), ai = ((i + 1 : Nat) : Int) → ∀ (w : World) (M : NM) (b : Nat) (hh : Bool) (n : Int), NT w base M → SH M l → M (i + 1) (preN W X (i + 1)) = some (b, hh, n) → Calls Try.prog 84 #[.pointer (some ⟨b, 0, none⟩), .agg #[.int .i64 (W : Int), .int .u64 (hiW X), .int .u64 (loW X)], .int .i64 ai, .int .i64 (long : Int)] w fun e w' => e = .returned (.bool (!(nodeIn (delT (⟨long, preN W X long, xn⟩ : TI) l) (i + 1) (preN W X (i + 1))))) ∧ ∃ M', NT w' base M' ∧ (∀ p q, (M' p q).map (·.2) = cutT l (⟨long, preN W X long, xn⟩ : TI) (i + 1) p q) ∧ oldN M' M ∧ Kept w w' (isN M) ∧ Below base w w')
 (ai : Int) (hai : ai = (i : Int)) (w : World) (M : NM) (b : Nat) (hh : Bool) (n : Int) (hn : NT w base M) (hs : SH M l) (hm : M i (preN W X i) = some (b, hh, n)) :
 Calls Try.prog 84 #[.pointer (some ⟨b, 0, none⟩), .agg #[.int .i64 (W : Int), .int .u64 (hiW X), .int .u64 (loW X)], .int .i64 ai, .int .i64 (long : Int)] w fun e w' => e = .returned (.bool (!(nodeIn (delT (⟨long, preN W X long, xn⟩ : TI) l) i (preN W X i)))) ∧ ∃ M', NT w' base M' ∧ (∀ p q, (M' p q).map (·.2) = cutT l (⟨long, preN W X long, xn⟩ : TI) i p q) ∧ oldN M' M ∧ Kept w w' (isN M) ∧ Below base w w' := by
 subst hai
 have HBS := Aside0.mk (show base ≤ w.heap.size from by have := hn.ge _ _ _ hm; have := hn.lt ⟨_, _, _, hm, rfl⟩; simp only at *; omega)
 have HN1 := Aside0.mk (hn.step (below_alloc (Below.refl _ _) (.cells #[.int .i64 (W : Int), .int .u64 (hiW X), .int .u64 (loW X)] 32 (0, 0))))
 have HX1 := Aside0.mk (blk_new w (.cells #[.int .i64 (W : Int), .int .u64 (hiW X), .int .u64 (loW X)] 32 (0, 0)))
 have HW1 := Aside0.mk (below_alloc (Below.refl w.heap.size w) (.cells #[.int .i64 (W : Int), .int .u64 (hiW X), .int .u64 (loW X)] 32 (0, 0)))
 have HS := Aside0.mk hs
 have HX8 := Aside0.mk hX
 have HXX := Aside0.mk hx
 have HIH := Aside0.mk IH
 have H1 := Aside0.mk h1
 have H2 := Aside0.mk h2
 have hib : i + 1 ≤ W := by omega
 obtain ⟨s, hsv⟩ : ∃ s, s = bitN W X i := ⟨_, rfl⟩
 have HBIT := Aside0.mk (show trie_bit.f (W : Int) (hiW X) (loW X) (i : Int) = some ((s : Nat) : Int) from by rw [hsv]; exact trie_bit_eq W X i h1 h2 hX hib)
 have hs2 : s < 2 := by rw [hsv]; exact bitN_lt W X i
 have hpx : preN W X (i + 1) = 2 * preN W X i + s := by rw [hsv]; exact preN_succ W X i hib
 have HPX := Aside0.mk hpx
 have HS2 := Aside0.mk hs2
 have HO1 := Aside0.mk (onP_pre W X long (i + 1) xn hlw hi)
 have HO0 := Aside0.mk (onP_pre W X long i xn hlw (by omega))
 have hnode : nodeIn l (i + 1) (preN W X (i + 1)) = true := path_node hx HO1.out
 obtain ⟨b1, hh1, n1, hm1⟩ : ∃ b1 hh1 n1, M (i + 1) (preN W X (i + 1)) = some (b1, hh1, n1) := by
  cases hq : M (i + 1) (preN W X (i + 1)) with
  | none => have := (nodeAt_iff l _ _ (by omega)).1 ((hs.no _ _).1 hq); rw [hnode] at this; cases this
  | some t => exact ⟨t.1, t.2.1, t.2.2, rfl⟩
 have HM := Aside0.mk hm
 have HM1 := Aside0.mk hm1
 have HSON := Aside0.mk (show ∀ w', Below (w.alloc (.cells #[.int .i64 (W : Int), .int .u64 (hiW X), .int .u64 (loW X)] 32 (0, 0))).heap.size (w.alloc (.cells #[.int .i64 (W : Int), .int .u64 (hiW X), .int .u64 (loW X)] 32 (0, 0))) w' → w'.cell? ⟨b, s, none⟩ = some (.pointer (some ⟨b1, 0, none⟩)) from fun w' hb => by
  rw [← ptr_some hm1, hpx]
  exact son_cell (HN1.out.step hb) hm hs2)
 have hs0 : 0 ≤ (s : Int) := by omega
 have hs1 : (s : Int) < 2 := by omega
 have hne : ((i : Int) == (long : Int)) = false := by simp; omega
 have HW64 := Aside0.mk (show wrap64 ((i : Int) + 1) = ((i + 1 : Nat) : Int) from by rw [wrap64_id _ (by omega) (by omega)]; rfl)
 have x0 := blk_cell HX1.out 0
 have x1 := blk_cell HX1.out 1
 have x2 := blk_cell HX1.out 2
 simp only [List.getElem?_toArray, List.getElem?_cons_succ, List.getElem?_cons_zero] at x0 x1 x2
 clear hn hs IH hX hm hm1 hsv hpx hs2 hnode hx
 obtain ⟨bz, hbz⟩ : ∃ bz, nodeIn (delT (⟨long, preN W X long, xn⟩ : TI) l) i (preN W X i) = bz := ⟨_, rfl⟩
 rw [hbz]
 have HBZ := Aside0.mk hbz
 clear hbz
 go_enter Try.func84, Try.ntmps84
 go_wp2_with (first | (go_at_call 74; with_reducible refine (trie_bit.calls (W : Int) (hiW X) (loW X) (i : Int) (s : Int) _ HBIT.out).mono ?_; rintro e_ w2 ⟨rfl, hb⟩; have HB2 := Aside0.mk hb; clear hb x0 x1 x2))
 generalize w.alloc (.cells #[.int .i64 (W : Int), .int .u64 (hiW X), .int .u64 (loW X)] 32 (0, 0)) = wq at HN1 HX1 HW1 HSON HB2 ⊢
 refine start_ (n := 11) (S := fun w' => Below wq.heap.size wq w') (ds := [10]) #[false, false, false, false, false, false, false, false, false, false, false] (by kernel_rfl) rfl rfl (below_drew1 HB2.out) (fun hHeld => ?_)
 clear HB2
 generalize World.drew _ = w3 at hHeld ⊢
 refine pl_ [0, 1, 2, 3, 4, 7, 8, 9] ?_
 iterate 8 refine pP rfl rfl (by kernel_rfl) (fun _ _ _ h => h) (by rfl) (by intro w'; go_simp; with_reducible rfl) (by simp only [Act.put, z1, z2, z3, i64_w, i32_w]; rfl) ?_
 refine pl0 ?_
 refine take_ (i := 5) (N := some 27) (v := ?_) (a' := ?_) #[true, true, true, true, true, true, false, true, true, true, false] rfl rfl (by kernel_rfl) (fun _ _ _ h => h) (Or.inl ⟨by rfl, ?_⟩) hHeld ?_ ?_
 rotate_left
 ·intro w' hs
  have m0 := HSON.out w' hs
  go_simp
  with_reducible rfl
 rotate_left
 ·simp only [Act.put, List.setIfInBounds_toArray, List.set_cons_zero, List.set_cons_succ, i64_w, i32_w]
  rfl
 refine take_ (i := 6) (N := some 28) (v := ?_) (a' := ?_) #[true, true, true, true, true, true, true, true, true, true, false] rfl rfl (by kernel_rfl) (fun _ _ _ h => h) (Or.inl ⟨by rfl, ?_⟩) hHeld ?_ ?_
 rotate_left
 ·intro w' hs
  have m0 := blk_cell (blk_below HX1.out hs) 0
  have m1 := blk_cell (blk_below HX1.out hs) 1
  have m2 := blk_cell (blk_below HX1.out hs) 2
  simp only [List.getElem?_toArray, List.getElem?_cons_succ, List.getElem?_cons_zero] at m0 m1 m2
  go_simp
  with_reducible rfl
 rotate_left
 ·simp only [Act.put, List.setIfInBounds_toArray, List.set_cons_zero, List.set_cons_succ, i64_w, i32_w]
  rfl
 have HH := Aside0.mk hHeld
 clear hHeld
 refine last_ (i := 10) (N := some 32) #[true, true, true, true, true, true, true, true, true, true, true] rfl rfl (by kernel_rfl) (by decide) (fun K hK => ?_)
 refine goes_ Try.func84 (by kernel_rfl) rfl #[.pointer (some ⟨b1, 0, none⟩), .agg #[.int .i64 (W : Int), .int .u64 (hiW X), .int .u64 (loW X)], .int .i64 (wrap64 ((i : Int) + 1)), .int .i64 (long : Int)] (by rfl) rfl rfl (by simp only [List.map_toArray, List.map_cons, List.map_nil]; rfl) ?_
 with_reducible refine (HIH.out (wrap64 ((i : Int) + 1)) HW64.out _ M b1 hh1 n1 (HN1.out.step HH.out) HS.out HM1.out).mono ?_
 rintro e_ w4 ⟨rfl, M1, hn1, hp1, hold, hkp, hbl⟩
 refine ⟨_, rfl, ?_⟩
 have HBL := Aside0.mk (((below_mono HW1.out HBS.out).trans (below_mono HH.out (Nat.le_trans HBS.out HW1.out.size))).trans hbl)
 clear hbl
 have HN4 := Aside0.mk hn1
 have HP4 := Aside0.mk hp1
 have HO4 := Aside0.mk hold
 have HK4 := Aside0.mk ((Kept.of_below (below_step HW1.out HH.out) (isN M)).then_ hkp (fun k hk => .inl hk))
 clear hn1 hp1 hold hkp
 refine hK.out _ _ ?_
 clear hK K
 refine norm_ (a' := ?_) ?_ ?_
 rotate_left
 ·show Act.put _ (some 32) _ = _
  simp only [Act.put, List.setIfInBounds_toArray, List.set_cons_zero, List.set_cons_succ, i64_w, i32_w]
  rfl
 refine done_ (by kernel_rfl) ?_
 obtain ⟨b2, hb2⟩ := cutT_node HP4.out HO0.out (by omega : i ≤ i + 1)
 obtain ⟨t0, ht0, ht1⟩ := HO4.out _ _ _ hb2
 rw [HM.out] at ht0
 injection ht0 with ht0
 subst ht0
 simp only at ht1
 subst ht1
 obtain ⟨lh, ln, hlk⟩ : ∃ lh ln, lookT (delT (⟨long, preN W X long, xn⟩ : TI) l) i (preN W X i) = (lh, ln) := ⟨_, _, rfl⟩
 rw [hlk] at hb2
 have HL := Aside0.mk hlk
 have HM4 := Aside0.mk hb2
 clear hb2 hlk
 have HNC := Aside0.mk (HN4.out.cell _ _ _ _ _ HM4.out)
 cases hni : nodeIn (delT (⟨long, preN W X long, xn⟩ : TI) l) (i + 1) (preN W X (i + 1)) with
 | false =>
  have HP5 := Aside0.mk (show ∀ a k, ((setM M1 (i + 1) (preN W X (i + 1)) none) a k).map (·.2) = cutT l (⟨long, preN W X long, xn⟩ : TI) i a k from fun a k => by
   rw [cutT_cut HO1.out hni]
   by_cases e : a = i + 1 ∧ k = preN W X (i + 1)
   ·obtain ⟨rfl, rfl⟩ := e; rw [setM_at, if_pos ⟨rfl, rfl⟩]; rfl
   ·rw [setM_off _ _ _ _ e, if_neg e]; exact HP4.out a k)
  have HUS := useless_eq (a := i) (k := preN W X i) HP5.out
  rw [HL.out, HBZ.out] at HUS
  have HNI := Aside0.mk hni
  clear hni
  have HNC5 := Aside0.mk (show (w4.setCell ⟨b, s, none⟩ (.pointer none)).heap[b]? = some (nodeO (setM M1 (i + 1) (preN W X (i + 1)) none) i (preN W X i) lh ln) from by
   rw [HPX.out]
   rcases (by have := HS2.out; omega : s = 0 ∨ s = 1) with rfl | rfl
   ·refine blk_put HNC.out 0 _ ?_
    unfold sonP
    rw [show setM M1 (i + 1) (2 * preN W X i + 0) none (i + 1) (2 * preN W X i) = none from if_pos ⟨rfl, rfl⟩, setM_off _ _ _ _ (by omega)]; rfl
   ·refine blk_put HNC.out 1 _ ?_
    unfold sonP
    rw [show setM M1 (i + 1) (2 * preN W X i + 1) none (i + 1) (2 * preN W X i + 1) = none from if_pos ⟨rfl, rfl⟩, setM_off _ _ _ _ (by omega)]; rfl)
  have HN5 := Aside0.mk (show NT (w4.setCell ⟨b, s, none⟩ (.pointer none)) base (setM M1 (i + 1) (preN W X (i + 1)) none) from by
   have h5 := HNC5.out
   rw [HPX.out] at h5 ⊢
   exact HN4.out.cut HM4.out HS2.out h5 (fun q hq _ => far_set _ b s _ q hq))
  have cs := son_cell HN4.out HM4.out HS2.out
  have fs := blk_frozen HNC.out s
  have c0 := blk_cell HNC5.out 0
  have c1 := blk_cell HNC5.out 1
  have c2 := blk_cell HNC5.out 2
  simp only [List.getElem?_toArray, List.getElem?_cons_succ, List.getElem?_cons_zero] at c0 c1 c2
  cases lh with
  | true =>
   have hbz2 : bz = true := by cases bz with | true => rfl | false => cases HUS
   subst hbz2
   clear HUS
   go_wp2
   go_ret
   refine ⟨by first | rfl | (rw [hbz2]; rfl), (setM M1 (i + 1) (preN W X (i + 1)) none), ?_, HP5.out, ?_, ?_, ?_⟩
   ·exact HN5.out
   ·intro a k t ht
    by_cases e : a = i + 1 ∧ k = preN W X (i + 1)
    ·obtain ⟨rfl, rfl⟩ := e; rw [setM_at] at ht; cases ht
    ·rw [setM_off _ _ _ _ e] at ht; exact HO4.out a k t ht
   ·exact HK4.out.setCell (p := ⟨b, s, none⟩) (.inl ⟨_, _, _, HM.out, rfl⟩) _
   ·exact HBL.out.setCell (p := ⟨b, s, none⟩) (HN4.out.ge _ _ _ HM4.out) _
  | false =>
   rw [Bool.not_false, Bool.true_and] at HUS
   have HQ := fun w => (show (Op.equalIn 10000 114 (.agg #[sonP (setM M1 (i + 1) (preN W X (i + 1)) none) (i + 1) (2 * preN W X i), sonP (setM M1 (i + 1) (preN W X (i + 1)) none) (i + 1) (2 * preN W X i + 1)]) (.agg #[.pointer none, .pointer none])).run Try.prog w = .ok (!bz) w from by rw [← HUS]; exact eqI_two 9998 w _ _)
   clear HUS
   go_wp2
   go_ret
   refine ⟨by first | rfl | (rw [hbz2]; rfl), (setM M1 (i + 1) (preN W X (i + 1)) none), ?_, HP5.out, ?_, ?_, ?_⟩
   ·exact HN5.out
   ·intro a k t ht
    by_cases e : a = i + 1 ∧ k = preN W X (i + 1)
    ·obtain ⟨rfl, rfl⟩ := e; rw [setM_at] at ht; cases ht
    ·rw [setM_off _ _ _ _ e] at ht; exact HO4.out a k t ht
   ·exact HK4.out.setCell (p := ⟨b, s, none⟩) (.inl ⟨_, _, _, HM.out, rfl⟩) _
   ·exact HBL.out.setCell (p := ⟨b, s, none⟩) (HN4.out.ge _ _ _ HM4.out) _
 | true =>
  have HP5 := Aside0.mk (show ∀ a k, (M1 a k).map (·.2) = cutT l (⟨long, preN W X long, xn⟩ : TI) i a k from fun a k => by
   rw [cutT_keep HO1.out hni]; exact HP4.out a k)
  have HUS := useless_eq (a := i) (k := preN W X i) HP5.out
  rw [HL.out, HBZ.out] at HUS
  have HNI := Aside0.mk hni
  clear hni
  have c0 := blk_cell HNC.out 0
  have c1 := blk_cell HNC.out 1
  have c2 := blk_cell HNC.out 2
  simp only [List.getElem?_toArray, List.getElem?_cons_succ, List.getElem?_cons_zero] at c0 c1 c2
  cases lh with
  | true =>
   have hbz2 : bz = true := by cases bz with | true => rfl | false => cases HUS
   subst hbz2
   clear HUS
   go_wp2
   go_ret
   refine ⟨by first | rfl | (rw [hbz2]; rfl), M1, ?_, HP5.out, ?_, ?_, ?_⟩
   ·exact HN4.out
   ·exact HO4.out
   ·exact HK4.out
   ·exact HBL.out
  | false =>
   rw [Bool.not_false, Bool.true_and] at HUS
   have HQ := fun w => (show (Op.equalIn 10000 114 (.agg #[sonP M1 (i + 1) (2 * preN W X i), sonP M1 (i + 1) (2 * preN W X i + 1)]) (.agg #[.pointer none, .pointer none])).run Try.prog w = .ok (!bz) w from by rw [← HUS]; exact eqI_two 9998 w _ _)
   clear HUS
   go_wp2
   go_ret
   refine ⟨by first | rfl | (rw [hbz2]; rfl), M1, ?_, HP5.out, ?_, ?_, ?_⟩
   ·exact HN4.out
   ·exact HO4.out
   ·exact HK4.out
   ·exact HBL.out
theorem prune_calls (base : Nat) (l : List TI) (W X long : Nat) (xn : Int) (h1 : 1 ≤ W) (h2 : W ≤ 128) (hX : X < 2 ^ 128) (hlw : long ≤ W) (hx : l.any (fun y => sameP y (⟨long, preN W X long, xn⟩ : TI)) = true) : ∀ (d i : Nat), i + d = long → ∀ (ai : Int), ai = (i : Int) → ∀ (w : World) (M : NM) (b : Nat) (hh : Bool) (n : Int), NT w base M → SH M l → M i (preN W X i) = some (b, hh, n) →
 Calls Try.prog 84 #[.pointer (some ⟨b, 0, none⟩), .agg #[.int .i64 (W : Int), .int .u64 (hiW X), .int .u64 (loW X)], .int .i64 ai, .int .i64 (long : Int)] w fun e w' => e = .returned (.bool (!(nodeIn (delT (⟨long, preN W X long, xn⟩ : TI) l) i (preN W X i)))) ∧ ∃ M', NT w' base M' ∧ (∀ p q, (M' p q).map (·.2) = cutT l (⟨long, preN W X long, xn⟩ : TI) i p q) ∧ oldN M' M ∧ Kept w w' (isN M) ∧ Below base w w'
 | 0, i, hd, ai, hai, w, M, b, hh, n, hn, hs, hm => by
  obtain rfl : i = long := by omega
  subst hai
  exact prune_end base l W X i xn h1 h2 hlw hx w M b hh n hn hs hm
 | d + 1, i, hd, ai, hai, w, M, b, hh, n, hn, hs, hm =>
  prune_step base l W X long xn h1 h2 hX hlw hx i (by omega) (fun ai hai => prune_calls base l W X long xn h1 h2 hX hlw hx d (i + 1) (by omega) ai hai) ai hai w M b hh n hn hs hm
end Go.Proofs.Ytfdbcnbakchcgaa.XR
